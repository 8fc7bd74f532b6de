/- Part of the proof. -/
import Derived.Test.YtmpmbfpkpannjaaGreatDoorAm21
set_option linter.unusedVariables false
set_option linter.unusedSimpArgs false
set_option linter.unusedSectionVars false
namespace Go.AM
open P
set_option maxHeartbeats 64000000
set_option maxRecDepth 40000
attribute [local simp] aG bd
theorem SA.put{σ:aw}{n:Nat}{S S':fJ}(h:SA σ n S)(a:(BA n S).set 3 (aB 25 0 [aI (iJ n S')])=BA n S'):SA (σ.set (n+3) (aB 25 0 [aI (iJ n S')])) n S':=by
 obtain⟨P,J,rfl,rfl⟩:=h;refine⟨P,J,rfl,?_⟩;rw[fg _ _ (by omega),←a];have:P.length+3-P.length=3:=by omega
 rw[this,cF _ _ (by simp)]
theorem Fr.setIn{n:Nat}{σ τ:aw}(h:Fr n σ τ)(i:Nat)(o:Obj)(hi:n≤i∧i<n+11):Fr n σ (τ.set i o):=⟨by simpa using h.le,fun k p a b=>by
 rw[aD (by omega)];exact h.kp k p a b⟩
theorem wc.of{S S':fJ}(h:wc S)(b:S'.keys=S.keys)(a:S'.ah=S.ah)(c:S'.ac=S.ac)(e:S'.groups=S.groups):wc S':=by
 obtain⟨j,d,k,f,i,g⟩:=h;exact⟨by rw[b];exact j,by rw[b,c];exact d,by rw[a];exact k,by rw[a,c];exact f,by rw[a];exact i,by rw[b,a,c,e];exact g⟩
def PhR(σ:aw)(n:Nat)(S:fJ)(Q:fJ→Prop)(r:Option (aq×aw)):Prop:=
 ∃(e:Int) (σ':aw) (S':fJ),r=some (ap e,σ')∧SA σ' n S'∧Fr n σ σ'∧(e=0→Q S')
def DU(o:Option (List EN))(K:List Int):Prop:=o=none∨∃es,o=some es∧es.length≤1000∧jE es K=true
theorem RS{σ:aw}{n:Nat}{S:fJ}(h:SA σ n S)(D:ey σ n S)(B:wc S)(v:S.whr=none)(i:S.fr.whr.getD []=[]∨mv (S.fr.whr.getD []))(F:S.ac.length≤8000) :
  PhR σ n S (fun S'=>∃o,S'={ S with at':=2,whr:=o }∧DU o S.ac) (cC code I.qao [aH (n+3) 0 0 0] σ):=by
 have u:=h.len;have E:n+3<σ.length:=by omega
 have g:σ[n+3]?=some (aB 25 0 [aI (iJ n S)]):=by simpa using h.at3 []
 have x:SA (σ.set (n+3) (aB 25 0 [aI (iJ n { S with at':=2 })])) n { S with at':=2 }:=h.put rfl;have j:(σ.set (n+3) (aB 25 0 [aI (iJ n { S with at':=2 })]))[n+3]?=some (aB 25 0 [aI (iJ n { S with at':=2 })]):=by rw[aU E]
 have c:Fr n σ (σ.set (n+3) (aB 25 0 [aI (iJ n { S with at':=2 })])):=(Fr.rfl' n σ).setIn _ _ (by omega);by_cases w:S.fr.whr.getD []=[]
 ·refine⟨0,_,{ S with at':=2 },?_,x,c,fun _=>⟨none,by rw[←v],.inl rfl⟩⟩;rw[cz aeF rfl];simp only[iJ,w]at g j ⊢;simp[ath,abq,g,j]
 have i:=i.resolve_left w;have f:=i.pos;have p:(0:Int)<((S.fr.whr.getD []).length:Int):=by omega
 obtain⟨o,e,τ,A,G,a,s,b,t,q,d⟩:=BG x (D.fr c rfl rfl rfl rfl) (B.of rfl rfl rfl rfl) i F false;obtain⟨rfl,rfl⟩:=q rfl;simp only[dO]at b d;have y:τ[n+3]?=some (aB 25 0 [aI (iJ n { S with at':=2 })]):=by simpa using b.at3 []
 have l:=vq (o.map (·.map EN.a));have k:SA (τ.set (n+3) (aB 25 0 [aI (iJ n { S with at':=2,whr:=o })])) n { S with at':=2,whr:=o }:=b.put rfl;refine⟨e,_,{ S with at':=2,whr:=o },?_,k,(c.trans t).setIn _ _ (by omega),fun C=>⟨o,rfl,.inr ?_⟩⟩
 ·rw[cz aeF rfl];have r:sv (S.whr.map (·.map EN.a))=.ai:=by rw[v];rfl
  simp only[iJ,oH,r]at g j y a ⊢;generalize S.fr.whr.getD []=W at *;generalize sv (o.map (·.map EN.a))=H at *;simp[ath,abq,g,j,y,a,f,p,l]
 obtain⟨J,z,m⟩:=d C;obtain⟨es,rfl⟩:=dc.1 z;exact⟨es,rfl,s,m⟩
theorem NN{σ:aw}{n:Nat}{S:fJ}(h:SA σ n S)(D:ey σ n S)(v:wc S)(w:S.having=none)(i:S.fr.having.getD []=[]∨mv (S.fr.having.getD []))(H:S.ac.length≤8000) :
  PhR σ n S (fun S'=>∃o A G,S'={ S with at':=5,having:=o,ah:=S.ah++A,groups:=S.groups++G }∧wc S'∧DU o (S.groups++G)∧(S.fr.having.getD []=[]→o=none∧A=[]∧G=[])) (cC code I.qah [aH (n+3) 0 0 0] σ):=by
 have u:=h.len;have F:n+3<σ.length:=by omega
 have g:σ[n+3]?=some (aB 25 0 [aI (iJ n S)]):=by simpa using h.at3 []
 have y:SA (σ.set (n+3) (aB 25 0 [aI (iJ n { S with at':=5 })])) n { S with at':=5 }:=h.put rfl;have j:(σ.set (n+3) (aB 25 0 [aI (iJ n { S with at':=5 })]))[n+3]?=some (aB 25 0 [aI (iJ n { S with at':=5 })]):=by rw[aU F]
 have b:Fr n σ (σ.set (n+3) (aB 25 0 [aI (iJ n { S with at':=5 })])):=(Fr.rfl' n σ).setIn _ _ (by omega);by_cases q:S.fr.having.getD []=[]
 ·refine⟨0,_,{ S with at':=5 },?_,y,b,fun _=>⟨none,[],[],by simp[←w],v.of rfl rfl rfl rfl,.inl rfl,fun _=>⟨rfl,rfl,rfl⟩⟩⟩;rw[cz aeW rfl];simp only[iJ,q]at g j ⊢;simp[ast,XY,g,j]
 have i:=i.resolve_left q;have f:=i.pos;have p:(0:Int)<((S.fr.having.getD []).length:Int):=by omega
 obtain⟨o,e,τ,A,G,a,s,d,t,E,c⟩:=BG y (D.fr b rfl rfl rfl rfl) (v.of rfl rfl rfl rfl) i H true;have z:τ[n+3]?=some (aB 25 0 [aI (iJ n { S with at':=5,ah:=S.ah++A,groups:=S.groups++G })]):=by simpa using d.at3 []
 have l:=vq (o.map (·.map EN.a));have k:SA (τ.set (n+3) (aB 25 0 [aI (iJ n { S with at':=5,having:=o,ah:=S.ah++A,groups:=S.groups++G })])) n { S with at':=5,having:=o,ah:=S.ah++A,groups:=S.groups++G }:=d.put rfl;refine⟨e,_,{ S with at':=5,having:=o,ah:=S.ah++A,groups:=S.groups++G },?_,k,(b.trans t).setIn _ _ (by omega),fun x=>⟨o,A,G,rfl,(c x).1.of rfl rfl rfl rfl,.inr ?_,fun C=>absurd C q⟩⟩
 ·rw[cz aeW rfl];have r:sv (S.having.map (·.map EN.a))=.ai:=by rw[w];rfl
  simp only[iJ,oH,r]at g j z a ⊢;generalize S.fr.having.getD []=W at *;generalize sv (o.map (·.map EN.a))=J at *;simp[ast,XY,g,j,z,a,f,p,l]
 obtain⟨K,B,m⟩:=c x;obtain⟨es,rfl⟩:=dc.1 B;exact⟨es,rfl,s,m⟩
theorem nL(a b:List UInt8):oZ [] (aO a) (aO b)=some (a==b):=by simp[oZ,g9]
theorem GB(s:List UInt8)(v:aq):∀m:List (aq×aq),(∀e∈m,∃s,e.1=aO s)→∃d,rc [] (aO s) v m=some d∧(∀e∈d,∃s,e.1=aO s)∧∀s',dy [] (aO s') d=if s'=s then some (some v) else dy [] (aO s') m
 |[],_=>⟨[(.str s,v)],by simp[rc],by simp,fun s'=>by
  by_cases h:s'=s
  ·subst h;simp[dy,nL]
  have c:(s' == s)=false:=by simpa using h
  simp[dy,nL,h,c]⟩
 |e::r,f=>by
  obtain⟨t,i⟩:=f e (by simp);obtain⟨d,k,n,l⟩:=GB s v r (fun e a=>f e (by simp[a]));obtain⟨o,j⟩:=e;simp only at i;subst i;by_cases h:s=t
  ·subst h;refine⟨(aO s,v)::r,by simp[rc,nL],?_,fun s'=>?_⟩
   ·intro e a;rcases dY.1 a with rfl|a
    ·exact⟨s,rfl⟩
    exact f e (by simp[a])
   by_cases b:s'=s
   ·subst b;simp[dy,nL]
   have c:(s' == s)=false:=by simpa using b
   simp[dy,nL,b,c]
  have c:(s==t)=false:=by simpa using h
  refine⟨(aO t,j)::d,by simp[rc,nL,c,k],?_,fun s'=>?_⟩
  ·intro e a;rcases dY.1 a with rfl|a
   ·exact⟨t,rfl⟩
   exact n e a
  by_cases b:s'=t
  ·subst b;have:¬s'=s:=fun e=>h e.symm;simp[dy,nL,this]
  have g:(s' == t)=false:=by simpa using b
  simp only[dy,nL,g];exact l s'
theorem oq(a b c d:List UInt8):oZ [2,2] (aI [aO a,aO b]) (aI [aO c,aO d])=some (a==c&&b==d):=by
 by_cases h:a=c
 ·subst h;by_cases e:b=d
  ·subst e;simp[oZ,g9,eR,lX,sF]
  have f:(b==d)=false:=by simpa using e
  simp[oZ,g9,eR,lX,sF,e,f]
 have g:(a==c)=false:=by simpa using h
 simp[oZ,g9,eR,lX,sF,h,g]
theorem Uv(a b:List UInt8)(v:aq):∀m:List (aq×aq),(∀e∈m,∃t s,e.1=aI [aO t,aO s])→∃k,rc [2,2] (aI [aO a,aO b]) v m=some k∧(∀e∈k,∃t s,e.1=aI [aO t,aO s])∧∀d c,dy [2,2] (aI [aO d,aO c]) k=if d=a∧c=b then some (some v) else dy [2,2] (aI [aO d,aO c]) m
 |[],_=>⟨[(.agg [.str a,.str b],v)],by simp[rc],by simp,fun d c=>by
  by_cases h:d=a∧c=b
  ·obtain⟨rfl,rfl⟩:=h;simp only[dy,oq,ez,jM,and_self,cw]
  have i:(d == a&&c == b)=false:=by
   cases g:(d == a)<;>cases j:(c == b)<;>simp_all
  simp only[dy,oq,i,if_neg h]⟩
 |e::r,n=>by
  obtain⟨t,u,p⟩:=n e (by simp);obtain⟨k,g,j,w⟩:=Uv a b v r (fun e f=>n e (by simp[f]));obtain⟨x,q⟩:=e;simp only at p;subst p;by_cases h:a=t∧b=u
  ·obtain⟨rfl,rfl⟩:=h;refine⟨(aI [aO a,aO b],v)::r,by simp only[rc,oq,ez,jM],?_,fun d c=>?_⟩
   ·intro e f;rcases dY.1 f with rfl|f
    ·exact⟨a,b,rfl⟩
    exact n e (by simp[f])
   by_cases l:d=a∧c=b
   ·obtain⟨rfl,rfl⟩:=l;simp only[dy,oq,ez,jM,and_self,cw]
   have i:(d == a&&c == b)=false:=by
    cases g:(d == a)<;>cases j:(c == b)<;>simp_all
   simp only[dy,oq,i,if_neg l]
  have i:(a==t&&b==u)=false:=by
   cases g:(a==t)<;>cases j:(b==u)<;>simp_all
  refine⟨(aI [aO t,aO u],q)::k,by simp only[rc,oq,i,g,dK],?_,fun d c=>?_⟩
  ·intro e f;rcases dY.1 f with rfl|f
   ·exact⟨t,u,rfl⟩
   exact j e f
  by_cases l:d=t∧c=u
  ·obtain⟨rfl,rfl⟩:=l;have:¬(d=a∧c=b):=fun e=>h ⟨e.1.symm,e.2.symm⟩;simp only[dy,oq,ez,jM,if_neg this]
  have o:(d == t&&c == u)=false:=by
   cases g:(d == t)<;>cases j:(c == u)<;>simp_all
  simp only[dy,oq,o];exact w d c
theorem aeh(b:Bool)(l:List cL)(e:l.length≤8000)(n:List UInt8):∃(k:Int) (ok:Bool),bB I.qbi [.aa b (l.map cL.a),.fn I.qbm [] [],aO n]=some (fy [ap k,aC ok])∧(ok=true→0≤k∧k<l.length):=by
 have a:=kH (enc:=cL.a) (b:=b) (l:=l) (f:=snap [aB 1 0 [.fn I.qbm [] []],aB 1 0 [aO n]] (.fn I.qbj [] [aH 0 0 0 0,aH 1 0 0 0])) (p:=fun t=>t.name==n) (by unfold bC;omega) (fun _=>⟨rfl,rfl⟩) (fun σ=>pK _ _ _) (fun t _=>by
  have c:∀fl top base σ m,fz fl top base σ (m+3) t.a=t.a:=fun fl top base σ m=>Fx.fx fl top base σ m t;simp[Vl,c])
 have d:wd (fun t:cL=>t.name==n) l<l.length:=by
  unfold wd;split
  ·rename_i h;have:=bM (cB.1 h);omega
  omega
 rw[aT agz rfl];simp at a;generalize wd (fun t=>t.name==n) l=ix at *;refine⟨max ix 0,decide (0≤ix),?_,fun h=>by simp at h;omega⟩;simp[asp,Z0,a];split<;>omega
theorem ahw(c:List cL)(b:c.length≤8000)(n:List UInt8):∃(k:Int) (ok:Bool),bB I.qbe [mN c,aO n]=some (fy [ap k,aC ok])∧(ok=true→0≤k∧k<c.length):=by
 obtain⟨k,ok,h,a⟩:=aeh false c b n;refine⟨k,ok,?_,a⟩;rw[aT anb rfl];simp[auG,afI,h]
theorem YK(t a:List UInt8):∃s,bB I.qu [aI [aO t,aO a]]=some (aO s):=by
 rw[aT apW rfl];cases a with
 |nil=>exact⟨t,by simp[as5,aiZ,eS]⟩
 |cons x a=>exact⟨x::a,by simp[as5,aiZ,eS]⟩
theorem afT:xz=.seq (.reg [i (.bin .lss (e 13) (e 12))] [(14,l 0)]) (.seq (.cond (e 14) .skip (.exit 1)) (.seq (.blk 2 (.seq HO (.seq IA (.seq Cw (.seq IV HX))))) (.reg [i (.bin .add (e 13) (v (ap 1)))] [(13,l 0)]))):=rfl
structure Fw (n:Nat) (σ σ':aw):Prop where
 le:σ.length≤σ'.length
 kl:∀(i:Nat) (o:Obj),i<n→σ[i]?=some o→σ'[i]?=some o
 km:∀(i m ep:Nat) (vs:List aq),m≠1→n+11≤i→σ[i]?=some (aB m ep vs)→σ'[i]?=some (aB m ep vs)
theorem Fr.w{n:Nat}{σ τ:aw}(h:Fr n σ τ):Fw n σ τ:=⟨h.le,fun i o hi=>h.kp i o (.inl hi),fun i m ep vs _ hi=>h.kp i _ (.inr hi)⟩
theorem Fw.trans{n:Nat}{a b c:aw}(h:Fw n a b)(e:Fw n b c):Fw n a c:=⟨bR h.le e.le,fun i o hi d=>e.kl i o hi (h.kl i o hi d),fun i m ep vs f hi d=>e.km i m ep vs f hi (h.km i m ep vs f hi d)⟩
theorem Fw.setIn{n:Nat}{σ τ:aw}(h:Fw n σ τ)(i:Nat)(o:Obj)(hi:n≤i∧i<n+11):Fw n σ (τ.set i o):=⟨by simpa using h.le,fun k p a b=>by
 rw[aD (by omega)];exact h.kl k p a b,fun k m ep vs c a b=>by
 rw[aD (by omega)];exact h.km k m ep vs c a b⟩
theorem SA.one{σ:aw}{n:Nat}{S S':fJ}(h:SA σ n S)(k:Nat)(b:k<11)(o:Obj)(a:(BA n S).set k o=BA n S'):SA (σ.set (n+k) o) n S':=by
 obtain⟨P,J,rfl,rfl⟩:=h;refine⟨P,J,rfl,?_⟩;rw[fg _ _ (by omega),←a];have:P.length+k-P.length=k:=by omega
 rw[this,cF _ _ (by simpa using b)]
abbrev vV(n:Nat)(e1 e2 e3 e4:aq)(own:List UInt8)(e7 e8:aq)(af:List fG)(k:Nat)(e14:aq):List aq:=[aH (n+3) 0 0 0,e1,e2,e3,e4,aC true,aO own,e7,e8,aC false,aC false,.aa false (af.map fG.a),ap af.length,ap k,e14]
theorem Wm{τ:aw}{n:Nat}{S:fJ}(h:SA τ n S)(K:Nat)(p:acN τ n S.m2 K)(hK:K≤100)(C:Nat)(f:List UInt8)(kd:Int)(I:τ[C]?=some (aB 2 0 [aI [aO f,ap kd]]))(aj:n+11≤C)(e1 e2 e3 e4:aq)(own:List UInt8)(af:List fG)(k:Nat)(J:aq) :
  ∃(u:aw) (m:List (aq×aq)),run code Cw ⟨vV n e1 e2 e3 e4 own (aH C 0 0 0) (ap K) af k J,τ⟩=some (.nrm,⟨vV n e1 e2 e3 e4 own (aH C 0 0 0) (ap K) af k J,u⟩)∧SA u n { S with m2:=m }∧acN u n m (K+1)∧Fw n τ u:=by
 have a3:=h.at3;have a1:=h.at1;have B:τ[n+3]?=some (aB 25 0 [aI (iJ n S)]):=by simpa using h.at3 []
 have A:τ[n+1]?=some (.map S.m2):=by simpa using h.at1 []
 have ae:=h.len;have ad:=fq I;rcases p.al f with D|⟨id,l,D,hid,r,ag,ah,V⟩
 ·obtain⟨m,P,z,g⟩:=GB f (.sl τ.length 0 0 1) S.m2 p.ks;refine⟨(τ++[Obj.arr 1 0 [ap K]]).set (n+1) (.map m),m,?_,(h.app _).one 1 (by omega) _ rfl,⟨z,fun s=>?_,?_⟩,(Fr.app n τ _).w.setIn _ _ (by omega)⟩
  ·have Q:1≤bC:=by unfold bC;omega
   simp[Cw,a3,B,a1,A,I,ad,D,P,append,Q]
  ·rw[g];by_cases d:s=f
   ·right;refine⟨τ.length,[(K:Int)],by rw[if_pos d];rfl,by omega,?_,by simp,by simp,fun x j=>by simp at j;omega⟩;rw[aD (by omega)];simp
   rw[if_neg d];refine (p.al s).imp id fun ⟨id,l,H,T,O,N,b5,X⟩=>⟨id,l,H,T,?_,N,by omega,fun x j=>by have:=X x j;omega⟩;rw[aD (by omega)];exact fq O _
  intro s s' i e e' o o' q q' a b;rw[g]at a b;have y:∀(t:List UInt8) (e o q:Nat),dy [] (aO t) S.m2=some (some (.sl τ.length e o q))→False:=fun t e o q v=>by
   rcases p.al t with R|⟨id,l,R,_,Y,_⟩
   ·rw[R]at v;cases v
   rw[R]at v;injection v with v;injection v with v;injection v with v;have:=(ak.1 Y).1;omega
  by_cases d:s=f
  ·rw[if_pos d]at a;injection a with a;injection a with a;injection a with a;by_cases c:s'=f
   ·rw[d,c]
   rw[if_neg c,←a]at b;exact (y _ _ _ _ b).elim
  rw[if_neg d]at a;by_cases c:s'=f
  ·rw[if_pos c]at b;injection b with b;injection b with b;injection b with b;rw[←b]at a;exact (y _ _ _ _ a).elim
  rw[if_neg c]at b;exact p.inj _ _ _ _ _ _ _ _ _ a b
 have G:id≠C:=fun e=>by
  rw[e,I]at r;injection r with r;injection r with r;cases r
 obtain⟨m,P,z,g⟩:=GB f (.sl id l.length 0 (l.length+1)) S.m2 p.ks;have M:=(ak.1 r).1;have c1:(τ.set id (aB 1 l.length (eA l++[ap K])))[n+1]?=some (.map S.m2):=by rw[aD (by omega)];exact A
 have c3:(τ.set id (aB 1 l.length (eA l++[ap K])))[n+3]?=some (aB 25 0 [aI (iJ n S)]):=by rw[aD (by omega)];exact B
 have c7:(τ.set id (aB 1 l.length (eA l++[ap K])))[C]?=some (aB 2 0 [aI [aO f,ap kd]]):=by rw[aD G];exact I
 have Z:l.length+1≤bC:=by unfold bC;omega
 have W:List.take l.length (eA l)=eA l:=ay (by simp);have L:l.length-1+1=l.length:=by omega
 have al:Fr n τ τ:=Fr.rfl' n τ;refine⟨(τ.set id (aB 1 l.length (eA l++[ap K]))).set (n+1) (.map m),m,?_,(h.set _ _ hid).one 1 (by omega) _ rfl,⟨z,fun s=>?_,?_⟩,?_⟩
 ·simp[Cw,B,A,I,D,P,append,r,Z,W,L,c1,c3,c7]
 ·rw[g];by_cases d:s=f
  ·right;refine⟨id,l++[(K:Int)],by rw[if_pos d];simp,hid,?_,by simp,by simp;omega,fun x j=>?_⟩
   ·rw[aD (by omega),aU M];simp
   rcases ba.1 j with j|j
   ·have:=V x j;omega
   rw[aP.1 j];omega
  rw[if_neg d];refine (p.al s).imp (fun x=>x) fun ⟨F,l',H,T,O,N,b5,X⟩=>⟨F,l',H,T,?_,N,by omega,fun x j=>by have:=X x j;omega⟩;have ab:id≠F:=fun e=>by
   rw[←e]at H;exact d (p.inj _ _ _ _ _ _ _ _ _ H D)
  rw[aD (by omega),aD ab];exact O
 ·intro s s' i e e' o o' q q' a b;rw[g]at a b;by_cases d:s=f
  ·rw[if_pos d]at a;injection a with a;injection a with a;injection a with a;by_cases c:s'=f
   ·rw[d,c]
   rw[if_neg c,←a]at b;exact (c (p.inj _ _ _ _ _ _ _ _ _ b D)).elim
  rw[if_neg d]at a;by_cases c:s'=f
  ·rw[if_pos c]at b;injection b with b;injection b with b;injection b with b;rw[←b]at a;exact (d (p.inj _ _ _ _ _ _ _ _ _ a D)).elim
  rw[if_neg c]at b;exact p.inj _ _ _ _ _ _ _ _ _ a b
 refine⟨by simp,fun i o hi w=>?_,fun i mm ep vs U hi w=>?_⟩
 ·rw[aD (by omega),aD (by omega)];exact w
 rw[aD (by omega)];by_cases E:id=i
 ·rw[←E,r]at w;injection w with w;injection w with w _ _;exact (U w.symm).elim
 rw[aD E];exact w
theorem SA.two{σ:aw}{n:Nat}{S S':fJ}(h:SA σ n S)(k:Nat)(d:k<11)(o b:Obj)(a:((BA n S).set k o).set 3 b=BA n S'):SA ((σ.set (n+k) o).set (n+3) b) n S':=by
 obtain⟨P,J,rfl,rfl⟩:=h;refine⟨P,J,rfl,?_⟩;rw[fg _ _ (by omega),fg _ _ (by omega),←a];have c:P.length+k-P.length=k:=by omega
 have e:P.length+3-P.length=3:=by omega
 rw[c,e,cF _ _ (by simpa using d),cF _ _ (by simp)]
theorem Rg{τ:aw}{n:Nat}{S:fJ}(h:SA τ n S)(K:Nat)(j:acs S.m3 K)(e:Nat)(b:List UInt8)(u:Int)(w:τ[e]?=some (aB 2 0 [aI [aO b,ap u]]))(p g f o:aq)(own:List UInt8)(i:List fG)(k:Nat)(a:aq) :
  ∃(m:List (aq×aq)),run code IV ⟨vV n p g f o own (aH e 0 0 0) (ap K) i k a,τ⟩=some (.nrm,⟨vV n p g f o own (aH e 0 0 0) (ap K) i k a,τ.set (n+2) (.map m)⟩)∧SA (τ.set (n+2) (.map m)) n { S with m3:=m }∧acs m (K+1):=by
 have v:τ[n+3]?=some (aB 25 0 [aI (iJ n S)]):=by simpa using h.at3 []
 have q:τ[n+2]?=some (.map S.m3):=by simpa using h.at2 []
 obtain⟨m,y,c,d⟩:=Uv own b (ap K) S.m3 j.ks;refine⟨m,by simp[IV,v,q,w,y],h.one 2 (by omega) _ rfl,⟨c,fun t s=>?_⟩⟩;rw[d];by_cases l:t=own∧s=b
 ·right;exact⟨(K:Int),by rw[if_pos l],by omega,by omega⟩
 rw[if_neg l];exact (j.bh t s).imp (fun x=>x) fun ⟨x,r,z,A⟩=>⟨x,r,z,by omega⟩
theorem Ww{τ:aw}{n:Nat}{S:fJ}(h:SA τ n S)(t:S.ac.length≤100)(d:Nat)(q:List UInt8)(a:Int)(r:τ[d]?=some (aB 2 0 [aI [aO q,ap a]]))(l i g j p:aq)(own:List UInt8)(m:List fG)(k:Nat)(b:aq) :
  run code HX ⟨vV n l i g j own (aH d 0 0 0) p m k b,τ⟩=some (.nrm,⟨vV n l i g j own (aH d 0 0 0) p m k b,(τ.set (n+9) (aB 1 (S.ac.length+1) (eA S.ac++[ap a]))).set (n+3) (aB 25 0 [aI (iJ n { S with ac:=S.ac++[a] })])⟩) ∧
   SA ((τ.set (n+9) (aB 1 (S.ac.length+1) (eA S.ac++[ap a]))).set (n+3) (aB 25 0 [aI (iJ n { S with ac:=S.ac++[a] })])) n { S with ac:=S.ac++[a] }:=by
 have e:τ[n+3]?=some (aB 25 0 [aI (iJ n S)]):=by simpa using h.at3 []
 have s:τ[n+9]?=some (aB 1 S.ac.length (eA S.ac)):=by simpa using h.at9 []
 have o:(τ.set (n+9) (aB 1 (S.ac.length+1) (eA S.ac++[ap a])))[n+3]?=some (aB 25 0 [aI (iJ n S)]):=by rw[aD (by omega)];exact e
 have f:List.take S.ac.length (eA S.ac)=eA S.ac:=ay (by simp);have c:S.ac.length+1≤bC:=by unfold bC;omega
 refine⟨?_,h.two 9 (by omega) _ _ (by simp[BA,eA])⟩;simp only[iJ]at e o ⊢;simp[HX,e,s,o,r,append,f,c]
theorem WP{τ:aw}{n:Nat}{S:fJ}(h:SA τ n S)(t:ey τ n S)(W:S.ac.length≤90)(b f d g:aq)(own:List UInt8)(a:List fG)(R:a.length≤8000)(k:Nat)(c:fG)(u:a[k]?=some c)(base:Nat) :
  ∃(m:aw) (m2 m3:List (aq×aq)),bU code base [9999,7,8,14] xz ⟨vV n b f d g own am am a k am,τ⟩=bU code base [9999,7,8,14] xz ⟨vV n b f d g own am am a (k+1) am,m⟩∧SA m n { S with ac:=S.ac++[c.kind],m2:=m2,m3:=m3 }∧ey m n { S with ac:=S.ac++[c.kind],m2:=m2,m3:=m3 }∧Fw n τ m:=by
 have o:=(ak.1 u).1;have p:(k:Int)<(a.length:Int):=by omega
 have w:∀h:k<a.length,a[k]'h=c:=fun h=>(ak.1 u).2;have Q:=cW o (by unfold bC;omega:a.length≤bC);have v:c.a=aI [aO c.name,ap c.kind]:=rfl;have j:=h.len;have O:=h.app [aB 2 0 [aI [aO c.name,ap c.kind]]];have z:(τ++[Obj.arr 2 0 [aI [aO c.name,ap c.kind]]])[τ.length]?=some (aB 2 0 [aI [aO c.name,ap c.kind]]):=by simp
 have r:=t.app [aB 2 0 [aI [aO c.name,ap c.kind]]];have N:=h.at3;have J:=h.at9;obtain⟨τ1,m2,L,I,A,D⟩:=Wm O S.ac.length r.alone (by omega) τ.length c.name c.kind z j b f d g own a k (aC true);have B:=D.km _ 2 0 _ (by omega) j z;obtain⟨m3,F,G,y⟩:=Rg I S.ac.length t.behind τ.length c.name c.kind B b f d g own a k (aC true);have C:Fw n (τ++[Obj.arr 2 0 [aI [aO c.name,ap c.kind]]]) (τ1.set (n+2) (.map m3)):=D.setIn _ _ (by omega);have q:=C.km _ 2 0 _ (by omega) j z;obtain⟨U,P⟩:=Ww G (by show S.ac.length≤100;omega) τ.length c.name c.kind q b f d g (ap S.ac.length) own a k (aC true);have T:run code HO ⟨vV n b f d g own am am a k (aC true),τ⟩=some (.nrm,⟨vV n b f d g own (aH τ.length 0 0 0) am a k (aC true),τ++[Obj.arr 2 0 [aI [aO c.name,ap c.kind]]]⟩):=by
  simp[HO,u,o,p,w,v]
 have K:run code IA ⟨vV n b f d g own (aH τ.length 0 0 0) am a k (aC true),τ++[Obj.arr 2 0 [aI [aO c.name,ap c.kind]]]⟩=some (.nrm,⟨vV n b f d g own (aH τ.length 0 0 0) (ap S.ac.length) a k (aC true),τ++[Obj.arr 2 0 [aI [aO c.name,ap c.kind]]]⟩):=by
  simp[IA,N,J]
 refine⟨((τ1.set (n+2) (.map m3)).set (n+9) (aB 1 (S.ac.length+1) (eA S.ac++[ap c.kind]))).set (n+3) (aB 25 0 [aI (iJ n { ({ ({ S with m2:=m2 }:fJ) with m3:=m3 }:fJ) with ac:=S.ac++[c.kind] })]),m2,m3,?_,P,⟨t.called,?_,?_⟩,((Fr.app n τ _).w.trans C |>.setIn _ _ (by omega)).setIn _ _ (by omega)⟩
 ·rw[aZ,afT,fA];have qh:run code (.reg [i (.bin .lss (e 13) (e 12))] [(14,l 0)]) ⟨vV n b f d g own am am a k am,τ⟩=some (.nrm,⟨vV n b f d g own am am a k (aC true),τ⟩):=by
   simp[p,o]
  rw[qh,bW,fA];have qc:run code (.cond (e 14) .skip (.exit 1)) ⟨vV n b f d g own am am a k (aC true),τ⟩=some (.nrm,⟨vV n b f d g own am am a k (aC true),τ⟩):=by
   simp
  rw[qc,bW,fA,agS,fA,T,bW,fA,K,bW,fA,L,bW,fA,F,bW,U,Nz,bW];have V:((k+1:Nat):Int)=(k:Int)+1:=by omega
  simp only[vV,V];simp[Q,ff,←afT]
 ·have:(S.ac++[c.kind]).length=S.ac.length+1:=by simp
  show acN _ n m2 (S.ac++[c.kind]).length;rw[this];refine⟨A.ks,fun s=>(A.al s).imp (fun x=>x) fun ⟨id,l,M,y,H,E⟩=>⟨id,l,M,y,?_,E⟩,A.inj⟩;rw[aD (by omega),aD (by omega),aD (by omega)];exact H
 have:(S.ac++[c.kind]).length=S.ac.length+1:=by simp
 show acs m3 (S.ac++[c.kind]).length;rw[this];exact y
theorem Yo{n:Nat}(g d c f:aq)(own:List UInt8)(a:List fG)(t:a.length≤4)(base:Nat):∀(m k:Nat) (τ:aw) (S:fJ),k+m=a.length→SA τ n S→ey τ n S→S.ac.length+m≤90 →
  ∃(b:aw) (m2 m3:List (aq×aq)),bU code base [9999,7,8,14] xz ⟨vV n g d c f own am am a k am,τ⟩=some (.ext 1,⟨vV n g d c f own am am a a.length (aC false),b⟩)∧SA b n { S with ac:=S.ac++(a.drop k).map fG.kind,m2:=m2,m3:=m3 }∧ey b n { S with ac:=S.ac++(a.drop k).map fG.kind,m2:=m2,m3:=m3 }∧Fw n τ b:=by
 intro m;induction m with
 |zero=>
  intro k τ S l h i _;have l:k=a.length:=by omega
  subst l;refine⟨τ,S.m2,S.m3,?_,by simpa using h,by simpa using i,(Fr.rfl' n τ).w⟩;rw[aZ];simp[xz]
 |succ m s=>
  intro k τ S l h i A;have w:=au (show k<a.length by omega);obtain⟨τ1,m2,m3,p,x,y,r⟩:=WP h i (by omega) g d c f own a (by omega) k _ w base;obtain⟨o,j,e,u,v,z,q⟩:=s (k+1) τ1 _ (by omega) x y (by simp;omega);have hd:(a.drop k).map fG.kind=a[k].kind::(a.drop (k+1)).map fG.kind:=by
   rw[dx (by omega)];rfl
  refine⟨o,j,e,p.trans u,?_,?_,r.trans q⟩
  ·rw[hd];simpa using v
  rw[hd];simpa using z
theorem Cl{σ:aw}{n:Nat}{S:fJ}(h:SA σ n S)(w:ey σ n S)(q:S.cat.length≤8000)(k:∀tb∈S.cat,tb.af.length≤4)(hK:S.ac.length≤60)(hT:S.tables.length≤10)(t a:List UInt8) :
  ∃(e:Int) (g:aw) (S':fJ),cC code I.qam [aH (n+3) 0 0 0,aI [aO t,aO a]] σ=some (ap e,g)∧SA g n S'∧Fw n σ g∧(e=0→ey g n S'∧∃(i:Int) (m1 m2 m3:List (aq×aq)),0≤i∧i<S.cat.length∧S'={ S with tables:=S.tables++[i],ac:=S.ac++(S.cat[i.toNat]?.map cL.ac).getD [],m1:=m1,m2:=m2,m3:=m3 }):=by
 rw[cz aj5 rfl];have z:=h.at3;have af:σ[n+3]?=some (aB 25 0 [aI (iJ n S)]):=by simpa using h.at3 []
 have X:=h.at0;have ab:=h.len;obtain⟨x,ok,c,W⟩:=ahw S.cat q t;obtain⟨own,f⟩:=YK t a;have hE:arJ.body=PG:=rfl;have O:[aq.ptr (n+3) 0 0 0,aI [aO t,aO a]].take arJ.np++List.replicate (arJ.nenv-arJ.np) aq.any=[aH (n+3) 0 0 0,aI [aO t,aO a],am,am,am,am,am,am,am,am,am,am,am,am,am]:=rfl;rw[hE,O];have j:SA (σ++[aB 2 0 [aI [aO t,aO a]]]) n S:=h.app _;have u:Fw n σ (σ++[aB 2 0 [aI [aO t,aO a]]]):=(Fr.app n σ _).w;have e0:PG=.seq lL (.seq lG (.seq lH (.seq lW (.seq lU (.seq lO (.seq lD pT)))))):=rfl;cases ok with
 |false=>
  refine⟨220,_,S,?_,j,u,fun e=>by cases e⟩;simp[arJ,PG,z,c,f]
 |true=>
  obtain⟨ad,ae⟩:=W rfl;rcases w.called.cl own with U|U
  rotate_left
  ·refine⟨221,_,S,?_,j,u,fun e=>by cases e⟩;simp[arJ,PG,z,X,c,f,U]
  obtain⟨m1,hm,C,M⟩:=GB own (aC true) S.m1 w.called.ks;have Q:ak5 m1:=⟨C,fun s=>by
   rw[M];by_cases hs:s=own
   ·rw[if_pos hs];exact .inr rfl
   rw[if_neg hs];exact w.called.cl s⟩
  obtain⟨tb,d⟩:∃tb,S.cat[x.toNat]?=some tb:=⟨S.cat[x.toNat]'(by omega),au (by omega)⟩;have E:=aN d;have H:=k tb E;obtain⟨p,rfl⟩:∃p:Nat,x=(p:Int):=⟨x.toNat,by omega⟩;simp only[Int.toNat_natCast]at d;have K:p<S.cat.length:=(ak.1 d).1;have l:(p:Int)<(S.cat.length:Int):=by omega
  have J:∀h:p<S.cat.length,S.cat[p]'h=tb:=fun h=>(ak.1 d).2;have P:tb.a=aI [aO tb.name,.aa false (tb.af.map fG.a),.aa false (tb.keys.map (.int .i64))]:=rfl;have F:=h.at0 [Obj.arr 2 0 [aI [aO t,aO a]]];have v:=h.at3 [Obj.arr 2 0 [aI [aO t,aO a]]];have R:=h.at4 [Obj.arr 2 0 [aI [aO t,aO a]]];have G:Fw n σ (σ++[Obj.arr 2 0 [aI [aO t,aO a]]]):=(Fr.app n σ _).w;have L:=w.app [Obj.arr 2 0 [aI [aO t,aO a]]];have q0:run code lL ⟨[aH (n+3) 0 0 0,aI [aO t,aO a],am,am,am,am,am,am,am,am,am,am,am,am,am],σ⟩=some (.nrm,⟨[aH (n+3) 0 0 0,aI [aO t,aO a],aH σ.length 0 0 0,i0,am,am,am,am,am,am,am,am,am,am,am],σ++[Obj.arr 2 0 [aI [aO t,aO a]]]⟩):=by
   simp[lL]
  have q1:run code lG ⟨[aH (n+3) 0 0 0,aI [aO t,aO a],aH σ.length 0 0 0,i0,am,am,am,am,am,am,am,am,am,am,am],σ++[Obj.arr 2 0 [aI [aO t,aO a]]]⟩=some (.nrm,⟨[aH (n+3) 0 0 0,aI [aO t,aO a],aH σ.length 0 0 0,i0,ap p,aC true,am,am,am,am,am,am,am,am,am],σ++[Obj.arr 2 0 [aI [aO t,aO a]]]⟩):=by
   simp[lG,z,c]
  have q2:run code lH ⟨[aH (n+3) 0 0 0,aI [aO t,aO a],aH σ.length 0 0 0,i0,ap p,aC true,am,am,am,am,am,am,am,am,am],σ++[Obj.arr 2 0 [aI [aO t,aO a]]]⟩=some (.nrm,⟨[aH (n+3) 0 0 0,aI [aO t,aO a],aH σ.length 0 0 0,i0,ap p,aC true,aO own,am,am,am,am,am,am,am,am],σ++[Obj.arr 2 0 [aI [aO t,aO a]]]⟩):=by
   simp[lH,f]
  have q3:run code lW ⟨[aH (n+3) 0 0 0,aI [aO t,aO a],aH σ.length 0 0 0,i0,ap p,aC true,aO own,am,am,am,am,am,am,am,am],σ++[Obj.arr 2 0 [aI [aO t,aO a]]]⟩=some (.nrm,⟨[aH (n+3) 0 0 0,aI [aO t,aO a],aH σ.length 0 0 0,i0,ap p,aC true,aO own,am,am,aC false,aC false,am,am,am,am],σ++[Obj.arr 2 0 [aI [aO t,aO a]]]⟩):=by
   simp[lW,z,X,U]
  generalize Z:σ++[Obj.arr 2 0 [aI [aO t,aO a]]]=b at *;have s1:SA (b.set (n+0) (.map m1)) n { S with m1:=m1 }:=j.one 0 (by omega) _ rfl;have V:(b.set n (.map m1))[n+3]?=some (aB 25 0 [aI (iJ n S)]):=by rw[aD (by omega)];exact v
  have c4:(b.set n (.map m1))[n+4]?=some (aB 1 S.tables.length (eA S.tables)):=by rw[aD (by omega)];exact R
  have d3:((b.set n (.map m1)).set (n+4) (aB 1 (S.tables.length+1) (eA S.tables++[ap p])))[n+3]?=some (aB 25 0 [aI (iJ n S)]):=by rw[aD (by omega)];exact V
  have Y:SA (((b.set (n+0) (.map m1)).set (n+4) (aB 1 (S.tables.length+1) (eA S.tables++[ap p]))).set (n+3) (aB 25 0 [aI (iJ n { ({ S with m1:=m1 }:fJ) with tables:=S.tables++[(p:Int)] })])) n { ({ S with m1:=m1 }:fJ) with tables:=S.tables++[(p:Int)] }:=s1.two 4 (by omega) _ _ (by simp[BA,eA]);have r:Fr n b (((b.set (n+0) (.map m1)).set (n+4) (aB 1 (S.tables.length+1) (eA S.tables++[ap p]))).set (n+3) (aB 25 0 [aI (iJ n { ({ S with m1:=m1 }:fJ) with tables:=S.tables++[(p:Int)] })])):=(((Fr.rfl' n b).setIn _ _ (by omega)).setIn _ _ (by omega)).setIn _ _ (by omega);have M2:ey (((b.set (n+0) (.map m1)).set (n+4) (aB 1 (S.tables.length+1) (eA S.tables++[ap p]))).set (n+3) (aB 25 0 [aI (iJ n { ({ S with m1:=m1 }:fJ) with tables:=S.tables++[(p:Int)] })])) n { ({ S with m1:=m1 }:fJ) with tables:=S.tables++[(p:Int)] }:=by
   have:=L.fr r (S':=S) rfl rfl rfl rfl;exact⟨Q,this.alone,this.behind⟩
  obtain⟨m,m2,m3,A,s6,M6,f6⟩:=Yo (n:=n) (aI [aO t,aO a]) (aH σ.length 0 0 0) i0 (ap p) own tb.af H b.length tb.af.length 0 _ _ (by omega) Y M2 (by show S.ac.length+tb.af.length≤90;omega);have y:=Y.at3 [];simp only[dO]at y;have D:(S.cat[((p:Int)).toNat]?.map cL.ac).getD []=tb.af.map fG.kind:=by
   simp only[Int.toNat_natCast,d];rfl
  refine⟨0,m,_,?_,s6,(G.trans r.w).trans f6,fun _=>⟨M6,p,m1,m2,m3,by omega,l,by rw[D];rfl⟩⟩;have T:List.take S.tables.length (eA S.tables)=eA S.tables:=ay (by simp);have B:S.tables.length+1≤bC:=by unfold bC;omega
  have q4:run code lU ⟨[aH (n+3) 0 0 0,aI [aO t,aO a],aH σ.length 0 0 0,i0,ap p,aC true,aO own,am,am,aC false,aC false,am,am,am,am],b⟩=some (.nrm,⟨[aH (n+3) 0 0 0,aI [aO t,aO a],aH σ.length 0 0 0,i0,ap p,aC true,aO own,am,am,aC false,aC false,am,am,am,am],b.set n (.map m1)⟩):=by
   simp[lU,v,F,hm]
  have q5:run code lO ⟨[aH (n+3) 0 0 0,aI [aO t,aO a],aH σ.length 0 0 0,i0,ap p,aC true,aO own,am,am,aC false,aC false,am,am,am,am],b.set n (.map m1)⟩=some (.nrm,⟨[aH (n+3) 0 0 0,aI [aO t,aO a],aH σ.length 0 0 0,i0,ap p,aC true,aO own,am,am,aC false,aC false,am,am,am,am],((b.set n (.map m1)).set (n+4) (aB 1 (S.tables.length+1) (eA S.tables++[ap p]))).set (n+3) (aB 25 0 [aI (iJ n { ({ S with m1:=m1 }:fJ) with tables:=S.tables++[(p:Int)] })])⟩):=by
   simp only[iJ]at V d3 ⊢;simp[lO,V,c4,d3,append,T,B]
  simp only[eX]at A y;generalize o:((b.set n (.map m1)).set (n+4) (aB 1 (S.tables.length+1) (eA S.tables++[ap p]))).set (n+3) (aB 25 0 [aI (iJ n { ({ S with m1:=m1 }:fJ) with tables:=S.tables++[(p:Int)] })])=σB at *;have q7:run code lD ⟨[aH (n+3) 0 0 0,aI [aO t,aO a],aH σ.length 0 0 0,i0,ap p,aC true,aO own,am,am,aC false,aC false,am,am,am,am],σB⟩=some (.nrm,⟨vV n (aI [aO t,aO a]) (aH σ.length 0 0 0) i0 (ap p) own am am tb.af tb.af.length (aC false),m⟩):=by
   have N:b.length=σB.length:=by rw[←o];simp
   rw[N]at A;simp only[vV,bj]at A ⊢;simp only[iJ]at y;simp[lD,y,d,K,l,J,P,A]
  rw[e0,fA,q0,bW,fA,q1,bW,fA,q2,bW,fA,q3,bW,fA,q4,bW,fA,q5,bW,fA,q7,bW];simp[arJ,pT,pS,pU]
def PwR(σ:aw)(n:Nat)(Q:aw→fJ→Prop)(r:Option (aq×aw)):Prop:=
 ∃(e:Int) (σ':aw) (S':fJ),r=some (ap e,σ')∧SA σ' n S'∧Fw n σ σ'∧(e=0→Q σ' S')
structure CtOk (c:List cL):Prop where
 le:c.length≤8000
 af:∀tb∈c,tb.af.length≤4
abbrev Ag(c:List cL)(t:Int):List Int:=(c[t.toNat]?.map cL.ac).getD []
def NoG(S:fJ):Prop:=S.keys=[]∧S.ah=[]∧S.groups=[]
theorem NoG.ok{S:fJ}(h:NoG S):wc S:=by
 obtain⟨b,a,c⟩:=h;exact⟨by rw[b];simp,by rw[b];simp,by rw[a];simp,by rw[a];simp,by rw[a];simp,by rw[b,a,c];rfl⟩
theorem Qk{σ:aw}{n:Nat}{S:fJ}(h:SA σ n S)(p:ey σ n S)(j:CtOk S.cat)(s:S.ac.length≤60)(m:S.tables.length≤10) :
  PwR σ n (fun c S'=>ey c n S'∧∃(i:Int) (m1 m2 m3:List (aq×aq)),0≤i∧i<S.cat.length∧S'={ S with at':=0,tables:=S.tables++[i],ac:=S.ac++Ag S.cat i,m1:=m1,m2:=m2,m3:=m3 }) (cC code I.qaf [aH (n+3) 0 0 0] σ):=by
 have f:=h.len;have u:n+3<σ.length:=by omega
 have g:σ[n+3]?=some (aB 25 0 [aI (iJ n S)]):=by simpa using h.at3 []
 have q:SA (σ.set (n+3) (aB 25 0 [aI (iJ n { S with at':=0 })])) n { S with at':=0 }:=h.put rfl;have k:(σ.set (n+3) (aB 25 0 [aI (iJ n { S with at':=0 })]))[n+3]?=some (aB 25 0 [aI (iJ n { S with at':=0 })]):=by rw[aU u]
 have b:Fr n σ (σ.set (n+3) (aB 25 0 [aI (iJ n { S with at':=0 })])):=(Fr.rfl' n σ).setIn _ _ (by omega);obtain⟨e,τ,S',a,v,t,d⟩:=Cl q (p.fr b rfl rfl rfl rfl) j.le j.af s m S.fr.table S.fr.as';refine⟨e,τ,S',?_,v,b.w.trans t,fun o=>?_⟩
 ·rw[cz amj rfl];simp only[iJ]at g k a;simp[atv,af7,g,k,a]
 obtain⟨M,i,m1,m2,m3,l,w,r⟩:=d o;exact⟨M,i,m1,m2,m3,l,w,r⟩
abbrev jnE(n:Nat)(L:List pb)(k:Nat)(e1 e2 e3 e4 e5 e9 e10 e11:aq):List aq:=[aH (n+3) 0 0 0,e1,e2,e3,e4,e5,.aa false (L.map pb.a),ap L.length,ap k,e9,e10,e11]
noncomputable abbrev jnR(n:Nat)(L:List pb)(k:Nat)(base:Nat)(τ:aw):Option (Ex×St):=bU code base [9999,1,2,3,4,5,9,10,11] vk ⟨jnE n L k am am am am am am am am,τ⟩
def ag1(n:Nat)(τ:aw)(r:Option (Ex×St)):Prop:=∃(e:Int) (env:List aq) (τ':aw) (S':fJ),r=some (.ret,⟨env,τ'⟩)∧e≠0∧env[1]?=some (ap e)∧SA τ' n S'∧Fw n τ τ'
theorem Y9{τ:aw}{n:Nat}{S:fJ}(h:SA τ n S)(hM:ey τ n S)(N:CtOk S.cat)(hK:S.ac.length≤50)(hT:S.tables.length≤10)(R:NoG S)(hJ:S.joins.length≤10)(L:List pb)(k:Nat)(x:pb)(C:L[k]?=some x)(hL:L.length≤8000)(hO:mv x.on)(base:Nat) :
  ag1 n τ (jnR n L k base τ)∨∃(d:aw) (i:Int) (es:List EN) (m1 m2 m3:List (aq×aq)),jnR n L k base τ=jnR n L (k+1) base d∧0≤i∧i<S.cat.length∧es.length≤1000∧jE es (S.ac++Ag S.cat i)=true∧SA d n { S with tables:=S.tables++[i],ac:=S.ac++Ag S.cat i,joins:=S.joins++[⟨x.left,es⟩],m1:=m1,m2:=m2,m3:=m3 }∧ey d n { S with tables:=S.tables++[i],ac:=S.ac++Ag S.cat i,joins:=S.joins++[⟨x.left,es⟩],m1:=m1,m2:=m2,m3:=m3 }∧Fw n τ d:=by
 have g:=(ak.1 C).1;have q:(k:Int)<(L.length:Int):=by omega
 have t:∀h:k<L.length,L[k]'h=x:=fun h=>(ak.1 C).2;have w2:=cW g (by unfold bC;omega:L.length≤bC);have v:x.a=aI [aC x.left,aO x.table,aO x.as',.aa false (x.on.map eP.a)]:=rfl;have m:=h.len;obtain⟨e,τ1,a,r,s1,Z,k1⟩:=Cl (h.app [aB 4 0 [aI [aC x.left,aO x.table,aO x.as',.aa false (x.on.map eP.a)]]]) (hM.app _) N.le N.af (by omega) hT x.table x.as';have w:Fw n τ τ1:=(Fr.app n τ _).w.trans Z;unfold jnR;by_cases I:e=0
 rotate_left
 ·left;have:∃env,bU code base [9999,1,2,3,4,5,9,10,11] vk ⟨jnE n L k am am am am am am am am,τ⟩=some (.ret,⟨env,τ1⟩)∧env[1]?=some (ap e):=by
   rw[aZ];exact⟨_,by simp[vk,q,g,C,t,v,r,I];rfl,rfl⟩
  obtain⟨env,Q,K⟩:=this;exact⟨e,env,τ1,a,Q,I,K,s1,w⟩
 subst I;obtain⟨M1,i,m1,m2,m3,i1,i2,c⟩:=k1 rfl;have ae:(Ag S.cat i).length≤4:=by
  have D:i.toNat < S.cat.length:=by omega
  show ((S.cat[i.toNat]?.map cL.ac).getD []).length≤4;rw[au D];have:=N.af _ (aJ D);simpa [cL.ac] using this
 have s:=Z.km τ.length 4 0 _ (by omega) m (by simp:(τ++[Obj.arr 4 0 [aI [aC x.left,aO x.table,aO x.as',.aa false (x.on.map eP.a)]]])[τ.length]?=some (aB 4 0 [aI [aC x.left,aO x.table,aO x.as',.aa false (x.on.map eP.a)]]));have G1:wc a:=by
  rw[c];exact NoG.ok ⟨R.1,R.2.1,R.2.2⟩
 have O:a.ac.length≤8000:=by
  rw[c];show (S.ac++Ag S.cat i).length≤8000;rw[bZ];omega
 obtain⟨o,U,b,A,G,l,X,s2,H,M,k2⟩:=BG s1 M1 G1 hO O false;obtain⟨rfl,rfl⟩:=M rfl;simp only[dO]at s2 k2;have f:SA b n a:=s2;have E:=H.kp _ _ (.inr m) s;have p:=fq E;have z:Fw n τ b:=w.trans H.w;have T:=vq (o.map (·.map EN.a));by_cases u:U=0
 rotate_left
 ·left;have:∃env,bU code base [9999,1,2,3,4,5,9,10,11] vk ⟨jnE n L k am am am am am am am am,τ⟩=some (.ret,⟨env,b++[aB 1 0 [oH o]]⟩)∧env[1]?=some (ap U):=by
   rw[aZ];simp only[oH]at l ⊢;generalize sv (o.map (·.map EN.a))=ov at *;exact⟨_,by simp[vk,q,g,C,t,v,r,s,l,T,u];rfl,rfl⟩
  obtain⟨env,Q,K⟩:=this;exact⟨U,env,_,a,Q,u,K,f.app _,z.trans (Fr.app n b _).w⟩
 subst u;right;obtain⟨_,b2,b3⟩:=k2 rfl;obtain⟨es,rfl⟩:=dc.1 b2;have W:jE es a.ac=true:=b3;have af:a.joins.length≤10:=by rw[c];exact hJ
 have V:=f.at3 [Obj.arr 1 0 [aI [.aa false (es.map EN.a)]]];have a5:(b++[Obj.arr 1 0 [aI [.aa false (es.map EN.a)]]])[n+5]?=some (aB 2 a.joins.length (a.joins.map JX.a)):=by
  obtain⟨P,J,rfl,rfl⟩:=f;simp
 have d3:((b++[Obj.arr 1 0 [aI [.aa false (es.map EN.a)]]]).set (n+5) (aB 2 (a.joins.length+1) (a.joins.map JX.a++[aI [aC x.left,.aa false (es.map EN.a)]])))[n+3]?=some (aB 25 0 [aI (iJ n a)]):=by rw[aD (by omega)];exact V
 have s3:SA (((b++[Obj.arr 1 0 [aI [.aa false (es.map EN.a)]]]).set (n+5) (aB 2 (a.joins.length+1) (a.joins.map JX.a++[aI [aC x.left,.aa false (es.map EN.a)]]))).set (n+3) (aB 25 0 [aI (iJ n { a with joins:=a.joins++[⟨x.left,es⟩] })])) n { a with joins:=a.joins++[⟨x.left,es⟩] }:=(f.app _).two 5 (by omega) _ _ (by simp[BA,JX.a]);have B:Fr n b (((b++[Obj.arr 1 0 [aI [.aa false (es.map EN.a)]]]).set (n+5) (aB 2 (a.joins.length+1) (a.joins.map JX.a++[aI [aC x.left,.aa false (es.map EN.a)]]))).set (n+3) (aB 25 0 [aI (iJ n { a with joins:=a.joins++[⟨x.left,es⟩] })])):=((Fr.app n b _).setIn _ _ (by omega)).setIn _ _ (by omega);have M3:ey (((b++[Obj.arr 1 0 [aI [.aa false (es.map EN.a)]]]).set (n+5) (aB 2 (a.joins.length+1) (a.joins.map JX.a++[aI [aC x.left,.aa false (es.map EN.a)]]))).set (n+3) (aB 25 0 [aI (iJ n { a with joins:=a.joins++[⟨x.left,es⟩] })])) n { a with joins:=a.joins++[⟨x.left,es⟩] }:=M1.fr (H.trans B) rfl rfl rfl rfl;have y:List.take a.joins.length (a.joins.map JX.a)=a.joins.map JX.a:=ay (by simp);have F:a.joins.length+1≤bC:=by unfold bC;omega
 have ad:∀j:JX,aM j.a=2:=fun _=>rfl;refine⟨((b++[Obj.arr 1 0 [aI [.aa false (es.map EN.a)]]]).set (n+5) (aB 2 (a.joins.length+1) (a.joins.map JX.a++[aI [aC x.left,.aa false (es.map EN.a)]]))).set (n+3) (aB 25 0 [aI (iJ n { a with joins:=a.joins++[⟨x.left,es⟩] })]),i,es,m1,m2,m3,?_,i1,i2,X,by rw[←show a.ac=S.ac++Ag S.cat i by rw[c]];exact W,by rw[c]at s3 ⊢;exact s3,by rw[c]at M3 ⊢;exact M3,z.trans B.w⟩;have Y:oH (some es)=aI [.aa false (es.map EN.a)]:=rfl;rw[Y]at l;rw[aZ];have ek:((k+1:Nat):Int)=(k:Int)+1:=by omega
 simp only[iJ,jnE,ek]at V d3 ⊢;have ab:=p [Obj.arr 1 0 [aI [.aa false (es.map EN.a)]]];simp[vk,q,g,C,t,v,r,s,l,p,V,a5,d3,append,y,F,w2,ff]
abbrev yj(c:List cL)(ts:List Int):List Int:=ts.flatMap (Ag c)
structure Hf (c:List cL) (ts:List Int) (js:List JX):Prop where
 len:ts.length=js.length+1
 rng:∀t∈ts,0≤t∧t<c.length
 on:∀q j,js[q]?=some j→j.on.length≤1000∧jE j.on (yj c (ts.take (q+2)))=true
theorem Hf.snoc{c:List cL}{a:List Int}{f:List JX}(h:Hf c a f){i:Int}(m:0≤i)(o:i<c.length){es:List EN}(p:es.length≤1000)(n:jE es (yj c a++Ag c i)=true)(b:Bool):Hf c (a++[i]) (f++[⟨b,es⟩]):=by
 refine⟨by simp[h.len],?_,?_⟩
 ·intro t d;rcases ba.1 d with d|d
  ·exact h.rng t d
  rw[aP.1 d];exact⟨m,o⟩
 intro q j e;have l:=h.len;by_cases g:q<f.length
 ·rw[aS g]at e;have:=h.on q j e;rw[List.take_append_of_le_length (by omega)];exact this
 have k:q=f.length:=by
  have:=(ak.1 e).1;simp at this;omega
 subst k;simp at e;subst e;refine⟨p,?_⟩;rw[ay (by simp;omega)];have:yj c (a++[i])=yj c a++Ag c i:=by simp[yj]
 rw[this];exact n
theorem ad7{c:List cL}(b:CtOk c){i:Int}(d:0≤i)(e:i<c.length):(Ag c i).length≤4:=by
 have a:i.toNat < c.length:=by omega
 show ((c[i.toNat]?.map cL.ac).getD []).length≤4;rw[au a];have:=b.af _ (aJ a);simpa [cL.ac] using this
theorem Ci{c:List cL}(b:CtOk c):∀(a:List Int),(∀t∈a,0≤t∧t<c.length)→(yj c a).length≤4*a.length
 |[],_=>by simp[yj]
 |t::a,h=>by
  have d:=h t (by simp);have g:=Ci b a (fun t e=>h t (by simp[e]));have f:=ad7 b d.1 d.2;have:yj c (t::a)=Ag c t++yj c a:=by simp[yj]
  rw[this,bZ,bA];omega
theorem adG{n:Nat}(L:List pb)(M:L.length≤2)(D:∀x∈L,mv x.on)(base:Nat):∀(m k:Nat) (τ:aw) (S:fJ),k+m=L.length→SA τ n S→ey τ n S→CtOk S.cat→NoG S→Hf S.cat S.tables S.joins→S.ac=yj S.cat S.tables→S.joins.length=k →
  ag1 n τ (jnR n L k base τ)∨∃(j:aw) (l:List Int) (p:List JX) (m1 m2 m3:List (aq×aq)),jnR n L k base τ=some (.ext 0,⟨jnE n L L.length am am am am am (aC false) am am,j⟩)∧SA j n { S with tables:=l,joins:=p,ac:=yj S.cat l,m1:=m1,m2:=m2,m3:=m3 }∧ey j n { S with tables:=l,joins:=p,ac:=yj S.cat l,m1:=m1,m2:=m2,m3:=m3 }∧Hf S.cat l p∧p.length=L.length∧Fw n τ j:=by
 intro m;induction m with
 |zero=>
  intro k τ S w h u s r q g o;have w:k=L.length:=by omega
  subst w;right;refine⟨τ,S.tables,S.joins,S.m1,S.m2,S.m3,?_,by rw[←g];exact h,by rw[←g];exact u,q,o,(Fr.rfl' n τ).w⟩;unfold jnR;rw[aZ];simp[vk]
 |succ m E=>
  intro k τ S w h u s r q g o;have K:=au (show k<L.length by omega);have B:=q.len;have y:S.ac.length≤50:=by
   rw[g];have:=Ci s S.tables q.rng;omega
  rcases Y9 h u s y (by omega) r (by omega) L k _ K (by omega) (D _ (aJ _)) base with z|⟨τ1,i,es,m1,m2,m3,A,J,F,t,H,G,I,C⟩
  ·exact .inl z
  have v:S.ac++Ag S.cat i=yj S.cat (S.tables++[i]):=by rw[g];simp[yj]
  rcases E (k+1) τ1 _ (by omega) G I s ⟨r.1,r.2.1,r.2.2⟩ (q.snoc J F t (by rw[←g];exact H) _) v (by simp[o]) with z|⟨τ2,l,p,m1',m2',m3',q2,s2,M2,J2,l2,f2⟩
  ·left;obtain⟨e,env,j,S',a,b,c,d,f⟩:=z;exact⟨e,env,j,S',A.trans a,b,c,d,C.trans f⟩
  right;exact⟨τ2,l,p,m1',m2',m3',A.trans q2,s2,M2,J2,l2,C.trans f2⟩
theorem PF{σ:aw}{n:Nat}{S:fJ}(h:SA σ n S)(D:ey σ n S)(E:CtOk S.cat)(u:NoG S)(z:Hf S.cat S.tables S.joins)(q:S.joins=[])(m:S.ac=yj S.cat S.tables)(y:∀x∈S.fr.joins,mv x.on) :
  PwR σ n (fun v S'=>ey v n S'∧∃(f:List Int) (d:List JX) (m1 m2 m3:List (aq×aq)),Hf S.cat f d∧d.length=S.fr.joins.length∧S'={ S with at':=1,tables:=f,joins:=d,ac:=yj S.cat f,m1:=m1,m2:=m2,m3:=m3 }) (cC code I.qak [aH (n+3) 0 0 0] σ):=by
 have w:=h.len;have G:n+3<σ.length:=by omega
 have i:σ[n+3]?=some (aB 25 0 [aI (iJ n S)]):=by simpa using h.at3 []
 have F:SA (σ.set (n+3) (aB 25 0 [aI (iJ n { S with at':=1 })])) n { S with at':=1 }:=h.put rfl;have j:(σ.set (n+3) (aB 25 0 [aI (iJ n { S with at':=1 })]))[n+3]?=some (aB 25 0 [aI (iJ n { S with at':=1 })]):=by rw[aU G]
 have c:Fr n σ (σ.set (n+3) (aB 25 0 [aI (iJ n { S with at':=1 })])):=(Fr.rfl' n σ).setIn _ _ (by omega);have o:ey (σ.set (n+3) (aB 25 0 [aI (iJ n { S with at':=1 })])) n { S with at':=1 }:=D.fr c rfl rfl rfl rfl;have l:=S.fr.hj;have a:=adG S.fr.joins l y σ.length S.fr.joins.length 0 _ _ (by omega) F o E ⟨u.1,u.2.1,u.2.2⟩ z m (by rw[q];rfl);rw[cz anM rfl];unfold jnR at a;simp only[jnE,bj]at a;rcases a with⟨e,env,b,S',g,A,B,t,s⟩|⟨b,f,d,m1,m2,m3,g,t,k,p,r,s⟩
 ·refine⟨e,b,S',?_,t,c.w.trans s,fun C=>absurd C A⟩;simp only[iJ]at i j g;simp[asE,aaT,i,j,g,B]
 refine⟨0,b,_,?_,t,c.w.trans s,fun _=>⟨k,f,d,m1,m2,m3,p,r,rfl⟩⟩;simp only[iJ]at i j g;simp[asE,aaT,i,j,g]
abbrev gpE(n:Nat)(L:List uV)(k:Nat)(e1 e2 e3 e4 e8 e9:aq):List aq:=[aH (n+3) 0 0 0,e1,e2,e3,e4,.aa false (L.map uV.a),ap L.length,ap k,e8,e9]
noncomputable abbrev YO(n:Nat)(L:List uV)(k:Nat)(base:Nat)(τ:aw):Option (Ex×St):=bU code base [9999,1,2,3,4,8,9] Av ⟨gpE n L k am am am am am am,τ⟩
def afP(n:Nat)(τ:aw)(r:Option (Ex×St)):Prop:=∃(e:Int) (env:List aq) (τ':aw) (S':fJ),r=some (.ret,⟨env,τ'⟩)∧e≠0∧env[1]?=some (ap e)∧SA τ' n S'∧Fr n τ τ'
theorem aau{τ:aw}{n:Nat}{S:fJ}(h:SA τ n S)(N:ey τ n S)(A:wc S)(m:S.ah=[])(Y:S.ac.length≤8000)(R:S.keys.length≤2)(L:List uV)(k:Nat)(x:uV)(y:L[k]?=some x)(X:L.length≤8000)(base:Nat) :
  afP n τ (YO n L k base τ)∨∃(a:aw) (c:Int),YO n L k base τ=YO n L (k+1) base a∧SA a n { S with keys:=S.keys++[c],groups:=S.groups++[S.ac.getD c.toNat 0] }∧wc { S with keys:=S.keys++[c],groups:=S.groups++[S.ac.getD c.toNat 0] }∧Fr n τ a:=by
 have i:=(ak.1 y).1;have u:(k:Int)<(L.length:Int):=by omega
 have j:∀h:k<L.length,L[k]'h=x:=fun h=>(ak.1 y).2;have M:=cW i (by unfold bC;omega:L.length≤bC);have v:x.a=aI [aO x.table,aO x.name]:=rfl;obtain⟨c,e,b,C⟩:=Fy (h.app [aB 2 0 [aI [aO x.table,aO x.name]]]) (N.app _) x.table x.name;unfold YO;by_cases D:e=0
 rotate_left
 ·left;have:∃env,bU code base [9999,1,2,3,4,8,9] Av ⟨gpE n L k am am am am am am,τ⟩=some (.ret,⟨env,τ++[aB 2 0 [aI [aO x.table,aO x.name]]]++[aB 2 0 [aI [aO x.table,aO x.name]]]⟩)∧env[1]?=some (ap e):=by
   rw[aZ];exact⟨_,by simp[Av,u,i,y,j,v,b,D];rfl,rfl⟩
  obtain⟨env,T,K⟩:=this;exact⟨e,env,_,S,T,D,K,(h.app _).app _,(Fr.app n τ _).trans (Fr.app _ _ _)⟩
 subst D;right;obtain⟨H,U⟩:=C rfl;obtain⟨p,rfl⟩:∃p:Nat,c=(p:Int):=⟨c.toNat,by omega⟩;have r:p<S.ac.length:=by omega
 have B:(p:Int)<(S.ac.length:Int):=by omega
 obtain⟨f,d⟩:∃f,S.ac[p]?=some f:=⟨S.ac[p],au r⟩;have z:∀h:p<S.ac.length,S.ac[p]'h=f:=fun h=>(ak.1 d).2;have l:S.ac.getD ((p:Int)).toNat 0=f:=by simp[aR,d]
 have Q:S.groups.length≤15:=by
  rw[A.gr,m];simp;omega
 have w:wc { S with keys:=S.keys++[(p:Int)],groups:=S.groups++[f] }:=by
  refine⟨by simp;omega,?_,by rw[m];simp,by rw[m];simp,by rw[m];simp,?_⟩
  ·intro q o;rcases ba.1 o with o|o
   ·exact A.kr q o
   rw[aP.1 o];exact⟨H,U⟩
  show S.groups++[f]=(S.keys++[(p:Int)]).map (fun k=>S.ac.getD k.toNat 0)++S.ah.map _;rw[A.gr,m];simp[aR,d]
 obtain⟨P,J,rfl,rfl⟩:=h;have s:List.take S.keys.length (eA S.keys)=eA S.keys:=ay (by simp);have g:List.take S.groups.length (eA S.groups)=eA S.groups:=ay (by simp);have E:S.keys.length+1≤bC:=by unfold bC;omega
 have t:S.groups.length+1≤bC:=by unfold bC;omega
 suffices V:∃a,YO P.length L k base (P++(BA P.length S++J))=YO P.length L (k+1) base a∧SA a P.length { S with keys:=S.keys++[(p:Int)],groups:=S.groups++[f] }∧wc { S with keys:=S.keys++[(p:Int)],groups:=S.groups++[f] }∧Fr P.length (P++(BA P.length S++J)) a by
  obtain⟨a,G,F,O,I⟩:=V;exact⟨a,p,G,by rw[l];exact F,by rw[l];exact O,I⟩
 unfold YO;refine⟨P++(BA P.length { S with keys:=S.keys++[(p:Int)],groups:=S.groups++[f] }++(J++[aB 2 0 [aI [aO x.table,aO x.name]],aB 2 0 [aI [aO x.table,aO x.name]]])),?_,⟨P,_,rfl,rfl⟩,w,Fr.sc⟩;rw[aZ];have W:((k+1:Nat):Int)=(k:Int)+1:=by omega
 simp only[gpE,W,BA,iJ,eA]at s g ⊢;simp at b;simp[Av,u,i,y,j,v,b,append,s,g,E,t,r,B,d,z,M,ff]
theorem adI{n:Nat}(L:List uV)(E:L.length≤3)(base:Nat):∀(m k:Nat) (τ:aw) (S:fJ),k+m=L.length→SA τ n S→ey τ n S→wc S→S.ah=[]→S.ac.length≤8000→S.keys.length=k →
  afP n τ (YO n L k base τ)∨∃(g:aw) (ks gs:List Int),YO n L k base τ=some (.ext 0,⟨gpE n L L.length am am am am (aC false) am,g⟩)∧SA g n { S with keys:=ks,groups:=gs }∧wc { S with keys:=ks,groups:=gs }∧ks.length=L.length∧Fr n τ g:=by
 intro m;induction m with
 |zero=>
  intro k τ S r h p l o q i;have r:k=L.length:=by omega
  subst r;right;refine⟨τ,S.keys,S.groups,?_,h,l,i,Fr.rfl' n τ⟩;unfold YO;rw[aZ];simp[Av]
 |succ m x=>
  intro k τ S r h p l o q i;have C:=au (show k<L.length by omega);rcases aau h p l o q (by omega) L k _ C (by omega) base with t|⟨τ1,c,u,B,A,j⟩
  ·exact .inl t
  rcases x (k+1) τ1 _ (by omega) B (p.fr j rfl rfl rfl rfl) A o q (by simp[i]) with t|⟨s,ks,gs,y,z,D,v,w⟩
  ·left;obtain⟨e,env,g,S',a,b,c',d,f⟩:=t;exact⟨e,env,g,S',u.trans a,b,c',d,j.trans f⟩
  right;exact⟨s,ks,gs,u.trans y,z,D,v,j.trans w⟩
theorem O1{σ:aw}{n:Nat}{S:fJ}(h:SA σ n S)(s:ey σ n S)(o:NoG S)(u:S.ac.length≤8000) :
  PhR σ n S (fun S'=>∃(ks gs:List Int),S'={ S with at':=3,keys:=ks,groups:=gs }∧wc S'∧ks.length=(S.fr.group.getD []).length) (cC code I.qag [aH (n+3) 0 0 0] σ):=by
 have q:=h.len;have v:n+3<σ.length:=by omega
 have g:σ[n+3]?=some (aB 25 0 [aI (iJ n S)]):=by simpa using h.at3 []
 have t:SA (σ.set (n+3) (aB 25 0 [aI (iJ n { S with at':=3 })])) n { S with at':=3 }:=h.put rfl;have f:(σ.set (n+3) (aB 25 0 [aI (iJ n { S with at':=3 })]))[n+3]?=some (aB 25 0 [aI (iJ n { S with at':=3 })]):=by rw[aU v]
 have c:Fr n σ (σ.set (n+3) (aB 25 0 [aI (iJ n { S with at':=3 })])):=(Fr.rfl' n σ).setIn _ _ (by omega);have p:ey (σ.set (n+3) (aB 25 0 [aI (iJ n { S with at':=3 })])) n { S with at':=3 }:=s.fr c rfl rfl rfl rfl;have l:=S.fr.hg;have a:=adI (S.fr.group.getD []) l σ.length (S.fr.group.getD []).length 0 _ _ (by omega) t p (o.ok.of rfl rfl rfl rfl) o.2.1 u (by show S.keys.length=0;rw[o.1];rfl);rw[cz ame rfl];unfold YO at a;simp only[gpE,bj]at a;rcases a with⟨e,env,b,S',d,w,x,m,j⟩|⟨b,ks,gs,d,m,k,i,j⟩
 ·refine⟨e,b,S',?_,m,c.trans j,fun r=>absurd r w⟩;simp only[iJ]at g f d;simp[asM,Xp,g,f,d,x]
 refine⟨0,b,_,?_,m,c.trans j,fun _=>⟨ks,gs,rfl,k,i⟩⟩;simp only[iJ]at g f d;simp[asM,Xp,g,f,d]
def Sq(ns:List eP):Bool:=ns.any fun n=>decide (0<pW n.tag)
theorem Rz(t:Int):∀(P:Option (Option aq)→Prop),P (if pW t=0 then some none else some (some (ap (pW t))))→P (lookup (ap t) [(ap 3,ap 1),(ap 8,ap 2),(ap 9,ap 3),(ap 10,ap 4),(ap 11,ap 5)]):=by
 intro P h;have:lookup (ap t) [(ap 3,ap 1),(ap 8,ap 2),(ap 9,ap 3),(ap 10,ap 4),(ap 11,ap 5)]=(if pW t=0 then some none else some (some (ap (pW t)))):=by
  unfold pW;by_cases e:t=3
  ·subst e;simp[lookup,qH]
  by_cases g:t=8
  ·subst g;simp[lookup,qH]
  by_cases c:t=9
  ·subst c;simp[lookup,qH]
  by_cases a:t=10
  ·subst a;simp[lookup,qH]
  by_cases b:t=11
  ·subst b;simp[lookup,qH]
  have j:((3:Int)==t)=false:=by simp;omega
  have k:((8:Int)==t)=false:=by simp;omega
  have i:((9:Int)==t)=false:=by simp;omega
  have d:((10:Int)==t)=false:=by simp;omega
  have f:((11:Int)==t)=false:=by simp;omega
  simp[lookup,qH,e,g,c,a,b,j,k,i,d,f,Ne.symm e,Ne.symm g,Ne.symm c,Ne.symm a,Ne.symm b]
 rw[this];exact h
theorem alA(x:eP)(b:Bool):bB I.qs [x.a,.cptr b Hm 0]=some (aC (decide (0<pW x.tag))):=by
 rw[aT apE rfl];have d:x.a=aI [ap x.tag,ap x.l,ap x.r,ap x.v.k,ap x.v.n,.int .u64 x.v.u,aO x.v.s,aO x.table,aO x.name]:=rfl;have a:lookup (ap x.tag) [(ap 3,ap 1),(ap 8,ap 2),(ap 9,ap 3),(ap 10,ap 4),(ap 11,ap 5)]=(if pW x.tag=0 then some none else some (some (ap (pW x.tag)))):=Rz x.tag (fun r=>r=_) rfl;rw[d];by_cases c:pW x.tag=0
 ·rw[if_pos c]at a;cases b<;>simp[as3,aiu,a,c]
 rw[if_neg c]at a;cases b<;>simp[as3,aiu,a]
theorem ao4(x:pY)(b:Bool):bB I.qr [x.a,.cptr b Hm 0]=some (aC (Sq x.ns)):=by
 rw[aT aqa rfl];have c:x.a=aI [.aa false (x.ns.map eP.a),aO x.as']:=rfl;have i:=x.h
 have g:=fun h a=>ug (enc:=eP.a) (b:=h) (l:=x.ns) (f:=.fn I.qs [] [.cptr a Hm 0]) (p:=fun n=>decide (0<pW n.tag)) (by unfold bC;omega) (fun _=>⟨rfl,rfl⟩) (fun τ=>by cases a<;>simp) (fun y j=>by
  have e:∀fl top base σ m,fz fl top base σ (m+3) y.a=y.a:=fun fl top base σ m=>Fx.fx fl top base σ m y;have d:=alA y;cases a<;>simp[d,e])
 rw[c];unfold Sq;generalize x.ns.any (fun n=>decide (0<pW n.tag))=r at *;cases b<;>simp[atS,akW,g]
theorem Ws(s:mI):bB I.qq [s.a]=some (aC (decide (0<(s.group.getD []).length) ||(decide (0<(s.having.getD []).length) ||(s.items.getD []).any fun x=>Sq x.ns))):=by
 rw[aT apL rfl];have d:=aaw;have e:s.a=aI [aC s.distinct,aC s.star,.aa false ((s.items.getD []).map pY.a),aO s.table,aO s.as',.aa false (s.joins.map pb.a),.aa false ((s.whr.getD []).map eP.a),.aa false ((s.having.getD []).map eP.a),.aa false ((s.group.getD []).map uV.a)]:=rfl;have hi:=s.hi
 have q:=fun t g=>um (enc:=pY.a) (b:=t) (l:=s.items.getD []) (f:=.fn I.qr [] [.cptr g Hm 0]) (p:=fun x=>Sq x.ns) (by unfold bC;omega) (fun _=>⟨rfl,rfl⟩) (fun τ=>by cases g<;>simp) (fun y u=>by
  have o:∀fl top base σ m,fz fl top base σ (m+3) y.a=y.a:=fun fl top base σ m=>Fx.fx fl top base σ m y;have n:=ao4 y;cases g<;>simp[n,o])
 rw[e];generalize (s.items.getD []).any (fun x=>Sq x.ns)=r at *;generalize s.items.getD []=v at *;generalize s.having.getD []=j at *;generalize s.group.getD []=h at *;by_cases i:0<h.length
 ·have a:(0:Int)<(h.length:Int):=by omega
  simp[asg,aem,d,i,a]
 have a:¬(0:Int)<(h.length:Int):=by omega
 by_cases k:0<j.length
 ·have c:(0:Int)<(j.length:Int):=by omega
  simp[asg,aem,d,i,a,k,c]
 have c:¬(0:Int)<(j.length:Int):=by omega
 simp[asg,aem,d,i,a,k,c,q]
end Go.AM
namespace Go.AM
open P
set_option maxHeartbeats 64000000
set_option maxRecDepth 40000
def ake(kind:Int)(l:Pa):Int:=if l.all okV then (if l.all fun v=>v.k==0 ||v.k==kind then 0 else 2) else 120
end Go.AM
namespace Go.AM
open P
set_option maxHeartbeats 64000000
set_option maxRecDepth 40000
attribute [local simp] aG bd
def rg(n:Int):Prop:=-9223372036854775808≤n∧n<9223372036854775808
def GE(tw:Int→Int→Int×Bool)(a b:wm):wm×Int:=
 if ake 2 [a,b]=0 then (if a.k=0∨b.k=0 then (CS,0) else if (tw a.n b.n).2 then (ajr (tw a.n b.n).1,0) else (CS,140)) else (CS,ake 2 [a,b])
theorem Lc(B:BitVec 64):IntKind.i64.wrap (B.toNat:Int)=B.toInt:=by
 rw[BitVec.toInt_eq_toNat_cond];have:=B.isLt;simp[IntKind.wrap,IntKind.bits,IntKind.signed];split<;>split<;>omega
theorem DL{a:Int}(h:rg a):(BitVec.ofInt 64 a).msb=decide (a<0):=by
 rw[BitVec.msb_eq_toInt,BitVec.toInt_ofInt];have:a.bmod (2^64)=a:=by
  unfold rg at h;rw[Int.bmod_def];split<;>omega
 rw[this]
def aiv(a b:Int):Int:=IntKind.i64.wrap ((BitVec.ofInt 64 a ^^^ BitVec.ofInt 64 b).toNat:Int)
def an9(a b:Int):Int:=IntKind.i64.wrap ((BitVec.ofInt 64 a &&& BitVec.ofInt 64 b).toNat:Int)
theorem aqm{a b h:Int}(d:rg a)(e:rg b)(c:rg h) :
  an9 (aiv a h) (aiv b h)<0↔((decide (a<0) ^^ decide (h<0))&&(decide (b<0) ^^ decide (h<0)))=true:=by
 unfold an9 aiv;rw[Lc,Lc,Lc,BitVec.ofInt_toInt,BitVec.ofInt_toInt];have:∀B:BitVec 64,B.toInt<0↔B.msb=true:=fun B=>by rw[BitVec.msb_eq_toInt];simp
 rw[this,BitVec.msb_and,BitVec.msb_xor,BitVec.msb_xor,DL d,DL e,DL c]



def Iv(v:wm):Prop:=wV v=true∧rg v.n
theorem I9{e:List EN}(b:wn e=true){n:EN}(h:n∈e):iA n=true:=by
 obtain⟨k,c⟩:=List.getElem?_of_mem h;obtain⟨i,_⟩:=ak.1 c;obtain⟨a,o,f⟩:=ZH b (k:=k) (by omega);obtain⟨g,o',_,_,_,_,d,_⟩:=PH b c f;exact d
end Go.AM
namespace Go.AM
open P
set_option maxHeartbeats 64000000
set_option maxRecDepth 40000
def k03(k:Int):Prop:=0≤k∧k≤3
theorem acb{v:wm}(h:wV v=true):k03 v.k:=by
 obtain⟨k,n,u,s⟩:=v;unfold wV at h;simp only[ax,gT,ne_eq]at h;obtain⟨a,b⟩:=h;rw[aji]at a;unfold k03;simp only;split at a
 ·omega
 split at a
 ·omega
 split at a
 ·omega
 split at a
 ·omega
 simp at a;omega
theorem Pd{a:Type}{z:a}{f g:EN→List a→a×Int}{e:List EN}(h:∀n∈e,∀l,f n l=g n l):Cy z f e=Cy z g e:=by
 have key:∀(m:List EN) k st,(∀n∈m,∀l,f n l=g n l)→dp (sd f) m k st=dp (sd g) m k st:=by
  intro m;induction m with
  |nil=>intro k st _;rfl
  |cons n m d=>
   intro k st b;have c:sd f k n st=sd g k n st:=by
    unfold sd;simp only[b n (by simp)]
   simp only[dp,c];cases sd g k n st with
   |inl t=>exact d _ _ (fun x i=>b x (by simp[i]))
   |inr r=>rfl
 unfold Cy;rw[key e 0 [] h]
theorem ahj{ac:List Int}(h:ac.any Bf=false):∀x∈ac,k03 x:=fun x a=>by
 have:Bf x=false:=by
  cases hq:Bf x
  ·rfl
  exact absurd (cB.2 ⟨x,a,hq⟩) (by rw[h];simp)
 unfold Bf at this;simp at this;exact⟨by omega,by omega⟩
theorem ZT{own:List Int}(h:∀x∈own,k03 x)(p:Nat):k03 (own.getD p 0):=by
 rw[aR];cases hp:own[p]? with
 |none=>exact⟨by decide,by decide⟩
 |some x=>exact h x (aN hp)
theorem Ox{f:EN→List Int→Int×Int}:∀(e:List EN),(∀n∈e,∀l,(f n l).2=0→k03 (f n l).1)→∀k st a,(∀x∈st,k03 x)→dp (sd f) e k st=.inl a→∀x∈a,k03 x
 |[],_,k,st,a,h,b=>by simp only[dp]at b;cases b;exact h
 |n::e,g,k,st,a,h,b=>by
  simp only[dp]at b;unfold sd at b;split at b
  ·rename_i m d;split at d
   ·rename_i i;cases d;refine Ox e (fun n j=>g n (by simp[j])) _ _ _ (fun x c=>?_) b;rcases ba.1 c with c|c
    ·exact h x (cT c)
    rw[aP.1 c];exact g n (by simp) _ i
   cases d
  cases b
theorem MK{e:List EN}{ac:List Int}(h:(eI e ac).2=0):k03 (eI e ac).1:=by
 unfold eI at h ⊢;by_cases j:wn e=false
 ·rw[if_pos j]at h;cases h
 rw[if_neg j]at h ⊢;by_cases i:ac.any Bf=true
 ·rw[if_pos i]at h;cases h
 rw[if_neg i]at h ⊢;by_cases m:((nT e).any fun c=>decide ((ac.length:Int)≤c))=true
 ·rw[if_pos m]at h;cases h
 rw[if_neg m]at h ⊢;have g:=ahj (by simpa using i);have b:∀n∈e,∀l,(uB ac n l).2=0→k03 (uB ac n l).1:=fun n p l d=>by
  have a:=I9 (by simpa using j) p;unfold uB at d ⊢;by_cases f:n.tag=1
  ·simp only[if_pos f];unfold iA at a;rw[if_pos f]at a;simp at a;exact acb a.1
  simp only[if_neg f]at d ⊢;by_cases o:n.tag=2
  ·simp only[if_pos o];exact ZT g _
  simp only[if_neg o]at d ⊢;have key:∀(c:Prop) [Decidable c] (x:Int),(if c then ((0:Int),(201:Int)) else (x,0)).2=0→(x=1∨x=2)→k03 (if c then ((0:Int),(201:Int)) else (x,0)).1:=fun c _ x k s=>by
   by_cases a:c
   ·rw[if_pos a]at k;cases k
   rw[if_neg a];unfold k03;simp only;omega
  exact key _ _ d (by split<;>simp)
 unfold Cy at h ⊢;cases hst:dp (sd (uB ac)) e 0 [] with
 |inl st=>
  have:=Ox e b 0 [] st (by simp) hst;cases st with
  |nil=>exact (⟨by decide,by decide⟩:k03 0)
  |cons x r=>exact this x (by simp)
 |inr q=>exact (⟨by decide,by decide⟩:k03 0)
theorem EC{e:List EN}{K G:List Int}(h:(eI e K).2=0)(o:∀x∈G,k03 x):eI e (K++G)=eI e K:=by
 unfold eI at h ⊢;by_cases d:wn e=false
 ·rw[if_pos d]at h;cases h
 rw[if_neg d]at h ⊢;by_cases g:K.any Bf=true
 ·rw[if_pos g]at h;cases h
 rw[if_neg g]at h ⊢;by_cases f:((nT e).any fun c=>decide ((K.length:Int)≤c))=true
 ·rw[if_pos f]at h;cases h
 rw[if_neg f]at h;rw[if_neg d,if_neg f];have q:¬(K++G).any Bf=true:=by
  rw[List.any_append];have:G.any Bf=false:=by
   rw[cQ];intro x m;have:=o x m;unfold k03 at this;unfold Bf;simp;omega
  rw[this];simpa using g
 have a:∀c∈nT e,c<(K.length:Int):=fun c b=>by
  have p:((nT e).any fun c=>decide ((K.length:Int)≤c))=false:=by simpa using f
  have:=cQ.1 p c b;simp at this;omega
 have r:¬((nT e).any fun c=>decide (((K++G).length:Int)≤c))=true:=by
  intro k;obtain⟨c,b,hd⟩:=cB.1 k;have:=a c b;simp at hd;omega
 rw[if_neg q,if_neg r];refine Pd fun n j l=>?_;unfold uB;by_cases i:n.tag=2
 ·have b:=a _ (JY j i);have t:=(Ik (I9 (by simpa using d) j) i).1;have s:n.col.toNat < K.length:=by omega
  have:(K++G).getD n.col.toNat 0=K.getD n.col.toNat 0:=by
   rw[aR,aS s,←List.getD_eq_getElem?_getD]
  simp only[this]
 simp only[if_neg i]
theorem Qm{e:List EN}{K G:List Int}(h:jE e K=true)(b:∀x∈G,k03 x):jE e (K++G)=true:=by
 have a:(eI e K).2=0:=by
  unfold jE at h;simp at h;exact h.1
 unfold jE;rw[EC a b];exact h
theorem Zj{K:List Int}{g:ll}(h:(Dw K g).1=true):k03 (uY K g):=by
 have a:=h;unfold Dw at a;unfold uY;by_cases b:g.tag=1
 ·rw[if_pos (.inl b)];exact⟨by decide,by decide⟩
 rw[if_neg b]at a;simp only[ax,aX]at a;have c:=MK a.1.1.1;split
 ·exact⟨by decide,by decide⟩
 split
 ·exact c
 exact⟨by decide,by decide⟩
end Go.AM
namespace Go.AM
open P
set_option maxHeartbeats 64000000
set_option maxRecDepth 40000
attribute [local simp] aG bd
abbrev U4(r:EN):EN:=⟨r.tag,-1,-1,r.col,r.v⟩
theorem ai3(root:EN)(b:Bool):bB I.qcb [root.a,.aa b []]=some (fy [jq (if wn [U4 root] then [U4 root] else []),ap (if wn [U4 root] then 0 else 200)]):=by
 have e:root.a=aI [ap root.tag,ap root.l,ap root.r,ap root.col,ap root.v.k,ap root.v.n,.int .u64 root.v.u,aO root.v.s]:=rfl;have c:bB I.qbz [root.a,.aa b []]=some (jq [U4 root]):=Ab root b [] [] (-1) (-1) (by simp) rfl;have f:=TB [U4 root] (by simp);have loop:bU code 2 [4,5,6,12,13] xB ⟨[root.a,.aa b [],aH 0 0 0 0,aH 1 0 0 0,am,am,am,am,am,.aa b [],ap 0,ap 0,am,am,am],[aB 8 0 [root.a],aB 1 0 [aI [.ai]]]⟩=some (.ext 0,⟨[root.a,.aa b [],aH 0 0 0 0,aH 1 0 0 0,am,am,am,am,am,.aa b [],ap 0,ap 0,aC false,am,am],[aB 8 0 [root.a],aB 1 0 [aI [.ai]]]⟩):=by
  rw[aZ];simp[xB]
 rw[aT aeJ rfl];have d:jq [U4 root]=aI [.aa false [aI [ap root.tag,ap (-1),ap (-1),ap root.col,ap root.v.k,ap root.v.n,.int .u64 root.v.u,aO root.v.s]]]:=rfl;have a:bB I.qbo [aI [.aa false [aI [ap root.tag,ap (-1),ap (-1),ap root.col,ap root.v.k,ap root.v.n,.int .u64 root.v.u,aO root.v.s]]]]=some (ap (if wn [U4 root] then 0 else 200)):=f;rw[d]at c;cases ho:wn [U4 root] with
 |true=>
  rw[ho]at a;simp only[cw,d];rw[e]at c loop ⊢;simp[arX,J9,loop,c,a]
 |false=>
  rw[ho]at a;rw[e]at c loop ⊢;simp[arX,J9,loop,c,a]
theorem ahk(root:EN):bB I.qbs [root.a]=some (fy [jq (if wn [U4 root] then [U4 root] else []),ap (if wn [U4 root] then 0 else 200)]):=by
 have h:=ai3 root false;have a:root.a=aI [ap root.tag,ap root.l,ap root.r,ap root.col,ap root.v.k,ap root.v.n,.int .u64 root.v.u,aO root.v.s]:=rfl;rw[aT ahd rfl];rw[a]at h ⊢;generalize (if wn [U4 root] then [U4 root] else [])=es at *;simp[asF,aaq,h]
abbrev wy(i:Nat):List EN:=[⟨2,-1,-1,i,zE⟩]
theorem WC{K:List Int}(g:∀x∈K,k03 x){i:Nat}(hi:i<K.length)(j:wn (wy i)=true):eI (wy i) K=(K.getD i 0,0):=by
 unfold eI;rw[if_neg (by rw[j];simp)];have f:¬K.any Bf=true:=by
  intro h;obtain⟨x,k,a⟩:=cB.1 h;have:=g x k;unfold k03 at this;unfold Bf at a;simp at a;omega
 rw[if_neg f];have l:¬((nT (wy i)).any fun c=>decide ((K.length:Int)≤c))=true:=by
  intro h;obtain⟨c,d,hd⟩:=cB.1 h;obtain⟨n,e,_,b⟩:=Wx d;rw[aP.1 e]at b;simp at hd b;omega
 rw[if_neg l];simp[Cy,dp,sd,uB,dv]
def Bu(its:List (List EN))(K:List Int):Prop:=∀it∈its,it.length≤1000∧(eI it K).2=0
theorem Bu.snoc{a:List (List EN)}{K:List Int}(h:Bu a K){es:List EN}(c:es.length≤1000)(b:(eI es K).2=0):Bu (a++[es]) K:=by
 intro it hit;rcases ba.1 hit with hit|hit
 ·exact h it hit
 rw[aP.1 hit];exact⟨c,b⟩
theorem Bu.ext{a:List (List EN)}{K G:List Int}(h:Bu a K)(b:∀x∈G,k03 x):Bu a (K++G):=fun it hit=>⟨(h it hit).1,by rw[EC (h it hit).2 b];exact (h it hit).2⟩
abbrev Wt(n:Nat)(S:fJ)(es:List EN)(τ:aw):aw:=((τ++[Obj.arr 1 0 [jq es]]).set (n+8) (aB 1 (S.items.length+1) (S.items.map jq++[jq es]))).set (n+3) (aB 25 0 [aI (iJ n { S with items:=S.items++[es] })])
theorem T9{τ:aw}{n:Nat}{S:fJ}(h:SA τ n S)(es:List EN):SA (Wt n S es τ) n { S with items:=S.items++[es] }∧Fr n τ (Wt n S es τ):=
 ⟨(h.app _).two 8 (by omega) _ _ (by simp[BA]),((Fr.app n τ _).setIn _ _ (by omega)).setIn _ _ (by omega)⟩
abbrev Dy(n:Nat)(e1 e2 e3 e4 e5 e6 e7 e8 e9 e10 e11 e12 e13 e14 e15 e16 e17 e18:aq):List aq:=[aH (n+3) 0 0 0,e1,e2,e3,e4,e5,e6,e7,e8,e9,e10,e11,e12,e13,e14,e15,e16,e17,e18]
noncomputable abbrev stR(n:Nat)(N k base:Nat)(τ:aw):Option (Ex×St):=bU code base [9999,1,2,3,4,12,13] wQ ⟨Dy n am am am am am am am (aC false) (aC true) (ap N) (ap k) am am am am am am am,τ⟩
def UE(n:Nat)(τ:aw)(r:Option (Ex×St)):Prop:=∃(e:Int) (env:List aq) (τ':aw) (S':fJ),r=some (.ret,⟨env,τ'⟩)∧e≠0∧env[1]?=some (ap e)∧SA τ' n S'∧Fr n τ τ'
theorem XM{τ:aw}{n:Nat}{S:fJ}(h:SA τ n S)(r:S.items.length≤100)(N k base:Nat)(t:k<N)(s:N≤100) :
  UE n τ (stR n N k base τ)∨(wn (wy k)=true∧stR n N k base τ=stR n N (k+1) base (Wt n S (wy k) τ)):=by
 have b:(k:Int)<(N:Int):=by omega
 have l:IntKind.i64.wrap ((k:Int)+1)=(k:Int)+1:=rJ (by omega) (by omega);have a:=ahk ⟨2,0,0,k,zE⟩;have f:(⟨2,0,0,k,zE⟩:EN).a=aI [ap 2,ap 0,ap 0,ap k,ap 0,ap 0,.int .u64 0,aO []]:=rfl;rw[f]at a;have o:U4 ⟨2,0,0,k,zE⟩=⟨2,-1,-1,k,zE⟩:=rfl;rw[o]at a;unfold stR;cases ho:wn (wy k) with
 |false=>
  left;rw[ho]at a;simp only[bq,cI]at a;have:∃env,bU code base [9999,1,2,3,4,12,13] wQ ⟨Dy n am am am am am am am (aC false) (aC true) (ap N) (ap k) am am am am am am am,τ⟩=some (.ret,⟨env,τ++[aB 1 0 [jq []]]⟩)∧env[1]?=some (ap 200):=by
   rw[aZ];exact⟨_,by simp[wQ,b,a];rfl,rfl⟩
  obtain⟨env,m,j⟩:=this;exact⟨200,env,_,S,m,by omega,j,h.app _,Fr.app n τ _⟩
 |true=>
  right;refine⟨rfl,?_⟩;rw[ho]at a;simp only[cw]at a;change _=some (aq.tup [jq (wy k),ap 0]) at a;have g:=h.len;have d:=h.at3 [Obj.arr 1 0 [jq (wy k)]];have p:=h.at8 [Obj.arr 1 0 [jq (wy k)]];have i:((τ++[Obj.arr 1 0 [jq (wy k)]]).set (n+8) (aB 1 (S.items.length+1) (S.items.map jq++[jq (wy k)])))[n+3]?=some (aB 25 0 [aI (iJ n S)]):=by rw[aD (by omega)];exact d
  have e:List.take S.items.length (S.items.map jq)=S.items.map jq:=ay (by simp);have c:S.items.length+1≤bC:=by unfold bC;omega
  rw[aZ];have q:((k+1:Nat):Int)=(k:Int)+1:=by omega
  simp only[iJ,Dy,q,Wt]at d i ⊢;generalize wy k=es at *;simp[wQ,b,a,d,p,i,append,e,c,l,ff]
theorem ac2{n:Nat}(N base:Nat)(u:N≤100):∀(m k:Nat) (τ:aw) (S:fJ),k+m=N→SA τ n S→S.items=(List.range k).map wy→(∀i,i<k→wn (wy i)=true) →
  UE n τ (stR n N k base τ)∨∃c,stR n N k base τ=some (.ext 0,⟨Dy n am am am am am am am (aC false) (aC true) (ap N) (ap N) (aC false) am am am am am am,c⟩)∧SA c n { S with items:=(List.range N).map wy }∧(∀i,i<N→wn (wy i)=true)∧Fr n τ c:=by
 intro m;induction m with
 |zero=>
  intro k τ S l h hi j;have l:k=N:=by omega
  subst l;right;refine⟨τ,?_,by rw[←hi];exact h,j,Fr.rfl' n τ⟩;unfold stR;rw[aZ];simp[wQ]
 |succ m r=>
  intro k τ S l h hi j;have v:S.items.length=k:=by rw[hi];simp
  rcases XM h (by omega) N k base (by omega) u with o|⟨w,p⟩
  ·exact .inl o
  obtain⟨t,q⟩:=T9 h (wy k);have g:S.items++[wy k]=(List.range (k+1)).map wy:=by rw[hi,List.range_succ];simp
  rcases r (k+1) _ _ (by omega) t g (fun i s=>by
   by_cases e:i=k
   ·rw[e];exact w
   exact j i (by omega)) with o|⟨τ2,q2,s2,o2,f2⟩
  ·left;obtain⟨e,env,c,S',a,b,c',d,f⟩:=o;exact⟨e,env,c,S',p.trans a,b,c',d,q.trans f⟩
  right;exact⟨τ2,p.trans q2,s2,o2,q.trans f2⟩
noncomputable abbrev imR(n:Nat)(L:List pY)(k base:Nat)(y2 y3 y4 y8 y9 y10 y11 y12 y13:aq)(τ:aw):Option (Ex×St):=bU code base [9999,1,5,6,7,17,18] w9 ⟨Dy n am y2 y3 y4 am am am y8 y9 y10 y11 y12 y13 (.aa false (L.map pY.a)) (ap L.length) (ap k) am am,τ⟩
theorem ZF{τ:aw}{n:Nat}{S:fJ}(h:SA τ n S)(R:ey τ n S)(O:wc S)(Y:S.ac.length≤8000)(hI:S.items.length≤100)(L:List pY)(k:Nat)(x:pY)(v:L[k]?=some x)(hL:L.length≤8000)(U:mv x.ns)(base:Nat)(z y3 y4 s y c a b y13:aq) :
  UE n τ (imR n L k base z y3 y4 s y c a b y13 τ)∨∃(f:aw) (es:List EN) (A:List kP) (G:List Int),imR n L k base z y3 y4 s y c a b y13 τ=imR n L (k+1) base z y3 y4 s y c a b y13 f∧SA f n { S with ah:=S.ah++A,groups:=S.groups++G,items:=S.items++[es] }∧wc { S with ah:=S.ah++A,groups:=S.groups++G }∧es.length≤1000∧(eI es (if S.grouped then S.groups++G else S.ac)).2=0∧(S.grouped=false→A=[]∧G=[])∧Fr n τ f:=by
 have i:=(ak.1 v).1;have l:(k:Int)<(L.length:Int):=by omega
 have m:∀h:k<L.length,L[k]'h=x:=fun h=>(ak.1 v).2;have X:=cW i (by unfold bC;omega:L.length≤bC);have q:x.a=aI [.aa false (x.ns.map eP.a),aO x.as']:=rfl;have p:=h.len;obtain⟨o,kk,e,τ1,A,G,t,H,u,J,D,k1⟩:=KM (h.app [aB 2 0 [aI [.aa false (x.ns.map eP.a),aO x.as']]]) (R.app _) O U Y S.grouped;have w:=h.at3;have g:=J.kp τ.length _ (.inr p) (by simp:(τ++[Obj.arr 2 0 [aI [.aa false (x.ns.map eP.a),aO x.as']]])[τ.length]?=some (aB 2 0 [aI [.aa false (x.ns.map eP.a),aO x.as']]));have d:=fq g;have r:=u.at3;have E:=vq (o.map (·.map EN.a));have j:Fr n τ τ1:=(Fr.app n τ _).trans J;unfold imR;by_cases C:e=0
 rotate_left
 ·left;have:∃env,bU code base [9999,1,5,6,7,17,18] w9 ⟨Dy n am z y3 y4 am am am s y c a b y13 (.aa false (L.map pY.a)) (ap L.length) (ap k) am am,τ⟩=some (.ret,⟨env,τ1++[Obj.arr 1 0 [oH o]]⟩)∧env[1]?=some (ap e):=by
   rw[aZ];simp only[oH,iJ]at t w r ⊢;generalize sv (o.map (·.map EN.a))=ov at *;exact⟨_,by simp[w9,l,i,v,m,q,w,r,t,g,d,E,C];rfl,rfl⟩
  obtain⟨env,T,Q⟩:=this;exact⟨e,env,_,_,T,C,Q,u.app _,j.trans (Fr.app n τ1 _)⟩
 subst C;right;obtain⟨W,V,K⟩:=k1 rfl;obtain⟨es,rfl⟩:=dc.1 V;obtain⟨P,N⟩:=T9 u es;refine⟨Wt n { S with ah:=S.ah++A,groups:=S.groups++G } es τ1,es,A,G,?_,P,W,H,by simp only[dd]at K;rw[K],D,j.trans N⟩;have I:oH (some es)=jq es:=rfl;rw[I]at t;have Z:=u.at8 [Obj.arr 1 0 [jq es]];have M:((τ1++[Obj.arr 1 0 [jq es]]).set (n+8) (aB 1 (S.items.length+1) (S.items.map jq++[jq es])))[n+3]?=some (aB 25 0 [aI (iJ n { S with ah:=S.ah++A,groups:=S.groups++G })]):=by rw[aD (by omega)];exact r _
 have F:List.take S.items.length (S.items.map jq)=S.items.map jq:=ay (by simp);have B:S.items.length+1≤bC:=by unfold bC;omega
 rw[aZ];have ek:((k+1:Nat):Int)=(k:Int)+1:=by omega
 simp only[iJ,Dy,ek,Wt]at w r M ⊢;simp[w9,l,i,v,m,q,w,r,Z,M,t,g,d,append,F,B,X,ff]
theorem wc.k03{S:fJ}(h:wc S)(d:∀x∈S.ac,k03 x):∀x∈S.groups,k03 x:=by
 rw[h.gr];intro x a;rcases ba.1 a with a|a
 ·obtain⟨k,c,rfl⟩:=bK.1 a;obtain⟨f,k1⟩:=h.kr k c;have b:k.toNat < S.ac.length:=by omega
  simp only[aR,au b,dd];exact d _ (aJ b)
 obtain⟨g,e,rfl⟩:=bK.1 a;exact Zj (h.ag g e)
abbrev mD(S:fJ):List Int:=if S.grouped then S.groups else S.ac
theorem aed{n:Nat}(L:List pY)(N:L.length≤6)(H:∀x∈L,mv x.ns)(base:Nat)(s y3 y4 q r j l i y13:aq):∀(m k:Nat) (τ:aw) (S:fJ),k+m=L.length→SA τ n S→ey τ n S→wc S→S.ac.length≤8000→(∀x∈S.ac,k03 x)→S.items.length≤20+k→Bu S.items (mD S) →
  UE n τ (imR n L k base s y3 y4 q r j l i y13 τ)∨∃(c:aw) (g:List (List EN)) (A:List kP) (G:List Int),imR n L k base s y3 y4 q r j l i y13 τ=some (.ext 2,⟨Dy n am s y3 y4 am am am q r j l i y13 (.aa false (L.map pY.a)) (ap L.length) (ap L.length) (aC false) am,c⟩)∧SA c n { S with ah:=S.ah++A,groups:=S.groups++G,items:=g }∧wc { S with ah:=S.ah++A,groups:=S.groups++G }∧Bu g (if S.grouped then S.groups++G else S.ac)∧g.length+k=S.items.length+L.length∧(S.grouped=false→A=[]∧G=[])∧Fr n τ c:=by
 intro m;induction m with
 |zero=>
  intro k τ S B h v u w o hi hit;have B:k=L.length:=by omega
  subst B;right;refine⟨τ,S.items,[],[],?_,by simpa using h,by simpa using u,by simpa using hit,by omega,fun _=>⟨rfl,rfl⟩,Fr.rfl' n τ⟩;unfold imR;rw[aZ];simp[w9]
 |succ m I=>
  intro k τ S B h v u w o hi hit;have y:=au (show k<L.length by omega);rcases ZF h v u w (by omega) L k _ y (by omega) (H _ (aJ _)) base s y3 y4 q r j l i y13 with C|⟨τ1,es,A,G,D,M,E,K,k1,J,t⟩
  ·exact .inl C
  have z:∀x∈G,k03 x:=fun x y=>E.k03 o x (ba.2 (.inr y));have p:Bu (S.items++[es]) (if S.grouped then S.groups++G else S.ac):=by
   refine Bu.snoc ?_ K k1;cases hgr:S.grouped with
   |false=>simpa [mD,hgr] using hit
   |true=>
    have:Bu S.items S.groups:=by simpa [mD,hgr] using hit
    simpa using this.ext z
  rcases I (k+1) τ1 _ (by omega) M (v.fr t rfl rfl rfl rfl) (E.of rfl rfl rfl rfl) w o (by simp;omega) p with C|⟨τ2,g,A2,G2,q2,s2,g2,i2,l2,n2,f2⟩
  ·left;obtain⟨e,env,c,S',a,b,c',d,f⟩:=C;exact⟨e,env,c,S',D.trans a,b,c',d,t.trans f⟩
  right;refine⟨τ2,g,A++A2,G++G2,D.trans q2,by simpa using s2,?_,by simpa using i2,?_,?_,t.trans f2⟩
  ·have:=g2.of (S':={ S with ah:=S.ah++(A++A2),groups:=S.groups++(G++G2) }) rfl (by simp) rfl (by simp);exact this
  ·simp only[bZ,bA,bD]at l2;omega
  intro F;obtain⟨rfl,rfl⟩:=J F;obtain⟨rfl,rfl⟩:=n2 F;exact⟨rfl,rfl⟩
def mE(s:mI):Bool:=decide (0<(s.group.getD []).length) ||(decide (0<(s.having.getD []).length) ||(s.items.getD []).any fun x=>Sq x.ns)
theorem Q8{σ:aw}{n:Nat}{S:fJ}(h:SA σ n S):∃a,run code (.seq mh (.seq mB mq)) ⟨Dy n am am am am am am am am am am am am am am am am am am,σ⟩=run code jz ⟨Dy n i0 am am am am am am am am am am am am am am am am am,a⟩∧SA a n { S with at':=4,distinct:=S.fr.distinct,grouped:=mE S.fr }∧Fr n σ a:=by
 have e:=h.len;have l:n+3<σ.length:=by omega
 have f:σ[n+3]?=some (aB 25 0 [aI (iJ n S)]):=by simpa using h.at3 []
 have k:SA (σ.set (n+3) (aB 25 0 [aI (iJ n { S with at':=4 })])) n { S with at':=4 }:=h.put rfl;have m:SA ((σ.set (n+3) (aB 25 0 [aI (iJ n { S with at':=4 })])).set (n+3) (aB 25 0 [aI (iJ n { S with at':=4,distinct:=S.fr.distinct })])) n { S with at':=4,distinct:=S.fr.distinct }:=k.put rfl;have g:SA (((σ.set (n+3) (aB 25 0 [aI (iJ n { S with at':=4 })])).set (n+3) (aB 25 0 [aI (iJ n { S with at':=4,distinct:=S.fr.distinct })])).set (n+3) (aB 25 0 [aI (iJ n { S with at':=4,distinct:=S.fr.distinct,grouped:=mE S.fr })])) n { S with at':=4,distinct:=S.fr.distinct,grouped:=mE S.fr }:=m.put rfl;have i:∀o,(σ.set (n+3) o)[n+3]?=some o:=fun o=>by rw[aU l]
 have d:=Ws S.fr;have c:S.fr.a=aI [aC S.fr.distinct,aC S.fr.star,.aa false ((S.fr.items.getD []).map pY.a),aO S.fr.table,aO S.fr.as',.aa false (S.fr.joins.map pb.a),gQ (S.fr.whr.getD []),gQ (S.fr.having.getD []),.aa false ((S.fr.group.getD []).map uV.a)]:=rfl;rw[c]at d;have b:(decide (0<(S.fr.group.getD []).length) ||(decide (0<(S.fr.having.getD []).length) ||(S.fr.items.getD []).any fun x=>Sq x.ns))=mE S.fr:=rfl;rw[b]at d;simp only[ew]at g;refine⟨σ.set (n+3) (aB 25 0 [aI (iJ n { S with at':=4,distinct:=S.fr.distinct,grouped:=mE S.fr })]),?_,g,(Fr.rfl' n σ).setIn _ _ (by omega)⟩;have j:mq=.seq mx jz:=rfl;rw[j];simp only[iJ]at f ⊢;generalize mE S.fr=p at *;simp[mh,mB,mx,f,i,d]
theorem OR{σ:aw}{n:Nat}{S:fJ}(h:SA σ n S)(hM:ey σ n S)(hg:wc S)(hK:S.ac.length≤20)(y:∀x∈S.ac,k03 x)(t:S.items=[])(w:S.fr.star=((S.fr.items.getD []).length==0))(hO:∀x∈S.fr.items.getD [],mv x.ns) :
  PhR σ n S (fun S'=>∃(b:List (List EN)) (A:List kP) (G:List Int),S'={ S with at':=4,distinct:=S.fr.distinct,grouped:=mE S.fr,ah:=S.ah++A,groups:=S.groups++G,items:=b }∧wc S'∧Bu b (mD S')∧b.length=(if S.fr.star then S.ac.length else (S.fr.items.getD []).length)∧(mE S.fr=false→A=[]∧G=[])∧(S.fr.star=true→mE S.fr=false)) (cC code I.qaj [aH (n+3) 0 0 0] σ):=by
 obtain⟨a,q0,u,s⟩:=Q8 h;have hE:arA.body=.seq mh (.seq mB mq):=rfl;have M:[aq.ptr (n+3) 0 0 0].take arA.np++List.replicate (arA.nenv-arA.np) aq.any=Dy n am am am am am am am am am am am am am am am am am am:=rfl;rw[cz aj3 rfl,hE,M,q0];have J:=S.fr.hi;have M1:ey a n { S with at':=4,distinct:=S.fr.distinct,grouped:=mE S.fr }:=hM.fr s rfl rfl rfl rfl;have e3:jz=.seq fR (.seq fS (.seq gW jC)):=rfl;have l:a[n+3]?=some (aB 25 0 [aI (iJ n { S with at':=4,distinct:=S.fr.distinct,grouped:=mE S.fr })]):=by simpa using u.at3 []
 have a9:a[n+9]?=some (aB 1 S.ac.length (eA S.ac)):=by simpa using u.at9 []
 have tail:∀(τ:aw) (c:List (List EN)) (F W r o q y1:aq),SA τ n { S with at':=4,distinct:=S.fr.distinct,grouped:=mE S.fr,items:=c }→Fr n a τ→c.length≤20→Bu c (if mE S.fr then S.groups else S.ac) →
   PhR σ n S (fun S'=>∃(b:List (List EN)) (A:List kP) (G:List Int),S'={ S with at':=4,distinct:=S.fr.distinct,grouped:=mE S.fr,ah:=S.ah++A,groups:=S.groups++G,items:=b }∧wc S'∧Bu b (mD S')∧b.length=c.length+(S.fr.items.getD []).length∧(mE S.fr=false→A=[]∧G=[])) (wI arA.res (run code (.seq gW jC) ⟨Dy n y1 am am am am am am F W r o q am am am am am am,τ⟩)):=by
  intro τ c F W r o q y1 hs Z hl X;have z:τ[n+3]?=some (aB 25 0 [aI (iJ n { S with at':=4,distinct:=S.fr.distinct,grouped:=mE S.fr,items:=c })]):=by simpa using hs.at3 []
  have H:ey τ n { S with at':=4,distinct:=S.fr.distinct,grouped:=mE S.fr,items:=c }:=hM.fr (s.trans Z) rfl rfl rfl rfl;have d:=aed (S.fr.items.getD []) J hO τ.length am am am F W r o q am (S.fr.items.getD []).length 0 τ _ (by omega) hs H (hg.of rfl rfl rfl rfl) (by show S.ac.length≤8000;omega) y (by show c.length≤20+0;omega) X;unfold imR at d;simp only[bj]at d;rcases d with⟨e,env,j,S',k,K,L,f,g⟩|⟨j,b,A,G,k,f,ab,P,Y,T,g⟩
  ·refine⟨e,j,S',?_,f,(s.trans Z).trans g,fun m=>absurd m K⟩;simp only[iJ,Dy]at z k ⊢;simp[arA,gW,z,k,L]
  refine⟨0,j,_,?_,f,(s.trans Z).trans g,fun _=>⟨b,A,G,rfl,ab.of rfl rfl rfl rfl,?_,by simpa using Y,T⟩⟩
  ·simp only[iJ,Dy]at z k ⊢;simp[arA,gW,jC,qQ,qC,z,k]
  simpa [mD] using P
 rw[e3,fA];cases hstar:S.fr.star with
 |false=>
  have q3:run code fR ⟨Dy n i0 am am am am am am am am am am am am am am am am am,a⟩=some (.nrm,⟨Dy n i0 am am am am am am (aC false) am am am am am am am am am am,a⟩):=by
   simp only[iJ,Dy,hstar]at l ⊢;simp[fR,l]
  have V:run code fS ⟨Dy n i0 am am am am am am (aC false) am am am am am am am am am am,a⟩=some (.nrm,⟨Dy n i0 am am am am am am (aC false) (aC false) am am am am am am am am am,a⟩):=by
   simp only[iJ,Dy,hstar]at l ⊢;simp[fS,l]
  rw[q3,bW,fA,V,bW];obtain⟨e,p,S',k,f,g,C⟩:=tail a [] (aC false) (aC false) am am am i0 (by rw[←t];exact u) (Fr.rfl' n a) (by simp) (fun it hit=>by cases hit);refine⟨e,p,S',k,f,g,fun m=>?_⟩;obtain⟨b,A,G,B,O,c3,U,c5⟩:=C m;exact⟨b,A,G,B,O,c3,by simpa using U,c5,fun h=>by cases h⟩
 |true=>
  rw[hstar]at w;have N:S.fr.items.getD []=[]:=cS.1 (by simpa using w.symm);cases hgr:mE S.fr with
  |true=>
   refine⟨227,a,{ S with at':=4,distinct:=S.fr.distinct,grouped:=mE S.fr },?_,u,s,fun m=>by cases m⟩;simp only[iJ,Dy,hstar,hgr]at l ⊢;simp[arA,fR,l]
  |false=>
   have q3:run code fR ⟨Dy n i0 am am am am am am am am am am am am am am am am am,a⟩=some (.nrm,⟨Dy n i0 am am am am am am (aC false) am am am am am am am am am am,a⟩):=by
    simp only[iJ,Dy,hstar,hgr]at l ⊢;simp[fR,l]
   rw[q3,bW,fA];have d:=ac2 (n:=n) S.ac.length a.length (by omega) S.ac.length 0 a _ (by omega) u (by show S.items=_;rw[t];rfl) (fun i hi=>by omega);unfold stR at d;simp only[bj]at d;rcases d with⟨e,env,j,S',k,K,L,f,g⟩|⟨j,k,f,E,g⟩
   ·refine⟨e,j,S',?_,f,s.trans g,fun m=>absurd m K⟩;simp only[iJ,Dy,hstar]at l k ⊢;simp[arA,fS,l,a9,k,L]
   have V:run code fS ⟨Dy n i0 am am am am am am (aC false) am am am am am am am am am am,a⟩=some (.nrm,⟨Dy n am am am am am am am (aC false) (aC true) (ap S.ac.length) (ap S.ac.length) (aC false) am am am am am am,j⟩):=by
    simp only[iJ,Dy,hstar]at l k ⊢;simp[fS,l,a9,k]
   rw[V,bW]
   obtain⟨e,p,S',Q,R,D,C⟩:=tail j ((List.range S.ac.length).map wy) (aC false) (aC true) (ap S.ac.length) (ap S.ac.length) (aC false) am f g (by simpa using hK) (by
    rw[hgr];intro it hit;obtain⟨i,hi,rfl⟩:=bK.1 hit;have v:=gq.1 hi;exact⟨by simp,by simp only[bq,cI];rw[WC y v (E i v)]⟩)
   refine⟨e,p,S',Q,R,D,fun m=>?_⟩;obtain⟨b,A,G,B,O,c3,U,c5⟩:=C m;rw[hgr]at B c5;exact⟨b,A,G,B,O,c3,by rw[U,N];simp,c5,fun _=>rfl⟩
abbrev alF(n:Nat):aq:=aI [.fn 142 [aH (n+3) 0 0 0] [],.fn 146 [aH (n+3) 0 0 0] [],.fn 147 [aH (n+3) 0 0 0] [],.fn 149 [aH (n+3) 0 0 0] [],.fn 150 [aH (n+3) 0 0 0] [],.fn 168 [aH (n+3) 0 0 0] []]
abbrev alE(n:Nat)(e2 e3:aq)(k:Nat)(e6 e7:aq):List aq:=[aH (n+3) 0 0 0,i0,e2,e3,alF n,ap k,e6,e7]
noncomputable abbrev alR(n:Nat)(k base:Nat)(e2:aq)(τ:aw):Option (Ex×St):=bU code base [9999,3,6,7] IS ⟨alE n e2 am k am am,τ⟩
theorem Km{n:Nat}{τ a:aw}(k f base:Nat)(d:aq)(g:(k=0∧f=142)∨(k=1∧f=146)∨(k=2∧f=147)∨(k=3∧f=149)∨(k=4∧f=150)∨(k=5∧f=168))(h:cC code f [aH (n+3) 0 0 0] τ=some (ap 0,a)):alR n k base d τ=alR n (k+1) base i0 a:=by
 have j:IntKind.i64.wrap 1=1:=rfl;have b:IntKind.i64.wrap 2=2:=rfl;have c:IntKind.i64.wrap 3=3:=rfl;have e:IntKind.i64.wrap 4=4:=rfl;have i:IntKind.i64.wrap 5=5:=rfl;have l:IntKind.i64.wrap 6=6:=rfl;unfold alR;rw[aZ];rcases g with⟨rfl,rfl⟩|⟨rfl,rfl⟩|⟨rfl,rfl⟩|⟨rfl,rfl⟩|⟨rfl,rfl⟩|⟨rfl,rfl⟩<;>(simp[IS,h,j,b,c,e,i,l,ff];rfl)
theorem zO{n:Nat}{τ a:aw}(k f base:Nat)(b:aq)(e:Int)(d:e≠0)(c:(k=0∧f=142)∨(k=1∧f=146)∨(k=2∧f=147)∨(k=3∧f=149)∨(k=4∧f=150)∨(k=5∧f=168))(h:cC code f [aH (n+3) 0 0 0] τ=some (ap e,a)):∃env,alR n k base b τ=some (.ext 0,⟨env,a⟩)∧env[2]?=some (ap e)∧env.length=8:=by
 unfold alR;rw[aZ];rcases c with⟨rfl,rfl⟩|⟨rfl,rfl⟩|⟨rfl,rfl⟩|⟨rfl,rfl⟩|⟨rfl,rfl⟩|⟨rfl,rfl⟩<;>exact⟨_,by simp[IS,h,d];rfl,rfl,rfl⟩
theorem ajf{n:Nat}{τ:aw}(base:Nat):alR n 6 base i0 τ=some (.ext 0,⟨alE n i0 am 6 (aC false) am,τ⟩):=by
 unfold alR;rw[aZ];simp[IS]
def AlR(σ:aw)(n:Nat)(Q:aw→fJ→Prop)(r:Option (Ex×St)):Prop:=∃(e:Int) (env:List aq) (τ:aw) (S':fJ),r=some (.ext 0,⟨env,τ⟩)∧env[2]?=some (ap e)∧env.length=8∧SA τ n S'∧Fw n σ τ∧(e=0→Q τ S')
theorem AlR.bad{σ τ:aw}{n:Nat}{S':fJ}{Q:aw→fJ→Prop}{r:Option (Ex×St)}{e:Int}(g:e≠0)(h:∃env,r=some (.ext 0,⟨env,τ⟩)∧env[2]?=some (ap e)∧env.length=8)(d:SA τ n S')(c:Fw n σ τ):AlR σ n Q r:=by
 obtain⟨env,b,i,f⟩:=h;exact⟨e,env,τ,S',b,i,f,d,c,fun a=>absurd a g⟩
structure wH (s:mI):Prop where
 star:s.star=((s.items.getD []).length==0)
 items:∀x∈s.items.getD [],mv x.ns
 joins:∀x∈s.joins,mv x.on
 whr:s.whr.getD []=[]∨mv (s.whr.getD [])
 having:s.having.getD []=[]∨mv (s.having.getD [])
structure CtK (c:List cL):Prop extends CtOk c where
 k3:∀tb∈c,∀x∈tb.af,1≤x.kind∧x.kind≤3
theorem aiw{c:List cL}(h:CtK c)(d:List Int):∀x∈yj c d,1≤x∧x≤3:=by
 intro x a;obtain⟨t,_,a⟩:=lw.1 a;cases htb:c[t.toNat]? with
 |none=>simp[Ag,htb]at a
 |some tb=>
  simp only[Ag,htb,dK,dd,cL.ac]at a;obtain⟨y,b,rfl⟩:=bK.1 a;exact h.k3 tb (aN htb) y b
structure Bm (S:fJ):Prop where
 js:Hf S.cat S.tables S.joins
 jl:S.joins.length≤2
 kd:S.ac=yj S.cat S.tables
 whr:DU S.whr S.ac
 gk:wc S
 having:DU S.having S.groups
 items:Bu S.items (mD S)
 il:S.items.length=(if S.fr.star then S.ac.length else (S.fr.items.getD []).length)
 nog:S.grouped=false→S.keys=[]∧S.ah=[]∧S.having=none∧S.groups=[]
abbrev scZ(c:List cL)(s:mI):fJ:=⟨c,s,[],[],none,none,false,false,[],[],[],[],[],0,[],[],[]⟩
theorem ahK{σ:aw}{n:Nat}{c:List cL}{s:mI}(h:SA σ n (scZ c s))(hM:ey σ n (scZ c s))(S:CtK c)(L:wH s)(base:Nat) :
  AlR σ n (fun _ S'=>Bm S'∧S'.cat=c∧S'.fr=s) (alR n 0 base i0 σ):=by
 obtain⟨e,τ1,T,c1,s1,D,k1⟩:=Qk h hM S.toCtOk (by simp) (by simp);by_cases l:e=0
 rotate_left
 ·exact AlR.bad l (zO 0 142 base i0 e l (.inl ⟨rfl,rfl⟩) c1) s1 D
 subst l;rw[Km 0 142 base i0 (.inl ⟨rfl,rfl⟩) c1];obtain⟨M1,i,a1,a2,a3,i1,i2,a⟩:=k1 rfl;have J1:Hf T.cat T.tables T.joins:=by
  rw[a];refine⟨rfl,?_,fun q j hq=>by simp at hq⟩;intro t hm;have:t=i:=by simpa using hm
  rw[this];exact⟨i1,i2⟩
 have v:T.cat=c:=by rw[a]
 obtain⟨e,a5,Y,c2,s2,F,k2⟩:=PF s1 M1 (by rw[v];exact S.toCtOk) (by rw[a];exact⟨rfl,rfl,rfl⟩) J1 (by rw[a]) (by rw[a];simp[yj]) (by rw[a];exact L.joins);by_cases l:e=0
 rotate_left
 ·exact AlR.bad l (zO 1 146 base i0 e l (.inr (.inl ⟨rfl,rfl⟩)) c2) s2 (D.trans F)
 subst l;rw[Km 1 146 base i0 (.inr (.inl ⟨rfl,rfl⟩)) c2];obtain⟨M2,z,js,b1,b2,b3,V,l2,f⟩:=k2 rfl;rw[v]at V;have ag:js.length≤2:=by rw[l2,a];exact s.hj
 have ar:=Ci S.toCtOk z V.rng;have a7:=V.len;have a6:Y.ac.length≤12:=by rw[f,a];show (yj c z).length≤12;omega
 obtain⟨e,W,S3,c3,s3,H,k3⟩:=RS s2 M2 (NoG.ok (by rw[f,a];exact⟨rfl,rfl,rfl⟩)) (by rw[f,a]) (by rw[f,a];exact L.whr) (by omega);by_cases l:e=0
 rotate_left
 ·exact AlR.bad l (zO 2 147 base i0 e l (.inr (.inr (.inl ⟨rfl,rfl⟩))) c3) s3 ((D.trans F).trans H.w)
 subst l;rw[Km 2 147 base i0 (.inr (.inr (.inl ⟨rfl,rfl⟩))) c3];obtain⟨ow,b,al⟩:=k3 rfl;have M3:ey W n S3:=M2.fr H (by rw[b]) (by rw[b]) (by rw[b]) (by rw[b]);obtain⟨e,Z,y,c4,s4,M,k4⟩:=O1 s3 M3 (by rw[b,f,a];exact⟨rfl,rfl,rfl⟩) (by rw[b];show Y.ac.length≤8000;omega);by_cases l:e=0
 rotate_left
 ·exact AlR.bad l (zO 3 149 base i0 e l (.inr (.inr (.inr (.inl ⟨rfl,rfl⟩)))) c4) s4 (((D.trans F).trans H.w).trans M.w)
 subst l;rw[Km 3 149 base i0 (.inr (.inr (.inr (.inl ⟨rfl,rfl⟩)))) c4];obtain⟨ks,gs,g,g4,l4⟩:=k4 rfl;have M4:ey Z n y:=M3.fr M (by rw[g]) (by rw[g]) (by rw[g]) (by rw[g]);have u:y.ac=yj c z:=by rw[g,b,f,a]
 have B:∀x∈y.ac,k03 x:=by
  rw[u];intro x hx;have:=aiw S z x hx;exact⟨by omega,by omega⟩
 have m:y.fr=s:=by rw[g,b,f,a]
 obtain⟨e,aj,K,c5,s5,U,k5⟩:=OR s4 M4 g4 (by rw[u];omega) B (by rw[g,b,f,a]) (by rw[m];exact L.star) (by rw[m];exact L.items);by_cases l:e=0
 rotate_left
 ·exact AlR.bad l (zO 4 150 base i0 e l (.inr (.inr (.inr (.inr (.inl ⟨rfl,rfl⟩))))) c5) s5 ((((D.trans F).trans H.w).trans M.w).trans U.w)
 subst l;rw[Km 4 150 base i0 (.inr (.inr (.inr (.inr (.inl ⟨rfl,rfl⟩))))) c5];obtain⟨af,A,G,d,g5,o,l5,n5,a4⟩:=k5 rfl;have M5:ey aj n K:=M4.fr U (by rw[d]) (by rw[d]) (by rw[d]) (by rw[d]);have E:K.ac=yj c z:=by rw[d];exact u
 have r:K.fr=s:=by rw[d];exact m
 obtain⟨e,ab,p,c6,s6,f6,k6⟩:=NN s5 M5 g5 (by rw[d,g,b,f,a]) (by rw[r];exact L.having) (by rw[E];omega);by_cases l:e=0
 rotate_left
 ·exact AlR.bad l (zO 5 168 base i0 e l (.inr (.inr (.inr (.inr (.inr ⟨rfl,rfl⟩))))) c6) s6 (((((D.trans F).trans H.w).trans M.w).trans U.w).trans f6.w)
 subst l;rw[Km 5 168 base i0 (.inr (.inr (.inr (.inr (.inr ⟨rfl,rfl⟩))))) c6,ajf];obtain⟨oh,A6,G6,k,g6,h6,z6⟩:=k6 rfl;refine⟨0,_,ab,p,rfl,rfl,rfl,s6,((((D.trans F).trans H.w).trans M.w).trans U.w).trans f6.w,fun _=>⟨?_,by rw[k,d,g,b,f,a],by rw[k];exact r⟩⟩;have C:p.cat=c:=by rw[k,d,g,b,f,a]
 have w:p.tables=z:=by rw[k,d,g,b,f]
 have P:p.joins=js:=by rw[k,d,g,b,f]
 have Q:p.ac=yj c z:=by rw[k];exact E
 have pw:p.whr=ow:=by rw[k,d,g,b]
 have ph:p.having=oh:=by rw[k]
 have pg:p.groups=K.groups++G6:=by rw[k]
 have J:p.grouped=mE s:=by rw[k,d];show mE y.fr=_;rw[m]
 have O:K.grouped=mE s:=by rw[d];show mE y.fr=_;rw[m]
 have N:p.items=af:=by rw[k,d]
 have X:p.keys=ks:=by rw[k,d,g]
 have ao:p.ah=A++A6:=by
  rw[k,d];show (y.ah++A)++A6=A++A6;have:y.ah=[]:=by rw[g,b,f,a]
  rw[this];rfl
 have ae:p.fr=s:=by rw[k];exact r
 have ad:∀x∈p.ac,k03 x:=by rw[Q,←u];exact B
 have ah:∀x∈G6,k03 x:=fun x hx=>g6.k03 ad x (by rw[pg];exact ba.2 (.inr hx));refine⟨by rw[C,w,P];exact V,by rw[P];exact ag,by rw[Q,C,w],?_,g6,by rw[ph,pg];exact h6,?_,?_,?_⟩
 ·rw[pw,Q];have:Y.ac=yj c z:=by rw[f,a]
  rw[←this];exact al
 ·rw[N];unfold mD at o ⊢;rw[O]at o;rw[J,pg,Q];rw[E]at o;cases hgr:mE s with
  |true=>
   rw[hgr]at o;simp only[cw]at o ⊢;exact o.ext ah
  |false=>
   rw[hgr]at o;simpa using o
 ·rw[N,l5,ae,m,Q,u]
 intro h0;rw[J]at h0;have hz:=h0;unfold mE at hz;simp only[Bool.or_eq_false_iff,decide_eq_false_iff_not]at hz;have an:(s.group.getD []).length=0:=by omega
 have a0:s.having.getD []=[]:=cS.1 (by omega);obtain⟨za,zb,zc⟩:=z6 (by rw[r];exact a0);obtain⟨na,nb⟩:=n5 (by rw[m];exact h0)
 have:S3.fr=s:=by rw[b,f,a]
 have av:ks=[]:=cS.1 (by rw[l4,this];exact an)
 have I:p.keys=[]:=by rw[X,av]
 have R:p.ah=[]:=by rw[ao,na,zb];rfl
 exact⟨I,R,by rw[ph,za],by rw[g6.gr,I,R];rfl⟩
theorem Wa{σ:aw}{n:Nat}{c:List cL}{s:mI}(h:SA σ n (scZ c s))(g:ey σ n (scZ c s))(i:CtK c)(j:wH s) :
  PwR σ n (fun _ S'=>Bm S'∧S'.cat=c∧S'.fr=s) (cC code I.qz [aH (n+3) 0 0 0] σ):=by
 obtain⟨e,env,τ,S',a,b,f,l,k,d⟩:=ahK h g i j σ.length;refine⟨e,τ,S',?_,l,k,d⟩;rw[cz apA rfl];unfold alR at a;simp only[alE,alF,bj]at a
 match env,f,b,a with
 |[p,m,v,t,r,o,q,u],_,b,a=>
  simp only[eg,gU,aL]at b;subst b;simp[aup,akX,a]
abbrev W9(its:List (List EN)):aw:=its.map fun it=>Obj.arr 1 0 [jq it]
abbrev ikE(n:Nat)(σ:aw)(ov:aq)(g:Bool)(its:List (List EN))(sl:aq)(k:Nat)(e10:aq):List aq:=[aH (n+3) 0 0 0,.ai,ov,.sl σ.length k 0 k,am,am,aC g,sl,ap its.length,ap k,e10]
theorem yS{σ:aw}{n:Nat}{S:fJ}(h:SA σ n S)(K:(mD S).length≤8000)(H:S.items.length≤100)(z:∀it∈S.items,it.length≤1000) :
  cC code I.qai [aH (n+3) 0 0 0] σ=some (kF σ.length S.items.length,σ++(aB 1 S.items.length (eA (S.items.map fun it=>(eI it (mD S)).1))::W9 S.items)):=by
 have d:=h.at3;have c:σ[n+3]?=some (aB 25 0 [aI (iJ n S)]):=by simpa using h.at3 []
 have v:=h.at8;have E:=h.at9;have m:=h.at10;have x:=h.len;have A:S.items.length≤bC:=by unfold bC;omega
 have a:∃e:aq,(e=if S.grouped then kF (n+10) S.groups.length else kF (n+9) S.ac.length)∧∀X,fz true false 0 (σ++X) 20 e=.aa true (eA (mD S)):=by
  refine⟨_,rfl,fun X=>?_⟩;unfold mD;cases S.grouped with
  |false=>simp[E]
  |true=>simp[m]
 obtain⟨e,a,w⟩:=a;have key:=dl (base:=σ.length+1) (clr:=[9999,4,5,10]) (b:=GK)
  (fun k=>⟨ikE n σ e S.grouped S.items (kF (n+8) S.items.length) k am,σ++(aB 1 k (eA ((S.items.take k).map fun it=>(eI it (mD S)).1))::W9 (S.items.take k))⟩) S.items.length
  (.ext 0,⟨ikE n σ e S.grouped S.items (kF (n+8) S.items.length) S.items.length (aC false),σ++(aB 1 S.items.length (eA (S.items.map fun it=>(eI it (mD S)).1))::W9 S.items)⟩)
  (fun k i=>by
   have y:S.items[k]?=some S.items[k]:=au i;have l:∀h:k<S.items.length,S.items[k]'h=S.items[k]'i:=fun _=>rfl;have s:(k:Int)<(S.items.length:Int):=by omega
   have B:=cW i A;have r:S.items.take (k+1)=S.items.take k++[S.items[k]]:=by rw[eH,y];rfl
   have C:=z _ (aJ i);have o:=fun D=>pH false S.items[k] D (mD S) (by unfold bC;omega) (by unfold bC;omega);have u:(S.items.take k).length=k:=by simp;omega
   rw[r];generalize S.items.take k=g at *;generalize S.items[k]=it at *;have j:k+1≤bC:=by unfold bC;omega
   have F:((k+1:Nat):Int)=(k:Int)+1:=by omega
   have p:(g.map fun it=>(eI it (mD S)).1).length=k:=by simp[u]
   rw[df,aV,bm,show W9 (g++[it])=W9 g++[Obj.arr 1 0 [jq it]] by simp[W9]];generalize t:(eI it (mD S)).1=G at *;generalize g.map (fun it=>(eI it (mD S)).1)=vs at *;have q:List.take k (eA vs)=eA vs:=ay (by simp[p]);have f:k≤vs.length:=by omega
   generalize W9 g=L at *;simp only[ikE,F];simp only[iJ]at d c;simp[GK,s,i,y,l,v,w,o,t,append,j,q,f,B,ff])
  (by
   rw[de];simp[GK])
 rw[cz akD rfl];simp only[List.take_zero,ikE,W9,bm]at key;simp only[iJ]at d c;have J:mD S=(if S.grouped then S.groups else S.ac):=rfl;cases hg:S.grouped with
 |false=>
  rw[hg]at a d c key;simp only[bq,cI]at a;subst a;simp at key;simp[atc,Yj,d,c,v,key]
 |true=>
  rw[hg]at a d c key;simp only[cw]at a;subst a;simp at key;simp[atc,Yj,d,c,v,key]
abbrev DP(ns:List (List UInt8)):Obj:=aB 1 ns.length (ns.map aO)
abbrev n1E(n:Nat)(σ:aw)(q:Nat)(y3 y8 y9 y10 y11 y12:aq)(af:List fG)(k:Nat)(y16:aq):List aq:=[aH (n+3) 0 0 0,.ai,.sl σ.length q 0 q,y3,am,am,am,am,y8,y9,y10,y11,y12,.aa false (af.map fG.a),ap af.length,ap k,y16,am,am,am,am,am]
theorem Zg{σ:aw}{n:Nat}(y3 t u g i f:aq)(b:List fG)(B:b.length≤8)(base:Nat):∀(m k:Nat) (a:List (List UInt8)) (X:aw),k+m=b.length→a.length≤100+k →
  ∃(d:List (List UInt8)) (p:aw),bU code base [9999,4,16] Gq ⟨n1E n σ a.length y3 t u g i f b k am,σ++(DP a::X)⟩=some (.ext 2,⟨n1E n σ d.length y3 t u g i f b b.length (aC false),σ++(DP d::p)⟩)∧d.length=a.length+m:=by
 intro m;induction m with
 |zero=>
  intro k a X s _;have s:k=b.length:=by omega
  subst s;refine⟨a,X,?_,by omega⟩;rw[aZ];simp[Gq]
 |succ m v=>
  intro k a X s C;have e:k<b.length:=by omega
  have q:(k:Int)<(b.length:Int):=by omega
  have y:=au e;have j:∀h:k<b.length,b[k]'h=b[k]'e:=fun _=>rfl;have w:IntKind.i64.wrap ((k:Int)+1)=(k:Int)+1:=rJ (by omega) (by omega);generalize b[k]=c at *;have r:c.a=aI [aO c.name,ap c.kind]:=rfl;obtain⟨d,p,x,A⟩:=v (k+1) (a++[c.name]) (X++[aB 2 0 [aI [aO c.name,ap c.kind]]]) (by omega) (by simp;omega);refine⟨d,p,?_,by rw[A];simp;omega⟩;rw[←x,aZ];have o:List.take a.length (a.map aq.str)=a.map aq.str:=ay (by simp);have l:a.length+1≤bC:=by unfold bC;omega
  have z:((k+1:Nat):Int)=(k:Int)+1:=by omega
  simp only[n1E,DP,z];simp[Gq,q,e,y,j,r,append,o,l,w,ff]
abbrev n2E(n:Nat)(σ:aw)(q:Nat)(y3:aq)(S:fJ)(k:Nat)(y12 y13 y14 y15 y16:aq):List aq:=[aH (n+3) 0 0 0,.ai,.sl σ.length q 0 q,y3,am,am,am,am,aC true,kF (n+4) S.tables.length,ap S.tables.length,ap k,y12,y13,y14,y15,y16,am,am,am,am,am]
theorem ZA{σ:aw}{n:Nat}{S:fJ}(h:SA σ n S)(G:CtOk S.cat)(I:∀t∈S.tables,0≤t∧t<S.cat.length)(R:S.tables.length≤3)(base:Nat):∀(m k:Nat) (b:List (List UInt8)) (X:aw),k+m=S.tables.length→b.length≤4*k →
  ∃(g:List (List UInt8)) (J:aw) (y3 y13 d f e:aq),bU code base [9999,3,4,12,13,14,15,16] Gb ⟨n2E n σ b.length am S k am am am am am,σ++(DP b::X)⟩=some (.ext 0,⟨n2E n σ g.length y3 S S.tables.length (aC false) y13 d f e,σ++(DP g::J)⟩)∧g.length=b.length+(yj S.cat (S.tables.drop k)).length:=by
 intro m;induction m with
 |zero=>
  intro k b X x _;have x:k=S.tables.length:=by omega
  subst x;refine⟨b,X,am,am,am,am,am,?_,by simp[yj]⟩;rw[aZ];simp[Gb]
 |succ m M=>
  intro k b X x T;have a:k<S.tables.length:=by omega
  have r:(k:Int)<(S.tables.length:Int):=by omega
  have K:=au a;have L:∀h:k<S.tables.length,S.tables[k]'h=S.tables[k]'a:=fun _=>rfl;have O:IntKind.i64.wrap ((k:Int)+1)=(k:Int)+1:=rJ (by omega) (by omega);obtain⟨N,C⟩:=I _ (aJ a);have hd:yj S.cat (S.tables.drop k)=Ag S.cat S.tables[k]++yj S.cat (S.tables.drop (k+1)):=by
   show List.flatMap (Ag S.cat) (S.tables.drop k)=Ag S.cat S.tables[k]++List.flatMap (Ag S.cat) (S.tables.drop (k+1));rw[dx a,fN]
  rw[hd];obtain⟨p,l⟩:∃p:Nat,S.tables[k]=(p:Int):=⟨S.tables[k].toNat,by omega⟩;rw[l]at N C ⊢;have i:p<S.cat.length:=by omega
  obtain⟨tb,c⟩:∃tb,S.cat[p]?=some tb:=⟨S.cat[p],au i⟩;have q:∀h:p<S.cat.length,S.cat[p]'h=tb:=fun h=>(ak.1 c).2;have E:=G.af tb (aN c);have o:Ag S.cat (p:Int)=tb.af.map fG.kind:=by simp[Ag,c,cL.ac]
  rw[o];have s:tb.a=aI [aO tb.name,.aa false (tb.af.map fG.a),.aa false (tb.keys.map (.int .i64))]:=rfl;have z:=h.at3;have B:=h.at4;have y:S.tables[k]?=some (p:Int):=by rw[K,l]
  have v:∀h:k<S.tables.length,S.tables[k]'h=(p:Int):=fun _=>l;obtain⟨w,D,u,H⟩:=Zg (σ:=σ) (n:=n) (ap p) (aC true) (kF (n+4) S.tables.length) (ap S.tables.length) (ap k) (aC true) tb.af (by omega) (σ++(DP b::X)).length tb.af.length 0 b X (by omega) (by omega);obtain⟨j,Q,y3,y13,d,f,e,F,A⟩:=M (k+1) w D (by omega) (by omega);refine⟨j,Q,y3,y13,d,f,e,?_,by rw[A,H];simp;omega⟩;rw[←F,aZ];have P:((k+1:Nat):Int)=(k:Int)+1:=by omega
  simp only[n1E,n2E,DP,P,bj]at u ⊢;simp only[iJ]at z;simp at u;simp[Gb,r,a,y,v,z,B,c,i,q,s,u,O,ff]
abbrev n0E(n:Nat)(σ:aw)(q:Nat)(y3 y8 y9 y10 y11 y12 y13 y14 y15 y16:aq)(L:List pY)(k:Nat)(y20:aq):List aq:=[aH (n+3) 0 0 0,.ai,.sl σ.length q 0 q,y3,am,am,am,am,y8,y9,y10,y11,y12,y13,y14,y15,y16,.aa false (L.map pY.a),ap L.length,ap k,y20,am]
theorem Px{σ:aw}{n:Nat}(y3 F G o g l y13 f j i:aq)(L:List pY)(V:L.length≤6)(R:∀x∈L,0<x.ns.length)(base:Nat):∀(m k:Nat) (b:List (List UInt8)) (X:aw),k+m=L.length→b.length≤100+k →
  ∃(e:List (List UInt8)) (H:aw),bU code base [9999,5,6,7,20,21] xq ⟨n0E n σ b.length y3 F G o g l y13 f j i L k am,σ++(DP b::X)⟩=some (.ext 4,⟨n0E n σ e.length y3 F G o g l y13 f j i L L.length (aC false),σ++(DP e::H)⟩)∧e.length=b.length+m:=by
 intro m;induction m with
 |zero=>
  intro k b X I _;have I:k=L.length:=by omega
  subst I;refine⟨b,X,?_,by omega⟩;rw[aZ];simp[xq]
 |succ m S=>
  intro k b X I W;have d:k<L.length:=by omega
  have A:(k:Int)<(L.length:Int):=by omega
  have M:=au d;have C:∀h:k<L.length,L[k]'h=L[k]'d:=fun _=>rfl;have N:IntKind.i64.wrap ((k:Int)+1)=(k:Int)+1:=rJ (by omega) (by omega);have K:=R _ (aJ d);have P:=(L[k]).h;generalize L[k]=x at *;have q:x.a=aI [.aa false (x.ns.map eP.a),aO x.as']:=rfl;obtain⟨p,J⟩:∃p:Nat,x.ns.length=p+1:=⟨x.ns.length-1,by omega⟩;have u:p<x.ns.length:=by omega
  obtain⟨a,t⟩:∃a,x.ns[p]?=some a:=⟨x.ns[p],au u⟩;have r:∀h:p<x.ns.length,x.ns[p]'h=a:=fun h=>(ak.1 t).2;have B:a.a=aI [ap a.tag,ap a.l,ap a.r,ap a.v.k,ap a.v.n,.int .u64 a.v.u,aO a.v.s,aO a.table,aO a.name]:=rfl;have wp:IntKind.i64.wrap ((p:Int)+1-1)=(p:Int):=by rw[rJ (by omega) (by omega)];omega
  have E:IntKind.i64.wrap (p:Int)=(p:Int):=rJ (by omega) (by omega);have y:(p:Int)<(p:Int)+1:=by omega
  have D:List.take b.length (b.map aq.str)=b.map aq.str:=ay (by simp);have v:b.length+1≤bC:=by unfold bC;omega
  have O:((k+1:Nat):Int)=(k:Int)+1:=by omega
  have key:∃(w:List UInt8) (T:aw),bU code base [9999,5,6,7,20,21] xq ⟨n0E n σ b.length y3 F G o g l y13 f j i L k am,σ++(DP b::X)⟩=bU code base [9999,5,6,7,20,21] xq ⟨n0E n σ (b++[w]).length y3 F G o g l y13 f j i L (k+1) am,σ++(DP (b++[w])::(X++T))⟩:=by
   cases has:x.as' with
   |nil=>
    rw[has]at q;refine⟨a.name,[aB 2 0 [x.a],aB 9 0 [a.a]],?_⟩;rw[aZ];simp only[n0E,DP,O];simp[xq,A,d,M,C,q,J,wp,E,y,u,t,r,B,eS,append,D,v,N,ff]
   |cons c s=>
    rw[has]at q;refine⟨c::s,[aB 2 0 [x.a],aB 9 0 [a.a]],?_⟩;rw[aZ];simp only[n0E,DP,O];simp[xq,A,d,M,C,q,J,wp,E,y,u,t,r,B,eS,append,D,v,N,ff]
  obtain⟨w,T,z⟩:=key;obtain⟨e,H,Q,U⟩:=S (k+1) (b++[w]) (X++T) (by omega) (by simp;omega);exact⟨e,H,z.trans Q,by rw[U];simp;omega⟩
theorem Qw{σ:aw}{n:Nat}{S:fJ}(h:SA σ n S)(k:CtOk S.cat)(d:Hf S.cat S.tables S.joins)(v:S.joins.length≤2)(m:wH S.fr):∃(a:List (List UInt8)) (X:aw),cC code I.qal [aH (n+3) 0 0 0] σ=some (kF σ.length a.length,σ++(DP a::X))∧a.length=(if S.fr.star then (yj S.cat S.tables).length else (S.fr.items.getD []).length):=by
 have b:=h.at3;have p:=h.at4;have hi:=S.fr.hi;have r:S.tables.length≤3:=by have:=d.len;omega
 have o:∀x∈S.fr.items.getD [],0<x.ns.length:=fun x s=>(m.items x s).pos;rw[cz amJ rfl];cases hst:S.fr.star with
 |false=>
  obtain⟨a,X,q,l⟩:=Px (σ:=σ) (n:=n) am (aC false) am am am am am am am am (S.fr.items.getD []) hi o (σ.length+1) (S.fr.items.getD []).length 0 [] [] (by omega) (by simp);refine⟨a,X,?_,by simpa using l⟩;simp only[n0E,DP,bj,bD,bm]at q ⊢;simp only[iJ,hst]at b;simp[asN,Z1,b,q]
 |true=>
  have g:S.fr.items.getD []=[]:=by
   have:=m.star;rw[hst]at this;exact cS.1 (by simpa using this.symm)
  obtain⟨a,X,y3,y13,e,j,i,q,l⟩:=ZA h k d.rng r (σ.length+1) S.tables.length 0 [] [] (by omega) (by simp)
  obtain⟨c,t,f,u⟩:=Px (σ:=σ) (n:=n) y3 (aC true) (kF (n+4) S.tables.length) (ap S.tables.length) (ap S.tables.length) (aC false) y13 e j i [] (by simp) (by simp) (σ++(DP a::X)).length 0 0 a X rfl (by
   have:=Ci k S.tables d.rng;simp only[nv,bD,cE]at l;omega)
  refine⟨c,t,?_,by rw[if_pos rfl];simp only[nv,bD,cE]at l;omega⟩;simp only[n0E,n2E,DP,bj,bD,bm]at q f ⊢;simp only[iJ,hst,g,bm,bD]at b;simp at f;simp[asN,Z1,b,p,q,f]
def mM:List Int→List Int→Option (List Int)
 |[],[]=>some []
 |a::as',b::bs=>if a=0 then (mM as' bs).map (b::·) else if b≠0∧b≠a then none else (mM as' bs).map (a::·)
 |_,_=>none
theorem NU:∀(a b:List Int),a.length=b.length→mM a b=kq a b
 |[],[],_=>rfl
 |[],_::_,h=>by simp at h
 |_::_,[],h=>by simp at h
 |k::a,o::b,h=>by
  have d:=NU a b (by simpa using h);by_cases c:k=0
  ·subst c;simp[mM,kq,d]
  simp only[mM,kq,if_neg c,d]
abbrev W6(ia ea ib eb N:Nat)(k:Nat)(y2 y3 y4 y9 y10 y11:aq):List aq:=[.sl ia ea 0 N,.sl ib eb 0 N,y2,y3,y4,aC false,.sl ib eb 0 N,ap N,ap k,y9,y10,y11]
theorem acp{τ:aw}{i ea p s N:Nat}(n:List Int)(A:n.length=N)(hN:N≤100)(ha:i<τ.length)(L:i≠p)(hb:τ[p]?=some (aB 1 s (eA n))):∀(m k:Nat) (d:List Int),k+m=N→d.length=N →
  (∃(env:List aq) (f:List Int),bU code τ.length [2,3,4,9,10,11] oM ⟨W6 i ea p s N k am am am am am am,τ.set i (aB 1 ea (eA d))⟩=some (.ret,⟨env,τ.set i (aB 1 ea (eA f))⟩)∧env[2]?=some (aC false)∧f.length=N) ∨
  ∃(f:List Int),bU code τ.length [2,3,4,9,10,11] oM ⟨W6 i ea p s N k am am am am am am,τ.set i (aB 1 ea (eA d))⟩=some (.ext 0,⟨W6 i ea p s N N am am am (aC false) am am,τ.set i (aB 1 ea (eA f))⟩)∧f.length=N∧f.take k=d.take k∧mM (d.drop k) (n.drop k)=some (f.drop k):=by
 intro m;induction m with
 |zero=>
  intro k d X z;have X:k=N:=by omega
  subst X;right;refine⟨d,?_,z,rfl,by rw[oW (by omega),oW (by omega)];rfl⟩;rw[aZ];simp[oM]
 |succ m ih=>
  intro k d X z;have l:k<n.length:=by omega
  have j:k<d.length:=by omega
  have D:k<N:=by omega
  have B:(k:Int)<(N:Int):=by omega
  have U:IntKind.i64.wrap ((k:Int)+1)=(k:Int)+1:=rJ (by omega) (by omega);have y:=au l;have r:=au j;have v:∀h:k<n.length,n[k]'h=n[k]'l:=fun _=>rfl;have x:∀h:k<d.length,d[k]'h=d[k]'j:=fun _=>rfl;have K:n.drop k=n[k]::n.drop (k+1):=dx l;have J:d.drop k=d[k]::d.drop (k+1):=dx j;rw[K,J];generalize n[k]=b at *;generalize ad:d[k]=a at *;have E:(τ.set i (aB 1 ea (eA d)))[p]?=some (aB 1 s (eA n)):=by rw[aD L];exact hb
  have C:(τ.set i (aB 1 ea (eA d)))[i]?=some (aB 1 ea (eA d)):=by rw[aU ha]
  have ek:((k+1:Nat):Int)=(k:Int)+1:=by omega
  have t:∀o,(τ.set i o).length=τ.length:=fun o=>gj;have u:∀(g:List Int),g.length=N→g.take k=d.take k→g.drop (k+1)=d.drop (k+1)→(∃c,g[k]?=some c∧mM (a::d.drop (k+1)) (b::n.drop (k+1))=(mM (d.drop (k+1)) (n.drop (k+1))).map (c::·)) →
    bU code τ.length [2,3,4,9,10,11] oM ⟨W6 i ea p s N k am am am am am am,τ.set i (aB 1 ea (eA d))⟩=bU code τ.length [2,3,4,9,10,11] oM ⟨W6 i ea p s N (k+1) am am am am am am,τ.set i (aB 1 ea (eA g))⟩→(∃(env:List aq) (f:List Int),bU code τ.length [2,3,4,9,10,11] oM ⟨W6 i ea p s N k am am am am am am,τ.set i (aB 1 ea (eA d))⟩=some (.ret,⟨env,τ.set i (aB 1 ea (eA f))⟩)∧env[2]?=some (aC false)∧f.length=N) ∨
  ∃(f:List Int),bU code τ.length [2,3,4,9,10,11] oM ⟨W6 i ea p s N k am am am am am am,τ.set i (aB 1 ea (eA d))⟩=some (.ext 0,⟨W6 i ea p s N N am am am (aC false) am am,τ.set i (aB 1 ea (eA f))⟩)∧f.length=N∧f.take k=d.take k∧mM (a::d.drop (k+1)) (b::n.drop (k+1))=some (f.drop k):=by
   intro g S P W V Y;obtain⟨c,Q,V⟩:=V;rcases ih (k+1) g (by omega) S with⟨env,f,q,O,I⟩|⟨f,q,I,t',Z⟩
   ·exact .inl ⟨env,f,Y.trans q,O,I⟩
   right;have T:k<f.length:=by omega
   have R:f.take k=g.take k:=by
    have:=congrArg (List.take k) t'
    rwa [qJ,qJ,eN (by omega)]at this
   have M:f[k]?=some c:=by
    have G:(f.take (k+1))[k]?=(g.take (k+1))[k]?:=by rw[t']
    rw[nA (by omega),nA (by omega),Q]at G;exact G
   refine⟨f,Y.trans q,I,by rw[R,P],?_⟩;rw[V];rw[W]at Z;rw[Z,dK];rw[dx T];have:=(ak.1 M).2;rw[this]
  by_cases H:a=0
  ·subst H;refine u (d.set k b) (by simp[z]) (by rw[List.take_set_of_le (by omega)]) (by rw[List.drop_set_of_lt (by omega)]) ⟨b,by simp[j],by simp[mM]⟩ ?_;rw[aZ];have ab:(eA d).set k (ap b)=eA (d.set k b):=by simp[eA,List.map_set]
   simp only[W6,ek];simp[oM,B,D,A,z,E,C,y,r,l,j,v,x,U,cN,t]
  by_cases G:b≠0∧b≠a
  ·left;have w:b≠0:=G.1;have F:b≠a:=G.2;have:∃env,bU code τ.length [2,3,4,9,10,11] oM ⟨W6 i ea p s N k am am am am am am,τ.set i (aB 1 ea (eA d))⟩=some (.ret,⟨env,τ.set i (aB 1 ea (eA d))⟩)∧env[2]?=some (aC false):=by
    rw[aZ];exact⟨_,by simp[oM,B,D,A,z,E,C,y,r,l,j,v,x,H,w,F];rfl,rfl⟩
   obtain⟨env,q,O⟩:=this;exact⟨env,d,q,O,z⟩
  refine u d z rfl rfl ⟨a,by rw[r],by simp only[mM,if_neg H,if_neg G]⟩ ?_;rw[aZ];simp only[W6,ek];by_cases w:b=0
  ·subst w;simp[oM,B,D,A,z,E,C,y,r,l,j,v,x,H,U,cN,t]
  have F:b=a:=by
   by_cases e:b=a
   ·exact e
   exact absurd ⟨w,e⟩ G
  subst F;simp[oM,B,D,A,z,E,C,y,r,l,j,v,x,H,U,cN,t]
theorem R9{τ:aw}{g ea o p:Nat}(a d:List Int)(e:τ[g]?=some (aB 1 ea (eA a)))(i:τ[o]?=some (aB 1 p (eA d)))(n:g≠o)(s:a.length≤100) :
  ∃(ok:Bool) (cs:List Int),cC code I.qap [.sl g ea 0 a.length,.sl o p 0 d.length] τ=some (aC ok,τ.set g (aB 1 ea (eA cs)))∧cs.length=a.length∧(ok=true→a.length=d.length∧mM a d=some cs):=by
 have k:=(ak.1 e).1;rw[cz amu rfl];by_cases b:a.length=d.length
 ·have f:((a.length:Int) != (d.length:Int))=false:=by simp;omega
  have j:=CC e;have c:=acp (τ:=τ) (ea:=ea) d rfl (by omega) k n i d.length 0 a (by omega) b;rw[j]at c;simp only[W6,bj]at c;rw[b];rcases c with⟨env,cs,q,r,l⟩|⟨cs,q,l,_,u⟩
  ·refine⟨false,cs,?_,l,fun h=>by cases h⟩;simp[asj,U3,e,i,b,q,r]
  refine⟨true,cs,?_,l,fun _=>⟨rfl,by simpa using u⟩⟩;simp[asj,U3,e,i,b,q]
 have f:((a.length:Int) != (d.length:Int))=true:=by simp;omega
 have m:¬(a.length:Int)=(d.length:Int):=by omega
 refine⟨false,a,?_,rfl,fun h=>by cases h⟩;rw[CC e];simp[asj,U3,e,i,f,m,b]
theorem QL(b:Bool)(l:List (List UInt8))(s:List UInt8)(r:l.length≤8000):∃k:Int,bB I.qhg [.aa b (l.map aO),aO s]=some (ap k)∧-1≤k∧k<l.length:=by
 rw[aT afh rfl];have m:l.length≤bC:=by unfold bC;omega
 have loop:=oA (base:=0) (clr:=[2,3,6,7]) (b:=s9) l (fun k=>⟨[.aa b (l.map aO),aO s,am,am,ap l.length,ap k,am,am],[]⟩) (fun x=>x==s)
  (.ext 0,⟨[.aa b (l.map aO),aO s,am,am,ap l.length,ap l.length,aC false,am],[]⟩) (fun o=>∃q,o=(.ret,q)∧∃k:Nat,q.env[2]?=some (ap k)∧k<l.length)
  (fun k x d c f=>by
   have g:∀h:k<l.length,l[k]'h=x:=fun h=>(ak.1 c).2;have i:=cW d m;have a:(s==x)=false:=by rw[gn]at f ⊢;exact fun e=>f e.symm
   simp[s9,eS,d,c,g,i,a,bQ])
  (fun k x d c f=>by
   have g:∀h:k<l.length,l[k]'h=x:=fun h=>(ak.1 c).2;have a:s=x:=by rw[aX]at f;exact f.symm
   subst a;exact⟨_,by simp[s9,eS,d,c,g];rfl,_,rfl,k,rfl,d⟩)
  (by simp[s9])
 rcases loop with⟨j,loop⟩|⟨j,o,loop,q,rfl,k,n,p⟩
 ·simp only[bj]at loop;exact⟨-1,by simp[ar0,OT,loop],by omega,by omega⟩
 simp only[bj]at loop;exact⟨k,by simp[ar0,OT,loop,n],by omega,by omega⟩
theorem aln(k:B3)(b:Bool)(a:List (List UInt8))(t:a.length≤8000):∃(x e:Int),bB I.qv [k.a,.aa b (a.map aO)]=some (fy [ap x,ap e])∧(e=0→0≤x∧x<a.length):=by
 rw[aT ap3 rfl];have n:k.a=aI [aO k.name,ap k.number,aC k.desc]:=rfl;rw[n];cases hn:k.name with
 |nil=>
  by_cases f:k.number<1
  ·exact⟨0,222,by simp[arM,QZ,eS,f],fun e=>by cases e⟩
  by_cases o:(a.length:Int)<k.number
  ·exact⟨0,222,by simp[arM,QZ,eS,f,o],fun e=>by cases e⟩
  have w:IntKind.i64.wrap (k.number-1)=k.number-1:=rJ (by omega) (by omega);exact⟨k.number-1,0,by simp[arM,QZ,eS,f,o,w],fun _=>by omega⟩
 |cons c s=>
  obtain⟨q,f,o,u⟩:=QL b a (c::s) t;by_cases m:q<0
  ·exact⟨0,222,by simp[arM,QZ,eS,f,m],fun e=>by cases e⟩
  obtain⟨p,rfl⟩:∃p:Nat,q=(p:Int):=⟨q.toNat,by omega⟩;have i:p<a.length:=by omega
  have d:p+1≤a.length:=by omega
  have w:IntKind.i64.wrap ((p:Int)+1)=(p:Int)+1:=rJ (by omega) (by omega);have l:=fun r=>tt r (a.drop (p+1)) (c::s) (by simp;omega);have g:(0:Int)≤(p:Int)+1:=by omega
  have j:List.take (a.length-(p+1)) (List.drop (p+1) (a.map aq.str))=List.drop (p+1) (a.map aq.str):=ay (by simp);have h:List.drop (p+1) (a.map aq.str)=(a.drop (p+1)).map aq.str:=by rw[wl]
  rw[←h]at l;clear h;cases hc:(a.drop (p+1)).any (· == (c::s)) with
  |true=>
   rw[hc]at l;exact⟨0,223,by simp[arM,QZ,eS,f,m,w,i,d,g,j,l],fun e=>by cases e⟩
  |false=>
   rw[hc]at l;exact⟨p,0,by simp[arM,QZ,eS,f,m,w,i,d,g,j,l],fun _=>by omega⟩
theorem ap4:zf=.seq (.reg [i (.bin .lss (e 22) (e 21))] [(23,l 0)]) (.seq (.cond (e 23) .skip (.exit 0)) (.seq (.blk 1 (.seq zF (.seq Ay (.seq vl (.seq nF vp))))) (.reg [i (.bin .add (e 22) (v (ap 1)))] [(22,l 0)]))):=rfl
abbrev yd(c:List cL)(q:tG)(k:Nat)(e10 e11 e12 e13 e14 e23 e24 e25 e26:aq):List aq:=[mN c,q.a,aH 0 0 0 0,aH 1 0 0 0,aH 2 0 0 0,am,am,ap 0,ap 0,aH 3 0 0 0,e10,e11,e12,e13,e14,am,am,am,aC false,aC false,.aa false (q.sels.map mI.a),ap q.sels.length,ap k,e23,e24,e25,e26,am,am,am,am,am]
theorem Z7{c:List cL}{q:tG}{τ:aw}(n:τ[0]?=some (aB 1 0 [mN c]))(k:Nat)(x:mI)(l:q.sels[k]?=some x) :
  ∃b,run code (.seq zF (.seq Ay (.seq vl (.seq nF vp)))) ⟨yd c q k am am am am am (aC true) am am am,τ⟩=run code (.seq vl (.seq nF vp)) ⟨yd c q k (ap k) (aH τ.length 0 0 0) (aH (τ.length+4) 0 0 0) am am (aC true) am am am,b⟩∧b=τ++[Obj.arr 9 0 [x.a],.map [],.map [],.map [],aB 25 0 [aI [.aa false (c.map cL.a),aC x.distinct,aC x.star,.aa false ((x.items.getD []).map pY.a),aO x.table,aO x.as',.aa false (x.joins.map pb.a),gQ (x.whr.getD []),gQ (x.having.getD []),.aa false ((x.group.getD []).map uV.a),.ai,.ai,.ai,.ai,aC false,aC false,.ai,.ai,.ai,.mp (τ.length+1),.mp (τ.length+2),.mp (τ.length+3),.ai,.ai,ap 0]]]:=by
 have m:=(ak.1 l).1;have j:(k:Int)<(q.sels.length:Int):=by omega
 have f:∀h:k<q.sels.length,q.sels[k]'h=x:=fun h=>(ak.1 l).2;have a:x.a=aI [aC x.distinct,aC x.star,.aa false ((x.items.getD []).map pY.a),aO x.table,aO x.as',.aa false (x.joins.map pb.a),gQ (x.whr.getD []),gQ (x.having.getD []),.aa false ((x.group.getD []).map uV.a)]:=rfl;have d:=fq n;have e:∀(X:aw) (h:0<(τ++X).length),(τ++X)[0]'h=aB 1 0 [mN c]:=fun X h=>(ak.1 (d X)).2;refine⟨_,?_,rfl⟩;rw[fA];have o:run code zF ⟨yd c q k am am am am am (aC true) am am am,τ⟩=some (.nrm,⟨yd c q k (ap k) (aH τ.length 0 0 0) am am am (aC true) am am am,τ++[Obj.arr 9 0 [x.a]]⟩):=by
  rw[a];simp[zF,m,j,l,f,a]
 rw[o,bW,fA];have p:run code Ay ⟨yd c q k (ap k) (aH τ.length 0 0 0) am am am (aC true) am am am,τ++[Obj.arr 9 0 [x.a]]⟩=some (.nrm,⟨yd c q k (ap k) (aH τ.length 0 0 0) (aH (τ.length+4) 0 0 0) am am (aC true) am am am,τ++[Obj.arr 9 0 [x.a],.map [],.map [],.map [],aB 25 0 [aI [.aa false (c.map cL.a),aC x.distinct,aC x.star,.aa false ((x.items.getD []).map pY.a),aO x.table,aO x.as',.aa false (x.joins.map pb.a),gQ (x.whr.getD []),gQ (x.having.getD []),.aa false ((x.group.getD []).map uV.a),.ai,.ai,.ai,.ai,aC false,aC false,.ai,.ai,.ai,.mp (τ.length+1),.mp (τ.length+2),.mp (τ.length+3),.ai,.ai,ap 0]]]⟩):=by
  rw[a];have g:∀i,cellsOf (.mp i)=[.mp i]:=fun _=>rfl;simp[Ay,d,e,g]
 rw[p,bW]
theorem ado{c:List cL}{q:tG}{τ:aw}(k:Nat)(x:mI)(y:aw→Option (Ex×St))(b:az)(h:∀a,run code b ⟨yd c q k (ap k) (aH τ.length 0 0 0) (aH (τ.length+4) 0 0 0) am am (aC true) am am am,a⟩=y a) :
  run code (.lift 12 10 1 (.lift 12 11 2 (.lift 12 16 1 (.lift 12 17 2 (.lift 12 18 1 (.lift 12 22 1 (.lift 12 23 1 b))))))) ⟨yd c q k (ap k) (aH τ.length 0 0 0) (aH (τ.length+4) 0 0 0) am am (aC true) am am am,τ++[Obj.arr 9 0 [x.a],.map [],.map [],.map [],aB 25 0 [aI [.aa false (c.map cL.a),aC x.distinct,aC x.star,.aa false ((x.items.getD []).map pY.a),aO x.table,aO x.as',.aa false (x.joins.map pb.a),gQ (x.whr.getD []),gQ (x.having.getD []),.aa false ((x.group.getD []).map uV.a),.ai,.ai,.ai,.ai,aC false,aC false,.ai,.ai,.ai,.mp (τ.length+1),.mp (τ.length+2),.mp (τ.length+3),.ai,.ai,ap 0]]]⟩ =
   y (τ++[Obj.arr 9 0 [x.a]]++BA (τ.length+1) (scZ c x)):=by
 simp only[aiT];simp[Ja,h,sv,BA,iJ,scZ]
end Go.AM
