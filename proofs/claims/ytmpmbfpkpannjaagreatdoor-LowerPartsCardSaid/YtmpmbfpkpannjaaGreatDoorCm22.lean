/- Part of the proof. -/
import Derived.Test.YtmpmbfpkpannjaaGreatDoorCm21
set_option linter.unusedVariables false
set_option linter.unusedSimpArgs false
set_option linter.unusedSectionVars false
namespace Go.AM
open P
set_option maxHeartbeats 64000000
set_option maxRecDepth 40000
attribute [local simp] aG bj
theorem SA.put{σ:aw}{n:Nat}{S S':fA}(h:SA σ n S)(a:(Bm n S).set 3 (aB 25 0 [aH (iH n S')])=Bm n S'):SA (σ.set (n+3) (aB 25 0 [aH (iH n S')])) n S':=by
 obtain⟨P,J,rfl,rfl⟩:=h;refine⟨P,J,rfl,?_⟩;rw[fp _ _ (by omega),←a];have:P.length+3-P.length=3:=by omega
 rw[this,cG _ _ (by simp)]
theorem Fr.setIn{n:Nat}{σ τ:aw}(h:Fr n σ τ)(i:Nat)(o:Obj)(hi:n≤i∧i<n+11):Fr n σ (τ.set i o):=⟨by simpa using h.le,fun k p a b=>by
 rw[aD (by omega)];exact h.kp k p a b⟩
theorem wd.of{S S':fA}(h:wd S)(b:S'.keys=S.keys)(a:S'.ah=S.ah)(c:S'.ac=S.ac)(k:S'.groups=S.groups):wd S':=by
 obtain⟨d,e,f,g,i,j⟩:=h;exact⟨by rw[b];exact d,by rw[b,c];exact e,by rw[a];exact f,by rw[a,c];exact g,by rw[a];exact i,by rw[b,a,c,k];exact j⟩
def PhR(σ:aw)(n:Nat)(S:fA)(Q:fA→Prop)(r:Option (aq×aw)):Prop:=
 ∃(e:Int) (σ':aw) (S':fA),r=some (ap e,σ')∧SA σ' n S'∧Fr n σ σ'∧(e=0→Q S')
def Ef(o:Option (List EN))(K:List Int):Prop:=o=none∨∃es,o=some es∧es.length≤1000∧jq es K=true
theorem QV{σ:aw}{n:Nat}{S:fA}(h:SA σ n S)(B:ey σ n S)(D:wd S)(y:S.whr=none)(j:S.fr.whr.getD []=[]∨mu (S.fr.whr.getD []))(E:S.ac.length≤8000) :
  PhR σ n S (fun S'=>∃o,S'={ S with at':=2,whr:=o }∧Ef o S.ac) (cD code I.qao [aI (n+3) 0 0 0] σ):=by
 have x:=h.len;have F:n+3<σ.length:=by omega
 have g:σ[n+3]?=some (aB 25 0 [aH (iH n S)]):=by simpa using h.at3 []
 have w:SA (σ.set (n+3) (aB 25 0 [aH (iH n { S with at':=2 })])) n { S with at':=2 }:=h.put rfl;have i:(σ.set (n+3) (aB 25 0 [aH (iH n { S with at':=2 })]))[n+3]?=some (aB 25 0 [aH (iH n { S with at':=2 })]):=by rw[aW F]
 have b:Fr n σ (σ.set (n+3) (aB 25 0 [aH (iH n { S with at':=2 })])):=(Fr.rfl' n σ).setIn _ _ (by omega);by_cases v:S.fr.whr.getD []=[]
 ·refine⟨0,_,{ S with at':=2 },?_,w,b,fun _=>⟨none,by rw[←y],.inl rfl⟩⟩;rw[cz ag5 rfl];simp only[iH,v]at g i ⊢;simp[asK,aaC,g,i]
 have j:=j.resolve_left v;have f:=j.pos;have r:(0:Int)<((S.fr.whr.getD []).length:Int):=by omega
 obtain⟨o,e,τ,A,G,a,m,c,l,q,d⟩:=BM w (B.fr b rfl rfl rfl rfl) (D.of rfl rfl rfl rfl) j E false;obtain⟨rfl,rfl⟩:=q rfl;simp only[dK]at c d;have u:τ[n+3]?=some (aB 25 0 [aH (iH n { S with at':=2 })]):=by simpa using c.at3 []
 have p:=vj (o.map (·.map EN.a));have s:SA (τ.set (n+3) (aB 25 0 [aH (iH n { S with at':=2,whr:=o })])) n { S with at':=2,whr:=o }:=c.put rfl;refine⟨e,_,{ S with at':=2,whr:=o },?_,s,(b.trans l).setIn _ _ (by omega),fun C=>⟨o,rfl,.inr ?_⟩⟩
 ·rw[cz ag5 rfl];have t:sv (S.whr.map (·.map EN.a))=.ai:=by rw[y];rfl
  simp only[iH,oD,t]at g i u a ⊢;generalize S.fr.whr.getD []=W at *;generalize sv (o.map (·.map EN.a))=J at *;simp[asK,aaC,g,i,u,a,f,r,p]
 obtain⟨H,z,k⟩:=d C;obtain⟨es,rfl⟩:=cN.1 z;exact⟨es,rfl,m,k⟩
theorem Pk{σ:aw}{n:Nat}{S:fA}(h:SA σ n S)(C:ey σ n S)(x:wd S)(z:S.having=none)(j:S.fr.having.getD []=[]∨mu (S.fr.having.getD []))(D:S.ac.length≤8000) :
  PhR σ n S (fun S'=>∃o A G,S'={ S with at':=5,having:=o,ah:=S.ah++A,groups:=S.groups++G }∧wd S'∧Ef o (S.groups++G)∧(S.fr.having.getD []=[]→o=none∧A=[]∧G=[])) (cD code I.qah [aI (n+3) 0 0 0] σ):=by
 have y:=h.len;have H:n+3<σ.length:=by omega
 have g:σ[n+3]?=some (aB 25 0 [aH (iH n S)]):=by simpa using h.at3 []
 have v:SA (σ.set (n+3) (aB 25 0 [aH (iH n { S with at':=5 })])) n { S with at':=5 }:=h.put rfl;have i:(σ.set (n+3) (aB 25 0 [aH (iH n { S with at':=5 })]))[n+3]?=some (aB 25 0 [aH (iH n { S with at':=5 })]):=by rw[aW H]
 have b:Fr n σ (σ.set (n+3) (aB 25 0 [aH (iH n { S with at':=5 })])):=(Fr.rfl' n σ).setIn _ _ (by omega);by_cases l:S.fr.having.getD []=[]
 ·refine⟨0,_,{ S with at':=5 },?_,v,b,fun _=>⟨none,[],[],by simp[←z],x.of rfl rfl rfl rfl,.inl rfl,fun _=>⟨rfl,rfl,rfl⟩⟩⟩;rw[cz afu rfl];simp only[iH,l]at g i ⊢;simp[atq,Yn,g,i]
 have j:=j.resolve_left l;have d:=j.pos;have r:(0:Int)<((S.fr.having.getD []).length:Int):=by omega
 obtain⟨o,e,τ,A,G,a,p,f,m,E,c⟩:=BM v (C.fr b rfl rfl rfl rfl) (x.of rfl rfl rfl rfl) j D true;have u:τ[n+3]?=some (aB 25 0 [aH (iH n { S with at':=5,ah:=S.ah++A,groups:=S.groups++G })]):=by simpa using f.at3 []
 have q:=vj (o.map (·.map EN.a));have s:SA (τ.set (n+3) (aB 25 0 [aH (iH n { S with at':=5,having:=o,ah:=S.ah++A,groups:=S.groups++G })])) n { S with at':=5,having:=o,ah:=S.ah++A,groups:=S.groups++G }:=f.put rfl;refine⟨e,_,{ S with at':=5,having:=o,ah:=S.ah++A,groups:=S.groups++G },?_,s,(b.trans m).setIn _ _ (by omega),fun w=>⟨o,A,G,rfl,(c w).1.of rfl rfl rfl rfl,.inr ?_,fun F=>absurd F l⟩⟩
 ·rw[cz afu rfl];have t:sv (S.having.map (·.map EN.a))=.ai:=by rw[z];rfl
  simp only[iH,oD,t]at g i u a ⊢;generalize S.fr.having.getD []=W at *;generalize sv (o.map (·.map EN.a))=K at *;simp[atq,Yn,g,i,u,a,d,r,q]
 obtain⟨J,B,k⟩:=c w;obtain⟨es,rfl⟩:=cN.1 B;exact⟨es,rfl,p,k⟩
theorem nW(a b:List UInt8):o5 [] (aO a) (aO b)=some (a==b):=by simp[o5,gZ]
theorem GV(s:List UInt8)(v:aq):∀m:List (aq×aq),(∀e∈m,∃s,e.1=aO s)→∃d,re [] (aO s) v m=some d∧(∀e∈d,∃s,e.1=aO s)∧∀s',dz [] (aO s') d=if s'=s then some (some v) else dz [] (aO s') m
 |[],_=>⟨[(.str s,v)],by simp[re],by simp,fun s'=>by
  by_cases h:s'=s
  ·subst h;simp[dz,nW]
  have c:(s' == s)=false:=by simpa using h
  simp[dz,nW,h,c]⟩
 |e::r,g=>by
  obtain⟨t,i⟩:=g e (by simp);obtain⟨d,k,l,n⟩:=GV s v r (fun e a=>g e (by simp[a]));obtain⟨o,j⟩:=e;simp only at i;subst i;by_cases h:s=t
  ·subst h;refine⟨(aO s,v)::r,by simp[re,nW],?_,fun s'=>?_⟩
   ·intro e a;rcases dX.1 a with rfl|a
    ·exact⟨s,rfl⟩
    exact g e (by simp[a])
   by_cases b:s'=s
   ·subst b;simp[dz,nW]
   have c:(s' == s)=false:=by simpa using b
   simp[dz,nW,b,c]
  have c:(s==t)=false:=by simpa using h
  refine⟨(aO t,j)::d,by simp[re,nW,c,k],?_,fun s'=>?_⟩
  ·intro e a;rcases dX.1 a with rfl|a
   ·exact⟨t,rfl⟩
   exact l e a
  by_cases b:s'=t
  ·subst b;have:¬s'=s:=fun e=>h e.symm;simp[dz,nW,this]
  have f:(s' == t)=false:=by simpa using b
  simp only[dz,nW,f];exact n s'
theorem ot(a b c d:List UInt8):o5 [2,2] (aH [aO a,aO b]) (aH [aO c,aO d])=some (a==c&&b==d):=by
 by_cases h:a=c
 ·subst h;by_cases e:b=d
  ·subst e;simp[o5,gZ,eR,lR,sR]
  have f:(b==d)=false:=by simpa using e
  simp[o5,gZ,eR,lR,sR,e,f]
 have g:(a==c)=false:=by simpa using h
 simp[o5,gZ,eR,lR,sR,h,g]
theorem Vl(a b:List UInt8)(v:aq):∀m:List (aq×aq),(∀e∈m,∃t s,e.1=aH [aO t,aO s])→∃k,re [2,2] (aH [aO a,aO b]) v m=some k∧(∀e∈k,∃t s,e.1=aH [aO t,aO s])∧∀c d,dz [2,2] (aH [aO c,aO d]) k=if c=a∧d=b then some (some v) else dz [2,2] (aH [aO c,aO d]) m
 |[],_=>⟨[(.agg [.str a,.str b],v)],by simp[re],by simp,fun c d=>by
  by_cases h:c=a∧d=b
  ·obtain⟨rfl,rfl⟩:=h;simp only[dz,ot,eE,jI,and_self,cw]
  have j:(c == a&&d == b)=false:=by
   cases g:(c == a)<;>cases i:(d == b)<;>simp_all
  simp only[dz,ot,j,if_neg h]⟩
 |e::r,o=>by
  obtain⟨t,u,p⟩:=o e (by simp);obtain⟨k,g,i,w⟩:=Vl a b v r (fun e f=>o e (by simp[f]));obtain⟨x,q⟩:=e;simp only at p;subst p;by_cases h:a=t∧b=u
  ·obtain⟨rfl,rfl⟩:=h;refine⟨(aH [aO a,aO b],v)::r,by simp only[re,ot,eE,jI],?_,fun c d=>?_⟩
   ·intro e f;rcases dX.1 f with rfl|f
    ·exact⟨a,b,rfl⟩
    exact o e (by simp[f])
   by_cases l:c=a∧d=b
   ·obtain⟨rfl,rfl⟩:=l;simp only[dz,ot,eE,jI,and_self,cw]
   have j:(c == a&&d == b)=false:=by
    cases g:(c == a)<;>cases i:(d == b)<;>simp_all
   simp only[dz,ot,j,if_neg l]
  have j:(a==t&&b==u)=false:=by
   cases g:(a==t)<;>cases i:(b==u)<;>simp_all
  refine⟨(aH [aO t,aO u],q)::k,by simp only[re,ot,j,g,dJ],?_,fun c d=>?_⟩
  ·intro e f;rcases dX.1 f with rfl|f
   ·exact⟨t,u,rfl⟩
   exact i e f
  by_cases l:c=t∧d=u
  ·obtain⟨rfl,rfl⟩:=l;have:¬(c=a∧d=b):=fun e=>h ⟨e.1.symm,e.2.symm⟩;simp only[dz,ot,eE,jI,if_neg this]
  have n:(c == t&&d == u)=false:=by
   cases g:(c == t)<;>cases i:(d == u)<;>simp_all
  simp only[dz,ot,n];exact w c d
theorem ac1(b:Bool)(l:List cK)(e:l.length≤8000)(n:List UInt8):∃(k:Int) (ok:Bool),bB I.qbi [.aa b (l.map cK.a),.fn I.qbm [] [],aO n]=some (fb [ap k,aC ok])∧(ok=true→0≤k∧k<l.length):=by
 have a:=kC (enc:=cK.a) (b:=b) (l:=l) (f:=snap [aB 1 0 [.fn I.qbm [] []],aB 1 0 [aO n]] (.fn I.qbj [] [aI 0 0 0 0,aI 1 0 0 0])) (p:=fun t=>t.name==n) (by unfold bD;omega) (fun _=>⟨rfl,rfl⟩) (fun σ=>pO _ _ _) (fun t _=>by
  have d:∀fl top base σ m,fz fl top base σ (m+3) t.a=t.a:=fun fl top base σ m=>Fx.fx fl top base σ m t;simp[U0,d])
 have c:wc (fun t:cK=>t.name==n) l<l.length:=by
  unfold wc;split
  ·rename_i h;have:=bQ (cB.1 h);omega
  omega
 rw[aR agD rfl];simp at a;generalize wc (fun t=>t.name==n) l=ix at *;refine⟨max ix 0,decide (0≤ix),?_,fun h=>by simp at h;omega⟩;simp[asH,abF,a];split<;>omega
theorem ajh(c:List cK)(b:c.length≤8000)(n:List UInt8):∃(k:Int) (ok:Bool),bB I.qbe [mC c,aO n]=some (fb [ap k,aC ok])∧(ok=true→0≤k∧k<c.length):=by
 obtain⟨k,ok,h,a⟩:=ac1 false c b n;refine⟨k,ok,?_,a⟩;rw[aR amZ rfl];simp[aub,aht,h]
theorem YY(t a:List UInt8):∃s,bB I.qu [aH [aO t,aO a]]=some (aO s):=by
 rw[aR apk rfl];cases a with
 |nil=>exact⟨t,by simp[ati,ahE,eT]⟩
 |cons x a=>exact⟨x::a,by simp[ati,ahE,eT]⟩
theorem afI:xr=.seq (.reg [i (.bin .lss (e 13) (e 12))] [(14,l 0)]) (.seq (.cond (e 14) .skip (.exit 1)) (.seq (.blk 2 (.seq I1 (.seq Hb (.seq Cx (.seq Jb Hy))))) (.reg [i (.bin .add (e 13) (v (ap 1)))] [(13,l 0)]))):=rfl
structure Fw (n:Nat) (σ σ':aw):Prop where
 le:σ.length≤σ'.length
 kl:∀(i:Nat) (o:Obj),i<n→σ[i]?=some o→σ'[i]?=some o
 km:∀(i m ep:Nat) (vs:List aq),m≠1→n+11≤i→σ[i]?=some (aB m ep vs)→σ'[i]?=some (aB m ep vs)
theorem Fr.w{n:Nat}{σ τ:aw}(h:Fr n σ τ):Fw n σ τ:=⟨h.le,fun i o hi=>h.kp i o (.inl hi),fun i m ep vs _ hi=>h.kp i _ (.inr hi)⟩
theorem Fw.trans{n:Nat}{a b c:aw}(h:Fw n a b)(d:Fw n b c):Fw n a c:=⟨bH h.le d.le,fun i o hi e=>d.kl i o hi (h.kl i o hi e),fun i m ep vs f hi e=>d.km i m ep vs f hi (h.km i m ep vs f hi e)⟩
theorem Fw.setIn{n:Nat}{σ τ:aw}(h:Fw n σ τ)(i:Nat)(o:Obj)(hi:n≤i∧i<n+11):Fw n σ (τ.set i o):=⟨by simpa using h.le,fun k p a b=>by
 rw[aD (by omega)];exact h.kl k p a b,fun k m ep vs c a b=>by
 rw[aD (by omega)];exact h.km k m ep vs c a b⟩
theorem SA.one{σ:aw}{n:Nat}{S S':fA}(h:SA σ n S)(k:Nat)(a:k<11)(o:Obj)(b:(Bm n S).set k o=Bm n S'):SA (σ.set (n+k) o) n S':=by
 obtain⟨P,J,rfl,rfl⟩:=h;refine⟨P,J,rfl,?_⟩;rw[fp _ _ (by omega),←b];have:P.length+k-P.length=k:=by omega
 rw[this,cG _ _ (by simpa using a)]
abbrev v7(n:Nat)(e1 e2 e3 e4:aq)(own:List UInt8)(e7 e8:aq)(af:List fD)(k:Nat)(e14:aq):List aq:=[aI (n+3) 0 0 0,e1,e2,e3,e4,aC true,aO own,e7,e8,aC false,aC false,.aa false (af.map fD.a),ap af.length,ap k,e14]
theorem VL{τ:aw}{n:Nat}{S:fA}(h:SA τ n S)(K:Nat)(g:adO τ n S.m2 K)(hK:K≤100)(D:Nat)(f:List UInt8)(kd:Int)(G:τ[D]?=some (aB 2 0 [aH [aO f,ap kd]]))(ag:n+11≤D)(e1 e2 e3 e4:aq)(own:List UInt8)(af:List fD)(k:Nat)(F:aq) :
  ∃(w:aw) (m:List (aq×aq)),run code Cx ⟨v7 n e1 e2 e3 e4 own (aI D 0 0 0) (ap K) af k F,τ⟩=some (.nrm,⟨v7 n e1 e2 e3 e4 own (aI D 0 0 0) (ap K) af k F,w⟩)∧SA w n { S with m2:=m }∧adO w n m (K+1)∧Fw n τ w:=by
 have a3:=h.at3;have a1:=h.at1;have A:τ[n+3]?=some (aB 25 0 [aH (iH n S)]):=by simpa using h.at3 []
 have z:τ[n+1]?=some (.map S.m2):=by simpa using h.at1 []
 have ad:=h.len;have R:=fu G;rcases g.al f with C|⟨id,l,C,hid,r,ah,aj,U⟩
 ·obtain⟨m,V,B,j⟩:=GV f (.sl τ.length 0 0 1) S.m2 g.ks;refine⟨(τ++[Obj.arr 1 0 [ap K]]).set (n+1) (.map m),m,?_,(h.app _).one 1 (by omega) _ rfl,⟨B,fun s=>?_,?_⟩,(Fr.app n τ _).w.setIn _ _ (by omega)⟩
  ·have W:1≤bD:=by unfold bD;omega
   simp[Cx,a3,A,a1,z,G,R,C,V,append,W]
  ·rw[j];by_cases d:s=f
   ·right;refine⟨τ.length,[(K:Int)],by rw[if_pos d];rfl,by omega,?_,by simp,by simp,fun x p=>by simp at p;omega⟩;rw[aD (by omega)];simp
   rw[if_neg d];refine (g.al s).imp id fun ⟨id,l,E,N,O,P,b5,Q⟩=>⟨id,l,E,N,?_,P,by omega,fun x p=>by have:=Q x p;omega⟩;rw[aD (by omega)];exact fu O _
  intro s s' i e e' o o' q q' a b;rw[j]at a b;have y:∀(t:List UInt8) (e o q:Nat),dz [] (aO t) S.m2=some (some (.sl τ.length e o q))→False:=fun t e o q v=>by
   rcases g.al t with hz|⟨id,l,hz,_,ab,_⟩
   ·rw[hz]at v;cases v
   rw[hz]at v;injection v with v;injection v with v;injection v with v;have:=(ak.1 ab).1;omega
  by_cases d:s=f
  ·rw[if_pos d]at a;injection a with a;injection a with a;injection a with a;by_cases c:s'=f
   ·rw[d,c]
   rw[if_neg c,←a]at b;exact (y _ _ _ _ b).elim
  rw[if_neg d]at a;by_cases c:s'=f
  ·rw[if_pos c]at b;injection b with b;injection b with b;injection b with b;rw[←b]at a;exact (y _ _ _ _ a).elim
  rw[if_neg c]at b;exact g.inj _ _ _ _ _ _ _ _ _ a b
 have J:id≠D:=fun e=>by
  rw[e,G]at r;injection r with r;injection r with r;cases r
 obtain⟨m,V,B,j⟩:=GV f (.sl id l.length 0 (l.length+1)) S.m2 g.ks;have H:=(ak.1 r).1;have c1:(τ.set id (aB 1 l.length (eD l++[ap K])))[n+1]?=some (.map S.m2):=by rw[aD (by omega)];exact z
 have c3:(τ.set id (aB 1 l.length (eD l++[ap K])))[n+3]?=some (aB 25 0 [aH (iH n S)]):=by rw[aD (by omega)];exact A
 have c7:(τ.set id (aB 1 l.length (eD l++[ap K])))[D]?=some (aB 2 0 [aH [aO f,ap kd]]):=by rw[aD J];exact G
 have T:l.length+1≤bD:=by unfold bD;omega
 have Z:List.take l.length (eD l)=eD l:=ay (by simp);have L:l.length-1+1=l.length:=by omega
 have ae:Fr n τ τ:=Fr.rfl' n τ;refine⟨(τ.set id (aB 1 l.length (eD l++[ap K]))).set (n+1) (.map m),m,?_,(h.set _ _ hid).one 1 (by omega) _ rfl,⟨B,fun s=>?_,?_⟩,?_⟩
 ·simp[Cx,A,z,G,C,V,append,r,T,Z,L,c1,c3,c7]
 ·rw[j];by_cases d:s=f
  ·right;refine⟨id,l++[(K:Int)],by rw[if_pos d];simp,hid,?_,by simp,by simp;omega,fun x p=>?_⟩
   ·rw[aD (by omega),aW H];simp
   rcases ba.1 p with p|p
   ·have:=U x p;omega
   rw[aP.1 p];omega
  rw[if_neg d];refine (g.al s).imp (fun x=>x) fun ⟨M,l',E,N,O,P,b5,Q⟩=>⟨M,l',E,N,?_,P,by omega,fun x p=>by have:=Q x p;omega⟩;have Y:id≠M:=fun e=>by
   rw[←e]at E;exact d (g.inj _ _ _ _ _ _ _ _ _ E C)
  rw[aD (by omega),aD Y];exact O
 ·intro s s' i e e' o o' q q' a b;rw[j]at a b;by_cases d:s=f
  ·rw[if_pos d]at a;injection a with a;injection a with a;injection a with a;by_cases c:s'=f
   ·rw[d,c]
   rw[if_neg c,←a]at b;exact (c (g.inj _ _ _ _ _ _ _ _ _ b C)).elim
  rw[if_neg d]at a;by_cases c:s'=f
  ·rw[if_pos c]at b;injection b with b;injection b with b;injection b with b;rw[←b]at a;exact (d (g.inj _ _ _ _ _ _ _ _ _ a C)).elim
  rw[if_neg c]at b;exact g.inj _ _ _ _ _ _ _ _ _ a b
 refine⟨by simp,fun i o hi u=>?_,fun i mm ep vs X hi u=>?_⟩
 ·rw[aD (by omega),aD (by omega)];exact u
 rw[aD (by omega)];by_cases I:id=i
 ·rw[←I,r]at u;injection u with u;injection u with u _ _;exact (X u.symm).elim
 rw[aD I];exact u
theorem SA.two{σ:aw}{n:Nat}{S S':fA}(h:SA σ n S)(k:Nat)(d:k<11)(o b:Obj)(e:((Bm n S).set k o).set 3 b=Bm n S'):SA ((σ.set (n+k) o).set (n+3) b) n S':=by
 obtain⟨P,J,rfl,rfl⟩:=h;refine⟨P,J,rfl,?_⟩;rw[fp _ _ (by omega),fp _ _ (by omega),←e];have a:P.length+k-P.length=k:=by omega
 have c:P.length+3-P.length=3:=by omega
 rw[a,c,cG _ _ (by simpa using d),cG _ _ (by simp)]
theorem RG{τ:aw}{n:Nat}{S:fA}(h:SA τ n S)(K:Nat)(o:acg S.m3 K)(d:Nat)(e:List UInt8)(w:Int)(u:τ[d]?=some (aB 2 0 [aH [aO e,ap w]]))(g i j l:aq)(own:List UInt8)(f:List fD)(k:Nat)(a:aq) :
  ∃(m:List (aq×aq)),run code Jb ⟨v7 n g i j l own (aI d 0 0 0) (ap K) f k a,τ⟩=some (.nrm,⟨v7 n g i j l own (aI d 0 0 0) (ap K) f k a,τ.set (n+2) (.map m)⟩)∧SA (τ.set (n+2) (.map m)) n { S with m3:=m }∧acg m (K+1):=by
 have r:τ[n+3]?=some (aB 25 0 [aH (iH n S)]):=by simpa using h.at3 []
 have q:τ[n+2]?=some (.map S.m3):=by simpa using h.at2 []
 obtain⟨m,v,b,c⟩:=Vl own e (ap K) S.m3 o.ks;refine⟨m,by simp[Jb,r,q,u,v],h.one 2 (by omega) _ rfl,⟨b,fun t s=>?_⟩⟩;rw[c];by_cases p:t=own∧s=e
 ·right;exact⟨(K:Int),by rw[if_pos p],by omega,by omega⟩
 rw[if_neg p];exact (o.bh t s).imp (fun x=>x) fun ⟨x,y,z,A⟩=>⟨x,y,z,by omega⟩
theorem WA{τ:aw}{n:Nat}{S:fA}(h:SA τ n S)(t:S.ac.length≤100)(f:Nat)(s:List UInt8)(a:Int)(r:τ[f]?=some (aB 2 0 [aH [aO s,ap a]]))(j l m o p:aq)(own:List UInt8)(g:List fD)(k:Nat)(b:aq) :
  run code Hy ⟨v7 n j l m o own (aI f 0 0 0) p g k b,τ⟩=some (.nrm,⟨v7 n j l m o own (aI f 0 0 0) p g k b,(τ.set (n+9) (aB 1 (S.ac.length+1) (eD S.ac++[ap a]))).set (n+3) (aB 25 0 [aH (iH n { S with ac:=S.ac++[a] })])⟩) ∧
   SA ((τ.set (n+9) (aB 1 (S.ac.length+1) (eD S.ac++[ap a]))).set (n+3) (aB 25 0 [aH (iH n { S with ac:=S.ac++[a] })])) n { S with ac:=S.ac++[a] }:=by
 have c:τ[n+3]?=some (aB 25 0 [aH (iH n S)]):=by simpa using h.at3 []
 have q:τ[n+9]?=some (aB 1 S.ac.length (eD S.ac)):=by simpa using h.at9 []
 have i:(τ.set (n+9) (aB 1 (S.ac.length+1) (eD S.ac++[ap a])))[n+3]?=some (aB 25 0 [aH (iH n S)]):=by rw[aD (by omega)];exact c
 have e:List.take S.ac.length (eD S.ac)=eD S.ac:=ay (by simp);have d:S.ac.length+1≤bD:=by unfold bD;omega
 refine⟨?_,h.two 9 (by omega) _ _ (by simp[Bm,eD])⟩;simp only[iH]at c i ⊢;simp[Hy,c,q,i,r,append,e,d]
theorem W4{τ:aw}{n:Nat}{S:fA}(h:SA τ n S)(v:ey τ n S)(W:S.ac.length≤90)(b d f g:aq)(own:List UInt8)(a:List fD)(L:a.length≤8000)(k:Nat)(c:fD)(y:a[k]?=some c)(base:Nat) :
  ∃(m:aw) (m2 m3:List (aq×aq)),bT code base [9999,7,8,14] xr ⟨v7 n b d f g own am am a k am,τ⟩=bT code base [9999,7,8,14] xr ⟨v7 n b d f g own am am a (k+1) am,m⟩∧SA m n { S with ac:=S.ac++[c.kind],m2:=m2,m3:=m3 }∧ey m n { S with ac:=S.ac++[c.kind],m2:=m2,m3:=m3 }∧Fw n τ m:=by
 have o:=(ak.1 y).1;have p:(k:Int)<(a.length:Int):=by omega
 have A:∀h:k<a.length,a[k]'h=c:=fun h=>(ak.1 y).2;have V:=cU o (by unfold bD;omega:a.length≤bD);have z:c.a=aH [aO c.name,ap c.kind]:=rfl;have j:=h.len;have K:=h.app [aB 2 0 [aH [aO c.name,ap c.kind]]];have r:(τ++[Obj.arr 2 0 [aH [aO c.name,ap c.kind]]])[τ.length]?=some (aB 2 0 [aH [aO c.name,ap c.kind]]):=by simp
 have w:=v.app [aB 2 0 [aH [aO c.name,ap c.kind]]];have E:=h.at3;have F:=h.at9;obtain⟨τ1,m2,M,R,B,C⟩:=VL K S.ac.length w.alone (by omega) τ.length c.name c.kind r j b d f g own a k (aC true);have t:=C.km _ 2 0 _ (by omega) j r;obtain⟨m3,N,T,q⟩:=RG R S.ac.length v.behind τ.length c.name c.kind t b d f g own a k (aC true);have D:Fw n (τ++[Obj.arr 2 0 [aH [aO c.name,ap c.kind]]]) (τ1.set (n+2) (.map m3)):=C.setIn _ _ (by omega);have u:=D.km _ 2 0 _ (by omega) j r;obtain⟨O,U⟩:=WA T (by show S.ac.length≤100;omega) τ.length c.name c.kind u b d f g (ap S.ac.length) own a k (aC true);have P:run code I1 ⟨v7 n b d f g own am am a k (aC true),τ⟩=some (.nrm,⟨v7 n b d f g own (aI τ.length 0 0 0) am a k (aC true),τ++[Obj.arr 2 0 [aH [aO c.name,ap c.kind]]]⟩):=by
  simp[I1,y,o,p,A,z]
 have Q:run code Hb ⟨v7 n b d f g own (aI τ.length 0 0 0) am a k (aC true),τ++[Obj.arr 2 0 [aH [aO c.name,ap c.kind]]]⟩=some (.nrm,⟨v7 n b d f g own (aI τ.length 0 0 0) (ap S.ac.length) a k (aC true),τ++[Obj.arr 2 0 [aH [aO c.name,ap c.kind]]]⟩):=by
  simp[Hb,E,F]
 refine⟨((τ1.set (n+2) (.map m3)).set (n+9) (aB 1 (S.ac.length+1) (eD S.ac++[ap c.kind]))).set (n+3) (aB 25 0 [aH (iH n { ({ ({ S with m2:=m2 }:fA) with m3:=m3 }:fA) with ac:=S.ac++[c.kind] })]),m2,m3,?_,U,⟨v.called,?_,?_⟩,((Fr.app n τ _).w.trans D |>.setIn _ _ (by omega)).setIn _ _ (by omega)⟩
 ·rw[aZ,afI,fy];have qh:run code (.reg [i (.bin .lss (e 13) (e 12))] [(14,l 0)]) ⟨v7 n b d f g own am am a k am,τ⟩=some (.nrm,⟨v7 n b d f g own am am a k (aC true),τ⟩):=by
   simp[p,o]
  rw[qh,bW,fy];have qc:run code (.cond (e 14) .skip (.exit 1)) ⟨v7 n b d f g own am am a k (aC true),τ⟩=some (.nrm,⟨v7 n b d f g own am am a k (aC true),τ⟩):=by
   simp
  rw[qc,bW,fy,agS,fy,P,bW,fy,Q,bW,fy,M,bW,fy,N,bW,O,O4,bW];have J:((k+1:Nat):Int)=(k:Int)+1:=by omega
  simp only[v7,J];simp[V,fv,←afI]
 ·have:(S.ac++[c.kind]).length=S.ac.length+1:=by simp
  show adO _ n m2 (S.ac++[c.kind]).length;rw[this];refine⟨B.ks,fun s=>(B.al s).imp (fun x=>x) fun ⟨id,l,G,q,H,I⟩=>⟨id,l,G,q,?_,I⟩,B.inj⟩;rw[aD (by omega),aD (by omega),aD (by omega)];exact H
 have:(S.ac++[c.kind]).length=S.ac.length+1:=by simp
 show acg m3 (S.ac++[c.kind]).length;rw[this];exact q
theorem Y1{n:Nat}(c d e f:aq)(own:List UInt8)(a:List fD)(u:a.length≤4)(base:Nat):∀(m k:Nat) (τ:aw) (S:fA),k+m=a.length→SA τ n S→ey τ n S→S.ac.length+m≤90 →
  ∃(b:aw) (m2 m3:List (aq×aq)),bT code base [9999,7,8,14] xr ⟨v7 n c d e f own am am a k am,τ⟩=some (.ext 1,⟨v7 n c d e f own am am a a.length (aC false),b⟩)∧SA b n { S with ac:=S.ac++(a.drop k).map fD.kind,m2:=m2,m3:=m3 }∧ey b n { S with ac:=S.ac++(a.drop k).map fD.kind,m2:=m2,m3:=m3 }∧Fw n τ b:=by
 intro m;induction m with
 |zero=>
  intro k τ S i h g _;have i:k=a.length:=by omega
  subst i;refine⟨τ,S.m2,S.m3,?_,by simpa using h,by simpa using g,(Fr.rfl' n τ).w⟩;rw[aZ];simp[xr]
 |succ m v=>
  intro k τ S i h g A;have t:=au (show k<a.length by omega);obtain⟨τ1,m2,m3,w,y,p,r⟩:=W4 h g (by omega) c d e f own a (by omega) k _ t base;obtain⟨o,j,l,x,z,q,s⟩:=v (k+1) τ1 _ (by omega) y p (by simp;omega);have hd:(a.drop k).map fD.kind=a[k].kind::(a.drop (k+1)).map fD.kind:=by
   rw[dl (by omega)];rfl
  refine⟨o,j,l,w.trans x,?_,?_,r.trans s⟩
  ·rw[hd];simpa using z
  rw[hd];simpa using q
theorem Cs{σ:aw}{n:Nat}{S:fA}(h:SA σ n S)(y:ey σ n S)(o:S.cat.length≤8000)(j:∀tb∈S.cat,tb.af.length≤4)(hK:S.ac.length≤60)(hT:S.tables.length≤10)(t a:List UInt8) :
  ∃(e:Int) (g:aw) (S':fA),cD code I.qam [aI (n+3) 0 0 0,aH [aO t,aO a]] σ=some (ap e,g)∧SA g n S'∧Fw n σ g∧(e=0→ey g n S'∧∃(i:Int) (m1 m2 m3:List (aq×aq)),0≤i∧i<S.cat.length∧S'={ S with tables:=S.tables++[i],ac:=S.ac++(S.cat[i.toNat]?.map cK.ac).getD [],m1:=m1,m2:=m2,m3:=m3 }):=by
 rw[cz amk rfl];have w:=h.at3;have ad:σ[n+3]?=some (aB 25 0 [aH (iH n S)]):=by simpa using h.at3 []
 have X:=h.at0;have Z:=h.len;obtain⟨z,ok,c,J⟩:=ajh S.cat o t;obtain⟨own,f⟩:=YY t a;have hE:arO.body=Oe:=rfl;have P:[aq.ptr (n+3) 0 0 0,aH [aO t,aO a]].take arO.np++List.replicate (arO.nenv-arO.np) aq.any=[aI (n+3) 0 0 0,aH [aO t,aO a],am,am,am,am,am,am,am,am,am,am,am,am,am]:=rfl;rw[hE,P];have k:SA (σ++[aB 2 0 [aH [aO t,aO a]]]) n S:=h.app _;have q:Fw n σ (σ++[aB 2 0 [aH [aO t,aO a]]]):=(Fr.app n σ _).w;have e0:Oe=.seq lz (.seq lI (.seq lC (.seq lq (.seq lG (.seq lS (.seq lO pQ)))))):=rfl;cases ok with
 |false=>
  refine⟨220,_,S,?_,k,q,fun e=>by cases e⟩;simp[arO,Oe,w,c,f]
 |true=>
  obtain⟨ae,af⟩:=J rfl;rcases y.called.cl own with F|F
  rotate_left
  ·refine⟨221,_,S,?_,k,q,fun e=>by cases e⟩;simp[arO,Oe,w,X,c,f,F]
  obtain⟨m1,hm,N,O⟩:=GV own (aC true) S.m1 y.called.ks;have G:al8 m1:=⟨N,fun s=>by
   rw[O];by_cases hs:s=own
   ·rw[if_pos hs];exact .inr rfl
   rw[if_neg hs];exact y.called.cl s⟩
  obtain⟨tb,d⟩:∃tb,S.cat[z.toNat]?=some tb:=⟨S.cat[z.toNat]'(by omega),au (by omega)⟩;have W:=aN d;have U:=j tb W;obtain⟨p,rfl⟩:∃p:Nat,z=(p:Int):=⟨z.toNat,by omega⟩;simp only[Int.toNat_natCast]at d;have R:p<S.cat.length:=(ak.1 d).1;have r:(p:Int)<(S.cat.length:Int):=by omega
  have Q:∀h:p<S.cat.length,S.cat[p]'h=tb:=fun h=>(ak.1 d).2;have T:tb.a=aH [aO tb.name,.aa false (tb.af.map fD.a),.aa false (tb.keys.map (.int .i64))]:=rfl;have B:=h.at0 [Obj.arr 2 0 [aH [aO t,aO a]]];have l:=h.at3 [Obj.arr 2 0 [aH [aO t,aO a]]];have C:=h.at4 [Obj.arr 2 0 [aH [aO t,aO a]]];have H:Fw n σ (σ++[Obj.arr 2 0 [aH [aO t,aO a]]]):=(Fr.app n σ _).w;have E:=y.app [Obj.arr 2 0 [aH [aO t,aO a]]];have q0:run code lz ⟨[aI (n+3) 0 0 0,aH [aO t,aO a],am,am,am,am,am,am,am,am,am,am,am,am,am],σ⟩=some (.nrm,⟨[aI (n+3) 0 0 0,aH [aO t,aO a],aI σ.length 0 0 0,i0,am,am,am,am,am,am,am,am,am,am,am],σ++[Obj.arr 2 0 [aH [aO t,aO a]]]⟩):=by
   simp[lz]
  have q1:run code lI ⟨[aI (n+3) 0 0 0,aH [aO t,aO a],aI σ.length 0 0 0,i0,am,am,am,am,am,am,am,am,am,am,am],σ++[Obj.arr 2 0 [aH [aO t,aO a]]]⟩=some (.nrm,⟨[aI (n+3) 0 0 0,aH [aO t,aO a],aI σ.length 0 0 0,i0,ap p,aC true,am,am,am,am,am,am,am,am,am],σ++[Obj.arr 2 0 [aH [aO t,aO a]]]⟩):=by
   simp[lI,w,c]
  have q2:run code lC ⟨[aI (n+3) 0 0 0,aH [aO t,aO a],aI σ.length 0 0 0,i0,ap p,aC true,am,am,am,am,am,am,am,am,am],σ++[Obj.arr 2 0 [aH [aO t,aO a]]]⟩=some (.nrm,⟨[aI (n+3) 0 0 0,aH [aO t,aO a],aI σ.length 0 0 0,i0,ap p,aC true,aO own,am,am,am,am,am,am,am,am],σ++[Obj.arr 2 0 [aH [aO t,aO a]]]⟩):=by
   simp[lC,f]
  have q3:run code lq ⟨[aI (n+3) 0 0 0,aH [aO t,aO a],aI σ.length 0 0 0,i0,ap p,aC true,aO own,am,am,am,am,am,am,am,am],σ++[Obj.arr 2 0 [aH [aO t,aO a]]]⟩=some (.nrm,⟨[aI (n+3) 0 0 0,aH [aO t,aO a],aI σ.length 0 0 0,i0,ap p,aC true,aO own,am,am,aC false,aC false,am,am,am,am],σ++[Obj.arr 2 0 [aH [aO t,aO a]]]⟩):=by
   simp[lq,w,X,F]
  generalize ab:σ++[Obj.arr 2 0 [aH [aO t,aO a]]]=b at *;have s1:SA (b.set (n+0) (.map m1)) n { S with m1:=m1 }:=k.one 0 (by omega) _ rfl;have D:(b.set n (.map m1))[n+3]?=some (aB 25 0 [aH (iH n S)]):=by rw[aD (by omega)];exact l
  have c4:(b.set n (.map m1))[n+4]?=some (aB 1 S.tables.length (eD S.tables)):=by rw[aD (by omega)];exact C
  have Y:((b.set n (.map m1)).set (n+4) (aB 1 (S.tables.length+1) (eD S.tables++[ap p])))[n+3]?=some (aB 25 0 [aH (iH n S)]):=by rw[aD (by omega)];exact D
  have s2:SA (((b.set (n+0) (.map m1)).set (n+4) (aB 1 (S.tables.length+1) (eD S.tables++[ap p]))).set (n+3) (aB 25 0 [aH (iH n { ({ S with m1:=m1 }:fA) with tables:=S.tables++[(p:Int)] })])) n { ({ S with m1:=m1 }:fA) with tables:=S.tables++[(p:Int)] }:=s1.two 4 (by omega) _ _ (by simp[Bm,eD]);have m:Fr n b (((b.set (n+0) (.map m1)).set (n+4) (aB 1 (S.tables.length+1) (eD S.tables++[ap p]))).set (n+3) (aB 25 0 [aH (iH n { ({ S with m1:=m1 }:fA) with tables:=S.tables++[(p:Int)] })])):=(((Fr.rfl' n b).setIn _ _ (by omega)).setIn _ _ (by omega)).setIn _ _ (by omega);have M2:ey (((b.set (n+0) (.map m1)).set (n+4) (aB 1 (S.tables.length+1) (eD S.tables++[ap p]))).set (n+3) (aB 25 0 [aH (iH n { ({ S with m1:=m1 }:fA) with tables:=S.tables++[(p:Int)] })])) n { ({ S with m1:=m1 }:fA) with tables:=S.tables++[(p:Int)] }:=by
   have:=E.fr m (S':=S) rfl rfl rfl rfl;exact⟨G,this.alone,this.behind⟩
  obtain⟨v,m2,m3,A,s6,M6,f6⟩:=Y1 (n:=n) (aH [aO t,aO a]) (aI σ.length 0 0 0) i0 (ap p) own tb.af U b.length tb.af.length 0 _ _ (by omega) s2 M2 (by show S.ac.length+tb.af.length≤90;omega);have x:=s2.at3 [];simp only[dK]at x;have K:(S.cat[((p:Int)).toNat]?.map cK.ac).getD []=tb.af.map fD.kind:=by
   simp only[Int.toNat_natCast,d];rfl
  refine⟨0,v,_,?_,s6,(H.trans m.w).trans f6,fun _=>⟨M6,p,m1,m2,m3,by omega,r,by rw[K];rfl⟩⟩;have V:List.take S.tables.length (eD S.tables)=eD S.tables:=ay (by simp);have L:S.tables.length+1≤bD:=by unfold bD;omega
  have q4:run code lG ⟨[aI (n+3) 0 0 0,aH [aO t,aO a],aI σ.length 0 0 0,i0,ap p,aC true,aO own,am,am,aC false,aC false,am,am,am,am],b⟩=some (.nrm,⟨[aI (n+3) 0 0 0,aH [aO t,aO a],aI σ.length 0 0 0,i0,ap p,aC true,aO own,am,am,aC false,aC false,am,am,am,am],b.set n (.map m1)⟩):=by
   simp[lG,l,B,hm]
  have q5:run code lS ⟨[aI (n+3) 0 0 0,aH [aO t,aO a],aI σ.length 0 0 0,i0,ap p,aC true,aO own,am,am,aC false,aC false,am,am,am,am],b.set n (.map m1)⟩=some (.nrm,⟨[aI (n+3) 0 0 0,aH [aO t,aO a],aI σ.length 0 0 0,i0,ap p,aC true,aO own,am,am,aC false,aC false,am,am,am,am],((b.set n (.map m1)).set (n+4) (aB 1 (S.tables.length+1) (eD S.tables++[ap p]))).set (n+3) (aB 25 0 [aH (iH n { ({ S with m1:=m1 }:fA) with tables:=S.tables++[(p:Int)] })])⟩):=by
   simp only[iH]at D Y ⊢;simp[lS,D,c4,Y,append,V,L]
  simp only[ew]at A x;generalize u:((b.set n (.map m1)).set (n+4) (aB 1 (S.tables.length+1) (eD S.tables++[ap p]))).set (n+3) (aB 25 0 [aH (iH n { ({ S with m1:=m1 }:fA) with tables:=S.tables++[(p:Int)] })])=σB at *;have q7:run code lO ⟨[aI (n+3) 0 0 0,aH [aO t,aO a],aI σ.length 0 0 0,i0,ap p,aC true,aO own,am,am,aC false,aC false,am,am,am,am],σB⟩=some (.nrm,⟨v7 n (aH [aO t,aO a]) (aI σ.length 0 0 0) i0 (ap p) own am am tb.af tb.af.length (aC false),v⟩):=by
   have M:b.length=σB.length:=by rw[←u];simp
   rw[M]at A;simp only[v7,aY]at A ⊢;simp only[iH]at x;simp[lO,x,d,R,r,Q,T,A]
  rw[e0,fy,q0,bW,fy,q1,bW,fy,q2,bW,fy,q3,bW,fy,q4,bW,fy,q5,bW,fy,q7,bW];simp[arO,pQ,pG,pE]
def PwR(σ:aw)(n:Nat)(Q:aw→fA→Prop)(r:Option (aq×aw)):Prop:=
 ∃(e:Int) (σ':aw) (S':fA),r=some (ap e,σ')∧SA σ' n S'∧Fw n σ σ'∧(e=0→Q σ' S')
structure CtOk (c:List cK):Prop where
 le:c.length≤8000
 af:∀tb∈c,tb.af.length≤4
abbrev Af(c:List cK)(t:Int):List Int:=(c[t.toNat]?.map cK.ac).getD []
def NoG(S:fA):Prop:=S.keys=[]∧S.ah=[]∧S.groups=[]
theorem NoG.ok{S:fA}(h:NoG S):wd S:=by
 obtain⟨b,a,c⟩:=h;exact⟨by rw[b];simp,by rw[b];simp,by rw[a];simp,by rw[a];simp,by rw[a];simp,by rw[b,a,c];rfl⟩
theorem PV{σ:aw}{n:Nat}{S:fA}(h:SA σ n S)(o:ey σ n S)(j:CtOk S.cat)(m:S.ac.length≤60)(p:S.tables.length≤10) :
  PwR σ n (fun d S'=>ey d n S'∧∃(i:Int) (m1 m2 m3:List (aq×aq)),0≤i∧i<S.cat.length∧S'={ S with at':=0,tables:=S.tables++[i],ac:=S.ac++Af S.cat i,m1:=m1,m2:=m2,m3:=m3 }) (cD code I.qaf [aI (n+3) 0 0 0] σ):=by
 have k:=h.len;have t:n+3<σ.length:=by omega
 have f:σ[n+3]?=some (aB 25 0 [aH (iH n S)]):=by simpa using h.at3 []
 have l:SA (σ.set (n+3) (aB 25 0 [aH (iH n { S with at':=0 })])) n { S with at':=0 }:=h.put rfl;have g:(σ.set (n+3) (aB 25 0 [aH (iH n { S with at':=0 })]))[n+3]?=some (aB 25 0 [aH (iH n { S with at':=0 })]):=by rw[aW t]
 have b:Fr n σ (σ.set (n+3) (aB 25 0 [aH (iH n { S with at':=0 })])):=(Fr.rfl' n σ).setIn _ _ (by omega);obtain⟨e,τ,S',a,s,r,c⟩:=Cs l (o.fr b rfl rfl rfl rfl) j.le j.af m p S.fr.table S.fr.as';refine⟨e,τ,S',?_,s,b.w.trans r,fun q=>?_⟩
 ·rw[cz anL rfl];simp only[iH]at f g a;simp[aue,af6,f,g,a]
 obtain⟨M,i,m1,m2,m3,u,v,w⟩:=c q;exact⟨M,i,m1,m2,m3,u,v,w⟩
abbrev jnE(n:Nat)(L:List o7)(k:Nat)(e1 e2 e3 e4 e5 e9 e10 e11:aq):List aq:=[aI (n+3) 0 0 0,e1,e2,e3,e4,e5,.aa false (L.map o7.a),ap L.length,ap k,e9,e10,e11]
noncomputable abbrev jnR(n:Nat)(L:List o7)(k:Nat)(base:Nat)(τ:aw):Option (Ex×St):=bT code base [9999,1,2,3,4,5,9,10,11] vl ⟨jnE n L k am am am am am am am am,τ⟩
def aeP(n:Nat)(τ:aw)(r:Option (Ex×St)):Prop:=∃(e:Int) (env:List aq) (τ':aw) (S':fA),r=some (.ret,⟨env,τ'⟩)∧e≠0∧env[1]?=some (ap e)∧SA τ' n S'∧Fw n τ τ'
theorem aaA{τ:aw}{n:Nat}{S:fA}(h:SA τ n S)(hM:ey τ n S)(O:CtOk S.cat)(hK:S.ac.length≤50)(hT:S.tables.length≤10)(N:NoG S)(hJ:S.joins.length≤10)(L:List o7)(k:Nat)(x:o7)(E:L[k]?=some x)(hL:L.length≤8000)(hO:mu x.on)(base:Nat) :
  aeP n τ (jnR n L k base τ)∨∃(l:aw) (i:Int) (es:List EN) (m1 m2 m3:List (aq×aq)),jnR n L k base τ=jnR n L (k+1) base l∧0≤i∧i<S.cat.length∧es.length≤1000∧jq es (S.ac++Af S.cat i)=true∧SA l n { S with tables:=S.tables++[i],ac:=S.ac++Af S.cat i,joins:=S.joins++[⟨x.left,es⟩],m1:=m1,m2:=m2,m3:=m3 }∧ey l n { S with tables:=S.tables++[i],ac:=S.ac++Af S.cat i,joins:=S.joins++[⟨x.left,es⟩],m1:=m1,m2:=m2,m3:=m3 }∧Fw n τ l:=by
 have f:=(ak.1 E).1;have u:(k:Int)<(L.length:Int):=by omega
 have t:∀h:k<L.length,L[k]'h=x:=fun h=>(ak.1 E).2;have w2:=cU f (by unfold bD;omega:L.length≤bD);have v:x.a=aH [aC x.left,aO x.table,aO x.as',.aa false (x.on.map eO.a)]:=rfl;have p:=h.len;obtain⟨e,τ1,a,r,s1,f1,k1⟩:=Cs (h.app [aB 4 0 [aH [aC x.left,aO x.table,aO x.as',.aa false (x.on.map eO.a)]]]) (hM.app _) O.le O.af (by omega) hT x.table x.as';have w:Fw n τ τ1:=(Fr.app n τ _).w.trans f1;unfold jnR;by_cases Q:e=0
 rotate_left
 ·left;have:∃env,bT code base [9999,1,2,3,4,5,9,10,11] vl ⟨jnE n L k am am am am am am am am,τ⟩=some (.ret,⟨env,τ1⟩)∧env[1]?=some (ap e):=by
   rw[aZ];exact⟨_,by simp[vl,u,f,E,t,v,r,Q];rfl,rfl⟩
  obtain⟨env,X,I⟩:=this;exact⟨e,env,τ1,a,X,Q,I,s1,w⟩
 subst Q;obtain⟨Z,i,m1,m2,m3,i1,i2,c⟩:=k1 rfl;have af:(Af S.cat i).length≤4:=by
  have C:i.toNat < S.cat.length:=by omega
  show ((S.cat[i.toNat]?.map cK.ac).getD []).length≤4;rw[au C];have:=O.af _ (aJ C);simpa [cK.ac] using this
 have q:=f1.km τ.length 4 0 _ (by omega) p (by simp:(τ++[Obj.arr 4 0 [aH [aC x.left,aO x.table,aO x.as',.aa false (x.on.map eO.a)]]])[τ.length]?=some (aB 4 0 [aH [aC x.left,aO x.table,aO x.as',.aa false (x.on.map eO.a)]]));have G1:wd a:=by
  rw[c];exact NoG.ok ⟨N.1,N.2.1,N.2.2⟩
 have R:a.ac.length≤8000:=by
  rw[c];show (S.ac++Af S.cat i).length≤8000;rw[cn];omega
 obtain⟨o,K,b,A,G,d,U,s2,M,W,k2⟩:=BM s1 Z G1 hO R false;obtain⟨rfl,rfl⟩:=W rfl;simp only[dK]at s2 k2;have g:SA b n a:=s2;have B:=M.kp _ _ (.inr p) q;have m:=fu B;have y:Fw n τ b:=w.trans M.w;have V:=vj (o.map (·.map EN.a));by_cases s:K=0
 rotate_left
 ·left;have:∃env,bT code base [9999,1,2,3,4,5,9,10,11] vl ⟨jnE n L k am am am am am am am am,τ⟩=some (.ret,⟨env,b++[aB 1 0 [oD o]]⟩)∧env[1]?=some (ap K):=by
   rw[aZ];simp only[oD]at d ⊢;generalize sv (o.map (·.map EN.a))=ov at *;exact⟨_,by simp[vl,u,f,E,t,v,r,q,d,V,s];rfl,rfl⟩
  obtain⟨env,X,I⟩:=this;exact⟨K,env,_,a,X,s,I,g.app _,y.trans (Fr.app n b _).w⟩
 subst s;right;obtain⟨_,b2,b3⟩:=k2 rfl;obtain⟨es,rfl⟩:=cN.1 b2;have H:jq es a.ac=true:=b3;have ae:a.joins.length≤10:=by rw[c];exact hJ
 have F:=g.at3 [Obj.arr 1 0 [aH [.aa false (es.map EN.a)]]];have a5:(b++[Obj.arr 1 0 [aH [.aa false (es.map EN.a)]]])[n+5]?=some (aB 2 a.joins.length (a.joins.map JX.a)):=by
  obtain⟨P,J,rfl,rfl⟩:=g;simp
 have d3:((b++[Obj.arr 1 0 [aH [.aa false (es.map EN.a)]]]).set (n+5) (aB 2 (a.joins.length+1) (a.joins.map JX.a++[aH [aC x.left,.aa false (es.map EN.a)]])))[n+3]?=some (aB 25 0 [aH (iH n a)]):=by rw[aD (by omega)];exact F
 have s3:SA (((b++[Obj.arr 1 0 [aH [.aa false (es.map EN.a)]]]).set (n+5) (aB 2 (a.joins.length+1) (a.joins.map JX.a++[aH [aC x.left,.aa false (es.map EN.a)]]))).set (n+3) (aB 25 0 [aH (iH n { a with joins:=a.joins++[⟨x.left,es⟩] })])) n { a with joins:=a.joins++[⟨x.left,es⟩] }:=(g.app _).two 5 (by omega) _ _ (by simp[Bm,JX.a]);have z:Fr n b (((b++[Obj.arr 1 0 [aH [.aa false (es.map EN.a)]]]).set (n+5) (aB 2 (a.joins.length+1) (a.joins.map JX.a++[aH [aC x.left,.aa false (es.map EN.a)]]))).set (n+3) (aB 25 0 [aH (iH n { a with joins:=a.joins++[⟨x.left,es⟩] })])):=((Fr.app n b _).setIn _ _ (by omega)).setIn _ _ (by omega);have M3:ey (((b++[Obj.arr 1 0 [aH [.aa false (es.map EN.a)]]]).set (n+5) (aB 2 (a.joins.length+1) (a.joins.map JX.a++[aH [aC x.left,.aa false (es.map EN.a)]]))).set (n+3) (aB 25 0 [aH (iH n { a with joins:=a.joins++[⟨x.left,es⟩] })])) n { a with joins:=a.joins++[⟨x.left,es⟩] }:=Z.fr (M.trans z) rfl rfl rfl rfl;have D:List.take a.joins.length (a.joins.map JX.a)=a.joins.map JX.a:=ay (by simp);have T:a.joins.length+1≤bD:=by unfold bD;omega
 have ab:∀j:JX,aM j.a=2:=fun _=>rfl;refine⟨((b++[Obj.arr 1 0 [aH [.aa false (es.map EN.a)]]]).set (n+5) (aB 2 (a.joins.length+1) (a.joins.map JX.a++[aH [aC x.left,.aa false (es.map EN.a)]]))).set (n+3) (aB 25 0 [aH (iH n { a with joins:=a.joins++[⟨x.left,es⟩] })]),i,es,m1,m2,m3,?_,i1,i2,U,by rw[←show a.ac=S.ac++Af S.cat i by rw[c]];exact H,by rw[c]at s3 ⊢;exact s3,by rw[c]at M3 ⊢;exact M3,y.trans z.w⟩;have Y:oD (some es)=aH [.aa false (es.map EN.a)]:=rfl;rw[Y]at d;rw[aZ];have ek:((k+1:Nat):Int)=(k:Int)+1:=by omega
 simp only[iH,jnE,ek]at F d3 ⊢;have ad:=m [Obj.arr 1 0 [aH [.aa false (es.map EN.a)]]];simp[vl,u,f,E,t,v,r,q,d,m,F,a5,d3,append,D,T,w2,fv]
abbrev yq(c:List cK)(ts:List Int):List Int:=ts.flatMap (Af c)
structure Jg (c:List cK) (ts:List Int) (js:List JX):Prop where
 len:ts.length=js.length+1
 rng:∀t∈ts,0≤t∧t<c.length
 on:∀q j,js[q]?=some j→j.on.length≤1000∧jq j.on (yq c (ts.take (q+2)))=true
theorem Jg.snoc{c:List cK}{e:List Int}{f:List JX}(h:Jg c e f){i:Int}(m:0≤i)(n:i<c.length){es:List EN}(o:es.length≤1000)(p:jq es (yq c e++Af c i)=true)(b:Bool):Jg c (e++[i]) (f++[⟨b,es⟩]):=by
 refine⟨by simp[h.len],?_,?_⟩
 ·intro t a;rcases ba.1 a with a|a
  ·exact h.rng t a
  rw[aP.1 a];exact⟨m,n⟩
 intro q j d;have l:=h.len;by_cases g:q<f.length
 ·rw[aQ g]at d;have:=h.on q j d;rw[kE (by omega)];exact this
 have k:q=f.length:=by
  have:=(ak.1 d).1;simp at this;omega
 subst k;simp at d;subst d;refine⟨o,?_⟩;rw[ay (by simp;omega)];have:yq c (e++[i])=yq c e++Af c i:=by simp[yq]
 rw[this];exact p
theorem acA{c:List cK}(b:CtOk c){i:Int}(d:0≤i)(e:i<c.length):(Af c i).length≤4:=by
 have a:i.toNat < c.length:=by omega
 show ((c[i.toNat]?.map cK.ac).getD []).length≤4;rw[au a];have:=b.af _ (aJ a);simpa [cK.ac] using this
theorem CB{c:List cK}(d:CtOk c):∀(a:List Int),(∀t∈a,0≤t∧t<c.length)→(yq c a).length≤4*a.length
 |[],_=>by simp[yq]
 |t::a,h=>by
  have b:=h t (by simp);have f:=CB d a (fun t e=>h t (by simp[e]));have g:=acA d b.1 b.2;have:yq c (t::a)=Af c t++yq c a:=by simp[yq]
  rw[this,cn,bw];omega
theorem adr{n:Nat}(L:List o7)(M:L.length≤2)(E:∀x∈L,mu x.on)(base:Nat):∀(m k:Nat) (τ:aw) (S:fA),k+m=L.length→SA τ n S→ey τ n S→CtOk S.cat→NoG S→Jg S.cat S.tables S.joins→S.ac=yq S.cat S.tables→S.joins.length=k →
  aeP n τ (jnR n L k base τ)∨∃(j:aw) (o:List Int) (p:List JX) (m1 m2 m3:List (aq×aq)),jnR n L k base τ=some (.ext 0,⟨jnE n L L.length am am am am am (aC false) am am,j⟩)∧SA j n { S with tables:=o,joins:=p,ac:=yq S.cat o,m1:=m1,m2:=m2,m3:=m3 }∧ey j n { S with tables:=o,joins:=p,ac:=yq S.cat o,m1:=m1,m2:=m2,m3:=m3 }∧Jg S.cat o p∧p.length=L.length∧Fw n τ j:=by
 intro m;induction m with
 |zero=>
  intro k τ S w h t s q r g l;have w:k=L.length:=by omega
  subst w;right;refine⟨τ,S.tables,S.joins,S.m1,S.m2,S.m3,?_,by rw[←g];exact h,by rw[←g];exact t,r,l,(Fr.rfl' n τ).w⟩;unfold jnR;rw[aZ];simp[vl]
 |succ m J=>
  intro k τ S w h t s q r g l;have G:=au (show k<L.length by omega);have B:=r.len;have y:S.ac.length≤50:=by
   rw[g];have:=CB s S.tables r.rng;omega
  rcases aaA h t s y (by omega) q (by omega) L k _ G (by omega) (E _ (aJ _)) base with u|⟨τ1,i,es,m1,m2,m3,C,H,I,v,F,K,D,A⟩
  ·exact .inl u
  have z:S.ac++Af S.cat i=yq S.cat (S.tables++[i]):=by rw[g];simp[yq]
  rcases J (k+1) τ1 _ (by omega) K D s ⟨q.1,q.2.1,q.2.2⟩ (r.snoc H I v (by rw[←g];exact F) _) z (by simp[l]) with u|⟨τ2,o,p,m1',m2',m3',q2,s2,M2,J2,l2,f2⟩
  ·left;obtain⟨e,env,j,S',a,b,c,d,f⟩:=u;exact⟨e,env,j,S',C.trans a,b,c,d,A.trans f⟩
  right;exact⟨τ2,o,p,m1',m2',m3',C.trans q2,s2,M2,J2,l2,A.trans f2⟩
theorem Po{σ:aw}{n:Nat}{S:fA}(h:SA σ n S)(C:ey σ n S)(E:CtOk S.cat)(k:NoG S)(B:Jg S.cat S.tables S.joins)(r:S.joins=[])(s:S.ac=yq S.cat S.tables)(D:∀x∈S.fr.joins,mu x.on) :
  PwR σ n (fun v S'=>ey v n S'∧∃(g:List Int) (f:List JX) (m1 m2 m3:List (aq×aq)),Jg S.cat g f∧f.length=S.fr.joins.length∧S'={ S with at':=1,tables:=g,joins:=f,ac:=yq S.cat g,m1:=m1,m2:=m2,m3:=m3 }) (cD code I.qak [aI (n+3) 0 0 0] σ):=by
 have w:=h.len;have G:n+3<σ.length:=by omega
 have i:σ[n+3]?=some (aB 25 0 [aH (iH n S)]):=by simpa using h.at3 []
 have A:SA (σ.set (n+3) (aB 25 0 [aH (iH n { S with at':=1 })])) n { S with at':=1 }:=h.put rfl;have j:(σ.set (n+3) (aB 25 0 [aH (iH n { S with at':=1 })]))[n+3]?=some (aB 25 0 [aH (iH n { S with at':=1 })]):=by rw[aW G]
 have b:Fr n σ (σ.set (n+3) (aB 25 0 [aH (iH n { S with at':=1 })])):=(Fr.rfl' n σ).setIn _ _ (by omega);have o:ey (σ.set (n+3) (aB 25 0 [aH (iH n { S with at':=1 })])) n { S with at':=1 }:=C.fr b rfl rfl rfl rfl;have q:=S.fr.hj;have a:=adr S.fr.joins q D σ.length S.fr.joins.length 0 _ _ (by omega) A o E ⟨k.1,k.2.1,k.2.2⟩ B s (by rw[r];rfl);rw[cz amN rfl];unfold jnR at a;simp only[jnE,aY]at a;rcases a with⟨e,env,c,S',d,F,y,u,p⟩|⟨c,g,f,m1,m2,m3,d,u,m,l,t,p⟩
 ·refine⟨e,c,S',?_,u,b.w.trans p,fun z=>absurd z F⟩;simp only[iH]at i j d;simp[as7,XA,i,j,d,y]
 refine⟨0,c,_,?_,u,b.w.trans p,fun _=>⟨m,g,f,m1,m2,m3,l,t,rfl⟩⟩;simp only[iH]at i j d;simp[as7,XA,i,j,d]
abbrev gpE(n:Nat)(L:List uV)(k:Nat)(e1 e2 e3 e4 e8 e9:aq):List aq:=[aI (n+3) 0 0 0,e1,e2,e3,e4,.aa false (L.map uV.a),ap L.length,ap k,e8,e9]
noncomputable abbrev gpR(n:Nat)(L:List uV)(k:Nat)(base:Nat)(τ:aw):Option (Ex×St):=bT code base [9999,1,2,3,4,8,9] AA ⟨gpE n L k am am am am am am,τ⟩
def agm(n:Nat)(τ:aw)(r:Option (Ex×St)):Prop:=∃(e:Int) (env:List aq) (τ':aw) (S':fA),r=some (.ret,⟨env,τ'⟩)∧e≠0∧env[1]?=some (ap e)∧SA τ' n S'∧Fr n τ τ'
theorem Zi{τ:aw}{n:Nat}{S:fA}(h:SA τ n S)(N:ey τ n S)(A:wd S)(l:S.ah=[])(X:S.ac.length≤8000)(Q:S.keys.length≤2)(L:List uV)(k:Nat)(x:uV)(y:L[k]?=some x)(Y:L.length≤8000)(base:Nat) :
  agm n τ (gpR n L k base τ)∨∃(a:aw) (c:Int),gpR n L k base τ=gpR n L (k+1) base a∧SA a n { S with keys:=S.keys++[c],groups:=S.groups++[S.ac.getD c.toNat 0] }∧wd { S with keys:=S.keys++[c],groups:=S.groups++[S.ac.getD c.toNat 0] }∧Fr n τ a:=by
 have i:=(ak.1 y).1;have r:(k:Int)<(L.length:Int):=by omega
 have o:∀h:k<L.length,L[k]'h=x:=fun h=>(ak.1 y).2;have W:=cU i (by unfold bD;omega:L.length≤bD);have w:x.a=aH [aO x.table,aO x.name]:=rfl;obtain⟨c,e,b,E⟩:=FO (h.app [aB 2 0 [aH [aO x.table,aO x.name]]]) (N.app _) x.table x.name;unfold gpR;by_cases z:e=0
 rotate_left
 ·left;have:∃env,bT code base [9999,1,2,3,4,8,9] AA ⟨gpE n L k am am am am am am,τ⟩=some (.ret,⟨env,τ++[aB 2 0 [aH [aO x.table,aO x.name]]]++[aB 2 0 [aH [aO x.table,aO x.name]]]⟩)∧env[1]?=some (ap e):=by
   rw[aZ];exact⟨_,by simp[AA,r,i,y,o,w,b,z];rfl,rfl⟩
  obtain⟨env,R,K⟩:=this;exact⟨e,env,_,S,R,z,K,(h.app _).app _,(Fr.app n τ _).trans (Fr.app _ _ _)⟩
 subst z;right;obtain⟨U,V⟩:=E rfl;obtain⟨p,rfl⟩:∃p:Nat,c=(p:Int):=⟨c.toNat,by omega⟩;have t:p<S.ac.length:=by omega
 have D:(p:Int)<(S.ac.length:Int):=by omega
 obtain⟨f,d⟩:∃f,S.ac[p]?=some f:=⟨S.ac[p],au t⟩;have B:∀h:p<S.ac.length,S.ac[p]'h=f:=fun h=>(ak.1 d).2;have m:S.ac.getD ((p:Int)).toNat 0=f:=by simp[aS,d]
 have O:S.groups.length≤15:=by
  rw[A.gr,l];simp;omega
 have j:wd { S with keys:=S.keys++[(p:Int)],groups:=S.groups++[f] }:=by
  refine⟨by simp;omega,?_,by rw[l];simp,by rw[l];simp,by rw[l];simp,?_⟩
  ·intro q u;rcases ba.1 u with u|u
   ·exact A.kr q u
   rw[aP.1 u];exact⟨U,V⟩
  show S.groups++[f]=(S.keys++[(p:Int)]).map (fun k=>S.ac.getD k.toNat 0)++S.ah.map _;rw[A.gr,l];simp[aS,d]
 obtain⟨P,J,rfl,rfl⟩:=h;have v:List.take S.keys.length (eD S.keys)=eD S.keys:=ay (by simp);have g:List.take S.groups.length (eD S.groups)=eD S.groups:=ay (by simp);have C:S.keys.length+1≤bD:=by unfold bD;omega
 have s:S.groups.length+1≤bD:=by unfold bD;omega
 suffices T:∃a,gpR P.length L k base (P++(Bm P.length S++J))=gpR P.length L (k+1) base a∧SA a P.length { S with keys:=S.keys++[(p:Int)],groups:=S.groups++[f] }∧wd { S with keys:=S.keys++[(p:Int)],groups:=S.groups++[f] }∧Fr P.length (P++(Bm P.length S++J)) a by
  obtain⟨a,F,G,H,I⟩:=T;exact⟨a,p,F,by rw[m];exact G,by rw[m];exact H,I⟩
 unfold gpR;refine⟨P++(Bm P.length { S with keys:=S.keys++[(p:Int)],groups:=S.groups++[f] }++(J++[aB 2 0 [aH [aO x.table,aO x.name]],aB 2 0 [aH [aO x.table,aO x.name]]])),?_,⟨P,_,rfl,rfl⟩,j,Fr.sc⟩;rw[aZ];have M:((k+1:Nat):Int)=(k:Int)+1:=by omega
 simp only[gpE,M,Bm,iH,eD]at v g ⊢;simp at b;simp[AA,r,i,y,o,w,b,append,v,g,C,s,t,D,d,B,W,fv]
theorem adM{n:Nat}(L:List uV)(E:L.length≤3)(base:Nat):∀(m k:Nat) (τ:aw) (S:fA),k+m=L.length→SA τ n S→ey τ n S→wd S→S.ah=[]→S.ac.length≤8000→S.keys.length=k →
  agm n τ (gpR n L k base τ)∨∃(g:aw) (ks gs:List Int),gpR n L k base τ=some (.ext 0,⟨gpE n L L.length am am am am (aC false) am,g⟩)∧SA g n { S with keys:=ks,groups:=gs }∧wd { S with keys:=ks,groups:=gs }∧ks.length=L.length∧Fr n τ g:=by
 intro m;induction m with
 |zero=>
  intro k τ S s h p r l o i;have s:k=L.length:=by omega
  subst s;right;refine⟨τ,S.keys,S.groups,?_,h,r,i,Fr.rfl' n τ⟩;unfold gpR;rw[aZ];simp[AA]
 |succ m z=>
  intro k τ S s h p r l o i;have y:=au (show k<L.length by omega);rcases Zi h p r l o (by omega) L k _ y (by omega) base with q|⟨τ1,c,u,C,w,j⟩
  ·exact .inl q
  rcases z (k+1) τ1 _ (by omega) C (p.fr j rfl rfl rfl rfl) w l o (by simp[i]) with q|⟨t,ks,gs,B,D,x,A,v⟩
  ·left;obtain⟨e,env,g,S',a,b,c',d,f⟩:=q;exact⟨e,env,g,S',u.trans a,b,c',d,j.trans f⟩
  right;exact⟨t,ks,gs,u.trans B,D,x,A,j.trans v⟩
theorem Pi{σ:aw}{n:Nat}{S:fA}(h:SA σ n S)(v:ey σ n S)(i:NoG S)(u:S.ac.length≤8000) :
  PhR σ n S (fun S'=>∃(ks gs:List Int),S'={ S with at':=3,keys:=ks,groups:=gs }∧wd S'∧ks.length=(S.fr.group.getD []).length) (cD code I.qag [aI (n+3) 0 0 0] σ):=by
 have q:=h.len;have x:n+3<σ.length:=by omega
 have f:σ[n+3]?=some (aB 25 0 [aH (iH n S)]):=by simpa using h.at3 []
 have t:SA (σ.set (n+3) (aB 25 0 [aH (iH n { S with at':=3 })])) n { S with at':=3 }:=h.put rfl;have g:(σ.set (n+3) (aB 25 0 [aH (iH n { S with at':=3 })]))[n+3]?=some (aB 25 0 [aH (iH n { S with at':=3 })]):=by rw[aW x]
 have b:Fr n σ (σ.set (n+3) (aB 25 0 [aH (iH n { S with at':=3 })])):=(Fr.rfl' n σ).setIn _ _ (by omega);have j:ey (σ.set (n+3) (aB 25 0 [aH (iH n { S with at':=3 })])) n { S with at':=3 }:=v.fr b rfl rfl rfl rfl;have l:=S.fr.hg;have a:=adM (S.fr.group.getD []) l σ.length (S.fr.group.getD []).length 0 _ _ (by omega) t j (i.ok.of rfl rfl rfl rfl) i.2.1 u (by show S.keys.length=0;rw[i.1];rfl);rw[cz ak4 rfl];unfold gpR at a;simp only[gpE,aY]at a;rcases a with⟨e,env,c,S',d,w,r,p,k⟩|⟨c,ks,gs,d,p,m,o,k⟩
 ·refine⟨e,c,S',?_,p,b.trans k,fun s=>absurd s w⟩;simp only[iH]at f g d;simp[as5,ZE,f,g,d,r]
 refine⟨0,c,_,?_,p,b.trans k,fun _=>⟨ks,gs,rfl,m,o⟩⟩;simp only[iH]at f g d;simp[as5,ZE,f,g,d]
def P7(ns:List eO):Bool:=ns.any fun n=>decide (0<pR n.tag)
theorem Si(t:Int):∀(P:Option (Option aq)→Prop),P (if pR t=0 then some none else some (some (ap (pR t))))→P (lookup (ap t) [(ap 3,ap 1),(ap 8,ap 2),(ap 9,ap 3),(ap 10,ap 4),(ap 11,ap 5)]):=by
 intro P h;have:lookup (ap t) [(ap 3,ap 1),(ap 8,ap 2),(ap 9,ap 3),(ap 10,ap 4),(ap 11,ap 5)]=(if pR t=0 then some none else some (some (ap (pR t)))):=by
  unfold pR;by_cases e:t=3
  ·subst e;simp[lookup,qK]
  by_cases f:t=8
  ·subst f;simp[lookup,qK]
  by_cases g:t=9
  ·subst g;simp[lookup,qK]
  by_cases a:t=10
  ·subst a;simp[lookup,qK]
  by_cases b:t=11
  ·subst b;simp[lookup,qK]
  have i:((3:Int)==t)=false:=by simp;omega
  have j:((8:Int)==t)=false:=by simp;omega
  have k:((9:Int)==t)=false:=by simp;omega
  have c:((10:Int)==t)=false:=by simp;omega
  have d:((11:Int)==t)=false:=by simp;omega
  simp[lookup,qK,e,f,g,a,b,i,j,k,c,d,Ne.symm e,Ne.symm f,Ne.symm g,Ne.symm a,Ne.symm b]
 rw[this];exact h
theorem amB(x:eO)(b:Bool):bB I.qs [x.a,.cptr b IQ 0]=some (aC (decide (0<pR x.tag))):=by
 rw[aR apY rfl];have d:x.a=aH [ap x.tag,ap x.l,ap x.r,ap x.v.k,ap x.v.n,.int .u64 x.v.u,aO x.v.s,aO x.table,aO x.name]:=rfl;have a:lookup (ap x.tag) [(ap 3,ap 1),(ap 8,ap 2),(ap 9,ap 3),(ap 10,ap 4),(ap 11,ap 5)]=(if pR x.tag=0 then some none else some (some (ap (pR x.tag)))):=Si x.tag (fun r=>r=_) rfl;rw[d];by_cases c:pR x.tag=0
 ·rw[if_pos c]at a;cases b<;>simp[asF,aia,a,c]
 rw[if_neg c]at a;cases b<;>simp[asF,aia,a]
theorem apv(x:pU)(b:Bool):bB I.qr [x.a,.cptr b IQ 0]=some (aC (P7 x.ns)):=by
 rw[aR ape rfl];have c:x.a=aH [.aa false (x.ns.map eO.a),aO x.as']:=rfl;have i:=x.h
 have g:=fun d a=>uU (enc:=eO.a) (b:=d) (l:=x.ns) (f:=.fn I.qs [] [.cptr a IQ 0]) (p:=fun n=>decide (0<pR n.tag)) (by unfold bD;omega) (fun _=>⟨rfl,rfl⟩) (fun τ=>by cases a<;>simp) (fun y j=>by
  have h:∀fl top base σ m,fz fl top base σ (m+3) y.a=y.a:=fun fl top base σ m=>Fx.fx fl top base σ m y;have e:=amB y;cases a<;>simp[e,h])
 rw[c];unfold P7;generalize x.ns.any (fun n=>decide (0<pR n.tag))=r at *;cases b<;>simp[atK,aoA,g]
theorem VX(s:mL):bB I.qq [s.a]=some (aC (decide (0<(s.group.getD []).length) ||(decide (0<(s.having.getD []).length) ||(s.items.getD []).any fun x=>P7 x.ns))):=by
 rw[aR aqh rfl];have j:=aaY;have i:s.a=aH [aC s.distinct,aC s.star,.aa false ((s.items.getD []).map pU.a),aO s.table,aO s.as',.aa false (s.joins.map o7.a),.aa false ((s.whr.getD []).map eO.a),.aa false ((s.having.getD []).map eO.a),.aa false ((s.group.getD []).map uV.a)]:=rfl;have hi:=s.hi
 have q:=fun n g=>uk (enc:=pU.a) (b:=n) (l:=s.items.getD []) (f:=.fn I.qr [] [.cptr g IQ 0]) (p:=fun x=>P7 x.ns) (by unfold bD;omega) (fun _=>⟨rfl,rfl⟩) (fun τ=>by cases g<;>simp) (fun y v=>by
  have t:∀fl top base σ m,fz fl top base σ (m+3) y.a=y.a:=fun fl top base σ m=>Fx.fx fl top base σ m y;have o:=apv y;cases g<;>simp[o,t])
 rw[i];generalize (s.items.getD []).any (fun x=>P7 x.ns)=r at *;generalize s.items.getD []=u at *;generalize s.having.getD []=e at *;generalize s.group.getD []=d at *;by_cases h:0<d.length
 ·have a:(0:Int)<(d.length:Int):=by omega
  simp[asv,adg,j,h,a]
 have a:¬(0:Int)<(d.length:Int):=by omega
 by_cases k:0<e.length
 ·have c:(0:Int)<(e.length:Int):=by omega
  simp[asv,adg,j,h,a,k,c]
 have c:¬(0:Int)<(e.length:Int):=by omega
 simp[asv,adg,j,h,a,k,c,q]
end Go.AM
namespace Go.AM
open P
set_option maxHeartbeats 64000000
set_option maxRecDepth 40000
def aoz(kind:Int)(l:Pr):Int:=if l.all okV then (if l.all fun v=>v.k==0 ||v.k==kind then 0 else 2) else 120
end Go.AM
namespace Go.AM
open P
set_option maxHeartbeats 64000000
set_option maxRecDepth 40000
attribute [local simp] aG bj
def rg(n:Int):Prop:=-9223372036854775808≤n∧n<9223372036854775808
def Gr(tw:Int→Int→Int×Bool)(a b:wC):wC×Int:=
 if aoz 2 [a,b]=0 then (if a.k=0∨b.k=0 then (CA,0) else if (tw a.n b.n).2 then (aiu (tw a.n b.n).1,0) else (CA,140)) else (CA,aoz 2 [a,b])
theorem Mf(B:BitVec 64):IntKind.i64.wrap (B.toNat:Int)=B.toInt:=by
 rw[BitVec.toInt_eq_toNat_cond];have:=B.isLt;simp[IntKind.wrap,IntKind.bits,IntKind.signed];split<;>split<;>omega
theorem EO{a:Int}(h:rg a):(BitVec.ofInt 64 a).msb=decide (a<0):=by
 rw[BitVec.msb_eq_toInt,BitVec.toInt_ofInt];have:a.bmod (2^64)=a:=by
  unfold rg at h;rw[Int.bmod_def];split<;>omega
 rw[this]
def aiK(a b:Int):Int:=IntKind.i64.wrap ((BitVec.ofInt 64 a ^^^ BitVec.ofInt 64 b).toNat:Int)
def anm(a b:Int):Int:=IntKind.i64.wrap ((BitVec.ofInt 64 a &&& BitVec.ofInt 64 b).toNat:Int)
theorem aqt{a b h:Int}(c:rg a)(d:rg b)(e:rg h) :
  anm (aiK a h) (aiK b h)<0↔((decide (a<0) ^^ decide (h<0))&&(decide (b<0) ^^ decide (h<0)))=true:=by
 unfold anm aiK;rw[Mf,Mf,Mf,BitVec.ofInt_toInt,BitVec.ofInt_toInt];have:∀B:BitVec 64,B.toInt<0↔B.msb=true:=fun B=>by rw[BitVec.msb_eq_toInt];simp
 rw[this,BitVec.msb_and,BitVec.msb_xor,BitVec.msb_xor,EO c,EO d,EO e]



def Iv(v:wC):Prop:=xt v=true∧rg v.n
theorem IZ{e:List EN}(c:wk e=true){n:EN}(h:n∈e):iv n=true:=by
 obtain⟨k,b⟩:=List.getElem?_of_mem h;obtain⟨i,_⟩:=ak.1 b;obtain⟨a,o,d⟩:=Yj c (k:=k) (by omega);obtain⟨g,o',_,_,_,_,f,_⟩:=NX c b d;exact f
end Go.AM
namespace Go.AM
open P
set_option maxHeartbeats 64000000
set_option maxRecDepth 40000
def k03(k:Int):Prop:=0≤k∧k≤3
theorem adL{v:wC}(h:xt v=true):k03 v.k:=by
 obtain⟨k,n,u,s⟩:=v;unfold xt at h;simp only[ax,gQ,ne_eq]at h;obtain⟨a,b⟩:=h;rw[ahR]at a;unfold k03;simp only;split at a
 ·omega
 split at a
 ·omega
 split at a
 ·omega
 split at a
 ·omega
 simp at a;omega
theorem OP{a:Type}{z:a}{f g:EN→List a→a×Int}{e:List EN}(h:∀n∈e,∀l,f n l=g n l):CN z f e=CN z g e:=by
 have key:∀(m:List EN) k st,(∀n∈m,∀l,f n l=g n l)→dt (sk f) m k st=dt (sk g) m k st:=by
  intro m;induction m with
  |nil=>intro k st _;rfl
  |cons n m i=>
   intro k st b;have c:sk f k n st=sk g k n st:=by
    unfold sk;simp only[b n (by simp)]
   simp only[dt,c];cases sk g k n st with
   |inl t=>exact i _ _ (fun x d=>b x (by simp[d]))
   |inr r=>rfl
 unfold CN;rw[key e 0 [] h]
theorem ahx{ac:List Int}(h:ac.any Bl=false):∀x∈ac,k03 x:=fun x a=>by
 have:Bl x=false:=by
  cases hq:Bl x
  ·rfl
  exact absurd (cB.2 ⟨x,a,hq⟩) (by rw[h];simp)
 unfold Bl at this;simp at this;exact⟨by omega,by omega⟩
theorem abR{own:List Int}(h:∀x∈own,k03 x)(p:Nat):k03 (own.getD p 0):=by
 rw[aS];cases hp:own[p]? with
 |none=>exact⟨by decide,by decide⟩
 |some x=>exact h x (aN hp)
theorem Om{f:EN→List Int→Int×Int}:∀(e:List EN),(∀n∈e,∀l,(f n l).2=0→k03 (f n l).1)→∀k st a,(∀x∈st,k03 x)→dt (sk f) e k st=.inl a→∀x∈a,k03 x
 |[],_,k,st,a,h,b=>by simp only[dt]at b;cases b;exact h
 |n::e,g,k,st,a,h,b=>by
  simp only[dt]at b;unfold sk at b;split at b
  ·rename_i m d;split at d
   ·rename_i i;cases d;refine Om e (fun n j=>g n (by simp[j])) _ _ _ (fun x c=>?_) b;rcases ba.1 c with c|c
    ·exact h x (cL c)
    rw[aP.1 c];exact g n (by simp) _ i
   cases d
  cases b
theorem MN{e:List EN}{ac:List Int}(h:(eG e ac).2=0):k03 (eG e ac).1:=by
 unfold eG at h ⊢;by_cases f:wk e=false
 ·rw[if_pos f]at h;cases h
 rw[if_neg f]at h ⊢;by_cases g:ac.any Bl=true
 ·rw[if_pos g]at h;cases h
 rw[if_neg g]at h ⊢;by_cases k:((nQ e).any fun c=>decide ((ac.length:Int)≤c))=true
 ·rw[if_pos k]at h;cases h
 rw[if_neg k]at h ⊢;have i:=ahx (by simpa using g);have b:∀n∈e,∀l,(uE ac n l).2=0→k03 (uE ac n l).1:=fun n p l d=>by
  have a:=IZ (by simpa using f) p;unfold uE at d ⊢;by_cases j:n.tag=1
  ·simp only[if_pos j];unfold iv at a;rw[if_pos j]at a;simp at a;exact adL a.1
  simp only[if_neg j]at d ⊢;by_cases o:n.tag=2
  ·simp only[if_pos o];exact abR i _
  simp only[if_neg o]at d ⊢;have key:∀(c:Prop) [Decidable c] (x:Int),(if c then ((0:Int),(201:Int)) else (x,0)).2=0→(x=1∨x=2)→k03 (if c then ((0:Int),(201:Int)) else (x,0)).1:=fun c _ x m q=>by
   by_cases a:c
   ·rw[if_pos a]at m;cases m
   rw[if_neg a];unfold k03;simp only;omega
  exact key _ _ d (by split<;>simp)
 unfold CN at h ⊢;cases hst:dt (sk (uE ac)) e 0 [] with
 |inl st=>
  have:=Om e b 0 [] st (by simp) hst;cases st with
  |nil=>exact (⟨by decide,by decide⟩:k03 0)
  |cons x r=>exact this x (by simp)
 |inr s=>exact (⟨by decide,by decide⟩:k03 0)
theorem D7{e:List EN}{K G:List Int}(h:(eG e K).2=0)(q:∀x∈G,k03 x):eG e (K++G)=eG e K:=by
 unfold eG at h ⊢;by_cases b:wk e=false
 ·rw[if_pos b]at h;cases h
 rw[if_neg b]at h ⊢;by_cases g:K.any Bl=true
 ·rw[if_pos g]at h;cases h
 rw[if_neg g]at h ⊢;by_cases d:((nQ e).any fun c=>decide ((K.length:Int)≤c))=true
 ·rw[if_pos d]at h;cases h
 rw[if_neg d]at h;rw[if_neg b,if_neg d];have m:¬(K++G).any Bl=true:=by
  rw[List.any_append];have:G.any Bl=false:=by
   rw[cS];intro x s;have:=q x s;unfold k03 at this;unfold Bl;simp;omega
  rw[this];simpa using g
 have a:∀c∈nQ e,c<(K.length:Int):=fun c f=>by
  have p:((nQ e).any fun c=>decide ((K.length:Int)≤c))=false:=by simpa using d
  have:=cS.1 p c f;simp at this;omega
 have o:¬((nQ e).any fun c=>decide (((K++G).length:Int)≤c))=true:=by
  intro r;obtain⟨c,f,hd⟩:=cB.1 r;have:=a c f;simp at hd;omega
 rw[if_neg m,if_neg o];refine OP fun n j l=>?_;unfold uE;by_cases i:n.tag=2
 ·have f:=a _ (Kt j i);have t:=(Jh (IZ (by simpa using b) j) i).1;have k:n.col.toNat < K.length:=by omega
  have:(K++G).getD n.col.toNat 0=K.getD n.col.toNat 0:=by
   rw[aS,aQ k,←List.getD_eq_getElem?_getD]
  simp only[this]
 simp only[if_neg i]
theorem Qb{e:List EN}{K G:List Int}(h:jq e K=true)(b:∀x∈G,k03 x):jq e (K++G)=true:=by
 have a:(eG e K).2=0:=by
  unfold jq at h;simp at h;exact h.1
 unfold jq;rw[D7 a b];exact h
theorem XW{K:List Int}{g:kU}(h:(Cz K g).1=true):k03 (vb K g):=by
 have a:=h;unfold Cz at a;unfold vb;by_cases b:g.tag=1
 ·rw[if_pos (.inl b)];exact⟨by decide,by decide⟩
 rw[if_neg b]at a;simp only[ax,aX]at a;have c:=MN a.1.1.1;split
 ·exact⟨by decide,by decide⟩
 split
 ·exact c
 exact⟨by decide,by decide⟩
end Go.AM
namespace Go.AM
open P
set_option maxHeartbeats 64000000
set_option maxRecDepth 40000
attribute [local simp] aG bj
abbrev U1(r:EN):EN:=⟨r.tag,-1,-1,r.col,r.v⟩
theorem ah8(root:EN)(b:Bool):bB I.qcb [root.a,.aa b []]=some (fb [jm (if wk [U1 root] then [U1 root] else []),ap (if wk [U1 root] then 0 else 200)]):=by
 have d:root.a=aH [ap root.tag,ap root.l,ap root.r,ap root.col,ap root.v.k,ap root.v.n,.int .u64 root.v.u,aO root.v.s]:=rfl;have c:bB I.qbz [root.a,.aa b []]=some (jm [U1 root]):=zG root b [] [] (-1) (-1) (by simp) rfl;have f:=TU [U1 root] (by simp);have loop:bT code 2 [4,5,6,12,13] wS ⟨[root.a,.aa b [],aI 0 0 0 0,aI 1 0 0 0,am,am,am,am,am,.aa b [],ap 0,ap 0,am,am,am],[aB 8 0 [root.a],aB 1 0 [aH [.ai]]]⟩=some (.ext 0,⟨[root.a,.aa b [],aI 0 0 0 0,aI 1 0 0 0,am,am,am,am,am,.aa b [],ap 0,ap 0,aC false,am,am],[aB 8 0 [root.a],aB 1 0 [aH [.ai]]]⟩):=by
  rw[aZ];simp[wS]
 rw[aR agJ rfl];have e:jm [U1 root]=aH [.aa false [aH [ap root.tag,ap (-1),ap (-1),ap root.col,ap root.v.k,ap root.v.n,.int .u64 root.v.u,aO root.v.s]]]:=rfl;have a:bB I.qbo [aH [.aa false [aH [ap root.tag,ap (-1),ap (-1),ap root.col,ap root.v.k,ap root.v.n,.int .u64 root.v.u,aO root.v.s]]]]=some (ap (if wk [U1 root] then 0 else 200)):=f;rw[e]at c;cases ho:wk [U1 root] with
 |true=>
  rw[ho]at a;simp only[cw,e];rw[d]at c loop ⊢;simp[ar3,Kb,loop,c,a]
 |false=>
  rw[ho]at a;rw[d]at c loop ⊢;simp[ar3,Kb,loop,c,a]
theorem ahF(root:EN):bB I.qbs [root.a]=some (fb [jm (if wk [U1 root] then [U1 root] else []),ap (if wk [U1 root] then 0 else 200)]):=by
 have h:=ah8 root false;have a:root.a=aH [ap root.tag,ap root.l,ap root.r,ap root.col,ap root.v.k,ap root.v.n,.int .u64 root.v.u,aO root.v.s]:=rfl;rw[aR afR rfl];rw[a]at h ⊢;generalize (if wk [U1 root] then [U1 root] else [])=es at *;simp[asN,XH,h]
abbrev wy(i:Nat):List EN:=[⟨2,-1,-1,i,zE⟩]
theorem WX{K:List Int}(f:∀x∈K,k03 x){i:Nat}(hi:i<K.length)(k:wk (wy i)=true):eG (wy i) K=(K.getD i 0,0):=by
 unfold eG;rw[if_neg (by rw[k];simp)];have d:¬K.any Bl=true:=by
  intro h;obtain⟨x,l,b⟩:=cB.1 h;have:=f x l;unfold k03 at this;unfold Bl at b;simp at b;omega
 rw[if_neg d];have e:¬((nQ (wy i)).any fun c=>decide ((K.length:Int)≤c))=true:=by
  intro h;obtain⟨c,g,hd⟩:=cB.1 h;obtain⟨n,j,_,a⟩:=WC g;rw[aP.1 j]at a;simp at hd a;omega
 rw[if_neg e];simp[CN,dt,sk,uE,dv]
def BW(its:List (List EN))(K:List Int):Prop:=∀it∈its,it.length≤1000∧(eG it K).2=0
theorem BW.snoc{a:List (List EN)}{K:List Int}(h:BW a K){es:List EN}(c:es.length≤1000)(b:(eG es K).2=0):BW (a++[es]) K:=by
 intro it hit;rcases ba.1 hit with hit|hit
 ·exact h it hit
 rw[aP.1 hit];exact⟨c,b⟩
theorem BW.ext{a:List (List EN)}{K G:List Int}(h:BW a K)(b:∀x∈G,k03 x):BW a (K++G):=fun it hit=>⟨(h it hit).1,by rw[D7 (h it hit).2 b];exact (h it hit).2⟩
abbrev WH(n:Nat)(S:fA)(es:List EN)(τ:aw):aw:=((τ++[Obj.arr 1 0 [jm es]]).set (n+8) (aB 1 (S.items.length+1) (S.items.map jm++[jm es]))).set (n+3) (aB 25 0 [aH (iH n { S with items:=S.items++[es] })])
theorem Vq{τ:aw}{n:Nat}{S:fA}(h:SA τ n S)(es:List EN):SA (WH n S es τ) n { S with items:=S.items++[es] }∧Fr n τ (WH n S es τ):=
 ⟨(h.app _).two 8 (by omega) _ _ (by simp[Bm]),((Fr.app n τ _).setIn _ _ (by omega)).setIn _ _ (by omega)⟩
abbrev Du(n:Nat)(e1 e2 e3 e4 e5 e6 e7 e8 e9 e10 e11 e12 e13 e14 e15 e16 e17 e18:aq):List aq:=[aI (n+3) 0 0 0,e1,e2,e3,e4,e5,e6,e7,e8,e9,e10,e11,e12,e13,e14,e15,e16,e17,e18]
noncomputable abbrev stR(n:Nat)(N k base:Nat)(τ:aw):Option (Ex×St):=bT code base [9999,1,2,3,4,12,13] xq ⟨Du n am am am am am am am (aC false) (aC true) (ap N) (ap k) am am am am am am am,τ⟩
def Tx(n:Nat)(τ:aw)(r:Option (Ex×St)):Prop:=∃(e:Int) (env:List aq) (τ':aw) (S':fA),r=some (.ret,⟨env,τ'⟩)∧e≠0∧env[1]?=some (ap e)∧SA τ' n S'∧Fr n τ τ'
theorem aa2{τ:aw}{n:Nat}{S:fA}(h:SA τ n S)(r:S.items.length≤100)(N k base:Nat)(t:k<N)(s:N≤100) :
  Tx n τ (stR n N k base τ)∨(wk (wy k)=true∧stR n N k base τ=stR n N (k+1) base (WH n S (wy k) τ)):=by
 have b:(k:Int)<(N:Int):=by omega
 have q:IntKind.i64.wrap ((k:Int)+1)=(k:Int)+1:=pT (by omega) (by omega);have a:=ahF ⟨2,0,0,k,zE⟩;have e:(⟨2,0,0,k,zE⟩:EN).a=aH [ap 2,ap 0,ap 0,ap k,ap 0,ap 0,.int .u64 0,aO []]:=rfl;rw[e]at a;have p:U1 ⟨2,0,0,k,zE⟩=⟨2,-1,-1,k,zE⟩:=rfl;rw[p]at a;unfold stR;cases ho:wk (wy k) with
 |false=>
  left;rw[ho]at a;simp only[bq,cH]at a;have:∃env,bT code base [9999,1,2,3,4,12,13] xq ⟨Du n am am am am am am am (aC false) (aC true) (ap N) (ap k) am am am am am am am,τ⟩=some (.ret,⟨env,τ++[aB 1 0 [jm []]]⟩)∧env[1]?=some (ap 200):=by
   rw[aZ];exact⟨_,by simp[xq,b,a];rfl,rfl⟩
  obtain⟨env,o,l⟩:=this;exact⟨200,env,_,S,o,by omega,l,h.app _,Fr.app n τ _⟩
 |true=>
  right;refine⟨rfl,?_⟩;rw[ho]at a;simp only[cw]at a;change _=some (aq.tup [jm (wy k),ap 0]) at a;have i:=h.len;have c:=h.at3 [Obj.arr 1 0 [jm (wy k)]];have j:=h.at8 [Obj.arr 1 0 [jm (wy k)]];have g:((τ++[Obj.arr 1 0 [jm (wy k)]]).set (n+8) (aB 1 (S.items.length+1) (S.items.map jm++[jm (wy k)])))[n+3]?=some (aB 25 0 [aH (iH n S)]):=by rw[aD (by omega)];exact c
  have f:List.take S.items.length (S.items.map jm)=S.items.map jm:=ay (by simp);have d:S.items.length+1≤bD:=by unfold bD;omega
  rw[aZ];have m:((k+1:Nat):Int)=(k:Int)+1:=by omega
  simp only[iH,Du,m,WH]at c g ⊢;generalize wy k=es at *;simp[xq,b,a,c,j,g,append,f,d,q,fv]
theorem acR{n:Nat}(N base:Nat)(r:N≤100):∀(m k:Nat) (τ:aw) (S:fA),k+m=N→SA τ n S→S.items=(List.range k).map wy→(∀i,i<k→wk (wy i)=true) →
  Tx n τ (stR n N k base τ)∨∃c,stR n N k base τ=some (.ext 0,⟨Du n am am am am am am am (aC false) (aC true) (ap N) (ap N) (aC false) am am am am am am,c⟩)∧SA c n { S with items:=(List.range N).map wy }∧(∀i,i<N→wk (wy i)=true)∧Fr n τ c:=by
 intro m;induction m with
 |zero=>
  intro k τ S l h hi o;have l:k=N:=by omega
  subst l;right;refine⟨τ,?_,by rw[←hi];exact h,o,Fr.rfl' n τ⟩;unfold stR;rw[aZ];simp[xq]
 |succ m u=>
  intro k τ S l h hi o;have t:S.items.length=k:=by rw[hi];simp
  rcases aa2 h (by omega) N k base (by omega) r with g|⟨v,q⟩
  ·exact .inl g
  obtain⟨w,p⟩:=Vq h (wy k);have j:S.items++[wy k]=(List.range (k+1)).map wy:=by rw[hi,List.range_succ];simp
  rcases u (k+1) _ _ (by omega) w j (fun i s=>by
   by_cases e:i=k
   ·rw[e];exact v
   exact o i (by omega)) with g|⟨τ2,q2,s2,o2,f2⟩
  ·left;obtain⟨e,env,c,S',a,b,c',d,f⟩:=g;exact⟨e,env,c,S',q.trans a,b,c',d,p.trans f⟩
  right;exact⟨τ2,q.trans q2,s2,o2,p.trans f2⟩
noncomputable abbrev imR(n:Nat)(L:List pU)(k base:Nat)(y2 y3 y4 y8 y9 y10 y11 y12 y13:aq)(τ:aw):Option (Ex×St):=bT code base [9999,1,5,6,7,17,18] wP ⟨Du n am y2 y3 y4 am am am y8 y9 y10 y11 y12 y13 (.aa false (L.map pU.a)) (ap L.length) (ap k) am am,τ⟩
theorem Xx{τ:aw}{n:Nat}{S:fA}(h:SA τ n S)(V:ey τ n S)(X:wd S)(U:S.ac.length≤8000)(hI:S.items.length≤100)(L:List pU)(k:Nat)(x:pU)(u:L[k]?=some x)(hL:L.length≤8000)(W:mu x.ns)(base:Nat)(w y3 y4 y z a b c y13:aq) :
  Tx n τ (imR n L k base w y3 y4 y z a b c y13 τ)∨∃(i:aw) (es:List EN) (A:List kM) (G:List Int),imR n L k base w y3 y4 y z a b c y13 τ=imR n L (k+1) base w y3 y4 y z a b c y13 i∧SA i n { S with ah:=S.ah++A,groups:=S.groups++G,items:=S.items++[es] }∧wd { S with ah:=S.ah++A,groups:=S.groups++G }∧es.length≤1000∧(eG es (if S.grouped then S.groups++G else S.ac)).2=0∧(S.grouped=false→A=[]∧G=[])∧Fr n τ i:=by
 have g:=(ak.1 u).1;have p:(k:Int)<(L.length:Int):=by omega
 have m:∀h:k<L.length,L[k]'h=x:=fun h=>(ak.1 u).2;have w2:=cU g (by unfold bD;omega:L.length≤bD);have r:x.a=aH [.aa false (x.ns.map eO.a),aO x.as']:=rfl;have q:=h.len;obtain⟨o,kk,e,τ1,A,G,t,D,v,M,F,k1⟩:=KF (h.app [aB 2 0 [aH [.aa false (x.ns.map eO.a),aO x.as']]]) (V.app _) X W U S.grouped;have s:=h.at3;have f:=M.kp τ.length _ (.inr q) (by simp:(τ++[Obj.arr 2 0 [aH [.aa false (x.ns.map eO.a),aO x.as']]])[τ.length]?=some (aB 2 0 [aH [.aa false (x.ns.map eO.a),aO x.as']]));have d:=fu f;have j:=v.at3;have E:=vj (o.map (·.map EN.a));have l:Fr n τ τ1:=(Fr.app n τ _).trans M;unfold imR;by_cases B:e=0
 rotate_left
 ·left;have:∃env,bT code base [9999,1,5,6,7,17,18] wP ⟨Du n am w y3 y4 am am am y z a b c y13 (.aa false (L.map pU.a)) (ap L.length) (ap k) am am,τ⟩=some (.ret,⟨env,τ1++[Obj.arr 1 0 [oD o]]⟩)∧env[1]?=some (ap e):=by
   rw[aZ];simp only[oD,iH]at t s j ⊢;generalize sv (o.map (·.map EN.a))=ov at *;exact⟨_,by simp[wP,p,g,u,m,r,s,j,t,f,d,E,B];rfl,rfl⟩
  obtain⟨env,Y,P⟩:=this;exact⟨e,env,_,_,Y,B,P,v.app _,l.trans (Fr.app n τ1 _)⟩
 subst B;right;obtain⟨T,O,J⟩:=k1 rfl;obtain⟨es,rfl⟩:=cN.1 O;obtain⟨Z,R⟩:=Vq v es;refine⟨WH n { S with ah:=S.ah++A,groups:=S.groups++G } es τ1,es,A,G,?_,Z,T,D,by simp only[cT]at J;rw[J],F,l.trans R⟩;have H:oD (some es)=jm es:=rfl;rw[H]at t;have N:=v.at8 [Obj.arr 1 0 [jm es]];have K:((τ1++[Obj.arr 1 0 [jm es]]).set (n+8) (aB 1 (S.items.length+1) (S.items.map jm++[jm es])))[n+3]?=some (aB 25 0 [aH (iH n { S with ah:=S.ah++A,groups:=S.groups++G })]):=by rw[aD (by omega)];exact j _
 have I:List.take S.items.length (S.items.map jm)=S.items.map jm:=ay (by simp);have C:S.items.length+1≤bD:=by unfold bD;omega
 rw[aZ];have Q:((k+1:Nat):Int)=(k:Int)+1:=by omega
 simp only[iH,Du,Q,WH]at s j K ⊢;simp[wP,p,g,u,m,r,s,j,N,K,t,f,d,append,I,C,w2,fv]
theorem wd.k03{S:fA}(h:wd S)(c:∀x∈S.ac,k03 x):∀x∈S.groups,k03 x:=by
 rw[h.gr];intro x a;rcases ba.1 a with a|a
 ·obtain⟨k,e,rfl⟩:=bM.1 a;obtain⟨f,k1⟩:=h.kr k e;have b:k.toNat < S.ac.length:=by omega
  simp only[aS,au b,cT];exact c _ (aJ b)
 obtain⟨g,d,rfl⟩:=bM.1 a;exact XW (h.ag g d)
abbrev mB(S:fA):List Int:=if S.grouped then S.groups else S.ac
theorem adq{n:Nat}(L:List pU)(N:L.length≤6)(H:∀x∈L,mu x.ns)(base:Nat)(q y3 y4 r s i j l y13:aq):∀(m k:Nat) (τ:aw) (S:fA),k+m=L.length→SA τ n S→ey τ n S→wd S→S.ac.length≤8000→(∀x∈S.ac,k03 x)→S.items.length≤20+k→BW S.items (mB S) →
  Tx n τ (imR n L k base q y3 y4 r s i j l y13 τ)∨∃(g:aw) (c:List (List EN)) (A:List kM) (G:List Int),imR n L k base q y3 y4 r s i j l y13 τ=some (.ext 2,⟨Du n am q y3 y4 am am am r s i j l y13 (.aa false (L.map pU.a)) (ap L.length) (ap L.length) (aC false) am,g⟩)∧SA g n { S with ah:=S.ah++A,groups:=S.groups++G,items:=c }∧wd { S with ah:=S.ah++A,groups:=S.groups++G }∧BW c (if S.grouped then S.groups++G else S.ac)∧c.length+k=S.items.length+L.length∧(S.grouped=false→A=[]∧G=[])∧Fr n τ g:=by
 intro m;induction m with
 |zero=>
  intro k τ S B h w z v o hi hit;have B:k=L.length:=by omega
  subst B;right;refine⟨τ,S.items,[],[],?_,by simpa using h,by simpa using z,by simpa using hit,by omega,fun _=>⟨rfl,rfl⟩,Fr.rfl' n τ⟩;unfold imR;rw[aZ];simp[wP]
 |succ m I=>
  intro k τ S B h w z v o hi hit;have C:=au (show k<L.length by omega);rcases Xx h w z v (by omega) L k _ C (by omega) (H _ (aJ _)) base q y3 y4 r s i j l y13 with y|⟨τ1,es,A,G,F,M,D,J,k1,K,t⟩
  ·exact .inl y
  have u:∀x∈G,k03 x:=fun x C=>D.k03 o x (ba.2 (.inr C));have p:BW (S.items++[es]) (if S.grouped then S.groups++G else S.ac):=by
   refine BW.snoc ?_ J k1;cases hgr:S.grouped with
   |false=>simpa [mB,hgr] using hit
   |true=>
    have:BW S.items S.groups:=by simpa [mB,hgr] using hit
    simpa using this.ext u
  rcases I (k+1) τ1 _ (by omega) M (w.fr t rfl rfl rfl rfl) (D.of rfl rfl rfl rfl) v o (by simp;omega) p with y|⟨τ2,c,A2,G2,q2,s2,g2,i2,l2,n2,f2⟩
  ·left;obtain⟨e,env,g,S',a,b,c',d,f⟩:=y;exact⟨e,env,g,S',F.trans a,b,c',d,t.trans f⟩
  right;refine⟨τ2,c,A++A2,G++G2,F.trans q2,by simpa using s2,?_,by simpa using i2,?_,?_,t.trans f2⟩
  ·have:=g2.of (S':={ S with ah:=S.ah++(A++A2),groups:=S.groups++(G++G2) }) rfl (by simp) rfl (by simp);exact this
  ·simp only[cn,bw,bE]at l2;omega
  intro E;obtain⟨rfl,rfl⟩:=K E;obtain⟨rfl,rfl⟩:=n2 E;exact⟨rfl,rfl⟩
def mF(s:mL):Bool:=decide (0<(s.group.getD []).length) ||(decide (0<(s.having.getD []).length) ||(s.items.getD []).any fun x=>P7 x.ns)
theorem QY{σ:aw}{n:Nat}{S:fA}(h:SA σ n S):∃a,run code (.seq mn (.seq lZ md)) ⟨Du n am am am am am am am am am am am am am am am am am am,σ⟩=run code ju ⟨Du n i0 am am am am am am am am am am am am am am am am am,a⟩∧SA a n { S with at':=4,distinct:=S.fr.distinct,grouped:=mF S.fr }∧Fr n σ a:=by
 have g:=h.len;have m:n+3<σ.length:=by omega
 have e:σ[n+3]?=some (aB 25 0 [aH (iH n S)]):=by simpa using h.at3 []
 have k:SA (σ.set (n+3) (aB 25 0 [aH (iH n { S with at':=4 })])) n { S with at':=4 }:=h.put rfl;have l:SA ((σ.set (n+3) (aB 25 0 [aH (iH n { S with at':=4 })])).set (n+3) (aB 25 0 [aH (iH n { S with at':=4,distinct:=S.fr.distinct })])) n { S with at':=4,distinct:=S.fr.distinct }:=k.put rfl;have f:SA (((σ.set (n+3) (aB 25 0 [aH (iH n { S with at':=4 })])).set (n+3) (aB 25 0 [aH (iH n { S with at':=4,distinct:=S.fr.distinct })])).set (n+3) (aB 25 0 [aH (iH n { S with at':=4,distinct:=S.fr.distinct,grouped:=mF S.fr })])) n { S with at':=4,distinct:=S.fr.distinct,grouped:=mF S.fr }:=l.put rfl;have i:∀o,(σ.set (n+3) o)[n+3]?=some o:=fun o=>by rw[aW m]
 have b:=VX S.fr;have c:S.fr.a=aH [aC S.fr.distinct,aC S.fr.star,.aa false ((S.fr.items.getD []).map pU.a),aO S.fr.table,aO S.fr.as',.aa false (S.fr.joins.map o7.a),gN (S.fr.whr.getD []),gN (S.fr.having.getD []),.aa false ((S.fr.group.getD []).map uV.a)]:=rfl;rw[c]at b;have d:(decide (0<(S.fr.group.getD []).length) ||(decide (0<(S.fr.having.getD []).length) ||(S.fr.items.getD []).any fun x=>P7 x.ns))=mF S.fr:=rfl;rw[d]at b;simp only[ez]at f;refine⟨σ.set (n+3) (aB 25 0 [aH (iH n { S with at':=4,distinct:=S.fr.distinct,grouped:=mF S.fr })]),?_,f,(Fr.rfl' n σ).setIn _ _ (by omega)⟩;have j:md=.seq mx ju:=rfl;rw[j];simp only[iH]at e ⊢;generalize mF S.fr=p at *;simp[mn,lZ,mx,e,i,b]
theorem NR{σ:aw}{n:Nat}{S:fA}(h:SA σ n S)(hM:ey σ n S)(hg:wd S)(hK:S.ac.length≤20)(v:∀x∈S.ac,k03 x)(t:S.items=[])(w:S.fr.star=((S.fr.items.getD []).length==0))(hO:∀x∈S.fr.items.getD [],mu x.ns) :
  PhR σ n S (fun S'=>∃(b:List (List EN)) (A:List kM) (G:List Int),S'={ S with at':=4,distinct:=S.fr.distinct,grouped:=mF S.fr,ah:=S.ah++A,groups:=S.groups++G,items:=b }∧wd S'∧BW b (mB S')∧b.length=(if S.fr.star then S.ac.length else (S.fr.items.getD []).length)∧(mF S.fr=false→A=[]∧G=[])∧(S.fr.star=true→mF S.fr=false)) (cD code I.qaj [aI (n+3) 0 0 0] σ):=by
 obtain⟨a,q0,y,s⟩:=QY h;have hE:arK.body=.seq mn (.seq lZ md):=rfl;have V:[aq.ptr (n+3) 0 0 0].take arK.np++List.replicate (arK.nenv-arK.np) aq.any=Du n am am am am am am am am am am am am am am am am am am:=rfl;rw[cz alM rfl,hE,V,q0];have O:=S.fr.hi;have M1:ey a n { S with at':=4,distinct:=S.fr.distinct,grouped:=mF S.fr }:=hM.fr s rfl rfl rfl rfl;have e3:ju=.seq fN (.seq fO (.seq gY jr)):=rfl;have l:a[n+3]?=some (aB 25 0 [aH (iH n { S with at':=4,distinct:=S.fr.distinct,grouped:=mF S.fr })]):=by simpa using y.at3 []
 have a9:a[n+9]?=some (aB 1 S.ac.length (eD S.ac)):=by simpa using y.at9 []
 have tail:∀(τ:aw) (c:List (List EN)) (y8 y9 o p q y1:aq),SA τ n { S with at':=4,distinct:=S.fr.distinct,grouped:=mF S.fr,items:=c }→Fr n a τ→c.length≤20→BW c (if mF S.fr then S.groups else S.ac) →
   PhR σ n S (fun S'=>∃(b:List (List EN)) (A:List kM) (G:List Int),S'={ S with at':=4,distinct:=S.fr.distinct,grouped:=mF S.fr,ah:=S.ah++A,groups:=S.groups++G,items:=b }∧wd S'∧BW b (mB S')∧b.length=c.length+(S.fr.items.getD []).length∧(mF S.fr=false→A=[]∧G=[])) (wn arK.res (run code (.seq gY jr) ⟨Du n y1 am am am am am am y8 y9 o p q am am am am am am,τ⟩)):=by
  intro τ c y8 y9 o p q y1 hs M hl R;have z:τ[n+3]?=some (aB 25 0 [aH (iH n { S with at':=4,distinct:=S.fr.distinct,grouped:=mF S.fr,items:=c })]):=by simpa using hs.at3 []
  have J:ey τ n { S with at':=4,distinct:=S.fr.distinct,grouped:=mF S.fr,items:=c }:=hM.fr (s.trans M) rfl rfl rfl rfl;have d:=adq (S.fr.items.getD []) O hO τ.length am am am y8 y9 o p q am (S.fr.items.getD []).length 0 τ _ (by omega) hs J (hg.of rfl rfl rfl rfl) (by show S.ac.length≤8000;omega) v (by show c.length≤20+0;omega) R;unfold imR at d;simp only[aY]at d;rcases d with⟨e,env,j,S',k,L,F,g,f⟩|⟨j,b,A,G,k,g,P,Q,T,U,f⟩
  ·refine⟨e,j,S',?_,g,(s.trans M).trans f,fun m=>absurd m L⟩;simp only[iH,Du]at z k ⊢;simp[arK,gY,z,k,F]
  refine⟨0,j,_,?_,g,(s.trans M).trans f,fun _=>⟨b,A,G,rfl,P.of rfl rfl rfl rfl,?_,by simpa using T,U⟩⟩
  ·simp only[iH,Du]at z k ⊢;simp[arK,gY,jr,p5,qO,z,k]
  simpa [mB] using Q
 rw[e3,fy];cases hstar:S.fr.star with
 |false=>
  have Z:run code fN ⟨Du n i0 am am am am am am am am am am am am am am am am am,a⟩=some (.nrm,⟨Du n i0 am am am am am am (aC false) am am am am am am am am am am,a⟩):=by
   simp only[iH,Du,hstar]at l ⊢;simp[fN,l]
  have q4:run code fO ⟨Du n i0 am am am am am am (aC false) am am am am am am am am am am,a⟩=some (.nrm,⟨Du n i0 am am am am am am (aC false) (aC false) am am am am am am am am am,a⟩):=by
   simp only[iH,Du,hstar]at l ⊢;simp[fO,l]
  rw[Z,bW,fy,q4,bW];obtain⟨e,r,S',k,g,f,K⟩:=tail a [] (aC false) (aC false) am am am i0 (by rw[←t];exact y) (Fr.rfl' n a) (by simp) (fun it hit=>by cases hit);refine⟨e,r,S',k,g,f,fun m=>?_⟩;obtain⟨b,A,G,B,C,D,E,c5⟩:=K m;exact⟨b,A,G,B,C,D,by simpa using E,c5,fun h=>by cases h⟩
 |true=>
  rw[hstar]at w;have H:S.fr.items.getD []=[]:=db.1 (by simpa using w.symm);cases hgr:mF S.fr with
  |true=>
   refine⟨227,a,{ S with at':=4,distinct:=S.fr.distinct,grouped:=mF S.fr },?_,y,s,fun m=>by cases m⟩;simp only[iH,Du,hstar,hgr]at l ⊢;simp[arK,fN,l]
  |false=>
   have Z:run code fN ⟨Du n i0 am am am am am am am am am am am am am am am am am,a⟩=some (.nrm,⟨Du n i0 am am am am am am (aC false) am am am am am am am am am am,a⟩):=by
    simp only[iH,Du,hstar,hgr]at l ⊢;simp[fN,l]
   rw[Z,bW,fy];have d:=acR (n:=n) S.ac.length a.length (by omega) S.ac.length 0 a _ (by omega) y (by show S.items=_;rw[t];rfl) (fun i hi=>by omega);unfold stR at d;simp only[aY]at d;rcases d with⟨e,env,j,S',k,L,F,g,f⟩|⟨j,k,g,W,f⟩
   ·refine⟨e,j,S',?_,g,s.trans f,fun m=>absurd m L⟩;simp only[iH,Du,hstar]at l k ⊢;simp[arK,fO,l,a9,k,F]
   have q4:run code fO ⟨Du n i0 am am am am am am (aC false) am am am am am am am am am am,a⟩=some (.nrm,⟨Du n am am am am am am am (aC false) (aC true) (ap S.ac.length) (ap S.ac.length) (aC false) am am am am am am,j⟩):=by
    simp only[iH,Du,hstar]at l k ⊢;simp[fO,l,a9,k]
   rw[q4,bW]
   obtain⟨e,r,S',X,Y,N,K⟩:=tail j ((List.range S.ac.length).map wy) (aC false) (aC true) (ap S.ac.length) (ap S.ac.length) (aC false) am g f (by simpa using hK) (by
    rw[hgr];intro it hit;obtain⟨i,hi,rfl⟩:=bM.1 hit;have u:=gm.1 hi;exact⟨by simp,by simp only[bq,cH];rw[WX v u (W i u)]⟩)
   refine⟨e,r,S',X,Y,N,fun m=>?_⟩;obtain⟨b,A,G,B,C,D,E,c5⟩:=K m;rw[hgr]at B c5;exact⟨b,A,G,B,C,D,by rw[E,H];simp,c5,fun _=>rfl⟩
abbrev alF(n:Nat):aq:=aH [.fn 142 [aI (n+3) 0 0 0] [],.fn 146 [aI (n+3) 0 0 0] [],.fn 147 [aI (n+3) 0 0 0] [],.fn 149 [aI (n+3) 0 0 0] [],.fn 150 [aI (n+3) 0 0 0] [],.fn 168 [aI (n+3) 0 0 0] []]
abbrev alE(n:Nat)(e2 e3:aq)(k:Nat)(e6 e7:aq):List aq:=[aI (n+3) 0 0 0,i0,e2,e3,alF n,ap k,e6,e7]
noncomputable abbrev alR(n:Nat)(k base:Nat)(e2:aq)(τ:aw):Option (Ex×St):=bT code base [9999,3,6,7] Hx ⟨alE n e2 am k am am,τ⟩
theorem KS{n:Nat}{τ a:aw}(k f base:Nat)(b:aq)(c:(k=0∧f=142)∨(k=1∧f=146)∨(k=2∧f=147)∨(k=3∧f=149)∨(k=4∧f=150)∨(k=5∧f=168))(h:cD code f [aI (n+3) 0 0 0] τ=some (ap 0,a)):alR n k base b τ=alR n (k+1) base i0 a:=by
 have d:IntKind.i64.wrap 1=1:=rfl;have e:IntKind.i64.wrap 2=2:=rfl;have g:IntKind.i64.wrap 3=3:=rfl;have i:IntKind.i64.wrap 4=4:=rfl;have j:IntKind.i64.wrap 5=5:=rfl;have l:IntKind.i64.wrap 6=6:=rfl;unfold alR;rw[aZ];rcases c with⟨rfl,rfl⟩|⟨rfl,rfl⟩|⟨rfl,rfl⟩|⟨rfl,rfl⟩|⟨rfl,rfl⟩|⟨rfl,rfl⟩<;>(simp[Hx,h,d,e,g,i,j,l,fv];rfl)
theorem zI{n:Nat}{τ a:aw}(k f base:Nat)(b:aq)(e:Int)(c:e≠0)(d:(k=0∧f=142)∨(k=1∧f=146)∨(k=2∧f=147)∨(k=3∧f=149)∨(k=4∧f=150)∨(k=5∧f=168))(h:cD code f [aI (n+3) 0 0 0] τ=some (ap e,a)):∃env,alR n k base b τ=some (.ext 0,⟨env,a⟩)∧env[2]?=some (ap e)∧env.length=8:=by
 unfold alR;rw[aZ];rcases d with⟨rfl,rfl⟩|⟨rfl,rfl⟩|⟨rfl,rfl⟩|⟨rfl,rfl⟩|⟨rfl,rfl⟩|⟨rfl,rfl⟩<;>exact⟨_,by simp[Hx,h,c];rfl,rfl,rfl⟩
theorem ajn{n:Nat}{τ:aw}(base:Nat):alR n 6 base i0 τ=some (.ext 0,⟨alE n i0 am 6 (aC false) am,τ⟩):=by
 unfold alR;rw[aZ];simp[Hx]
def AlR(σ:aw)(n:Nat)(Q:aw→fA→Prop)(r:Option (Ex×St)):Prop:=∃(e:Int) (env:List aq) (τ:aw) (S':fA),r=some (.ext 0,⟨env,τ⟩)∧env[2]?=some (ap e)∧env.length=8∧SA τ n S'∧Fw n σ τ∧(e=0→Q τ S')
theorem AlR.bad{σ τ:aw}{n:Nat}{S':fA}{Q:aw→fA→Prop}{r:Option (Ex×St)}{e:Int}(f:e≠0)(h:∃env,r=some (.ext 0,⟨env,τ⟩)∧env[2]?=some (ap e)∧env.length=8)(i:SA τ n S')(g:Fw n σ τ):AlR σ n Q r:=by
 obtain⟨env,b,c,d⟩:=h;exact⟨e,env,τ,S',b,c,d,i,g,fun a=>absurd a f⟩
structure wh (s:mL):Prop where
 star:s.star=((s.items.getD []).length==0)
 items:∀x∈s.items.getD [],mu x.ns
 joins:∀x∈s.joins,mu x.on
 whr:s.whr.getD []=[]∨mu (s.whr.getD [])
 having:s.having.getD []=[]∨mu (s.having.getD [])
structure CtK (c:List cK):Prop extends CtOk c where
 k3:∀tb∈c,∀x∈tb.af,1≤x.kind∧x.kind≤3
theorem ahV{c:List cK}(h:CtK c)(d:List Int):∀x∈yq c d,1≤x∧x≤3:=by
 intro x a;obtain⟨t,_,a⟩:=lj.1 a;cases htb:c[t.toNat]? with
 |none=>simp[Af,htb]at a
 |some tb=>
  simp only[Af,htb,dJ,cT,cK.ac]at a;obtain⟨y,b,rfl⟩:=bM.1 a;exact h.k3 tb (aN htb) y b
structure BS (S:fA):Prop where
 js:Jg S.cat S.tables S.joins
 jl:S.joins.length≤2
 kd:S.ac=yq S.cat S.tables
 whr:Ef S.whr S.ac
 gk:wd S
 having:Ef S.having S.groups
 items:BW S.items (mB S)
 il:S.items.length=(if S.fr.star then S.ac.length else (S.fr.items.getD []).length)
 nog:S.grouped=false→S.keys=[]∧S.ah=[]∧S.having=none∧S.groups=[]
abbrev scZ(c:List cK)(s:mL):fA:=⟨c,s,[],[],none,none,false,false,[],[],[],[],[],0,[],[],[]⟩
theorem aih{σ:aw}{n:Nat}{c:List cK}{s:mL}(h:SA σ n (scZ c s))(hM:ey σ n (scZ c s))(W:CtK c)(N:wh s)(base:Nat) :
  AlR σ n (fun _ S'=>BS S'∧S'.cat=c∧S'.fr=s) (alR n 0 base i0 σ):=by
 obtain⟨e,τ1,U,c1,s1,D,k1⟩:=PV h hM W.toCtOk (by simp) (by simp);by_cases l:e=0
 rotate_left
 ·exact AlR.bad l (zI 0 142 base i0 e l (.inl ⟨rfl,rfl⟩) c1) s1 D
 subst l;rw[KS 0 142 base i0 (.inl ⟨rfl,rfl⟩) c1];obtain⟨M1,i,a1,a2,a3,i1,i2,a⟩:=k1 rfl;have J1:Jg U.cat U.tables U.joins:=by
  rw[a];refine⟨rfl,?_,fun q j hq=>by simp at hq⟩;intro t hm;have:t=i:=by simpa using hm
  rw[this];exact⟨i1,i2⟩
 have u:U.cat=c:=by rw[a]
 obtain⟨e,bb,Y,c2,s2,F,k2⟩:=Po s1 M1 (by rw[u];exact W.toCtOk) (by rw[a];exact⟨rfl,rfl,rfl⟩) J1 (by rw[a]) (by rw[a];simp[yq]) (by rw[a];exact N.joins);by_cases l:e=0
 rotate_left
 ·exact AlR.bad l (zI 1 146 base i0 e l (.inr (.inl ⟨rfl,rfl⟩)) c2) s2 (D.trans F)
 subst l;rw[KS 1 146 base i0 (.inr (.inl ⟨rfl,rfl⟩)) c2];obtain⟨M2,C,js,b1,b2,b3,T,l2,f⟩:=k2 rfl;rw[u]at T;have af:js.length≤2:=by rw[l2,a];exact s.hj
 have ah:=CB W.toCtOk C T.rng;have a7:=T.len;have a8:Y.ac.length≤12:=by rw[f,a];show (yq c C).length≤12;omega
 obtain⟨e,a0,S3,c3,s3,H,k3⟩:=QV s2 M2 (NoG.ok (by rw[f,a];exact⟨rfl,rfl,rfl⟩)) (by rw[f,a]) (by rw[f,a];exact N.whr) (by omega);by_cases l:e=0
 rotate_left
 ·exact AlR.bad l (zI 2 147 base i0 e l (.inr (.inr (.inl ⟨rfl,rfl⟩))) c3) s3 ((D.trans F).trans H.w)
 subst l;rw[KS 2 147 base i0 (.inr (.inr (.inl ⟨rfl,rfl⟩))) c3];obtain⟨ow,b,aj⟩:=k3 rfl;have M3:ey a0 n S3:=M2.fr H (by rw[b]) (by rw[b]) (by rw[b]) (by rw[b]);obtain⟨e,a4,w,c4,s4,J,k4⟩:=Pi s3 M3 (by rw[b,f,a];exact⟨rfl,rfl,rfl⟩) (by rw[b];show Y.ac.length≤8000;omega);by_cases l:e=0
 rotate_left
 ·exact AlR.bad l (zI 3 149 base i0 e l (.inr (.inr (.inr (.inl ⟨rfl,rfl⟩)))) c4) s4 (((D.trans F).trans H.w).trans J.w)
 subst l;rw[KS 3 149 base i0 (.inr (.inr (.inr (.inl ⟨rfl,rfl⟩)))) c4];obtain⟨ks,gs,g,g4,l4⟩:=k4 rfl;have M4:ey a4 n w:=M3.fr J (by rw[g]) (by rw[g]) (by rw[g]) (by rw[g]);have v:w.ac=yq c C:=by rw[g,b,f,a]
 have y:∀x∈w.ac,k03 x:=by
  rw[v];intro x hx;have:=ahV W C x hx;exact⟨by omega,by omega⟩
 have m:w.fr=s:=by rw[g,b,f,a]
 obtain⟨e,a5,I,c5,s5,V,k5⟩:=NR s4 M4 g4 (by rw[v];omega) y (by rw[g,b,f,a]) (by rw[m];exact N.star) (by rw[m];exact N.items);by_cases l:e=0
 rotate_left
 ·exact AlR.bad l (zI 4 150 base i0 e l (.inr (.inr (.inr (.inr (.inl ⟨rfl,rfl⟩))))) c5) s5 ((((D.trans F).trans H.w).trans J.w).trans V.w)
 subst l;rw[KS 4 150 base i0 (.inr (.inr (.inr (.inr (.inl ⟨rfl,rfl⟩))))) c5];obtain⟨al,A,G,d,g5,o,l5,n5,a9⟩:=k5 rfl;have M5:ey a5 n I:=M4.fr V (by rw[d]) (by rw[d]) (by rw[d]) (by rw[d]);have E:I.ac=yq c C:=by rw[d];exact v
 have r:I.fr=s:=by rw[d];exact m
 obtain⟨e,a6,p,c6,s6,f6,k6⟩:=Pk s5 M5 g5 (by rw[d,g,b,f,a]) (by rw[r];exact N.having) (by rw[E];omega);by_cases l:e=0
 rotate_left
 ·exact AlR.bad l (zI 5 168 base i0 e l (.inr (.inr (.inr (.inr (.inr ⟨rfl,rfl⟩))))) c6) s6 (((((D.trans F).trans H.w).trans J.w).trans V.w).trans f6.w)
 subst l;rw[KS 5 168 base i0 (.inr (.inr (.inr (.inr (.inr ⟨rfl,rfl⟩))))) c6,ajn];obtain⟨oh,X,G6,k,Z,h6,z6⟩:=k6 rfl;refine⟨0,_,a6,p,rfl,rfl,rfl,s6,((((D.trans F).trans H.w).trans J.w).trans V.w).trans f6.w,fun _=>⟨?_,by rw[k,d,g,b,f,a],by rw[k];exact r⟩⟩;have z:p.cat=c:=by rw[k,d,g,b,f,a]
 have B:p.tables=C:=by rw[k,d,g,b,f]
 have R:p.joins=js:=by rw[k,d,g,b,f]
 have S:p.ac=yq c C:=by rw[k];exact E
 have pw:p.whr=ow:=by rw[k,d,g,b]
 have ph:p.having=oh:=by rw[k]
 have pg:p.groups=I.groups++G6:=by rw[k]
 have O:p.grouped=mF s:=by rw[k,d];show mF w.fr=_;rw[m]
 have P:I.grouped=mF s:=by rw[d];show mF w.fr=_;rw[m]
 have Q:p.items=al:=by rw[k,d]
 have av:p.keys=ks:=by rw[k,d,g]
 have ao:p.ah=A++X:=by
  rw[k,d];show (w.ah++A)++X=A++X;have:w.ah=[]:=by rw[g,b,f,a]
  rw[this];rfl
 have ar:p.fr=s:=by rw[k];exact r
 have an:∀x∈p.ac,k03 x:=by rw[S,←v];exact y
 have ab:∀x∈G6,k03 x:=fun x hx=>Z.k03 an x (by rw[pg];exact ba.2 (.inr hx));refine⟨by rw[z,B,R];exact T,by rw[R];exact af,by rw[S,z,B],?_,Z,by rw[ph,pg];exact h6,?_,?_,?_⟩
 ·rw[pw,S];have:Y.ac=yq c C:=by rw[f,a]
  rw[←this];exact aj
 ·rw[Q];unfold mB at o ⊢;rw[P]at o;rw[O,pg,S];rw[E]at o;cases hgr:mF s with
  |true=>
   rw[hgr]at o;simp only[cw]at o ⊢;exact o.ext ab
  |false=>
   rw[hgr]at o;simpa using o
 ·rw[Q,l5,ar,m,S,v]
 intro h0;rw[O]at h0;have hz:=h0;unfold mF at hz;simp only[Bool.or_eq_false_iff,decide_eq_false_iff_not]at hz;have ad:(s.group.getD []).length=0:=by omega
 have ae:s.having.getD []=[]:=db.1 (by omega);obtain⟨za,zb,zc⟩:=z6 (by rw[r];exact ae);obtain⟨na,nb⟩:=n5 (by rw[m];exact h0);have K:S3.fr=s:=by rw[b,f,a]
 have ag:ks=[]:=db.1 (by rw[l4,K];exact ad);have L:p.keys=[]:=by rw[av,ag]
 have M:p.ah=[]:=by rw[ao,na,zb];rfl
 exact⟨L,M,by rw[ph,za],by rw[Z.gr,L,M];rfl⟩
theorem VT{σ:aw}{n:Nat}{c:List cK}{s:mL}(h:SA σ n (scZ c s))(f:ey σ n (scZ c s))(i:CtK c)(l:wh s) :
  PwR σ n (fun _ S'=>BS S'∧S'.cat=c∧S'.fr=s) (cD code I.qz [aI (n+3) 0 0 0] σ):=by
 obtain⟨e,env,τ,S',a,b,d,k,j,g⟩:=aih h f i l σ.length;refine⟨e,τ,S',?_,k,j,g⟩;rw[cz apZ rfl];unfold alR at a;simp only[alE,alF,aY]at a
 match env,d,b,a with
 |[m,o,p,q,r,t,u,v],_,b,a=>
  simp only[eg,g9,aK]at b;subst b;simp[atZ,an1,a]
abbrev ikB(its:List (List EN)):aw:=its.map fun it=>Obj.arr 1 0 [jm it]
abbrev ikE(n:Nat)(σ:aw)(ov:aq)(g:Bool)(its:List (List EN))(sl:aq)(k:Nat)(e10:aq):List aq:=[aI (n+3) 0 0 0,.ai,ov,.sl σ.length k 0 k,am,am,aC g,sl,ap its.length,ap k,e10]
theorem yG{σ:aw}{n:Nat}{S:fA}(h:SA σ n S)(K:(mB S).length≤8000)(J:S.items.length≤100)(C:∀it∈S.items,it.length≤1000) :
  cD code I.qai [aI (n+3) 0 0 0] σ=some (kA σ.length S.items.length,σ++(aB 1 S.items.length (eD (S.items.map fun it=>(eG it (mB S)).1))::ikB S.items)):=by
 have d:=h.at3;have c:σ[n+3]?=some (aB 25 0 [aH (iH n S)]):=by simpa using h.at3 []
 have l:=h.at8;have z:=h.at9;have j:=h.at10;have x:=h.len;have E:S.items.length≤bD:=by unfold bD;omega
 have a:∃g:aq,(g=if S.grouped then kA (n+10) S.groups.length else kA (n+9) S.ac.length)∧∀X,fz true false 0 (σ++X) 20 g=.aa true (eD (mB S)):=by
  refine⟨_,rfl,fun X=>?_⟩;unfold mB;cases S.grouped with
  |false=>simp[z]
  |true=>simp[j]
 obtain⟨g,a,m⟩:=a;have key:=cY (base:=σ.length+1) (clr:=[9999,4,5,10]) (b:=GQ)
  (fun k=>⟨ikE n σ g S.grouped S.items (kA (n+8) S.items.length) k am,σ++(aB 1 k (eD ((S.items.take k).map fun it=>(eG it (mB S)).1))::ikB (S.items.take k))⟩) S.items.length
  (.ext 0,⟨ikE n σ g S.grouped S.items (kA (n+8) S.items.length) S.items.length (aC false),σ++(aB 1 S.items.length (eD (S.items.map fun it=>(eG it (mB S)).1))::ikB S.items)⟩)
  (fun k e=>by
   have y:S.items[k]?=some S.items[k]:=au e;have o:∀h:k<S.items.length,S.items[k]'h=S.items[k]'e:=fun _=>rfl;have q:(k:Int)<(S.items.length:Int):=by omega
   have F:=cU e E;have v:S.items.take (k+1)=S.items.take k++[S.items[k]]:=by rw[eW,y];rfl
   have D:=C _ (aJ e);have p:=fun A=>pK false S.items[k] A (mB S) (by unfold bD;omega) (by unfold bD;omega);have u:(S.items.take k).length=k:=by simp;omega
   rw[v];generalize S.items.take k=i at *;generalize S.items[k]=it at *;have r:k+1≤bD:=by unfold bD;omega
   have B:((k+1:Nat):Int)=(k:Int)+1:=by omega
   have w:(i.map fun it=>(eG it (mB S)).1).length=k:=by simp[u]
   rw[dg,aV,bm,show ikB (i++[it])=ikB i++[Obj.arr 1 0 [jm it]] by simp[ikB]];generalize s:(eG it (mB S)).1=L at *;generalize i.map (fun it=>(eG it (mB S)).1)=vs at *;have t:List.take k (eD vs)=eD vs:=ay (by simp[w]);have f:k≤vs.length:=by omega
   generalize ikB i=G at *;simp only[ikE,B];simp only[iH]at d c;simp[GQ,q,e,y,o,l,m,p,s,append,r,t,f,F,fv])
  (by
   rw[dw];simp[GQ])
 rw[cz ald rfl];simp only[List.take_zero,ikE,ikB,bm]at key;simp only[iH]at d c;have H:mB S=(if S.grouped then S.groups else S.ac):=rfl;cases hg:S.grouped with
 |false=>
  rw[hg]at a d c key;simp only[bq,cH]at a;subst a;simp at key;simp[ate,YL,d,c,l,key]
 |true=>
  rw[hg]at a d c key;simp only[cw]at a;subst a;simp at key;simp[ate,YL,d,c,l,key]
abbrev Ej(ns:List (List UInt8)):Obj:=aB 1 ns.length (ns.map aO)
abbrev n1E(n:Nat)(σ:aw)(q:Nat)(y3 y8 y9 y10 y11 y12:aq)(af:List fD)(k:Nat)(y16:aq):List aq:=[aI (n+3) 0 0 0,.ai,.sl σ.length q 0 q,y3,am,am,am,am,y8,y9,y10,y11,y12,.aa false (af.map fD.a),ap af.length,ap k,y16,am,am,am,am,am]
theorem XI{σ:aw}{n:Nat}(y3 t u f g i:aq)(a:List fD)(B:a.length≤8)(base:Nat):∀(m k:Nat) (b:List (List UInt8)) (X:aw),k+m=a.length→b.length≤100+k →
  ∃(d:List (List UInt8)) (j:aw),bT code base [9999,4,16] Gu ⟨n1E n σ b.length y3 t u f g i a k am,σ++(Ej b::X)⟩=some (.ext 2,⟨n1E n σ d.length y3 t u f g i a a.length (aC false),σ++(Ej d::j)⟩)∧d.length=b.length+m:=by
 intro m;induction m with
 |zero=>
  intro k b X p _;have p:k=a.length:=by omega
  subst p;refine⟨b,X,?_,by omega⟩;rw[aZ];simp[Gu]
 |succ m z=>
  intro k b X p C;have e:k<a.length:=by omega
  have q:(k:Int)<(a.length:Int):=by omega
  have y:=au e;have o:∀h:k<a.length,a[k]'h=a[k]'e:=fun _=>rfl;have A:IntKind.i64.wrap ((k:Int)+1)=(k:Int)+1:=pT (by omega) (by omega);generalize a[k]=c at *;have l:c.a=aH [aO c.name,ap c.kind]:=rfl;obtain⟨d,j,w,x⟩:=z (k+1) (b++[c.name]) (X++[aB 2 0 [aH [aO c.name,ap c.kind]]]) (by omega) (by simp;omega);refine⟨d,j,?_,by rw[x];simp;omega⟩;rw[←w,aZ];have s:List.take b.length (b.map aq.str)=b.map aq.str:=ay (by simp);have r:b.length+1≤bD:=by unfold bD;omega
  have v:((k+1:Nat):Int)=(k:Int)+1:=by omega
  simp only[n1E,Ej,v];simp[Gu,q,e,y,o,l,append,s,r,A,fv]
abbrev n2E(n:Nat)(σ:aw)(q:Nat)(y3:aq)(S:fA)(k:Nat)(y12 y13 y14 y15 y16:aq):List aq:=[aI (n+3) 0 0 0,.ai,.sl σ.length q 0 q,y3,am,am,am,am,aC true,kA (n+4) S.tables.length,ap S.tables.length,ap k,y12,y13,y14,y15,y16,am,am,am,am,am]
theorem abM{σ:aw}{n:Nat}{S:fA}(h:SA σ n S)(F:CtOk S.cat)(H:∀t∈S.tables,0≤t∧t<S.cat.length)(R:S.tables.length≤3)(base:Nat):∀(m k:Nat) (c:List (List UInt8)) (X:aw),k+m=S.tables.length→c.length≤4*k →
  ∃(d:List (List UInt8)) (A:aw) (y3 y13 e f g:aq),bT code base [9999,3,4,12,13,14,15,16] F3 ⟨n2E n σ c.length am S k am am am am am,σ++(Ej c::X)⟩=some (.ext 0,⟨n2E n σ d.length y3 S S.tables.length (aC false) y13 e f g,σ++(Ej d::A)⟩)∧d.length=c.length+(yq S.cat (S.tables.drop k)).length:=by
 intro m;induction m with
 |zero=>
  intro k c X l _;have l:k=S.tables.length:=by omega
  subst l;refine⟨c,X,am,am,am,am,am,?_,by simp[yq]⟩;rw[aZ];simp[F3]
 |succ m K=>
  intro k c X l T;have a:k<S.tables.length:=by omega
  have o:(k:Int)<(S.tables.length:Int):=by omega
  have J:=au a;have G:∀h:k<S.tables.length,S.tables[k]'h=S.tables[k]'a:=fun _=>rfl;have Q:IntKind.i64.wrap ((k:Int)+1)=(k:Int)+1:=pT (by omega) (by omega);obtain⟨O,P⟩:=H _ (aJ a);have hd:yq S.cat (S.tables.drop k)=Af S.cat S.tables[k]++yq S.cat (S.tables.drop (k+1)):=by
   show List.flatMap (Af S.cat) (S.tables.drop k)=Af S.cat S.tables[k]++List.flatMap (Af S.cat) (S.tables.drop (k+1));rw[dl a,gc]
  rw[hd];obtain⟨p,q⟩:∃p:Nat,S.tables[k]=(p:Int):=⟨S.tables[k].toNat,by omega⟩;rw[q]at O P ⊢;have i:p<S.cat.length:=by omega
  obtain⟨tb,b⟩:∃tb,S.cat[p]?=some tb:=⟨S.cat[p],au i⟩;have r:∀h:p<S.cat.length,S.cat[p]'h=tb:=fun h=>(ak.1 b).2;have I:=F.af tb (aN b);have u:Af S.cat (p:Int)=tb.af.map fD.kind:=by simp[Af,b,cK.ac]
  rw[u];have s:tb.a=aH [aO tb.name,.aa false (tb.af.map fD.a),.aa false (tb.keys.map (.int .i64))]:=rfl;have z:=h.at3;have D:=h.at4;have v:S.tables[k]?=some (p:Int):=by rw[J,q]
  have j:∀h:k<S.tables.length,S.tables[k]'h=(p:Int):=fun _=>q;obtain⟨w,B,y,L⟩:=XI (σ:=σ) (n:=n) (ap p) (aC true) (kA (n+4) S.tables.length) (ap S.tables.length) (ap k) (aC true) tb.af (by omega) (σ++(Ej c::X)).length tb.af.length 0 c X (by omega) (by omega);obtain⟨x,C,y3,y13,e,f,g,N,M⟩:=K (k+1) w B (by omega) (by omega);refine⟨x,C,y3,y13,e,f,g,?_,by rw[M,L];simp;omega⟩;rw[←N,aZ];have E:((k+1:Nat):Int)=(k:Int)+1:=by omega
  simp only[n1E,n2E,Ej,E,aY]at y ⊢;simp only[iH]at z;simp at y;simp[F3,o,a,v,j,z,D,b,i,r,s,y,Q,fv]
abbrev n0E(n:Nat)(σ:aw)(q:Nat)(y3 y8 y9 y10 y11 y12 y13 y14 y15 y16:aq)(L:List pU)(k:Nat)(y20:aq):List aq:=[aI (n+3) 0 0 0,.ai,.sl σ.length q 0 q,y3,am,am,am,am,y8,y9,y10,y11,y12,y13,y14,y15,y16,.aa false (L.map pU.a),ap L.length,ap k,y20,am]
theorem Pd{σ:aw}{n:Nat}(y3 F G g i j y13 l o q:aq)(L:List pU)(V:L.length≤6)(R:∀x∈L,0<x.ns.length)(base:Nat):∀(m k:Nat) (b:List (List UInt8)) (X:aw),k+m=L.length→b.length≤100+k →
  ∃(e:List (List UInt8)) (H:aw),bT code base [9999,5,6,7,20,21] xB ⟨n0E n σ b.length y3 F G g i j y13 l o q L k am,σ++(Ej b::X)⟩=some (.ext 4,⟨n0E n σ e.length y3 F G g i j y13 l o q L L.length (aC false),σ++(Ej e::H)⟩)∧e.length=b.length+m:=by
 intro m;induction m with
 |zero=>
  intro k b X I _;have I:k=L.length:=by omega
  subst I;refine⟨b,X,?_,by omega⟩;rw[aZ];simp[xB]
 |succ m U=>
  intro k b X I W;have d:k<L.length:=by omega
  have z:(k:Int)<(L.length:Int):=by omega
  have N:=au d;have v:∀h:k<L.length,L[k]'h=L[k]'d:=fun _=>rfl;have O:IntKind.i64.wrap ((k:Int)+1)=(k:Int)+1:=pT (by omega) (by omega);have M:=R _ (aJ d);have S:=(L[k]).h;generalize L[k]=x at *;have f:x.a=aH [.aa false (x.ns.map eO.a),aO x.as']:=rfl;obtain⟨p,K⟩:∃p:Nat,x.ns.length=p+1:=⟨x.ns.length-1,by omega⟩;have u:p<x.ns.length:=by omega
  obtain⟨a,t⟩:∃a,x.ns[p]?=some a:=⟨x.ns[p],au u⟩;have r:∀h:p<x.ns.length,x.ns[p]'h=a:=fun h=>(ak.1 t).2;have B:a.a=aH [ap a.tag,ap a.l,ap a.r,ap a.v.k,ap a.v.n,.int .u64 a.v.u,aO a.v.s,aO a.table,aO a.name]:=rfl;have wp:IntKind.i64.wrap ((p:Int)+1-1)=(p:Int):=by rw[pT (by omega) (by omega)];omega
  have E:IntKind.i64.wrap (p:Int)=(p:Int):=pT (by omega) (by omega);have C:(p:Int)<(p:Int)+1:=by omega
  have D:List.take b.length (b.map aq.str)=b.map aq.str:=ay (by simp);have A:b.length+1≤bD:=by unfold bD;omega
  have J:((k+1:Nat):Int)=(k:Int)+1:=by omega
  have key:∃(w:List UInt8) (T:aw),bT code base [9999,5,6,7,20,21] xB ⟨n0E n σ b.length y3 F G g i j y13 l o q L k am,σ++(Ej b::X)⟩=bT code base [9999,5,6,7,20,21] xB ⟨n0E n σ (b++[w]).length y3 F G g i j y13 l o q L (k+1) am,σ++(Ej (b++[w])::(X++T))⟩:=by
   cases has:x.as' with
   |nil=>
    rw[has]at f;refine⟨a.name,[aB 2 0 [x.a],aB 9 0 [a.a]],?_⟩;rw[aZ];simp only[n0E,Ej,J];simp[xB,z,d,N,v,f,K,wp,E,C,u,t,r,B,eT,append,D,A,O,fv]
   |cons c s=>
    rw[has]at f;refine⟨c::s,[aB 2 0 [x.a],aB 9 0 [a.a]],?_⟩;rw[aZ];simp only[n0E,Ej,J];simp[xB,z,d,N,v,f,K,wp,E,C,u,t,r,B,eT,append,D,A,O,fv]
  obtain⟨w,T,y⟩:=key;obtain⟨e,H,P,Q⟩:=U (k+1) (b++[w]) (X++T) (by omega) (by simp;omega);exact⟨e,H,y.trans P,by rw[Q];simp;omega⟩
theorem RP{σ:aw}{n:Nat}{S:fA}(h:SA σ n S)(k:CtOk S.cat)(c:Jg S.cat S.tables S.joins)(u:S.joins.length≤2)(m:wh S.fr):∃(a:List (List UInt8)) (X:aw),cD code I.qal [aI (n+3) 0 0 0] σ=some (kA σ.length a.length,σ++(Ej a::X))∧a.length=(if S.fr.star then (yq S.cat S.tables).length else (S.fr.items.getD []).length):=by
 have b:=h.at3;have p:=h.at4;have hi:=S.fr.hi;have s:S.tables.length≤3:=by have:=c.len;omega
 have r:∀x∈S.fr.items.getD [],0<x.ns.length:=fun x t=>(m.items x t).pos;rw[cz anJ rfl];cases hst:S.fr.star with
 |false=>
  obtain⟨a,X,q,l⟩:=Pd (σ:=σ) (n:=n) am (aC false) am am am am am am am am (S.fr.items.getD []) hi r (σ.length+1) (S.fr.items.getD []).length 0 [] [] (by omega) (by simp);refine⟨a,X,?_,by simpa using l⟩;simp only[n0E,Ej,aY,bE,bm]at q ⊢;simp only[iH,hst]at b;simp[as3,aaR,b,q]
 |true=>
  have d:S.fr.items.getD []=[]:=by
   have:=m.star;rw[hst]at this;exact db.1 (by simpa using this.symm)
  obtain⟨a,X,y3,y13,g,i,j,q,l⟩:=abM h k c.rng s (σ.length+1) S.tables.length 0 [] [] (by omega) (by simp)
  obtain⟨e,o,f,v⟩:=Pd (σ:=σ) (n:=n) y3 (aC true) (kA (n+4) S.tables.length) (ap S.tables.length) (ap S.tables.length) (aC false) y13 g i j [] (by simp) (by simp) (σ++(Ej a::X)).length 0 0 a X rfl (by
   have:=CB k S.tables c.rng;simp only[nq,bE,cE]at l;omega)
  refine⟨e,o,?_,by rw[if_pos rfl];simp only[nq,bE,cE]at l;omega⟩;simp only[n0E,n2E,Ej,aY,bE,bm]at q f ⊢;simp only[iH,hst,d,bm,bE]at b;simp at f;simp[as3,aaR,b,p,q,f]
def lT:List Int→List Int→Option (List Int)
 |[],[]=>some []
 |a::as',b::bs=>if a=0 then (lT as' bs).map (b::·) else if b≠0∧b≠a then none else (lT as' bs).map (a::·)
 |_,_=>none
theorem HT:∀(a b:List Int),a.length=b.length→lT a b=jw a b
 |[],[],_=>rfl
 |[],_::_,h=>by simp at h
 |_::_,[],h=>by simp at h
 |k::a,o::b,h=>by
  have d:=HT a b (by simpa using h);by_cases c:k=0
  ·subst c;simp[lT,jw,d]
  simp only[lT,jw,if_neg c,d]
abbrev Xa(ia ea ib eb N:Nat)(k:Nat)(y2 y3 y4 y9 y10 y11:aq):List aq:=[.sl ia ea 0 N,.sl ib eb 0 N,y2,y3,y4,aC false,.sl ib eb 0 N,ap N,ap k,y9,y10,y11]
theorem acH{τ:aw}{i ea p r N:Nat}(l:List Int)(x:l.length=N)(hN:N≤100)(ha:i<τ.length)(J:i≠p)(hb:τ[p]?=some (aB 1 r (eD l))):∀(m k:Nat) (d:List Int),k+m=N→d.length=N →
  (∃(env:List aq) (f:List Int),bT code τ.length [2,3,4,9,10,11] oN ⟨Xa i ea p r N k am am am am am am,τ.set i (aB 1 ea (eD d))⟩=some (.ret,⟨env,τ.set i (aB 1 ea (eD f))⟩)∧env[2]?=some (aC false)∧f.length=N) ∨
  ∃(f:List Int),bT code τ.length [2,3,4,9,10,11] oN ⟨Xa i ea p r N k am am am am am am,τ.set i (aB 1 ea (eD d))⟩=some (.ext 0,⟨Xa i ea p r N N am am am (aC false) am am,τ.set i (aB 1 ea (eD f))⟩)∧f.length=N∧f.take k=d.take k∧lT (d.drop k) (l.drop k)=some (f.drop k):=by
 intro m;induction m with
 |zero=>
  intro k d Q z;have Q:k=N:=by omega
  subst Q;right;refine⟨d,?_,z,rfl,by rw[oP (by omega),oP (by omega)];rfl⟩;rw[aZ];simp[oN]
 |succ m ih=>
  intro k d Q z;have n:k<l.length:=by omega
  have j:k<d.length:=by omega
  have D:k<N:=by omega
  have E:(k:Int)<(N:Int):=by omega
  have X:IntKind.i64.wrap ((k:Int)+1)=(k:Int)+1:=pT (by omega) (by omega);have y:=au n;have s:=au j;have w:∀h:k<l.length,l[k]'h=l[k]'n:=fun _=>rfl;have C:∀h:k<d.length,d[k]'h=d[k]'j:=fun _=>rfl;have O:l.drop k=l[k]::l.drop (k+1):=dl n;have P:d.drop k=d[k]::d.drop (k+1):=dl j;rw[O,P];generalize l[k]=b at *;generalize ad:d[k]=a at *;have B:(τ.set i (aB 1 ea (eD d)))[p]?=some (aB 1 r (eD l)):=by rw[aD J];exact hb
  have A:(τ.set i (aB 1 ea (eD d)))[i]?=some (aB 1 ea (eD d)):=by rw[aW ha]
  have Y:((k+1:Nat):Int)=(k:Int)+1:=by omega
  have t:∀o,(τ.set i o).length=τ.length:=fun o=>gg;have u:∀(g:List Int),g.length=N→g.take k=d.take k→g.drop (k+1)=d.drop (k+1)→(∃c,g[k]?=some c∧lT (a::d.drop (k+1)) (b::l.drop (k+1))=(lT (d.drop (k+1)) (l.drop (k+1))).map (c::·)) →
    bT code τ.length [2,3,4,9,10,11] oN ⟨Xa i ea p r N k am am am am am am,τ.set i (aB 1 ea (eD d))⟩=bT code τ.length [2,3,4,9,10,11] oN ⟨Xa i ea p r N (k+1) am am am am am am,τ.set i (aB 1 ea (eD g))⟩→(∃(env:List aq) (f:List Int),bT code τ.length [2,3,4,9,10,11] oN ⟨Xa i ea p r N k am am am am am am,τ.set i (aB 1 ea (eD d))⟩=some (.ret,⟨env,τ.set i (aB 1 ea (eD f))⟩)∧env[2]?=some (aC false)∧f.length=N) ∨
  ∃(f:List Int),bT code τ.length [2,3,4,9,10,11] oN ⟨Xa i ea p r N k am am am am am am,τ.set i (aB 1 ea (eD d))⟩=some (.ext 0,⟨Xa i ea p r N N am am am (aC false) am am,τ.set i (aB 1 ea (eD f))⟩)∧f.length=N∧f.take k=d.take k∧lT (a::d.drop (k+1)) (b::l.drop (k+1))=some (f.drop k):=by
   intro g S T M V Z;obtain⟨c,K,V⟩:=V;rcases ih (k+1) g (by omega) S with⟨env,f,q,I,W⟩|⟨f,q,W,t',u'⟩
   ·exact .inl ⟨env,f,Z.trans q,I,W⟩
   right;have R:k<f.length:=by omega
   have U:f.take k=g.take k:=by
    have:=congrArg (List.take k) t'
    rwa [pV,pV,eK (by omega)]at this
   have L:f[k]?=some c:=by
    have F:(f.take (k+1))[k]?=(g.take (k+1))[k]?:=by rw[t']
    rw[ni (by omega),ni (by omega),K]at F;exact F
   refine⟨f,Z.trans q,W,by rw[U,T],?_⟩;rw[V];rw[M]at u';rw[u',dJ];rw[dl R];have:=(ak.1 L).2;rw[this]
  by_cases H:a=0
  ·subst H;refine u (d.set k b) (by simp[z]) (by rw[List.take_set_of_le (by omega)]) (by rw[List.drop_set_of_lt (by omega)]) ⟨b,by simp[j],by simp[lT]⟩ ?_;rw[aZ];have ab:(eD d).set k (ap b)=eD (d.set k b):=by simp[eD,List.map_set]
   simp only[Xa,Y];simp[oN,E,D,x,z,B,A,y,s,n,j,w,C,X,cO,t]
  by_cases F:b≠0∧b≠a
  ·left;have v:b≠0:=F.1;have G:b≠a:=F.2;have:∃env,bT code τ.length [2,3,4,9,10,11] oN ⟨Xa i ea p r N k am am am am am am,τ.set i (aB 1 ea (eD d))⟩=some (.ret,⟨env,τ.set i (aB 1 ea (eD d))⟩)∧env[2]?=some (aC false):=by
    rw[aZ];exact⟨_,by simp[oN,E,D,x,z,B,A,y,s,n,j,w,C,H,v,G];rfl,rfl⟩
   obtain⟨env,q,I⟩:=this;exact⟨env,d,q,I,z⟩
  refine u d z rfl rfl ⟨a,by rw[s],by simp only[lT,if_neg H,if_neg F]⟩ ?_;rw[aZ];simp only[Xa,Y];by_cases v:b=0
  ·subst v;simp[oN,E,D,x,z,B,A,y,s,n,j,w,C,H,X,cO,t]
  have G:b=a:=by
   by_cases e:b=a
   ·exact e
   exact absurd ⟨v,e⟩ F
  subst G;simp[oN,E,D,x,z,B,A,y,s,n,j,w,C,H,X,cO,t]
theorem KG{τ:aw}{i:Nat}{o:Obj}(h:τ[i]?=some o):τ.set i o=τ:=by
 apply eY;intro j;by_cases hi:i=j
 ·subst hi;have:=(ak.1 h).1;rw[aW this,h]
 rw[aD hi]
theorem Qu{τ:aw}{i ea o p:Nat}(a d:List Int)(e:τ[i]?=some (aB 1 ea (eD a)))(g:τ[o]?=some (aB 1 p (eD d)))(j:i≠o)(s:a.length≤100) :
  ∃(ok:Bool) (cs:List Int),cD code I.qap [.sl i ea 0 a.length,.sl o p 0 d.length] τ=some (aC ok,τ.set i (aB 1 ea (eD cs)))∧cs.length=a.length∧(ok=true→a.length=d.length∧lT a d=some cs):=by
 have k:=(ak.1 e).1;rw[cz akm rfl];by_cases b:a.length=d.length
 ·have f:((a.length:Int) != (d.length:Int))=false:=by simp;omega
  have n:=KG e;have c:=acH (τ:=τ) (ea:=ea) d rfl (by omega) k j g d.length 0 a (by omega) b;rw[n]at c;simp only[Xa,aY]at c;rw[b];rcases c with⟨env,cs,q,r,l⟩|⟨cs,q,l,_,u⟩
  ·refine⟨false,cs,?_,l,fun h=>by cases h⟩;simp[asg,Va,e,g,b,q,r]
  refine⟨true,cs,?_,l,fun _=>⟨rfl,by simpa using u⟩⟩;simp[asg,Va,e,g,b,q]
 have f:((a.length:Int) != (d.length:Int))=true:=by simp;omega
 have m:¬(a.length:Int)=(d.length:Int):=by omega
 refine⟨false,a,?_,rfl,fun h=>by cases h⟩;rw[KG e];simp[asg,Va,e,g,f,m,b]
theorem Sj(b:Bool)(l:List (List UInt8))(s:List UInt8)(r:l.length≤8000):∃k:Int,bB I.qhg [.aa b (l.map aO),aO s]=some (ap k)∧-1≤k∧k<l.length:=by
 rw[aR ahi rfl];have m:l.length≤bD:=by unfold bD;omega
 have loop:=om (base:=0) (clr:=[2,3,6,7]) (b:=s7) l (fun k=>⟨[.aa b (l.map aO),aO s,am,am,ap l.length,ap k,am,am],[]⟩) (fun x=>x==s)
  (.ext 0,⟨[.aa b (l.map aO),aO s,am,am,ap l.length,ap l.length,aC false,am],[]⟩) (fun o=>∃q,o=(.ret,q)∧∃k:Nat,q.env[2]?=some (ap k)∧k<l.length)
  (fun k x c f d=>by
   have g:∀h:k<l.length,l[k]'h=x:=fun h=>(ak.1 f).2;have p:=cU c m;have a:(s==x)=false:=by rw[gh]at d ⊢;exact fun e=>d e.symm
   simp[s7,eT,c,f,g,p,a,bN])
  (fun k x c f d=>by
   have g:∀h:k<l.length,l[k]'h=x:=fun h=>(ak.1 f).2;have a:s=x:=by rw[aX]at d;exact d.symm
   subst a;exact⟨_,by simp[s7,eT,c,f,g];rfl,_,rfl,k,rfl,c⟩)
  (by simp[s7])
 rcases loop with⟨i,loop⟩|⟨i,o,loop,q,rfl,k,n,j⟩
 ·simp only[aY]at loop;exact⟨-1,by simp[asa,Oi,loop],by omega,by omega⟩
 simp only[aY]at loop;exact⟨k,by simp[asa,Oi,loop,n],by omega,by omega⟩
theorem ami(k:BZ)(b:Bool)(a:List (List UInt8))(t:a.length≤8000):∃(x e:Int),bB I.qv [k.a,.aa b (a.map aO)]=some (fb [ap x,ap e])∧(e=0→0≤x∧x<a.length):=by
 rw[aR aqa rfl];have o:k.a=aH [aO k.name,ap k.number,aC k.desc]:=rfl;rw[o];cases hn:k.name with
 |nil=>
  by_cases f:k.number<1
  ·exact⟨0,222,by simp[arV,QS,eT,f],fun e=>by cases e⟩
  by_cases n:(a.length:Int)<k.number
  ·exact⟨0,222,by simp[arV,QS,eT,f,n],fun e=>by cases e⟩
  have w:IntKind.i64.wrap (k.number-1)=k.number-1:=pT (by omega) (by omega);exact⟨k.number-1,0,by simp[arV,QS,eT,f,n,w],fun _=>by omega⟩
 |cons c s=>
  obtain⟨q,f,n,u⟩:=Sj b a (c::s) t;by_cases m:q<0
  ·exact⟨0,222,by simp[arV,QS,eT,f,m],fun e=>by cases e⟩
  obtain⟨p,rfl⟩:∃p:Nat,q=(p:Int):=⟨q.toNat,by omega⟩;have j:p<a.length:=by omega
  have d:p+1≤a.length:=by omega
  have w:IntKind.i64.wrap ((p:Int)+1)=(p:Int)+1:=pT (by omega) (by omega);have g:=fun r=>tz r (a.drop (p+1)) (c::s) (by simp;omega);have i:(0:Int)≤(p:Int)+1:=by omega
  have l:List.take (a.length-(p+1)) (List.drop (p+1) (a.map aq.str))=List.drop (p+1) (a.map aq.str):=ay (by simp);have h:List.drop (p+1) (a.map aq.str)=(a.drop (p+1)).map aq.str:=by rw[wB]
  rw[←h]at g;clear h;cases hc:(a.drop (p+1)).any (· == (c::s)) with
  |true=>
   rw[hc]at g;exact⟨0,223,by simp[arV,QS,eT,f,m,w,j,d,i,l,g],fun e=>by cases e⟩
  |false=>
   rw[hc]at g;exact⟨p,0,by simp[arV,QS,eT,f,m,w,j,d,i,l,g],fun _=>by omega⟩
theorem apn:zi=.seq (.reg [i (.bin .lss (e 22) (e 21))] [(23,l 0)]) (.seq (.cond (e 23) .skip (.exit 0)) (.seq (.blk 1 (.seq Aa (.seq Ad (.seq vp (.seq nB vC))))) (.reg [i (.bin .add (e 22) (v (ap 1)))] [(22,l 0)]))):=rfl
abbrev xU(c:List cK)(q:tX)(k:Nat)(e10 e11 e12 e13 e14 e23 e24 e25 e26:aq):List aq:=[mC c,q.a,aI 0 0 0 0,aI 1 0 0 0,aI 2 0 0 0,am,am,ap 0,ap 0,aI 3 0 0 0,e10,e11,e12,e13,e14,am,am,am,aC false,aC false,.aa false (q.sels.map mL.a),ap q.sels.length,ap k,e23,e24,e25,e26,am,am,am,am,am]
theorem aaU{c:List cK}{q:tX}{τ:aw}(n:τ[0]?=some (aB 1 0 [mC c]))(k:Nat)(x:mL)(m:q.sels[k]?=some x) :
  ∃d,run code (.seq Aa (.seq Ad (.seq vp (.seq nB vC)))) ⟨xU c q k am am am am am (aC true) am am am,τ⟩=run code (.seq vp (.seq nB vC)) ⟨xU c q k (ap k) (aI τ.length 0 0 0) (aI (τ.length+4) 0 0 0) am am (aC true) am am am,d⟩∧d=τ++[Obj.arr 9 0 [x.a],.map [],.map [],.map [],aB 25 0 [aH [.aa false (c.map cK.a),aC x.distinct,aC x.star,.aa false ((x.items.getD []).map pU.a),aO x.table,aO x.as',.aa false (x.joins.map o7.a),gN (x.whr.getD []),gN (x.having.getD []),.aa false ((x.group.getD []).map uV.a),.ai,.ai,.ai,.ai,aC false,aC false,.ai,.ai,.ai,.mp (τ.length+1),.mp (τ.length+2),.mp (τ.length+3),.ai,.ai,ap 0]]]:=by
 have l:=(ak.1 m).1;have j:(k:Int)<(q.sels.length:Int):=by omega
 have g:∀h:k<q.sels.length,q.sels[k]'h=x:=fun h=>(ak.1 m).2;have a:x.a=aH [aC x.distinct,aC x.star,.aa false ((x.items.getD []).map pU.a),aO x.table,aO x.as',.aa false (x.joins.map o7.a),gN (x.whr.getD []),gN (x.having.getD []),.aa false ((x.group.getD []).map uV.a)]:=rfl;have b:=fu n;have e:∀(X:aw) (h:0<(τ++X).length),(τ++X)[0]'h=aB 1 0 [mC c]:=fun X h=>(ak.1 (b X)).2;refine⟨_,?_,rfl⟩;rw[fy];have o:run code Aa ⟨xU c q k am am am am am (aC true) am am am,τ⟩=some (.nrm,⟨xU c q k (ap k) (aI τ.length 0 0 0) am am am (aC true) am am am,τ++[Obj.arr 9 0 [x.a]]⟩):=by
  rw[a];simp[Aa,l,j,m,g,a]
 rw[o,bW,fy];have p:run code Ad ⟨xU c q k (ap k) (aI τ.length 0 0 0) am am am (aC true) am am am,τ++[Obj.arr 9 0 [x.a]]⟩=some (.nrm,⟨xU c q k (ap k) (aI τ.length 0 0 0) (aI (τ.length+4) 0 0 0) am am (aC true) am am am,τ++[Obj.arr 9 0 [x.a],.map [],.map [],.map [],aB 25 0 [aH [.aa false (c.map cK.a),aC x.distinct,aC x.star,.aa false ((x.items.getD []).map pU.a),aO x.table,aO x.as',.aa false (x.joins.map o7.a),gN (x.whr.getD []),gN (x.having.getD []),.aa false ((x.group.getD []).map uV.a),.ai,.ai,.ai,.ai,aC false,aC false,.ai,.ai,.ai,.mp (τ.length+1),.mp (τ.length+2),.mp (τ.length+3),.ai,.ai,ap 0]]]⟩):=by
  rw[a];have f:∀i,cellsOf (.mp i)=[.mp i]:=fun _=>rfl;simp[Ad,b,e,f]
 rw[p,bW]
theorem acW{c:List cK}{q:tX}{τ:aw}(k:Nat)(x:mL)(y:aw→Option (Ex×St))(b:az)(h:∀a,run code b ⟨xU c q k (ap k) (aI τ.length 0 0 0) (aI (τ.length+4) 0 0 0) am am (aC true) am am am,a⟩=y a) :
  run code (.lift 12 10 1 (.lift 12 11 2 (.lift 12 16 1 (.lift 12 17 2 (.lift 12 18 1 (.lift 12 22 1 (.lift 12 23 1 b))))))) ⟨xU c q k (ap k) (aI τ.length 0 0 0) (aI (τ.length+4) 0 0 0) am am (aC true) am am am,τ++[Obj.arr 9 0 [x.a],.map [],.map [],.map [],aB 25 0 [aH [.aa false (c.map cK.a),aC x.distinct,aC x.star,.aa false ((x.items.getD []).map pU.a),aO x.table,aO x.as',.aa false (x.joins.map o7.a),gN (x.whr.getD []),gN (x.having.getD []),.aa false ((x.group.getD []).map uV.a),.ai,.ai,.ai,.ai,aC false,aC false,.ai,.ai,.ai,.mp (τ.length+1),.mp (τ.length+2),.mp (τ.length+3),.ai,.ai,ap 0]]]⟩ =
   y (τ++[Obj.arr 9 0 [x.a]]++Bm (τ.length+1) (scZ c x)):=by
 simp only[aid];simp[Jn,h,sv,Bm,iH,scZ]
end Go.AM
