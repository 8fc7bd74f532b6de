/- Part of the proof. -/
import Derived.Test.YtegkopkbogoajaaGreatDoorAm16
set_option linter.unusedVariables false
set_option linter.unusedSimpArgs false
namespace Go.AM
open P
set_option maxHeartbeats 64000000
set_option maxRecDepth 40000
attribute [local simp] aB aP
theorem Zl(b:Bool)(l:aJ)(g:Nat)(hp:aC g)(step:Option Int→aE→Option Int)(qZ:Nat→Option Int→Prop)(hn:l.length≤most)(h0:qZ 0 none)
  (hs:∀k v s,k<l.length→l[k]?=some v→qZ k s→az g [(fQ s).a,v.a]=some (.tup [(fQ (step s v)).a,ac 0])∧qZ (k+1) (step s v)) (he:∀s,qZ l.length s→Wn s) :
  az I.qel [.wh b (l.map aE.a),.fn g [] []]=some (.tup [(kL (l.foldl step none)).1.a,ac (kL (l.foldl step none)).2]):=by
 rw[am ajL rfl];have h:=bB (base:=2) (clr:=[3,5,6,7,11,12]) (b:=rm) l
  (fun k (s:Option Int)=>⟨[.wh b (l.map aE.a),.fn g [] [],.ptr 0 0 0 0,.any,.ptr 1 0 0 0,.any,.any,.any,.wh b (l.map aE.a),ac l.length,ac k,.any,.any],[.arr 4 0 [aq.a],.arr 4 0 [(fQ s).a]]⟩)
  qZ step
  (fun s=>(.ext 0,⟨[.wh b (l.map aE.a),.fn g [] [],.ptr 0 0 0 0,.any,.ptr 1 0 0 0,.any,.any,.any,.wh b (l.map aE.a),ac l.length,ac l.length,.bool false,.any],[.arr 4 0 [aq.a],.arr 4 0 [(fQ s).a]]⟩))
  (fun k v s hk hy hi=>by
   have yB:((k:Int)<(l.length:Int)):=by omega
   obtain⟨h1,h2⟩:=hs k v s hk hy hi;refine⟨?_,h2⟩;generalize fQ s=S at *;generalize fQ (step s v)=S' at *;simp only[aE.a]at h1;simp[rm,yB,hy,hp _ _,h1,aA hk hn,ar,ap,aE.a])
  (fun s _=>by simp[rm]) none h0
 obtain⟨h1,h2⟩:=h;have h3:=aiZ (l.foldl step none) (he _ h2);generalize l.foldl step none=s at *;generalize fQ s=S at *;simp only[fQ]at *;simp only[aE.a,aq]at *;simp at h1;simp[ay7,Xs,h1,h3,aE.a,aq]
def oY(j:Nat)(rs:av):aJ:=rs.flatMap fun r=>if (r.getD j aq).k=0 then [] else [r.getD j aq]
theorem PO(j:Nat):∀rs:av,(oY j rs).length≤rs.length
 |[]=>aes _
 |r::rs=>by
  have ih:=PO j rs;unfold oY at *;rw[atE,aog,aiG];have:∀(c:Prop) [Decidable c] (v:aE),(if c then ([]:aJ) else [v]).length≤1:=fun c _ v=>by split<;>simp
  have:=this ((r.getD j aq).k=0) (r.getD j aq);omega
def arS(v:aE):Int:=v.n*18446744073709551616+v.u
def apQ(l:aJ):Option Int:=l.foldl (fun s v=>asH s (some (arS v))) none
def aci(tag:Int)(own:aJ):aE×Int:=
 if tag=3 then kL (apQ own) else if tag=1∨tag=2 then kL (I8 (own++[bL 0])) else if tag=4 then (tu own,0) else (jl own,0)
theorem aet(b:Bool)(l:aJ)(hn:l.length≤8001)(ho:∀v∈l,kM v=0∧rg v.n):az I.qel [.wh b (l.map aE.a),.fn I.qm [] []]=some (.tup [(kL (I8 l)).1.a,ac (kL (I8 l)).2]):=by
 refine Zl b l I.qm asL gf (fun k s=>-(9223372036854775808*(k:Int))≤s.getD 0∧s.getD 0≤9223372036854775808*(k:Int)) (by unfold most;omega) (by simp) (fun k v s hk hv hi=>?_) (fun s hi=>by unfold Wn sz;omega);obtain⟨h1,h2⟩:=ho v (aeb hv);have h3:=adL s v (tn (k:=k) (by unfold most;omega) hi) h2;rw[h1]at h3;simp only[aml]at h3;exact⟨h3,w8 hi h2⟩
theorem FB(t:Bool)(n:aO)(fl top:Bool)(base:Nat)(σ:ah)(m:Nat)(h:(fl ||top)=true):fz fl top base σ (m+4) (.cptr t n.a 0)=.cptr t n.a 0:=by
 have h1:∀fl top,(fl ||top)=true→fz fl top base σ (m+3) n.a=n.a:=fun fl top h=>Ft.ft fl top base σ m n h;have h2:=h1 true false rfl;have h3:=h1 false true rfl;cases t<;>cases fl<;>cases top<;>simp_all
structure jd (s:aE):Prop where
 ok:dC s=true
 k:s.k=0∨s.k=4
 n:rg s.n
 u:nv s.u
theorem jd.zero:jd aq:=⟨gR,.inl rfl,by simp[aq,rg],by simp[aq,nv]⟩
theorem Ig{s t:aE}(h:(lJ s t).2=0)(hs:jd s)(ht:jd t):jd (lJ s t).1:=by
 unfold lJ at *;split at h
 ·rename_i h1;rw[if_pos h1];by_cases c1:s.k=0
  ·rw[if_pos c1];exact ht
  rw[if_neg c1]at h ⊢;by_cases c2:t.k=0
  ·rw[if_pos c2];exact hs
  rw[if_neg c2]at h ⊢;unfold Ci at *;split at h
  ·rename_i h3;rw[if_pos h3];rw[iA]at h3;refine⟨Fr _,.inr rfl,?_,?_⟩<;>simp only[iE]<;>first|(unfold rg;omega)|(unfold nv;omega)
  cases h
 rename_i h1;exact absurd h h1
def uI(_:Nat)(v s:aE):aE⊕(aE×Int):=if (lJ s v).2=0 then .inl (lJ s v).1 else .inr (lJ s v)
def ID(l:aJ):aE×Int:=match aV uI l 0 aq with
 |.inl s=>vK s
 |.inr p=>p
theorem ZX(b:Bool)(l:aJ)(hn:l.length≤most)(ho:∀v∈l,jd v) :
  az I.qel [.wh b (l.map aE.a),.fn I.qg [] []]=some (.tup [(ID l).1.a,ac (ID l).2]):=by
 rw[am ajL rfl];have h:=cD (base:=2) (clr:=[3,5,6,7,11,12]) (b:=rm) l
  (fun k (s:aE)=>⟨[.wh b (l.map aE.a),.fn I.qg [] [],.ptr 0 0 0 0,.any,.ptr 1 0 0 0,.any,.any,.any,.wh b (l.map aE.a),ac l.length,ac k,.any,.any],[.arr 4 0 [aq.a],.arr 4 0 [s.a]]⟩)
  (fun _ s=>jd s) uI
  (fun s=>(.ext 0,⟨[.wh b (l.map aE.a),.fn I.qg [] [],.ptr 0 0 0 0,.any,.ptr 1 0 0 0,.any,.any,.any,.wh b (l.map aE.a),ac l.length,ac l.length,.bool false,.any],[.arr 4 0 [aq.a],.arr 4 0 [s.a]]⟩))
  (fun (p:aE×Int) o=>∃s,o=(.ret,s)∧bF .pure [.cell true 4 2,.env 3] (some (.ret,s))=some (.tup [p.1.a,ac p.2]))
  (fun k v s hk hy hi=>by
   have yB:((k:Int)<(l.length:Int)):=by omega
   have hv:=ho v (aeb hy);have hJ:=alx s v hi.n hi.u hv.n hv.u;have hjo:=fun h=>Ig (s:=s) (t:=v) h hi hv;unfold uI;generalize lJ s v=p at *;obtain⟨w,no⟩:=p;simp only at *;have hp:=ar1;by_cases c:no=0
   ·rw[if_pos c];refine⟨?_,hjo c⟩;subst c;simp only[aE.a]at *;simp[rm,yB,hy,hJ,aA hk hn,ar,ap,aE.a]
   rw[if_neg c];simp only[aE.a,aq]at *;exact⟨_,by simp[rm,yB,hy,hJ,aR c,aE.a];rfl,_,rfl,by simp⟩)
  (fun s _=>by simp[rm]) aq jd.zero
 unfold ID;cases hf:aV uI l 0 aq with
 |inl s=>
  rw[hf]at h;obtain⟨hs,h⟩:=h;have hE:=amy s hs.n hs.u;simp only at hE ⊢;generalize vK s=R at *;simp only[aE.a,aq]at *
  try simp at h
  simp[ay7,Xs,h,hE,aE.a,aq]
 |inr p=>
  rw[hf]at h;obtain⟨o,h1,s,rfl,h2⟩:=h;simp only at h2 ⊢;simp only[aE.a,aq]at *
  try simp at h1
  simp[ay7,Xs,h1,aE.a,aq,-bP];exact h2
theorem Xu{l:aJ}(ho:∀v∈l,jd v){s:aE}(h:aV uI l 0 aq=.inl s):jd s:=
 Cy (l:=l) (fun _ s=>jd s) (fun k v s s' hy hs hg=>by
  unfold uI at hg;split at hg
  ·rename_i h0;cases hg;exact Ig h0 hs (ho v (aeb hy))
  cases hg) jd.zero h
theorem aki{s:aE}(h:jd s):(vK s).2=0∨(vK s).2=140:=by
 unfold vK;have:kO 4 [s]=0:=by
  rw[IJ,h.ok];rcases h.k with k|k<;>simp[k]
 rw[if_pos this]
 repeat' split
 all_goals simp
theorem UA{rs:av}(hn:rs.length≤most)(c:aJ→aJ→Int)(F:aa)(g:Nat)(cap:List aa)(hW:DU c)(hz:∀r q,c r q=0→r=q)(hR:∀r q,-1≤c r q∧c r q≤1)
  {σ:ah} {id ep:Nat} (h:σ[id]?=some (.arr 1 ep (rs.map aG))) (hF:dW (σ.set id .dead) F=.fn g [] cap) (hcall:∀r∈rs,∀q∈rs,bK code g (aG r::aG q::cap) []=some (ac (c r q),[])) :
  bK code 67 [.sl id ep 0 rs.length,F] σ=some (.any,σ.set id (.arr 1 ep ((df c rs).map aG))):=by
 have hk:∀x∈rs.map aG,∃r,r∈rs∧x=aG r:=fun x hx=>by
  obtain⟨r,h1,h2⟩:=afJ.1 hx;exact⟨r,h1,h2.symm⟩
 have ha:∀r,sq (aG r)=r:=fun r=>N3 false r;obtain⟨n,hf⟩:=wv (F:=fun n (x:aa)=>∀y∈rs.map aG,bJ code n g (x::y::cap) []=some (ac (c (sq x) (sq y)),[]))
  (fun n m x hnm h y hy=>(ez good _ _ _).le hnm (h y hy)) (rs.map aG) (fun x hx=>by
   obtain⟨n,hn⟩:=wv (F:=fun n (y:aa)=>bJ code n g (x::y::cap) []=some (ac (c (sq x) (sq y)),[]))
    (fun n m y hnm h=>(ez good _ _ _).le hnm h) (rs.map aG) (fun y hy=>by
     obtain⟨r,hr,rfl⟩:=hk x hx;obtain⟨q,hq,rfl⟩:=hk y hy;rw[ha,ha];exact (kW (ez good _ _ _) _).1 (hcall r hr q hq))
   exact⟨n,fun y hy=>hn y hy⟩)
 have hc:∀r q,r∈rs→q∈rs→gD (bJ code n) (.fn g [] cap) (aG r) (aG q)=some (c r q):=fun r q hr hq=>by
  have:=hf (aG r) (afJ.2 ⟨r,hr,rfl⟩) (aG q) (afJ.2 ⟨q,hq,rfl⟩);unfold gD qK;rw[ha,ha]at this;simp[this]
 have hO:vw (gD (bJ code n) (.fn g [] cap)) (rs.map aG)=true:=by
  rw[lq];refine⟨fun x hx y hy=>?_,fun x hx y hy a b e1 e2=>?_,fun x hx y hy e=>?_,fun x hx=>?_,fun x hx y hy z hz' a b d e1 e2 e3 h1 h2=>?_⟩
  ·obtain⟨r,hr,rfl⟩:=hk x hx;obtain⟨q,hq,rfl⟩:=hk y hy;have:=hR r q;exact⟨_,hc r q hr hq,by omega,by omega⟩
  ·obtain⟨r,hr,rfl⟩:=hk x hx;obtain⟨q,hq,rfl⟩:=hk y hy;rw[hc r q hr hq]at e1;rw[hc q r hq hr]at e2;cases e1;cases e2;exact hW.anti r q
  ·obtain⟨r,hr,rfl⟩:=hk x hx;obtain⟨q,hq,rfl⟩:=hk y hy;rw[hc r q hr hq]at e;rw[hz r q (as7 e)]
  ·obtain⟨r,hr,rfl⟩:=hk x hx;rw[hc r r hr hr,hW.self]
  obtain⟨r,hr,rfl⟩:=hk x hx;obtain⟨q,hq,rfl⟩:=hk y hy;obtain⟨s,hs,rfl⟩:=hk z hz';rw[hc r q hr hq]at e1;rw[hc q s hq hs]at e2;rw[hc r s hr hs]at e3;cases e1;cases e2;cases e3;exact hW.lt_le h1 (Int.le_of_lt h2)
 refine pk good (k:=1) (n:=n) rfl ?_;have hp:code.prims 1 (bJ code n)=nl (bJ code n):=rfl;rw[hp];have h9:(rs.map aG).take rs.length=rs.map aG:=aea (by simp);have h10:((rs.map aG).all fun x=>same (dW (σ.set id .dead) x) x&&aw x==1&&!isAgg x&&!iw x)=true:=by
  rw[afz];intro x hx;obtain⟨r,hr,rfl⟩:=hk x hx;simp only[aG];simp[iw]
 simp only[nl,h,auu,h9];have h13:dt (kS (gD (bJ code n) (.fn g [] cap))) (rs.map aG)=(df c rs).map aG:=by
  refine ze fun r hr q hq=>?_;unfold kS;rw[hc r q hr hq]
 rw[if_pos ⟨by trivial,by simp,hn,h10,by rw[hF];exact hO,by rw[hF];rfl⟩,hF,h13];have h12:(rs.map aG).drop (0+rs.length)=[]:=au7 (by simp);rw[h12];simp
def jp(ym:List Int)(r q:aJ):Int:=lex (cf (bu r ym) (bu q ym)) (cf r q)
theorem LI(ym:List Int):DU (jp ym):=(dS.on fun r=>bu r ym).lex dS
theorem Yq{ym:List Int}{r q:aJ}(h:jp ym r q=0):r=q:=gM (uU h).2
theorem Sq(ym:List Int)(r q:aJ):-1≤jp ym r q∧jp ym r q≤1:=sH (ut _ _) (ut _ _)
theorem nP(b:Bool)(a c:Int):az I.qdf [.wh b [ac a,ac c]]=some (ac (lex a c)):=by
 rw[am ab3 rfl];unfold lex;by_cases ha:a=0
 ·by_cases hc:c=0
  ·subst ha hc;simp[ax2,sL,jt,bS,ar,IntKind.wrap,IntKind.bits,IntKind.signed]
  subst ha;simp[ax2,sL,jt,bS,ar,IntKind.wrap,IntKind.bits,IntKind.signed,aR hc]
 simp[ax2,sL,jt,bS,ar,IntKind.wrap,IntKind.bits,IntKind.signed,aR ha,ha]
theorem Vx(b b':Bool)(r q:aJ)(hr:r.length≤most):az I.qgk [.wh b (r.map aE.a),.wh b' (q.map aE.a)]=some (ac (cf r q)):=yO b b' r q hr
theorem gL(r:aJ)(ym:List Int):(bu r ym).length=ym.length:=by simp[bu]
theorem XY(t bc:Bool)(ym:List Int)(r q:aJ)(hc:ym.length≤16)(hl:r.length≤most)(hr:∀c∈ym,0≤c∧c<r.length)(hq:∀c∈ym,0≤c∧c<q.length) :
  az I.qga [aG r,aG q,.cptr t (.wh bc (gB ym)) 0]=some (ac (jp ym r q)):=by
 rw[am aq7 rfl];have h1:=fun bc=>sg bc r ym hc hr;have h2:=fun bc=>sg bc q ym hc hq;have h3:=fun b b'=>Vx b b' (bu r ym) (bu q ym) (by rw[gL];unfold most;omega);have h4:=fun b b'=>Vx b b' r q hl;have h5:=fun b=>nP b (cf (bu r ym) (bu q ym)) (cf r q);simp only[aG]at *;unfold jp;cases t<;>simp[az0,aiD,h1,h2,h3,h4,h5]
theorem PN(v w:aE):eqa true [0,0,0,2] v.a w.a=some (.bool (!decide (v=w))):=by
 obtain⟨k,n,u,s⟩:=v;obtain⟨k',n',u',s'⟩:=w;simp only[dL];by_cases h1:k=k'
 ·by_cases h2:n=n'
  ·by_cases h3:u=u'
   ·by_cases h4:s=s'
    ·subst h1 h2 h3 h4;simp
    have h4':(s==s')=false:=by simp[h4]
    subst h1 h2 h3;simp[h4,h4']
   subst h1 h2;simp[al h3,h3]
  subst h1;simp[al h2,h2]
 simp[al h1,h1]
theorem aap{α:Type}[DecidableEq α]:∀{r q:List α},r.length=q.length→((r.zip q).any fun p=>!decide (p.1=p.2))=!decide (r=q)
 |[],[],_=>rfl
 |a::r,b::q,h=>by
  have ih:=aap (r:=r) (q:=q) (by simpa using h);rw[auB,aub,ih];by_cases e:a=b
  ·subst e;simp
  simp[e]
theorem acQ(b b':Bool)(r q:aJ)(hr:r.length≤most):az I.qhe [.wh b (r.map aE.a),.wh b' (q.map aE.a)]=some (.bool (decide (r=q))):=by
 rw[am anc rfl];by_cases hl:r.length=q.length
 ·have h:=fM (base:=0) (clr:=[2,3,7,8]) (b:=Ab) (r.zip q)
   (fun k=>⟨[.wh b (r.map aE.a),.wh b' (q.map aE.a),.any,.any,.bool false,ac r.length,ac k,.any,.any],[]⟩) (fun p=>!decide (p.1=p.2))
   (.ext 0,⟨[.wh b (r.map aE.a),.wh b' (q.map aE.a),.any,.any,.bool false,ac r.length,ac r.length,.bool false,.any],[]⟩)
   (fun o=>∃s,o=(.ret,s)∧bF .pure [.env 2] (some (.ret,s))=some (.bool false))
   (fun k p hk hy hp=>by
    have hk':k<r.length:=by simp at hk;omega
    have hk2:k<q.length:=by omega
    have hz:p=(r[k],q[k]):=by
     have:=aaN.1 hy;obtain⟨_,h2⟩:=this;rw[List.getElem_zip]at h2;exact h2.symm
    subst hz;have yB:((k:Int)<(r.length:Int)):=by omega
    have e:=PN r[k] q[k];have hd:decide (r[k]=q[k])=true:=by simpa using hp
    rw[hd]at e;have g1:r[k]?=some r[k]:=ad3 hk';have g2:q[k]?=some q[k]:=ad3 hk2;generalize r[k]=x at *;generalize q[k]=y at *;simp[Ab,yB,g1,g2,-eqa,e,aA hk' hr,aH])
   (fun k p hk hy hp=>by
    have hk':k<r.length:=by simp at hk;omega
    have hk2:k<q.length:=by omega
    have hz:p=(r[k],q[k]):=by
     have:=aaN.1 hy;obtain⟨_,h2⟩:=this;rw[List.getElem_zip]at h2;exact h2.symm
    subst hz;have yB:((k:Int)<(r.length:Int)):=by omega
    have e:=PN r[k] q[k];have hd:decide (r[k]=q[k])=false:=by simpa using hp
    rw[hd]at e;have g1:r[k]?=some r[k]:=ad3 hk';have g2:q[k]?=some q[k]:=ad3 hk2;generalize r[k]=x at *;generalize q[k]=y at *;exact⟨_,by simp[Ab,yB,g1,g2,-eqa,e];rfl,_,rfl,by simp⟩)
   (by simp[Ab,hl])
  rw[aap hl]at h;have hl':(r.length:Int)=q.length:=by omega
  rcases h with⟨ha,h⟩|⟨ha,o,h,s,rfl,h2⟩
  ·simp at ha h;rw[show decide (r=q)=true by simpa using ha];simp[ayX,V2,hl];rw[hl]at h;rw[h];simp
  have hd:decide (r=q)=false:=by simpa using ha
  rw[hd];simp at h;rw[hl]at h;simp[ayX,V2,hl,h,-bP];exact h2
 have hd:decide (r=q)=false:=by
  rw[atb];intro e;exact hl (by rw[e])
 have hl':¬(r.length:Int)=q.length:=by omega
 rw[hd];simp[ayX,V2,hl',aR hl']
theorem af2(b b':Bool)(r q:aJ)(hr:r.length≤most):az I.qgg [.wh b (r.map aE.a),.wh b' (q.map aE.a)]=some (.bool (decide (r=q))):=by
 rw[am apB rfl];have h:=fun b b'=>acQ b b' r q hr;simp[aA6,ahE,h]
def bA(ym:List Int)(r q:aJ):Bool:=decide (bu r ym=bu q ym)
theorem YQ(t bc:Bool)(ym:List Int)(r q:aJ)(hc:ym.length≤16)(hr:∀c∈ym,0≤c∧c<r.length)(hq:∀c∈ym,0≤c∧c<q.length) :
  az I.qgb [aG r,aG q,.cptr t (.wh bc (gB ym)) 0]=some (.bool (bA ym r q)):=by
 rw[am aoX rfl];have h1:=fun bc=>sg bc r ym hc hr;have h2:=fun bc=>sg bc q ym hc hq;have h3:=fun b b'=>af2 b b' (bu r ym) (bu q ym) (by rw[gL];unfold most;omega);simp only[aG]at *;unfold bA;cases t<;>simp[aAZ,aiy,h1,h2,h3]
@[simp] theorem asd(l site:Nat)(env args:List aa)(σ:ah):du code (.yld l site env) args σ=if sT σ l then bK code site (.frs l []::env++args) σ else none:=rfl
@[simp] theorem al8(l:Nat)(env:List aa)(r:aa×ah):Wk l env (some r)=tM l env r.2:=rfl
def cC(g:aJ×av):aa:=.agg [aG g.1,.wh false (g.2.map aG)]
instance:Nc cC 2 true:=⟨fun _=>rfl,fun _=>rfl⟩
instance:Fx cC:=⟨fun fl top base σ n y=>by
 cases fl<;>simp[cC,aG]⟩
abbrev ZB(b bc:Bool)(rs:av)(ym:List Int):List aa:=
 [.wh b (rs.map aG),.wh bc (gB ym),.ptr 0 0 0 0,.yz,ac 0,ac 0,.sl 1 0 0 rs.length,.fn 65 [] [.ptr 0 0 0 0],.ptr 2 0 0 0,.any,.bool false,.fn 145 [] [.ptr 4 0 0 0,.ptr 5 0 0 0],.any]
abbrev IW(bc:Bool)(ym:List Int)(S:av)(ep:Nat)(C:List aa)(off:Nat)(o:Obj)(r:List Obj):ah:=
 .arr 1 0 [.wh bc (gB ym)]::.arr 1 0 (S.map aG)::.arr 1 0 [.sl 3 ep 0 C.length]::.arr 2 ep C::.arr 1 0 [.sl 1 0 off (S.length-off)]::.arr 1 0 [.fn 65 [] [.ptr 0 0 0 0]]::o::r
theorem aem(b bc:Bool)(rs:av)(ym:List Int)(S:av)(ep:Nat)(G:List (aJ×av))(off k:Nat)(a:aJ)(hk:1≤k)(ho:off+k≤S.length)(ha:S[off]?=some a)(hn:S.length≤8000)(hG:G.length≤8000)
  (hc:ym.length≤16) (hr:∀c∈ym,0≤c∧c<a.length) :
  bK code 63 (.frs 6 []::(ZB b bc rs ym++[.sl 1 0 off k])) (IW bc ym S ep (G.map cC) off (.pend false none) []) =
   some (.bool true,IW bc ym S (ep+1) (G.map cC++[.agg [.wh false ((bu a ym).map aE.a),.sl 7 0 0 k]]) off (.pend false none) [.arr 1 0 (((S.drop off).take k).map aG)]):=by
 rw[DT good (g:=pc) rfl];have ht:∀bc,az I.qgq [aG a,.wh bc (gB ym)]=some (.wh false ((bu a ym).map aE.a)):=fun bc=>sg bc a ym hc hr;have yB:off<S.length:=by omega
 have hx:∀σ:ah,σ[1]?=some (.arr 1 0 (S.map aG))→dW σ (.sl 1 0 off k)=.wh true (((S.drop off).take k).map aG):=fun σ h=>by
  have ho':off+k≤(S.map aG).length:=by simpa using ho
  simp[h,ho,←List.map_drop,←List.map_take]
 have he:∀σ:ah,σ[1]?=some (.arr 1 0 (S.map aG))→eZ σ (.sl 1 0 off k)=(((S.drop off).take k).map aG).isEmpty:=fun σ h=>by
  simp only[eZ,rd,sliceAt,h];have:¬off+k=0:=by omega
  simp[ho,←List.map_drop,←List.map_take];cases (S.drop off).take k<;>simp
 have hlen:((S.drop off).take k).length=k:=by rw[al4,atj];omega
 have hcl:=uK (enc:=aG) true ((S.drop off).take k) (by rw[hlen];unfold most;omega);have hcall:=fun σ h=>um aiA rfl (hx σ h) (he σ h);rw[hcl]at hcall;have hcc:=fun o o'=>hcall (IW bc ym S ep (G.map cC) off o o') rfl;have hm:G.length+1≤most:=by unfold most;omega
 have hg:S[off]=a:=by
  have:=ad3 yB;rw[ha]at this;exact (as7 this).symm
 generalize (S.drop off).take k=X at *;have hXl:X.length=k:=hlen;subst hXl;have h0:(0:Nat)<X.length:=by omega
 simp[IW]at hcc;simp[pc,uG,vh,rY,pm,iz,yB,hg,h0,ht,hcc,append,hm,IW,ZB]
theorem zX{α:Type}{p:α→Bool}:∀{l:List α} {k:Nat} {y:α},l[k]?=some y→k<(l.takeWhile p).length→p y=true
 |[],k,y,h,_=>by simp at h
 |a::l,0,y,h,hk=>by
  simp at h;subst h;by_cases hp:p a=true
  ·exact hp
  simp[atW,hp]at hk
 |a::l,k+1,y,h,hk=>by
  by_cases hp:p a=true
  ·rw[atW,if_pos hp]at hk;exact zX (l:=l) (k:=k) (by simpa using h) (by simpa using hk)
  simp[atW,hp]at hk
theorem xS{α:Type}{p:α→Bool}:∀{l:List α} {y:α},l[(l.takeWhile p).length]?=some y→p y=false
 |[],y,h=>by simp at h
 |a::l,y,h=>by
  by_cases hp:p a=true
  ·rw[atW,if_pos hp]at h;exact xS (l:=l) (by simpa using h)
  have hp':p a=false:=by simpa using hp
  rw[atW,if_neg hp]at h;simp at h;subst h;exact hp'
abbrev yG(b bc:Bool)(rs:av)(ym:List Int):aa:=.yld 6 63 (ZB b bc rs ym)
theorem agW(b bc:Bool)(rs:av)(ym:List Int)(S:av)(ep:Nat)(C:List aa)(off:Nat)(a:aJ)(t:av)(hS:S.drop off=a::t)(hn:S.length≤8000)
  (hc:ym.length≤16) (hr:∀r∈S,∀c∈ym,0≤c∧c<r.length) :
  aM code 7 [5] xm ⟨[yG b bc rs ym,.ptr 4 0 0 0,.ptr 5 0 0 0,ac 1,.bool true,.any,.any],IW bc ym S ep C off (.pend false none) []⟩ =
   some (.ext 2,⟨[yG b bc rs ym,.ptr 4 0 0 0,.ptr 5 0 0 0,ac (((t.takeWhile (bA ym a)).length:Int)+1),.bool true,.bool false,.any],IW bc ym S ep C off (.pend false none) []⟩):=by
 have hlen:(S.drop off).length=t.length+1:=by rw[hS];rfl
 rw[atj]at hlen;have yB:off<S.length:=by omega
 have ha:S[off]?=some a:=by
  have:=congrArg (·[0]?) hS;simpa using this
 have haS:a∈S:=aeb ha;have hm:∀k y,t[k]?=some y→S[off+(k+1)]?=some y:=fun k y h=>by
  have:=congrArg (·[k+1]?) hS;simp at this;rw[this,h]
 have hal:∀y∈S,∀tt bc,az I.qgb [aG a,aG y,.cptr tt (.wh bc (gB ym)) 0]=some (.bool (bA ym a y)):=fun y hy tt bc=>YQ tt bc ym a y hc (hr a haS) (hr y hy);have hle:(t.takeWhile (bA ym a)).length≤t.length:=by
  have:=aun (l:=t) (bA ym a);exact this.length_le
 have e0:S.length-off=t.length+1:=hlen;have hgoff:∀h:off<S.length,S[off]'h=a:=fun h=>by
  have:=ad3 h;rw[ha]at this;exact (as7 this).symm
 have h:=bU (base:=7) (clr:=[5]) (b:=xm) (fun k=>⟨[yG b bc rs ym,.ptr 4 0 0 0,.ptr 5 0 0 0,ac ((k:Int)+1),.bool true,.any,.any],IW bc ym S ep C off (.pend false none) []⟩) (t.takeWhile (bA ym a)).length
  (.ext 2,⟨[yG b bc rs ym,.ptr 4 0 0 0,.ptr 5 0 0 0,ac (((t.takeWhile (bA ym a)).length:Int)+1),.bool true,.bool false,.any],IW bc ym S ep C off (.pend false none) []⟩)
  (fun k hk=>by
   have hkt:k<t.length:=by omega
   have hy:=ad3 hkt;have hyS:=hm k _ hy;have hp:=zX hy hk;have hmem:t[k]∈S:=aeb hyS;have hal':=hal t[k] hmem;rw[hp]at hal';have i1:((k:Int)+1<(t.length:Int)+1):=by omega
   have i2:¬((k:Int)+1<0):=by omega
   have i3:((k:Int)+1).toNat=k+1:=by omega
   have i4:off+(k+1)<S.length:=by omega
   have i5:(0:Int)≤(k:Int)+1:=by omega
   have w:IntKind.i64.wrap ((k:Int)+1+1)=(k:Int)+1+1:=bl (by omega);have hg:S[off+(k+1)]'i4=t[k]:=by
    have:=ad3 i4;rw[hyS]at this;exact (as7 this).symm
   simp[xm,IW,e0,i1,i2,i3,i5,hkt,yB,i4,hgoff,hg,hal',w,aH])
  (by
   by_cases hend:(t.takeWhile (bA ym a)).length=t.length
   ·rw[hend];simp[xm,IW,e0]
   have hkt:(t.takeWhile (bA ym a)).length<t.length:=by omega
   have hy:=ad3 hkt;have hyS:=hm _ _ hy;have hp:=xS hy;generalize (t.takeWhile (bA ym a)).length=k at *;have hmem:t[k]∈S:=aeb hyS;have hal':=hal t[k] hmem;rw[hp]at hal';have i1:((k:Int)+1<(t.length:Int)+1):=by omega
   have i3:((k:Int)+1).toNat=k+1:=by omega
   have i4:off+(k+1)<S.length:=by omega
   have i5:(0:Int)≤(k:Int)+1:=by omega
   have hg:S[off+(k+1)]'i4=t[k]:=by
    have:=ad3 i4;rw[hyS]at this;exact (as7 this).symm
   simp[xm,IW,e0,i1,i3,i5,hkt,yB,i4,hgoff,hg,hal'])
 simpa using h
def gN(ym:List Int):Nat→av→List (aJ×av)
 |0,_=>[]
 |_+1,[]=>[]
 |n+1,a::t=>(bu a ym,a::t.takeWhile (bA ym a))::gN ym n (t.dropWhile (bA ym a))
theorem abC(fl top:Bool)(base:Nat)(σ:ah)(n l s:Nat)(e:List aa):fz fl top base σ (n+1) (.yld l s e)=if (decide (l<base)&&top)=true then .yld l s (e.map (fz fl top base σ n)) else .any:=by
 simp only[fz]
theorem afo(b bc:Bool)(rs:av)(ym:List Int)(S:av)(hn:S.length≤8000)(hc:ym.length≤16)(hr:∀r∈S,∀c∈ym,0≤c∧c<r.length) :
  ∀(n off ep:Nat) (G:List (aJ×av)),off≤S.length→S.length-off≤n→G.length≤off→∃ep',
  aM code 7 [3,4,5,6] A6 ⟨[yG b bc rs ym,.ptr 4 0 0 0,.ptr 5 0 0 0,.any,.any,.any,.any],IW bc ym S ep (G.map cC) off (.pend false none) []⟩ =
   some (.ext 0,⟨[yG b bc rs ym,.ptr 4 0 0 0,.ptr 5 0 0 0,.any,.bool false,.any,.any],IW bc ym S ep' ((G++gN ym n (S.drop off)).map cC) S.length (.pend false none) []⟩):=by
 intro n;induction n with
 |zero=>
  intro off ep G h1 h2 h3;obtain rfl:off=S.length:=by omega
  refine⟨ep,?_⟩;rw[bS];simp[A6,IW,gN]
 |succ n ih=>
  intro off ep G h1 h2 h3;cases hS:S.drop off with
  |nil=>
   have:S.length-off=0:=by have:=congrArg List.length hS;simpa using this
   obtain rfl:off=S.length:=by omega
   refine⟨ep,?_⟩;rw[bS];simp[A6,IW,gN]
  |cons a t=>
   have hlen:(S.drop off).length=t.length+1:=by rw[hS];rfl
   rw[atj]at hlen;have yB:off<S.length:=by omega
   have ha:S[off]?=some a:=by
    have:=congrArg (·[0]?) hS;simpa using this
   have haS:a∈S:=aeb ha;have hi:=agW b bc rs ym S ep (G.map cC) off a t hS hn hc hr;have hle:(t.takeWhile (bA ym a)).length≤t.length:=(aun (l:=t) (bA ym a)).length_le;have hR:=aem b bc rs ym S ep G off ((t.takeWhile (bA ym a)).length+1) a (by omega) (by omega) ha hn (by omega) hc (hr a haS);have hX:(S.drop off).take ((t.takeWhile (bA ym a)).length+1)=a::t.takeWhile (bA ym a):=by
    rw[hS,List.take_succ_cons];congr 1;have:=aun (l:=t) (bA ym a);exact (List.prefix_iff_eq_take.1 this).symm
   have hD:S.drop (off+((t.takeWhile (bA ym a)).length+1))=t.dropWhile (bA ym a):=by
    rw[←List.drop_drop,hS,List.drop_succ_cons];have e:=auo (p:=bA ym a) (l:=t);generalize List.takeWhile (bA ym a) t=A at *;generalize List.dropWhile (bA ym a) t=B at *;rw[←e,atD]
   rw[hX]at hR;obtain⟨ep',hind⟩:=ih (off+((t.takeWhile (bA ym a)).length+1)) (ep+1) (G++[(bu a ym,a::t.takeWhile (bA ym a))]) (by omega) (by omega) (by simp;omega);rw[hD]at hind;refine⟨ep',?_⟩;have hfin:(G++gN ym (n+1) (a::t)).map cC=((G++[(bu a ym,a::t.takeWhile (bA ym a))])++gN ym n (t.dropWhile (bA ym a))).map cC:=by
    simp[gN]
   rw[hfin,←hind,bS];have hXl:(a::t.takeWhile (bA ym a)).length=(t.takeWhile (bA ym a)).length+1:=rfl;generalize a::t.takeWhile (bA ym a)=X at *;generalize (t.takeWhile (bA ym a)).length=m at *;have e0:S.length-off=t.length+1:=hlen;have i1:((0:Int)<(t.length:Int)+1):=by omega
   have i2:¬((m:Int)+1<0):=by omega
   have i3:((m:Int)+1).toNat=m+1:=by omega
   have i5:(0:Int)≤(m:Int)+1:=by omega
   have i6:(m:Int)+1≤(t.length:Int)+1:=by omega
   have i7:m+1≤t.length+1:=by omega
   have i8:t.length+1-(m+1)=S.length-(off+(m+1)):=by omega
   simp only[IW,e0,ajk,aog,aiG,ak3,apx]at hi hR;simp only[ZB,an7,ah5]at hR;have htk:(X.map aG).take (m+1)=X.map aG:=aea (by simp[hXl]);have hnx:∀fl top base σ n,(∀y,y∈X.map aG→aw (fz fl top base σ (n+3) y)=aw y)↔True:=fun fl top base σ n=>⟨fun _=>trivial,fun _ y hy=>by
    obtain⟨r,_,rfl⟩:=afJ.1 hy;simp⟩
   simp[A6,IW,e0,i1,i2,i3,i5,i6,i7,hi,hR,sT,ar,ap,abC,cC,hXl,i8,htk,hnx,-List.mem_map];rfl
def bC(ym:List Int)(rs:av):List (aJ×av):=gN ym rs.length (df (jp ym) rs)
theorem YK(x y:aa)(hx:aw x=1∧isAgg x=false)(hy:aw y=1∧isAgg y=false)(σ:ah):bK code I.qgn [x,y] σ=some (.fn 145 [] [.ptr σ.length 0 0 0,.ptr (σ.length+1) 0 0 0],σ++[.arr 1 0 [x],.arr 1 0 [y]]):=by
 rw[bR aq6 rfl];simp[aBd,ail,hx,hy]
theorem KM(ym:List Int):∀(n:Nat) (S:av),(gN ym n S).length≤S.length
 |0,_=>amn _
 |n+1,[]=>aes _
 |n+1,a::t=>by
  have h1:=KM ym n (t.dropWhile (bA ym a));have h2:(t.dropWhile (bA ym a)).length≤t.length:=(avc (l:=t) (bA ym a)).length_le;simp only[gN,aiG];omega
theorem mK(ym:List Int)(rs:av):(bC ym rs).length≤rs.length:=by
 have:=KM ym rs.length (df (jp ym) rs);rw[il]at this;exact this
theorem adj(b bc:Bool)(rs:av)(ym:List Int)(hn:rs.length≤8000)(hr:∀r∈rs,nW r=true)(hh:∀r∈rs,yF r ym=true)(hc:ym.length≤16)(h0:∀c∈ym,0≤c) :
  az I.qfz [.wh b (rs.map aG),.wh bc (gB ym)]=some (.tup [.wh false ((bC ym rs).map cC),ac 0]):=by
 rw[am ao0 rfl];have hm:rs.length≤most:=by unfold most;omega
 have h1:=fun b bc=>ZU b bc rs ym hn hr hc h0 hh;have h2:=fun b=>Qw b rs hm hr;have hin:∀r∈rs,∀c∈ym,0≤c∧c<r.length:=fun r h=>(ED (hh r h)).2;have hl:∀r∈rs,r.length≤most:=fun r h=>by
  have:=ae4 (hr r h);unfold most;omega
 have h3:=UA hm (jp ym) (.fn 66 [] [.ptr 0 0 0 0]) 66 [.cptr true (.wh bc (gB ym)) 0] (LI ym) (fun r q h=>Yq h) (Sq ym)
  (σ:=[.arr 1 0 [.wh bc (gB ym)],.arr 1 0 (rs.map aG)]) (id:=1) (ep:=0) rfl (by simp) (fun r h1 q h2=>by
   have:=XY true bc ym r q hc (hl r h1) (hin r h1) (hin q h2);simp[this])
 have hS:∀r∈df (jp ym) rs,r∈rs:=fun r h=>(dX rs).mem_iff.1 h;have hSl:=il (jp ym) rs;obtain⟨ep',h4⟩:=afo b bc rs ym (df (jp ym) rs) (by rw[hSl];exact hn) hc (fun r h=>hin r (hS r h)) rs.length 0 0 [] (amn _) (by rw[hSl];omega) (amn _);simp only[auu,ah5,ajo]at h4;have hG:gN ym rs.length (df (jp ym) rs)=bC ym rs:=rfl;rw[hG]at h4;have hGl:=mK ym rs;have hrun:∀σ:ah,bK code 64 [.sl 1 0 0 rs.length,.fn 65 [] [.ptr 0 0 0 0]] σ=some (.fn 145 [] [.ptr σ.length 0 0 0,.ptr (σ.length+1) 0 0 0],σ++[.arr 1 0 [.sl 1 0 0 rs.length],.arr 1 0 [.fn 65 [] [.ptr 0 0 0 0]]]):=fun σ=>YK _ _ ⟨rfl,rfl⟩ ⟨rfl,rfl⟩ σ;have hit:bK code 145 [yG b bc rs ym,.ptr 4 0 0 0,.ptr 5 0 0 0] (IW bc ym (df (jp ym) rs) 0 [] 0 (.pend false none) []) =
   some (.tup [],IW bc ym (df (jp ym) rs) ep' ((bC ym rs).map cC) (df (jp ym) rs).length (.pend false none) []):=by
  rw[bR ams rfl];simp[aBj,aji,h4]
 rw[hSl]at hit;generalize bC ym rs=G at *;generalize df (jp ym) rs=S at *;simp[yG,ZB,IW,hSl]at hit h3;simp[az8,ajr,h1,h2,h3,hrun,hit,tM];rintro _ x y _ rfl;simp[cC]
theorem eI{α σ ρ:Type}{base:Nat}{clr:List Nat}{b:ai}(l:List α)(R:Nat→σ→St→Prop)(g:Nat→α→σ→σ⊕ρ)(E:σ→Ex×St→Prop)(Q:ρ→Ex×St→Prop)
  (hstep:∀k y s t,k<l.length→l[k]?=some y→R k s t→match g k y s with
   |.inl s'=>∃t',bM base clr b (run code b t)=aM code base clr b t'∧R (k+1) s' t'
   |.inr r=>∃o,bM base clr b (run code b t)=some o∧Q r o)
  (hend:∀s t,R l.length s t→∃o,bM base clr b (run code b t)=some o∧E s o) (s:σ) (t:St) (h:R 0 s t) :
  match aV g l 0 s with
   |.inl s'=>∃o,aM code base clr b t=some o∧E s' o
   |.inr r=>∃o,aM code base clr b t=some o∧Q r o:=by
 have key:∀(m:List α) k s t,l.drop k=m→k≤l.length→R k s t→match aV g m k s with
   |.inl s'=>∃o,aM code base clr b t=some o∧E s' o
   |.inr r=>∃o,aM code base clr b t=some o∧Q r o:=by
  intro m;induction m with
  |nil=>
   intro k s t hd hk hi;have:k=l.length:=by
    have:=congrArg List.length hd;simp at this;omega
   subst this;simp only[aV];obtain⟨o,h1,h2⟩:=hend s t hi;exact⟨o,by rw[bj];exact h1,h2⟩
  |cons y m ih=>
   intro k s t hd hk hi;have yB:k<l.length:=by
    have:=congrArg List.length hd;simp at this;omega
   have hy:l[k]?=some y:=by
    have:=congrArg (·[0]?) hd;simpa using this
   have hm:l.drop (k+1)=m:=by
    have:=congrArg List.tail hd;simpa [avB] using this
   have hs:=hstep k y s t yB hy hi;rw[bj];simp only[aV];cases hg:g k y s with
   |inl s'=>
    rw[hg]at hs;obtain⟨t',h1,h2⟩:=hs;simp only;rw[h1];exact ih (k+1) s' t' hm (by omega) h2
   |inr r=>
    rw[hg]at hs;exact hs
 exact key l 0 s t (by simp) (amn _) h
structure agl (n:aO) (DO:aa) (cd:Nat→aT→av→aE×Int) (rows:av):Prop where
 fz:∀base σ m,fz false true base σ (m+5) DO=DO
 nc:aw DO=1∧isAgg DO=false
 go:∀(i:Nat) a σ,n.yo[i]?=some a→du code DO [ac i,a.a,.wh false (rows.map aG)] σ=some (.tup [(cd i a rows).1.a,ac (cd i a rows).2],σ)
def IC(cd:Nat→aT→av→aE×Int)(rows:av)(i:Nat)(a:aT)(vals:aJ):aJ⊕Unit:=
 if (cd i a rows).2=0 then .inl (vals++[(cd i a rows).1]) else .inr ()
abbrev sD(b:Bool)(rs:av)(n:aO)(one:Bool)(DO:aa)(e9 e10 e11 e12 e13 e14 e16 e17 e18 e19 e20 e21:aa):List aa:=
 [.wh b (rs.map aG),n.a,.bool one,DO,.ptr 0 0 0 0,.ptr 1 0 0 0,.ptr 2 0 0 0,.ptr 3 0 0 0,.ptr 4 0 0 0,e9,e10,e11,e12,e13,e14,.fn 280 [] [.ptr 6 0 0 0,.ptr 7 0 0 0,.ptr 8 0 0 0],e16,e17,e18,e19,e20,e21]
abbrev rS(b:Bool)(rs:av)(n:aO)(one:Bool)(DO r2 r3:aa)(ep:Nat)(C:List aa)(o:Obj)(r:List Obj):ah:=
 .arr 12 0 [n.a]::.arr 1 0 [DO]::.arr 1 0 [r2]::.arr 1 0 [r3]::.arr 1 0 [.sl 5 ep 0 C.length]::.arr 1 ep C::.arr 1 0 [.wh b (rs.map aG)]::.arr 1 0 [.wh n.by' (gB n.keys)]::.arr 1 0 [.bool one]::o::r
theorem aj7(b:Bool)(rs:av)(n:aO)(one:Bool)(DO:aa)(cd:Nat→aT→av→aE×Int)(g:aJ×av)(hD:agl n DO cd g.2)(ep:Nat)(O:av)(hn:n.yo.length≤8000)(hk:g.1.length≤8000)(e11 e12 e13 e14 e21:aa) :
  (∃vals,aV (IC cd g.2) n.yo 0 g.1=.inl vals∧∃ep2 e11' e12' e13' e14' e19 e20 e21',aM code 13 [20] tP ⟨sD b rs n one DO (.ptr 11 0 0 0) (.sl 12 0 0 g.1.length) e11 e12 e13 e14 (cC g) (.wh n.bg (n.yo.map aT.a)) (ac n.yo.length) (ac 0) .any e21,rS b rs n one DO .yz (ac 0) ep (O.map aG) (.pend true none) [.arr 2 0 [cC g],.arr 2 0 [cC g],.arr 4 0 (g.1.map aE.a)]⟩ =
    some (.ext 2,⟨sD b rs n one DO (.ptr 11 0 0 0) (.sl 12 ep2 0 vals.length) e11' e12' e13' e14' (cC g) (.wh n.bg (n.yo.map aT.a)) (ac n.yo.length) e19 e20 e21',rS b rs n one DO .yz (ac 0) ep (O.map aG) (.pend true none) [.arr 2 0 [cC g],.arr 2 0 [cC g],.arr 4 ep2 (vals.map aE.a)]⟩)) ∨
  (aV (IC cd g.2) n.yo 0 g.1=.inr ()∧∃env τ,aM code 13 [20] tP ⟨sD b rs n one DO (.ptr 11 0 0 0) (.sl 12 0 0 g.1.length) e11 e12 e13 e14 (cC g) (.wh n.bg (n.yo.map aT.a)) (ac n.yo.length) (ac 0) .any e21,rS b rs n one DO .yz (ac 0) ep (O.map aG) (.pend true none) [.arr 2 0 [cC g],.arr 2 0 [cC g],.arr 4 0 (g.1.map aE.a)]⟩=some (.ret,⟨env,rS b rs n one DO .yz (ac 140) ep (O.map aG) (.pend true none) τ⟩)):=by
 have hm:n.yo.length≤most:=by unfold most;omega
 have key:=eI (base:=13) (clr:=[20]) (b:=tP) n.yo
  (fun k (vals:aJ) t=>vals.length=g.1.length+k∧∃ep2 e11 e12 e13 e14 e21,t=⟨sD b rs n one DO (.ptr 11 0 0 0) (.sl 12 ep2 0 vals.length) e11 e12 e13 e14 (cC g) (.wh n.bg (n.yo.map aT.a)) (ac n.yo.length) (ac k) .any e21,rS b rs n one DO .yz (ac 0) ep (O.map aG) (.pend true none) [.arr 2 0 [cC g],.arr 2 0 [cC g],.arr 4 ep2 (vals.map aE.a)]⟩)
  (IC cd g.2)
  (fun vals o=>∃ep2 e11 e12 e13 e14 e19 e20 e21,o=(.ext 2,⟨sD b rs n one DO (.ptr 11 0 0 0) (.sl 12 ep2 0 vals.length) e11 e12 e13 e14 (cC g) (.wh n.bg (n.yo.map aT.a)) (ac n.yo.length) e19 e20 e21,rS b rs n one DO .yz (ac 0) ep (O.map aG) (.pend true none) [.arr 2 0 [cC g],.arr 2 0 [cC g],.arr 4 ep2 (vals.map aE.a)]⟩))
  (fun _ o=>∃env τ,o=(.ret,⟨env,rS b rs n one DO .yz (ac 140) ep (O.map aG) (.pend true none) τ⟩))
  (fun k a vals t hk' hy ht=>by
   obtain⟨hl,ep2,e11,e12,e13,e14,e21,rfl⟩:=ht;have yB:((k:Int)<(n.yo.length:Int)):=by omega
   have hgo:=fun σ=>hD.go k a σ hy;have hz:=hD.fz;have hnc:=hD.nc;have hnz:∀base σ m,fz false true base σ (m+3) n.a=n.a:=fun base σ m=>Ft.ft false true base σ m n rfl;have hl1:vals.length+1≤most:=by unfold most;omega
   unfold IC;by_cases h0:(cd k a g.2).2=0
   ·rw[if_pos h0];simp only;rw[h0]at hgo;generalize (cd k a g.2).1=v at *;simp only[aE.a,aT.a]at hgo;refine⟨⟨sD b rs n one DO (.ptr 11 0 0 0) (.sl 12 (ep2+1) 0 (vals++[v]).length) (ac k) (aZ 13 (rS b rs n one DO .yz (ac 0) ep (O.map aG) (.pend true none) [.arr 2 0 [cC g],.arr 2 0 [cC g],.arr 4 (ep2+1) ((vals++[v]).map aE.a),.arr 2 0 [a.a],.arr 4 0 [v.a]]) (.ptr 13 0 0 0)) (aZ 13 (rS b rs n one DO .yz (ac 0) ep (O.map aG) (.pend true none) [.arr 2 0 [cC g],.arr 2 0 [cC g],.arr 4 (ep2+1) ((vals++[v]).map aE.a),.arr 2 0 [a.a],.arr 4 0 [v.a]]) (.ptr 14 0 0 0)) (ac 0) (cC g) (.wh n.bg (n.yo.map aT.a)) (ac n.yo.length) (ac (k+1:Nat)) .any (.bool false),rS b rs n one DO .yz (ac 0) ep (O.map aG) (.pend true none) [.arr 2 0 [cC g],.arr 2 0 [cC g],.arr 4 (ep2+1) ((vals++[v]).map aE.a)]⟩,?_,by simp[hl];omega,ep2+1,_,_,_,_,_,rfl⟩;simp[tP,sD,rS,yB,hy,cC,aT.a,hgo,hz,hnc,hnz,append,hl1,aA hk' hm,ar,ap,aE.a]
   ·rw[if_neg h0];simp only;generalize cd k a g.2=q at *;obtain⟨v,no⟩:=q;simp only at h0 hgo;simp only[aE.a,aT.a]at hgo;exact⟨_,by simp[tP,sD,rS,yB,hy,cC,aT.a,hgo,aR h0,hnc,aE.a];and_intros<;>rfl,_,_,rfl⟩) (fun vals t ht=>by
   obtain⟨hl,ep2,e11,e12,e13,e14,e21,rfl⟩:=ht;exact⟨_,by simp[tP,sD,rS];and_intros<;>rfl,ep2,e11,e12,e13,e14,_,_,e21,rfl⟩) g.1 _ ⟨rfl,0,e11,e12,e13,e14,e21,rfl⟩
 cases hf:aV (IC cd g.2) n.yo 0 g.1 with
 |inl vals=>
  rw[hf]at key;obtain⟨o,h1,ep2,f11,f12,f13,f14,f19,f20,f21,rfl⟩:=key;exact .inl ⟨vals,rfl,ep2,f11,f12,f13,f14,f19,f20,f21,h1⟩
 |inr u=>
  rw[hf]at key;obtain⟨o,h1,env,τ,rfl⟩:=key;exact .inr ⟨rfl,env,τ,h1⟩
abbrev Ur(b:Bool)(rs:av)(n:aO)(one:Bool)(DO:aa):List aa:=sD b rs n one DO .any .any .any .any .any .any .any .any .any .any .any .any
theorem afa(b:Bool)(rs:av)(n:aO)(one:Bool)(DO:aa)(cd:Nat→aT→av→aE×Int)(g:aJ×av)(hD:agl n DO cd g.2)(ep:Nat)(O:av)(hn:n.yo.length≤8000)(hk:g.1.length≤8000)(hO:O.length≤8000) :
  (∃vals,aV (IC cd g.2) n.yo 0 g.1=.inl vals∧∃ep2,bK code 199 (.frs 9 []::(Ur b rs n one DO++[cC g])) (rS b rs n one DO .yz (ac 0) ep (O.map aG) (.pend false none) [.arr 2 0 [cC g]]) =
    some (.bool true,rS b rs n one DO .yz (ac 0) (ep+1) (O.map aG++[.sl 12 ep2 0 vals.length]) (.pend false none) [.arr 2 0 [cC g],.arr 2 0 [cC g],.arr 4 ep2 (vals.map aE.a)])) ∨
  (aV (IC cd g.2) n.yo 0 g.1=.inr ()∧∃τ,bK code 199 (.frs 9 []::(Ur b rs n one DO++[cC g])) (rS b rs n one DO .yz (ac 0) ep (O.map aG) (.pend false none) [.arr 2 0 [cC g]]) =
    some (.bool false,rS b rs n one DO .yz (ac 140) ep (O.map aG) (.pend false (some .ret)) τ)):=by
 rw[DT good (g:=ju) rfl];have hcl:∀σ,bK code 114 [aG g.1] σ=some (.frs 4 (g.1.map aE.a),σ):=fun σ=>by
  have:=sj (enc:=aE.a) false g.1 (by unfold most;omega);show bK code I.qgt [.wh false (g.1.map aE.a)] σ=_;rw[xh Vw rfl,this];rfl
 have hag:(cellsOf n.a)[8]?=some (.wh n.bg (n.yo.map aT.a)):=rfl;have hnc:aw n.a=12∧isAgg n.a=true:=⟨rfl,rfl⟩;have hm:O.length+1≤most:=by unfold most;omega
 rcases aj7 b rs n one DO cd g hD ep O hn hk .any .any .any .any .any with⟨vals,hf,ep2,f11,f12,f13,f14,f19,f20,f21,h⟩|⟨hf,env,τ,h⟩
 ·refine .inl ⟨vals,hf,ep2,?_⟩;simp only[sD,rS,ajk,cC]at h;simp[ju,lj,lT,rY,pm,iz,rS,sD,hcl,hag,hnc,append,hm,cC,h]
 refine .inr ⟨hf,?_⟩;simp only[sD,rS,ajk,cC]at h;exact⟨_,by simp[ju,lj,lT,rY,pm,iz,rS,sD,hcl,hag,hnc,append,hm,cC,h];rfl⟩
def BY(n:aO)(cd:Nat→aT→av→aE×Int)(_:Nat)(g:aJ×av)(O:av):av⊕Unit:=
 match aV (IC cd g.2) n.yo 0 g.1 with
 |.inl vals=>.inl (O++[vals])
 |.inr _=>.inr ()
abbrev yH(b:Bool)(rs:av)(n:aO)(one:Bool)(DO:aa):aa:=.yld 9 199 (Ur b rs n one DO)
theorem akn(b:Bool)(rs:av)(n:aO)(one:Bool)(DO:aa)(cd:Nat→aT→av→aE×Int)(G:List (aJ×av))(hD:∀g∈G,agl n DO cd g.2)(hn:n.yo.length≤8000)(hk:∀g∈G,g.1.length≤8000)(hG:G.length≤8000)(hG0:G≠[]) :
  (∃O,aV (BY n cd) G 0 []=.inl O∧∃ep,aM code 10 [5,10,11] sV ⟨[yH b rs n one DO,.ptr 6 0 0 0,.ptr 7 0 0 0,.ptr 8 0 0 0,.wh false (G.map cC),.any,.bool false,.wh false (G.map cC),ac G.length,ac 0,.any,.any],rS b rs n one DO .yz (ac 0) 0 [] (.pend false none) []⟩ =
    some (.ext 0,⟨[yH b rs n one DO,.ptr 6 0 0 0,.ptr 7 0 0 0,.ptr 8 0 0 0,.wh false (G.map cC),.any,.bool false,.wh false (G.map cC),ac G.length,ac G.length,.bool false,.any],rS b rs n one DO .yz (ac 0) ep (O.map aG) (.pend false none) []⟩)) ∨
  (aV (BY n cd) G 0 []=.inr ()∧∃env ep C τ,aM code 10 [5,10,11] sV ⟨[yH b rs n one DO,.ptr 6 0 0 0,.ptr 7 0 0 0,.ptr 8 0 0 0,.wh false (G.map cC),.any,.bool false,.wh false (G.map cC),ac G.length,ac 0,.any,.any],rS b rs n one DO .yz (ac 0) 0 [] (.pend false none) []⟩ =
    some (.ret,⟨env,rS b rs n one DO .yz (ac 140) ep C (.pend false (some .ret)) τ⟩)):=by
 have hm:G.length≤most:=by unfold most;omega
 obtain⟨g0,hg0⟩:∃g0,g0∈G:=atc G hG0;have hz:=(hD g0 hg0).fz;have hnc:=(hD g0 hg0).nc;have hnz:∀base σ m,fz false true base σ (m+3) n.a=n.a:=fun base σ m=>Ft.ft false true base σ m n rfl;have key:=cD (base:=10) (clr:=[5,10,11]) (b:=sV) G
  (fun k (O:av)=>⟨[yH b rs n one DO,.ptr 6 0 0 0,.ptr 7 0 0 0,.ptr 8 0 0 0,.wh false (G.map cC),.any,.bool false,.wh false (G.map cC),ac G.length,ac k,.any,.any],rS b rs n one DO .yz (ac 0) k (O.map aG) (.pend false none) []⟩)
  (fun k O=>O.length=k) (BY n cd)
  (fun O=>(.ext 0,⟨[yH b rs n one DO,.ptr 6 0 0 0,.ptr 7 0 0 0,.ptr 8 0 0 0,.wh false (G.map cC),.any,.bool false,.wh false (G.map cC),ac G.length,ac G.length,.bool false,.any],rS b rs n one DO .yz (ac 0) G.length (O.map aG) (.pend false none) []⟩))
  (fun (_:Unit) o=>∃env ep C τ,o=(.ret,⟨env,rS b rs n one DO .yz (ac 140) ep C (.pend false (some .ret)) τ⟩))
  (fun k g O hk' hy hO=>by
   have yB:((k:Int)<(G.length:Int)):=by omega
   have hgm:=aeb hy;have hR:=afa b rs n one DO cd g (hD g hgm) k O hn (hk g hgm) (by omega);unfold BY;rcases hR with⟨vals,hf,ep2,h⟩|⟨hf,τ,h⟩
   ·rw[hf];refine⟨?_,by simp[hO]⟩;have htk:(vals.map aE.a).take vals.length=vals.map aE.a:=aea (by simp);simp only[Ur,sD,rS,cC,ajk,aog,aiG,ak3,apx,an7,ah5]at h;simp[sV,yH,sD,rS,yB,hy,cC,h,sT,ar,ap,abC,hz,hnz,aA hk' hm];rfl
   rw[hf];simp only[Ur,sD,rS,cC,ajk,an7,ah5]at h;exact⟨_,by simp[sV,yH,sD,rS,yB,hy,cC,h,sT];rfl,_,k,O.map aG,τ,by simp only[rS,ajk];rfl⟩)
  (fun O _=>by simp[sV]) [] rfl
 simp only[ajo,show ((0:Nat):Int)=0 from rfl]at key;cases hf:aV (BY n cd) G 0 [] with
 |inl O=>
  rw[hf]at key;exact .inl ⟨O,rfl,G.length,key.2⟩
 |inr u=>
  rw[hf]at key;obtain⟨o,h1,env,ep,C,τ,rfl⟩:=key;exact .inr ⟨rfl,env,ep,C,τ,h1⟩
theorem XD(b:Bool)(rs:av)(hn:rs.length≤8000)(hr:∀r∈rs,nW r=true):az I.qek [.wh b (rs.map aG)]=some (.tup [.wh false ((df cf rs).map aG),ac 0]):=by
 rw[am amI rfl];have h:=fun b=>abu b rs hn hr;have hl:¬((8000:Int)<rs.length):=by omega
 simp[aAG,ajy,h,hl]
def iV(n:aO)(cd:Nat→aT→av→aE×Int)(rs:av):av×Int:=
 match aV (BY n cd) (bC n.keys rs) 0 [] with
 |.inl O=>(df cf O,0)
 |.inr _=>([],140)
theorem QY(x y z:aa)(hx:aw x=1∧isAgg x=false)(hy:aw y=1∧isAgg y=false)(hz:aw z=1∧isAgg z=false)(σ:ah) :
  bK code I.qee [x,y,z] σ=some (.fn 280 [] [.ptr σ.length 0 0 0,.ptr (σ.length+1) 0 0 0,.ptr (σ.length+2) 0 0 0],σ++[.arr 1 0 [x],.arr 1 0 [y],.arr 1 0 [z]]):=by
 rw[bR amY rfl];simp[aAc,aip,hx,hy,hz]
theorem Js{n:aO}{cd:Nat→aT→av→aE×Int}:∀{l:List (aJ×av)} {k:Nat} {O O':av},aV (BY n cd) l k O=.inl O'→O'.length=O.length+l.length
 |[],k,O,O',h=>by cases h;simp
 |g::l,k,O,O',h=>by
  simp only[aV]at h;unfold BY at h;cases hf:aV (IC cd g.2) n.yo 0 g.1 with
  |inl vals=>
   rw[hf]at h;have:=Js (l:=l) h;simp at this ⊢;omega
  |inr u=>rw[hf]at h;cases h
theorem JL(b:Bool)(rs:av)(n:aO)(one:Bool)(DO:aa)(cd:Nat→aT→av→aE×Int)(hrs:rs.length≤8000)(hr:∀r∈rs,nW r=true)(hh:∀r∈rs,yF r n.keys=true)(hc:n.keys.length≤16)(h0:∀c∈n.keys,0≤c)
  (hG0:bC n.keys rs≠[]) (hk:∀g∈bC n.keys rs,g.1.length≤8000) (hD:∀g∈bC n.keys rs,agl n DO cd g.2) (hDs:fz true false 0 [] 20 DO=DO) (hn:n.yo.length≤8000)
  (hO:∀O,aV (BY n cd) (bC n.keys rs) 0 []=.inl O→∀r∈O,nW r=true) :
  az I.qed [.wh b (rs.map aG),n.a,.bool one,DO]=some (.tup [.wh false ((iV n cd rs).1.map aG),ac (iV n cd rs).2]):=by
 rw[am apF rfl];have hGl:=mK n.keys rs;have hgr:=fun b=>adj b n.by' rs n.keys hrs hr hh hc h0
 have hL:=akn b rs n one DO cd (bC n.keys rs) hD hn hk (by omega) hG0;obtain⟨g0,hg0⟩:∃g0,g0∈bC n.keys rs:=atc _ hG0;have hz:=(hD g0 hg0).fz;have hnc:=(hD g0 hg0).nc;have hnz:∀m,fz true false 0 [] (m+3) n.a=n.a:=fun m=>Ft.ft true false 0 [] m n rfl;have hkey:(cellsOf n.a)[7]?=some (.wh n.by' (gB n.keys)):=rfl;have hnn:aw n.a=12∧isAgg n.a=true:=⟨rfl,rfl⟩;have hcall:=fun σ=>QY (.wh b (rs.map aG)) (.wh n.by' (gB n.keys)) (.bool one) ⟨rfl,rfl⟩ ⟨rfl,rfl⟩ ⟨rfl,rfl⟩ σ;unfold iV;have hl0:(((bC n.keys rs).length:Int)==0)=false:=by
  have:(bC n.keys rs).length≠0:=fun h=>hG0 (ahc h);rw[atv];omega
 rcases hL with⟨O,hf,ep,h⟩|⟨hf,env,ep,C,τ,h⟩
 ·rw[hf];have hOl:O.length≤8000:=by
   have:=Js hf;simp at this;omega
  have hs:=fun b=>XD b O hOl (hO O hf);have hit:bK code 280 [yH b rs n one DO,.ptr 6 0 0 0,.ptr 7 0 0 0,.ptr 8 0 0 0] (rS b rs n one DO .yz (ac 0) 0 [] (.pend false none) []) =
    some (.tup [],rS b rs n one DO .yz (ac 0) ep (O.map aG) (.pend false none) []):=by
   rw[bR aic rfl];simp only[yH,rS,ak3,ajk]at h;simp[azz,acU,hgr,hl0,h,yH,rS]
  simp only[yH,Ur,sD,rS,ak3,ajk]at hit;simp[azE,abJ,hnz,hDs,hnc,hkey,hnn,hcall,hit,hs,tM]
 rw[hf];have hit:bK code 280 [yH b rs n one DO,.ptr 6 0 0 0,.ptr 7 0 0 0,.ptr 8 0 0 0] (rS b rs n one DO .yz (ac 0) 0 [] (.pend false none) []) =
   some (.tup [],rS b rs n one DO .yz (ac 140) ep C (.pend false (some .ret)) τ):=by
  rw[bR aic rfl];simp only[yH,rS,ak3,ajk]at h;simp[azz,acU,hgr,hl0,h,yH,rS]
 simp only[yH,Ur,sD,rS,ak3]at hit;simp[azE,abJ,hnz,hDs,hnc,hkey,hnn,hcall,hit,tM]
def Ll(e:List EN)(xX:List Int):Bool:=(dm e xX).2==0&&((dm e xX).1==0 ||(dm e xX).1==1)
abbrev adg(nd c1 c2:aa)(n:aO)(a b r:aa):Obj:=.arr 18 0 [.agg [nd,c1,c2,ac n.op,ac n.l,ac n.r,ac n.tab,.wh n.bk (n.xX.map (.int .i64)),.bool n.left,.wh n.bc (n.cond.map EN.a),.wh n.by' (n.keys.map (.int .i64)),.wh n.bg (n.yo.map aT.a),.wh n.bi (n.items.map kx.a),.wh n.bo (n.ords.map Ei),ac n.limit,a,b,r]]
def Z1(n:aO):Bool:=!(n.xX.any fun k=>decide (k<1) ||decide (3<k))&&decide (0≤n.tab)&&decide (n.tab<4)&&decide (0<n.xX.length)&&decide (n.xX.length≤4)
def gg(n:aO):Bool:=!(n.xX.any fun k=>decide (k<0) ||decide (4<k))&&decide (0≤n.tab)&&decide (n.tab<30)&&decide (0<n.xX.length)&&decide (n.xX.length≤16)
theorem QL(k:Int):az I.qfr [ac k]=some (.bool (decide (k<0) ||decide (4<k))):=by
 rw[am aox rfl];simp[aAM,ajp]
 repeat' (split<;>(try simp_all))
 all_goals omega
theorem Rk(nd c1 c2:aa)(n:aO)(a b r:aa)(τ:ah)(hk:n.xX.length≤most) :
  bK code I.qfq [.ptr 0 0 0 0] (adg nd c1 c2 n a b r::τ)=some (.bool (gg n),adg nd c1 c2 n a b (.wh n.bk (n.xX.map (.int .i64)))::τ):=by
 rw[bR aq1 rfl];have hc:=fun b=>lZ (enc:=.int .i64) (b:=b) (l:=n.xX) (f:=.fn 273 [] []) (p:=fun k=>decide (k<0) ||decide (4<k)) hk (fun _=>⟨rfl,rfl⟩) (fun σ=>by simp) (fun k _=>by simp[QL]);unfold gg;cases hA:n.xX.any fun k=>decide (k<0) ||decide (4<k)<;>rw[hA]at hc<;>simp[aA5,ajC,hc]
 repeat' (split<;>(try simp_all))
 all_goals omega
def sortF(n:aO)(a:List Int):Bool:=!(n.ords.any fun o=>decide (o.1<0) ||decide ((a.length:Int)≤o.1))&&decide (n.ords.length≤3)&&decide (-1≤n.limit)&&decide (n.limit≤2147483647)
@[simp] theorem af3{α:Type}(τ:List α)(a b:α)(t:List α):List.take (τ.length+2) (τ++a::b::t)=τ++[a,b]:=by
 rw[List.take_append];simp;exact aea (by omega)
abbrev gF(bn:Bool)(xQ:List aO)(ep1 m1 ep2 m2:Nat)(n:aO)(a b r:aa):Obj:=adg (.wh bn (xQ.map aO.a)) (.sl 1 ep1 0 m1) (.sl 2 ep2 0 m2) n a b r
abbrev lH(τ:ah):Prop:=∀base σ,τ.map (ap base σ)=τ
def B8(a:List Int):List kx→Option (List Int)
 |[]=>some []
 |e::r=>if (dm e.l a).2=0 then (B8 a r).map ((dm e.l a).1::·) else none
def mr:List Int→List Int→Option (List Int)
 |[],_=>some []
 |_::_,[]=>none
 |k::a,o::b=>if o≠0∧o≠(if k=0 then o else k) then none else (mr a b).map ((if k=0 then o else k)::·)
theorem FK:∀{a b r:List Int},mr a b=some r→r.length=a.length
 |[],_,r,h=>by simp[mr]at h;simp[←h]
 |_::_,[],r,h=>by simp[mr]at h
 |k::a,o::b,r,h=>by
  by_cases hc:o≠0∧o≠(if k=0 then o else k)
  ·simp only[mr,if_pos hc]at h;cases h
  simp only[mr,if_neg hc]at h;cases hq:mr a b with
  |none=>rw[hq]at h;cases h
  |some q=>
   rw[hq]at h;simp at h;simp[←h,FK hq]
def fg(a keys:List Int):Option (List Int):=if keys.all fun k=>decide (0≤k)&&decide (k<a.length) then some (keys.map fun k=>a.getD k.toNat 0) else none
def TG(a:List Int)(_:Nat)(x:Int)(acc:Nat×List Int):Nat×List Int⊕Unit:=if 0≤x∧x<a.length then .inl (acc.1+1,acc.2++[a.getD x.toNat 0]) else .inr ()
theorem B4(a:List Int):∀(l:List Int) (k ep:Nat) (acc:List Int),aV (TG a) l k (ep,acc)=match fg a l with
  |some r=>.inl (ep+l.length,acc++r)
  |none=>.inr ()
 |[],k,ep,acc=>by simp[aV,fg]
 |x::l,k,ep,acc=>by
  by_cases h:0≤x∧x<a.length
  ·simp only[aV,TG,if_pos h];rw[B4 a l (k+1) (ep+1)];unfold fg;by_cases hl:(l.all fun k=>decide (0≤k)&&decide (k<(a.length:Int)))=true
   ·have:((x::l).all fun k=>decide (0≤k)&&decide (k<(a.length:Int)))=true:=by simp only[aty,hl];simp[h]
    rw[if_pos hl,if_pos this];simp[arJ,auf 1]
   have:¬((x::l).all fun k=>decide (0≤k)&&decide (k<(a.length:Int)))=true:=by
    intro hq;simp only[aty,acz]at hq;exact hl hq.2
   rw[if_neg hl,if_neg this]
  simp only[aV,TG,if_neg h];unfold fg;have:¬((x::l).all fun k=>decide (0≤k)&&decide (k<(a.length:Int)))=true:=by
   intro hq;simp only[aty,acz,ad7]at hq;exact h hq.1
  rw[if_neg this]
theorem iD{a l r:List Int}(h:fg a l=some r):r.length=l.length:=by
 unfold fg at h;split at h
 ·cases h;simp
 cases h
def jM(a:List Int)(g:aT):Bool×Int:=
 if g.tag=1 then (g.arg.length==0,2)
 else ((dm g.arg a).2==0&&decide (1<g.tag)&&decide (g.tag≤5)&&(g.tag != 3 ||(dm g.arg a).1==2 ||(dm g.arg a).1==0),if g.tag=4∨g.tag=5 then (dm g.arg a).1 else 2)
def ei(n:aO)(a:List Int):Bool:=decide (n.keys.length≤3)&&decide (n.yo.length≤12)&&decide (0<n.keys.length+n.yo.length)&&n.yo.all fun g=>(jM a g).1
def md(n:aO):Bool:=decide (n.keys.length≤3)&&decide (n.yo.length≤12)&&decide (0<n.keys.length+n.yo.length)
def OR(a:List Int)(s:Bool×Nat×List Int)(g:aT):Bool×Nat×List Int:=(s.1&&(jM a g).1,s.2.1+1,s.2.2++[(jM a g).2])
theorem FV(a:List Int):∀(l:List aT) (ok:Bool) (ep:Nat) (acc:List Int),l.foldl (OR a) (ok,ep,acc)=(ok&&l.all (fun g=>(jM a g).1),ep+l.length,acc++l.map fun g=>(jM a g).2)
 |[],ok,ep,acc=>by simp
 |g::l,ok,ep,acc=>by
  rw[ahw,OR,FV a l];simp[atn,arJ,auf 1]
abbrev qC(n:aO):Obj:=.arr 12 0 [.agg [ac n.op,ac n.l,ac n.r,ac n.tab,.wh n.bk (n.xX.map (.int .i64)),.bool n.left,.wh n.bc (n.cond.map EN.a),.wh n.by' (n.keys.map (.int .i64)),.wh n.bg (n.yo.map aT.a),.wh n.bi (n.items.map kx.a),.wh n.bo (n.ords.map Ei),ac n.limit]]
theorem bX(bn:Bool)(xQ:List aO)(ep1 m1 ep2 m2:Nat)(n:aO)(ba:Bool)(a:List Int)(r:aa)(τ:ah)(hτ:lH τ)(hl:2≤τ.length)(hk:n.keys.length≤most)(hg:n.yo.length≤most)(hkg:n.keys.length+n.yo.length≤most)(he:∀g∈n.yo,g.arg.length≤most)(ha:a.length≤most) :
  match fg a n.keys with
  |none=>∃σ',bK code I.qfp [.ptr 0 0 0 0] (gF bn xQ ep1 m1 ep2 m2 n (.wh ba (bd a)) .yz r::τ)=some (.bool false,σ')
  |some ks=>bK code I.qfp [.ptr 0 0 0 0] (gF bn xQ ep1 m1 ep2 m2 n (.wh ba (bd a)) .yz r::τ) =
    some (.bool (ei n a),gF bn xQ ep1 m1 ep2 m2 n (.wh ba (bd a)) .yz (.sl (τ.length+2) (n.keys.length+n.yo.length) 0 (n.keys.length+n.yo.length))::(τ++[qC n,.arr 1 (n.keys.length+n.yo.length) (bd (ks++n.yo.map fun g=>(jM a g).2))])):=by
 have hkg':n.keys.length+n.yo.length≤68719476736:=hkg;have q1:1<τ.length+3:=by omega
 have q2:2<τ.length+3:=by omega
 have h:=cD (base:=τ.length+3) (clr:=[1,4,12,13]) (b:=w9) n.keys
  (fun k (s:Nat×List Int)=>⟨[.ptr 0 0 0 0,.any,.ptr (τ.length+1) 0 0 0,.bool (md n),.any,.any,.any,.any,.any,.wh n.by' (n.keys.map (.int .i64)),ac n.keys.length,ac k,.any,.any,.any,.any,.any,.any,.any,.any,.any,.any],gF bn xQ ep1 m1 ep2 m2 n (.wh ba (bd a)) .yz (.sl (τ.length+2) s.1 0 s.2.length)::(τ++[qC n,.arr 1 s.1 (bd s.2)])⟩)
  (fun k s=>s.2.length≤k) (TG a)
  (fun s=>(.ext 0,⟨[.ptr 0 0 0 0,.any,.ptr (τ.length+1) 0 0 0,.bool (md n),.any,.any,.any,.any,.any,.wh n.by' (n.keys.map (.int .i64)),ac n.keys.length,ac n.keys.length,.bool false,.any,.any,.any,.any,.any,.any,.any,.any,.any],gF bn xQ ep1 m1 ep2 m2 n (.wh ba (bd a)) .yz (.sl (τ.length+2) s.1 0 s.2.length)::(τ++[qC n,.arr 1 s.1 (bd s.2)])⟩))
  (fun _ o=>∃s,o=(.ret,s)∧results s [.env 1]=some (.bool false))
  (fun k x s hk' hy hs=>by
   obtain⟨ep,acc⟩:=s;simp only at hs;have yB:((k:Int)<(n.keys.length:Int)):=by omega
   have h5:acc.length+1≤most:=by omega
   unfold TG;by_cases h1:0≤x
   ·by_cases h2:x<a.length
    ·rw[if_pos ⟨h1,h2⟩];refine⟨?_,by simp;omega⟩;have e1:¬(x<0):=by omega
     have e2:¬((a.length:Int)≤x):=by omega
     have e3:a[x.toNat]?=some (a.getD x.toNat 0):=by
      have:x.toNat < a.length:=by omega
      simp[ad4,this]
     generalize a.getD x.toNat 0=w at *;simp[w9,yB,hy,e1,e2,e3,h1,append,h5,aA hk' hk,ar]
    rw[if_neg (fun h=>h2 h.2)];have e1:¬(x<0):=by omega
    have e2:((a.length:Int)≤x):=by omega
    exact⟨_,by simp[w9,yB,hy,e1,e2];rfl,_,rfl,by simp⟩
   rw[if_neg (fun h=>h1 h.1)];have e1:(x<0):=by omega
   exact⟨_,by simp[w9,yB,hy,e1];rfl,_,rfl,by simp⟩)
  (fun s hs=>by simp[w9]) (0,[]) (aes _)
 rw[B4]at h;have hw:IntKind.i64.wrap ((n.keys.length:Int)+(n.yo.length:Int))=(n.keys.length:Int)+n.yo.length:=Ot (by omega) (by omega);have g2:=fun ks:List Int=>fun hks:ks.length=n.keys.length=>(bB (base:=τ.length+3) (clr:=[5,6,7,8,17,18,19,20,21]) (b:=eM) n.yo
  (fun k (s:Bool×Nat×List Int)=>⟨[.ptr 0 0 0 0,.any,.ptr (τ.length+1) 0 0 0,.bool s.1,.any,.any,.any,.any,.any,.wh n.by' (n.keys.map (.int .i64)),ac n.keys.length,ac n.keys.length,.bool false,.any,.wh n.bg (n.yo.map aT.a),ac n.yo.length,ac k,.any,.any,.any,.any,.any],gF bn xQ ep1 m1 ep2 m2 n (.wh ba (bd a)) .yz (.sl (τ.length+2) s.2.1 0 s.2.2.length)::(τ++[qC n,.arr 1 s.2.1 (bd s.2.2)])⟩)
  (fun k s=>s.2.2.length≤n.keys.length+k) (OR a)
  (fun s=>(.ext 2,⟨[.ptr 0 0 0 0,.any,.ptr (τ.length+1) 0 0 0,.bool s.1,.any,.any,.any,.any,.any,.wh n.by' (n.keys.map (.int .i64)),ac n.keys.length,ac n.keys.length,.bool false,.any,.wh n.bg (n.yo.map aT.a),ac n.yo.length,ac n.yo.length,.bool false,.any,.any,.any,.any],gF bn xQ ep1 m1 ep2 m2 n (.wh ba (bd a)) .yz (.sl (τ.length+2) s.2.1 0 s.2.2.length)::(τ++[qC n,.arr 1 s.2.1 (bd s.2.2)])⟩))
  (fun k g s hk' hy hs=>by
   obtain⟨ok,ep,acc⟩:=s;simp only at hs;have yB:((k:Int)<(n.yo.length:Int)):=by omega
   have h5:acc.length+1≤most:=by unfold most;omega
   have hkd:=fun b bk=>YO b g.arg bk a (he g (aeb hy)) ha;refine⟨?_,by simp[OR];omega⟩;unfold OR jM;by_cases t1:g.tag=1
   ·simp only[if_pos t1];cases ok
    ·simp[eM,yB,hy,aT.a,append,h5,aA hk' hg,ar,ap,hτ,q1,q2,t1]
    by_cases hx:g.arg=[]
    ·simp[eM,yB,hy,aT.a,append,h5,aA hk' hg,ar,ap,hτ,q1,q2,t1,hx]
    have hx1:((g.arg.length:Int)==0)=false:=by simp[hx]
    have hx2:(g.arg.length==0)=false:=by simp[hx]
    simp[eM,yB,hy,aT.a,append,h5,aA hk' hg,ar,ap,hτ,q1,q2,t1,hx1,hx2]
   simp only[if_neg t1];generalize (dm g.arg a).1=kk at *;generalize (dm g.arg a).2=no at *;by_cases t3:g.tag=3
   ·simp only[t3];cases ok
    ·simp[eM,yB,hy,aT.a,append,h5,aA hk' hg,ar,ap,hτ,q1,q2,t3,hkd]
    by_cases hn0:no=0
    ·by_cases k2:kk=2
     ·simp[eM,yB,hy,aT.a,append,h5,aA hk' hg,ar,ap,hτ,q1,q2,t3,hkd,hn0,k2]
     simp[eM,yB,hy,aT.a,append,h5,aA hk' hg,ar,ap,hτ,q1,q2,t3,hkd,hn0,k2,al k2]
    simp[eM,yB,hy,aT.a,append,h5,aA hk' hg,ar,ap,hτ,q1,q2,t3,hkd,hn0,al hn0]
   by_cases t45:g.tag=4∨g.tag=5
   ·simp only[if_pos t45];rcases t45 with t4|t4<;>simp only[t4]
    ·cases ok
     ·simp[eM,yB,hy,aT.a,append,h5,aA hk' hg,ar,ap,hτ,q1,q2,t4,hkd]
     by_cases hn0:no=0
     ·simp[eM,yB,hy,aT.a,append,h5,aA hk' hg,ar,ap,hτ,q1,q2,t4,hkd,hn0]
     simp[eM,yB,hy,aT.a,append,h5,aA hk' hg,ar,ap,hτ,q1,q2,t4,hkd,hn0,al hn0]
    cases ok
    ·simp[eM,yB,hy,aT.a,append,h5,aA hk' hg,ar,ap,hτ,q1,q2,t4,hkd]
    by_cases hn0:no=0
    ·simp[eM,yB,hy,aT.a,append,h5,aA hk' hg,ar,ap,hτ,q1,q2,t4,hkd,hn0]
    simp[eM,yB,hy,aT.a,append,h5,aA hk' hg,ar,ap,hτ,q1,q2,t4,hkd,hn0,al hn0]
   simp only[if_neg t45];have t4:¬g.tag=4:=fun h=>t45 (.inl h);have t5:¬g.tag=5:=fun h=>t45 (.inr h);cases ok
   ·simp[eM,yB,hy,aT.a,append,h5,aA hk' hg,ar,ap,hτ,q1,q2,t1,t3,t4,t5,al t1,al t3,al t4,al t5,hkd]
   by_cases hn0:no=0
   ·by_cases l1:1<g.tag
    ·by_cases l5:g.tag≤5
     ·simp[eM,yB,hy,aT.a,append,h5,aA hk' hg,ar,ap,hτ,q1,q2,t1,t3,t4,t5,al t1,al t3,al t4,al t5,aR t3,hkd,hn0,l1,l5]
     simp[eM,yB,hy,aT.a,append,h5,aA hk' hg,ar,ap,hτ,q1,q2,t1,t3,t4,t5,al t1,al t3,al t4,al t5,aR t3,hkd,hn0,l1,l5]
    simp[eM,yB,hy,aT.a,append,h5,aA hk' hg,ar,ap,hτ,q1,q2,t1,t3,t4,t5,al t1,al t3,al t4,al t5,aR t3,hkd,hn0,l1]
   simp[eM,yB,hy,aT.a,append,h5,aA hk' hg,ar,ap,hτ,q1,q2,t1,t3,t4,t5,al t1,al t3,al t4,al t5,hkd,hn0,al hn0])
  (fun s _=>by simp[eM]) (md n,n.keys.length,ks) (by simp[hks])).1
 rw[bR aqp rfl];have hh1:n.keys.length≤3→n.yo.length≤12→md n=decide ((0:Int)<(n.keys.length:Int)+n.yo.length):=fun c1 c2=>by
  unfold md;rw[ar6 c1,ar6 c2];exact avQ.2 (by omega)
 have hh2:¬n.yo.length≤12→md n=false:=fun c=>by
  unfold md;rw[alg c];simp
 have hh3:¬n.keys.length≤3→md n=false:=fun c=>by
  unfold md;rw[alg c];simp
 have hH:∀R,(n.keys.length≤3→n.yo.length≤12→md n=decide ((0:Int)<(n.keys.length:Int)+n.yo.length)→R)→(n.keys.length≤3→¬n.yo.length≤12→md n=false→R)→(¬n.keys.length≤3→md n=false→R)→R:=fun R r1 r2 r3=>by
  by_cases c1:n.keys.length≤3
  ·by_cases c2:n.yo.length≤12
   ·exact r1 c1 c2 (hh1 c1 c2)
   exact r2 c1 c2 (hh2 c2)
  exact r3 c1 (hh3 c1)
 cases hq:fg a n.keys with
 |none=>
  rw[hq]at h;obtain⟨o,h1,s,rfl,h2⟩:=h;refine⟨s.st,?_⟩;simp at h1;refine hH _ (fun c1 c2 hh=>?_) (fun c1 c2 hh=>?_) (fun c1 hh=>?_)<;>rw[hh]at h1
  ·have c1':((n.keys.length:Int)≤3):=by omega
   have c2':((n.yo.length:Int)≤12):=by omega
   simp[aym,Ha,c1',c2',hw,h1,-results,h2]
  ·have c1':((n.keys.length:Int)≤3):=by omega
   have c2':¬((n.yo.length:Int)≤12):=by omega
   simp[aym,Ha,c1',c2',hw,h1,-results,h2]
  have c1':¬((n.keys.length:Int)≤3):=by omega
  simp[aym,Ha,c1',hw,h1,-results,h2]
 |some ks=>
  rw[hq]at h;have h1:=h.2;have hks:=iD hq;have h2:=g2 ks hks;rw[FV]at h2;simp at h1 h2;have hA:ei n a=(md n&&n.yo.all fun g=>(jM a g).1):=rfl;rw[hA];rw[hks]at h1 h2;simp only;refine hH _ (fun c1 c2 hh=>?_) (fun c1 c2 hh=>?_) (fun c1 hh=>?_)<;>rw[hh]at h1 h2 ⊢
  ·have c1':((n.keys.length:Int)≤3):=by omega
   have c2':((n.yo.length:Int)≤12):=by omega
   simp[aym,Ha,c1',c2',hw,h1,h2]
  ·have c1':((n.keys.length:Int)≤3):=by omega
   have c2':¬((n.yo.length:Int)≤12):=by omega
   simp[aym,Ha,c1',c2',hw,h1,h2]
  have c1':¬((n.keys.length:Int)≤3):=by omega
  simp[aym,Ha,c1',hw,h1,h2]
def rp(a:List Int)(g:aT):Int:=if g.tag=3 then 4 else (jM a g).2
abbrev tF(a ks:List Int)(n:aO)(k:Nat):List Int:=ks++((n.yo.take k).map (rp a)++(n.yo.drop k).map fun g=>(jM a g).2)
theorem KA{a ks:List Int}{n:aO}{k:Nat}{g:aT}(hy:n.yo[k]?=some g) :
  tF a ks n (k+1)=if g.tag=3 then (tF a ks n k).set (ks.length+k) 4 else tF a ks n k:=by
 obtain⟨hk,he⟩:=aaN.1 hy;unfold tF;rw[atG hk,he,am3 hk,he];by_cases h3:g.tag=3
 ·rw[if_pos h3,auI _ _ (by omega),auI _ _ (by simp;omega)];simp[rp,h3,atw (Nat.le_of_lt hk)]
 rw[if_neg h3];simp[rp,h3]
theorem Nm(bn:Bool)(xQ:List aO)(ep1 m1 ep2 m2:Nat)(n:aO)(ba:Bool)(a:List Int)(r:aa)(τ:ah)(hτ:lH τ)(hl:2≤τ.length)(hk:n.keys.length≤most)(hg:n.yo.length≤most)(hkg:n.keys.length+n.yo.length≤most)(he:∀g∈n.yo,g.arg.length≤most)(ha:a.length≤most) :
  match fg a n.keys with
  |none=>∃σ',bK code I.qfs [.ptr 0 0 0 0] (gF bn xQ ep1 m1 ep2 m2 n (.wh ba (bd a)) .yz r::τ)=some (.bool false,σ')
  |some ks=>if ei n a=true then bK code I.qfs [.ptr 0 0 0 0] (gF bn xQ ep1 m1 ep2 m2 n (.wh ba (bd a)) .yz r::τ) =
    some (.bool true,gF bn xQ ep1 m1 ep2 m2 n (.wh ba (bd a)) .yz (.sl (τ.length+2) (n.keys.length+n.yo.length) 0 (n.keys.length+n.yo.length))::(τ++[qC n,.arr 1 (n.keys.length+n.yo.length) (bd (ks++n.yo.map (rp a)))]))
   else ∃σ',bK code I.qfs [.ptr 0 0 0 0] (gF bn xQ ep1 m1 ep2 m2 n (.wh ba (bd a)) .yz r::τ)=some (.bool false,σ'):=by
 have hgr:=bX bn xQ ep1 m1 ep2 m2 n ba a r τ hτ hl hk hg hkg he ha;have hkg':n.keys.length+n.yo.length≤68719476736:=hkg;rw[bR amE rfl];cases hq:fg a n.keys with
 |none=>
  rw[hq]at hgr;obtain⟨σ',hgr⟩:=hgr;exact⟨_,by simp[ay6,VK,hgr];rfl⟩
 |some ks=>
  rw[hq]at hgr;simp only at hgr ⊢;cases hok:ei n a with
  |false=>
   rw[hok]at hgr;simp only[ai1,ali];exact⟨_,by simp[ay6,VK,hgr];rfl⟩
  |true=>
   rw[hok]at hgr;simp only[aml];have hks:=iD hq;have q1:1<τ.length+3:=by omega
   have q2:2<τ.length+3:=by omega
   have hloop:=bU (base:=τ.length+3) (clr:=[3,4,9,10]) (b:=AC)
    (fun k=>⟨[.ptr 0 0 0 0,.bool false,.bool true,.any,.any,.bool false,.wh n.bg (n.yo.map aT.a),ac n.yo.length,ac k,.any,.any],gF bn xQ ep1 m1 ep2 m2 n (.wh ba (bd a)) .yz (.sl (τ.length+2) (n.keys.length+n.yo.length) 0 (n.keys.length+n.yo.length))::(τ++[qC n,.arr 1 (n.keys.length+n.yo.length) (bd (tF a ks n k))])⟩) n.yo.length
    (.ext 0,⟨[.ptr 0 0 0 0,.bool false,.bool true,.any,.any,.bool false,.wh n.bg (n.yo.map aT.a),ac n.yo.length,ac n.yo.length,.bool false,.any],gF bn xQ ep1 m1 ep2 m2 n (.wh ba (bd a)) .yz (.sl (τ.length+2) (n.keys.length+n.yo.length) 0 (n.keys.length+n.yo.length))::(τ++[qC n,.arr 1 (n.keys.length+n.yo.length) (bd (tF a ks n n.yo.length))])⟩)
    (fun k hk'=>by
     have yB:((k:Int)<(n.yo.length:Int)):=by omega
     have hy:n.yo[k]?=some n.yo[k]:=ad3 hk';have hc:=KA (a:=a) (ks:=ks) hy;have hl3:(tF a ks n k).length=n.keys.length+n.yo.length:=by
      unfold tF;simp[hks];omega
     rw[hc];generalize tF a ks n k=X at *;rw[hks];generalize n.yo[k]=g at *;have w1:=Ot (n:=(n.keys.length:Int)+(k:Int)) (by omega) (by omega);have w2:(0:Int)≤(n.keys.length:Int)+(k:Int):=by omega
     have w3:((n.keys.length:Int)+(k:Int)).toNat=n.keys.length+k:=by omega
     have w4:X[n.keys.length+k]?=some (X.getD (n.keys.length+k) 0):=by
      have:n.keys.length+k<X.length:=by omega
      simp[ad4,this]
     generalize X.getD (n.keys.length+k) 0=w at *;by_cases h3:g.tag=3
     ·rw[if_pos h3];simp[AC,yB,hy,aT.a,h3,w1,w2,w3,w4,aA hk' hg,ar,ap,hτ,q1,q2];simp[hk',w1,w2,w3,w4,aA hk' hg,ar,ap,hτ,q1,q2]
     rw[if_neg h3];simp[AC,yB,hy,aT.a,h3,al h3,aA hk' hg,ar,ap,hτ,q1,q2])
    (by simp[AC])
   have e0:tF a ks n 0=ks++n.yo.map fun g=>(jM a g).2:=by simp[tF]
   have e1:tF a ks n n.yo.length=ks++n.yo.map (rp a):=by simp[tF]
   rw[e0,e1]at hloop;simp at hloop;simp at hgr;simp[ay6,VK,hgr,hloop]
def dT(a:List Int):Nat→List Int→Bool
 |_,[]=>true
 |i,x::r=>(x==(i:Int)&&a.getD i 0 != 4)&&dT a (i+1) r
def pJ(o:Int)(g:aT):Bool:=g.arg.length==0&&(if g.tag=1∨g.tag=2 then o==2 else if g.tag=3 then o==4 else if g.tag=4∨g.tag=5 then o != 4 else false)
def dU(a:List Int):Nat→List aT→Bool
 |_,[]=>true
 |i,g::r=>pJ (a.getD i 0) g&&dU a (i+1) r
def iF:Nat→List aT→List Int→List Int
 |_,[],l=>l
 |i,g::r,l=>iF (i+1) r (if g.tag=3 then l.set i 2 else l)
def jr(n m:aO)(a:List Int):Bool:=m.op==9&&decide (n.keys.length≤3)&&decide (n.yo.length≤12)&&n.keys.length+n.yo.length==a.length
theorem AA(a:List Int):∀(l:List Int) (k:Nat) (ok:Bool),aV (ρ:=Empty) (fun k x ok=>.inl (ok&&(x==(k:Int)&&a.getD k 0 != 4))) l k ok=.inl (ok&&dT a k l)
 |[],k,ok=>by simp[aV,dT]
 |x::l,k,ok=>by
  simp only[aV];rw[AA a l (k+1)];simp[dT,atn]
def afr(a:List Int)(K k:Nat)(g:aT)(s:Bool×List Int):Bool×List Int⊕Empty:=.inl (s.1&&pJ (a.getD (K+k) 0) g,if g.tag=3 then s.2.set (K+k) 2 else s.2)
theorem KO(a:List Int)(K:Nat):∀(l:List aT) (k:Nat) (ok:Bool) (x:List Int),aV (afr a K) l k (ok,x)=.inl (ok&&dU a (K+k) l,iF (K+k) l x)
 |[],k,ok,x=>by simp[aV,dU,iF]
 |g::l,k,ok,x=>by
  simp only[aV,afr];rw[KO a K l (k+1)];simp[dU,iF,atn,arJ]
theorem tS:∀(l:List aT) (i:Nat) (x:List Int),(iF i l x).length=x.length
 |[],i,x=>rfl
 |g::l,i,x=>by
  rw[iF,tS l];split<;>simp
theorem YI(bn:Bool)(xQ:List aO)(ep1 m1 ep2 m2:Nat)(n m:aO)(ba:Bool)(a:List Int)(r:aa)(τ:ah)(hA:0≤n.l)(hm:xQ[n.l.toNat]?=some m)(hkg:n.keys.length+n.yo.length≤most)(hh:jr n m a=false) :
  ∃σ',bK code I.qfo [.ptr 0 0 0 0] (gF bn xQ ep1 m1 ep2 m2 n (.wh ba (bd a)) .yz r::τ)=some (.bool false,σ'):=by
 rw[bR ahU rfl];have hkg':n.keys.length+n.yo.length≤68719476736:=hkg;have w1:=Ot (n:=(n.keys.length:Int)+(n.yo.length:Int)) (by omega) (by omega);unfold jr at hh;by_cases c1:m.op=9
 ·by_cases c2:n.keys.length≤3
  ·have c2':((n.keys.length:Int)≤3):=by omega
   by_cases c3:n.yo.length≤12
   ·have c3':((n.yo.length:Int)≤12):=by omega
    have c4:n.keys.length+n.yo.length≠a.length:=by
     intro h;simp[c1,c2,c3,h]at hh
    have c4':((n.keys.length:Int)+n.yo.length==(a.length:Int))=false:=by simp;omega
    exact⟨_,by simp[ayq,KQ,hA,hm,aO.a,c1,c2',c3',w1,c4'];rfl⟩
   have c3':¬((n.yo.length:Int)≤12):=by omega
   exact⟨_,by simp[ayq,KQ,hA,hm,aO.a,c1,c2',c3'];rfl⟩
  have c2':¬((n.keys.length:Int)≤3):=by omega
  exact⟨_,by simp[ayq,KQ,hA,hm,aO.a,c1,c2'];rfl⟩
 exact⟨_,by simp[ayq,KQ,hA,hm,aO.a,c1,al c1];rfl⟩
theorem Us(bn:Bool)(xQ:List aO)(ep1 m1 ep2 m2:Nat)(n m:aO)(ba:Bool)(a:List Int)(r:aa)(τ:ah)(hτ:lH τ)(hl:2≤τ.length)(hA:0≤n.l)(hm:xQ[n.l.toNat]?=some m)(hkg:n.keys.length+n.yo.length≤most)(ha:a.length≤most)(hh:jr n m a=true) :
  bK code I.qfo [.ptr 0 0 0 0] (gF bn xQ ep1 m1 ep2 m2 n (.wh ba (bd a)) .yz r::τ) =
   some (.bool (dT a 0 n.keys&&dU a n.keys.length n.yo),gF bn xQ ep1 m1 ep2 m2 n (.wh ba (bd a)) .yz (.sl (τ.length+2) 0 0 a.length)::(τ++[qC n,.arr 1 0 (bd (iF n.keys.length n.yo a))])):=by
 have hkg':n.keys.length+n.yo.length≤68719476736:=hkg;have w1:=Ot (n:=(n.keys.length:Int)+(n.yo.length:Int)) (by omega) (by omega);unfold jr at hh;simp only[acz,afE,ad7]at hh;obtain⟨⟨⟨c1,c2⟩,c3⟩,c4⟩:=hh;have c2':((n.keys.length:Int)≤3):=by omega
 have c3':((n.yo.length:Int)≤12):=by omega
 have c4':((n.keys.length:Int)+n.yo.length==(a.length:Int))=true:=by simp;omega
 have hk:n.keys.length≤most:=by unfold most;omega
 have hg:n.yo.length≤most:=by unfold most;omega
 have q1:1<τ.length+3:=by omega
 have q2:2<τ.length+3:=by omega
 have h1:=cD (base:=τ.length+3) (clr:=[5,6,14]) (b:=xf) n.keys
  (fun k (ok:Bool)=>⟨[.ptr 0 0 0 0,.bool false,.ptr (τ.length+1) 0 0 0,ac n.keys.length,.bool ok,.any,.any,.any,.any,.any,.bool false,.wh n.by' (n.keys.map (.int .i64)),ac n.keys.length,ac k,.any,.any,.any,.any,.any,.any,.any,.any,.any],gF bn xQ ep1 m1 ep2 m2 n (.wh ba (bd a)) .yz (.sl (τ.length+2) 0 0 a.length)::(τ++[qC n,.arr 1 0 (bd a)])⟩)
  (fun _ _=>True) (fun k x ok=>.inl (ok&&(x==(k:Int)&&a.getD k 0 != 4)))
  (fun ok=>(.ext 0,⟨[.ptr 0 0 0 0,.bool false,.ptr (τ.length+1) 0 0 0,ac n.keys.length,.bool ok,.any,.any,.any,.any,.any,.bool false,.wh n.by' (n.keys.map (.int .i64)),ac n.keys.length,ac n.keys.length,.bool false,.any,.any,.any,.any,.any,.any,.any,.any],gF bn xQ ep1 m1 ep2 m2 n (.wh ba (bd a)) .yz (.sl (τ.length+2) 0 0 a.length)::(τ++[qC n,.arr 1 0 (bd a)])⟩))
  (fun (r:Empty) _=>r.elim)
  (fun k x ok hk' hy _=>by
   refine⟨?_,trivial⟩;have yB:((k:Int)<(n.keys.length:Int)):=by omega
   have hof:a[k]?=some (a.getD k 0):=by
    have:k<a.length:=by omega
    simp[ad4,this]
   generalize a.getD k 0=o at *;cases ok
   ·simp[xf,yB,hy,aA hk' hk,ar]
   by_cases h0:x=(k:Int)
   ·simp[xf,yB,hy,h0,hof,aA hk' hk,ar]
   simp[xf,yB,hy,h0,al h0,aA hk' hk,ar])
  (fun s _=>by simp[xf]) true trivial
 rw[AA]at h1;have h1:=h1.2;rw[al5]at h1;generalize dT a 0 n.keys=ok1 at *;have h2:=cD (base:=τ.length+3) (clr:=[7,8,9,18,19,20,21,22]) (b:=eQ) n.yo
  (fun k (s:Bool×List Int)=>⟨[.ptr 0 0 0 0,.bool false,.ptr (τ.length+1) 0 0 0,ac n.keys.length,.bool s.1,.any,.any,.any,.any,.any,.bool false,.wh n.by' (n.keys.map (.int .i64)),ac n.keys.length,ac n.keys.length,.bool false,.wh n.bg (n.yo.map aT.a),ac n.yo.length,ac k,.any,.any,.any,.any,.any],gF bn xQ ep1 m1 ep2 m2 n (.wh ba (bd a)) .yz (.sl (τ.length+2) 0 0 a.length)::(τ++[qC n,.arr 1 0 (bd s.2)])⟩)
  (fun _ s=>s.2.length=a.length) (afr a n.keys.length)
  (fun s=>(.ext 2,⟨[.ptr 0 0 0 0,.bool false,.ptr (τ.length+1) 0 0 0,ac n.keys.length,.bool s.1,.any,.any,.any,.any,.any,.bool false,.wh n.by' (n.keys.map (.int .i64)),ac n.keys.length,ac n.keys.length,.bool false,.wh n.bg (n.yo.map aT.a),ac n.yo.length,ac n.yo.length,.bool false,.any,.any,.any,.any],gF bn xQ ep1 m1 ep2 m2 n (.wh ba (bd a)) .yz (.sl (τ.length+2) 0 0 a.length)::(τ++[qC n,.arr 1 0 (bd s.2)])⟩))
  (fun (r:Empty) _=>r.elim)
  (fun k g s hk' hy hs=>by
   obtain⟨ok,X⟩:=s;simp only at hs;unfold afr;refine⟨?_,by simp only;split<;>simp[hs]⟩;have yB:((k:Int)<(n.yo.length:Int)):=by omega
   have hof:a[n.keys.length+k]?=some (a.getD (n.keys.length+k) 0):=by
    have:n.keys.length+k<a.length:=by omega
    simp[ad4,this]
   have w1:=Ot (n:=(n.keys.length:Int)+(k:Int)) (by omega) (by omega);have w2:(0:Int)≤(n.keys.length:Int)+(k:Int):=by omega
   have w3:((n.keys.length:Int)+(k:Int)).toNat=n.keys.length+k:=by omega
   have w4:X[n.keys.length+k]?=some (X.getD (n.keys.length+k) 0):=by
    have:n.keys.length+k<X.length:=by omega
    simp[ad4,this]
   have w5:n.keys.length+k<a.length:=by omega
   generalize X.getD (n.keys.length+k) 0=w at *;unfold pJ;generalize a.getD (n.keys.length+k) 0=o at *;have hx0:g.arg.length=0∨(((g.arg.length:Int)==0)=false∧(g.arg.length==0)=false):=by
    by_cases h:g.arg.length=0
    ·exact .inl h
    exact .inr ⟨by simp;intro h';exact h (by rw[h'];rfl),by simp;intro h';exact h (by rw[h'];rfl)⟩
   by_cases t1:g.tag=1
   ·simp only[t1];cases ok
    ·simp[eQ,yB,hy,aT.a,hof,w1,w2,w3,w4,aA hk' hg,ar,ap,hτ,q1,q2,t1]
    rcases hx0 with h0|⟨h0,h0'⟩
    ·simp[eQ,yB,hy,aT.a,hof,w1,w2,w3,w4,aA hk' hg,ar,ap,hτ,q1,q2,t1,h0]
    simp[eQ,yB,hy,aT.a,hof,w1,w2,w3,w4,aA hk' hg,ar,ap,hτ,q1,q2,t1,h0,h0']
   by_cases t2:g.tag=2
   ·simp only[t2];cases ok
    ·simp[eQ,yB,hy,aT.a,hof,w1,w2,w3,w4,aA hk' hg,ar,ap,hτ,q1,q2,t2]
    rcases hx0 with h0|⟨h0,h0'⟩
    ·simp[eQ,yB,hy,aT.a,hof,w1,w2,w3,w4,aA hk' hg,ar,ap,hτ,q1,q2,t2,h0]
    simp[eQ,yB,hy,aT.a,hof,w1,w2,w3,w4,aA hk' hg,ar,ap,hτ,q1,q2,t2,h0,h0']
   by_cases t3:g.tag=3
   ·simp only[t3];cases ok
    ·simp[eQ,yB,hy,aT.a,hof,w1,w2,w3,w4,aA hk' hg,ar,ap,hτ,q1,q2,t3];simp[w5,hof,w1,w2,w3,w4,aA hk' hg,ar,ap,hτ,q1,q2]
    rcases hx0 with h0|⟨h0,h0'⟩
    ·simp[eQ,yB,hy,aT.a,hof,w1,w2,w3,w4,aA hk' hg,ar,ap,hτ,q1,q2,t3,h0];simp[w5,hof,w1,w2,w3,w4,aA hk' hg,ar,ap,hτ,q1,q2,h0]
    simp[eQ,yB,hy,aT.a,hof,w1,w2,w3,w4,aA hk' hg,ar,ap,hτ,q1,q2,t3,h0,h0'];simp[w5,hof,w1,w2,w3,w4,aA hk' hg,ar,ap,hτ,q1,q2,h0,h0']
   by_cases t4:g.tag=4
   ·simp only[t4];cases ok
    ·simp[eQ,yB,hy,aT.a,hof,w1,w2,w3,w4,aA hk' hg,ar,ap,hτ,q1,q2,t4]
    rcases hx0 with h0|⟨h0,h0'⟩
    ·simp[eQ,yB,hy,aT.a,hof,w1,w2,w3,w4,aA hk' hg,ar,ap,hτ,q1,q2,t4,h0]
    simp[eQ,yB,hy,aT.a,hof,w1,w2,w3,w4,aA hk' hg,ar,ap,hτ,q1,q2,t4,h0,h0']
   by_cases t5:g.tag=5
   ·simp only[t5];cases ok
    ·simp[eQ,yB,hy,aT.a,hof,w1,w2,w3,w4,aA hk' hg,ar,ap,hτ,q1,q2,t5]
    rcases hx0 with h0|⟨h0,h0'⟩
    ·simp[eQ,yB,hy,aT.a,hof,w1,w2,w3,w4,aA hk' hg,ar,ap,hτ,q1,q2,t5,h0]
    simp[eQ,yB,hy,aT.a,hof,w1,w2,w3,w4,aA hk' hg,ar,ap,hτ,q1,q2,t5,h0,h0']
   cases ok
   ·simp[eQ,yB,hy,aT.a,hof,w1,w2,w3,w4,aA hk' hg,ar,ap,hτ,q1,q2,t1,t2,t3,t4,t5,al t1,al t2,al t3,al t4,al t5]
   rcases hx0 with h0|⟨h0,h0'⟩
   ·simp[eQ,yB,hy,aT.a,hof,w1,w2,w3,w4,aA hk' hg,ar,ap,hτ,q1,q2,t1,t2,t3,t4,t5,al t1,al t2,al t3,al t4,al t5,h0]
   simp[eQ,yB,hy,aT.a,hof,w1,w2,w3,w4,aA hk' hg,ar,ap,hτ,q1,q2,t1,t2,t3,t4,t5,al t1,al t2,al t3,al t4,al t5,h0,h0'])
  (fun s _=>by simp[eQ]) (ok1,a) rfl
 rw[KO]at h2;have h2:=h2.2;rw[at9]at h2;have hcl:=G3 (enc:=.int .i64) ba a ha;rw[bR ahU rfl];simp at h1 h2;simp[ayq,KQ,hA,hm,aO.a,c1,c2',c3',w1,c4',hcl,h1,h2]
theorem X3(b:Bool)(l:List Int)(x:Int)(hn:l.length≤most):az I.qhj [.wh b (bd l),ac x]=some (ac (YW (fun y=>x==y) l)):=by
 rw[am aqV rfl];have hstep:∀k,k<l.length→∀y,l[k]?=some y→(x==y)=false→bM 0 [2,3,6,7] ol (run code ol ⟨[.wh b (bd l),ac x,.any,.any,ac l.length,ac k,.any,.any],[]⟩) =
   aM code 0 [2,3,6,7] ol ⟨[.wh b (bd l),ac x,.any,.any,ac l.length,ac (k+1:Nat),.any,.any],[]⟩:=fun k hk y hy hp=>by
  have yB:((k:Int)<(l.length:Int)):=by omega
  simp[ol,hy,hp,yB,aA hk hn,aH]
 unfold YW;by_cases ha:(l.any fun y=>x==y)=true
 ·have yB:=atp (arL.1 ha);have hp:(x==l[l.findIdx fun y=>x==y])=true:=at3 (p:=fun y=>x==y) (w:=yB);have hloop:=bU (base:=0) (clr:=[2,3,6,7]) (b:=ol) (fun k=>⟨[.wh b (bd l),ac x,.any,.any,ac l.length,ac k,.any,.any],[]⟩) (l.findIdx fun y=>x==y)
   (.ret,⟨[.wh b (bd l),ac x,ac (l.findIdx fun y=>x==y:Nat),ac (l.findIdx fun y=>x==y:Nat),ac l.length,ac (l.findIdx fun y=>x==y:Nat),.bool true,.bool true],[]⟩)
   (fun k hk=>hstep k (by omega) _ (ad3 (by omega)) (by simpa using auh hk))
   (by
    have h1:l[l.findIdx fun y=>x==y]?=some l[l.findIdx fun y=>x==y]:=ad3 yB;have hlt':(((l.findIdx fun y=>x==y:Nat):Int)<(l.length:Int)):=by omega
    generalize hL:(l.findIdx fun y=>x==y)=L at *;generalize l[L]=y at *;simp[ol,h1,hp,hlt'])
  rw[if_pos ha];generalize (l.findIdx fun y=>x==y)=L at *;simp at hloop;simp[azy,adQ,hloop]
 have hall:∀y∈l,(x==y)=false:=fun y hy=>atN.2 (arG.1 (auw _▸ha) y hy);have hloop:=bU (base:=0) (clr:=[2,3,6,7]) (b:=ol) (fun k=>⟨[.wh b (bd l),ac x,.any,.any,ac l.length,ac k,.any,.any],[]⟩) l.length
  (.ext 0,⟨[.wh b (bd l),ac x,.any,.any,ac l.length,ac l.length,.bool false,.any],[]⟩)
  (fun k hk=>hstep k hk _ (ad3 hk) (hall _ (agL hk)))
  (by simp[ol])
 simp at hloop;rw[if_neg ha];simp[azy,adQ,hloop]
theorem lk(b:Bool)(l:List Int)(x:Int)(hn:l.length≤most):az I.qhc [.wh b (bd l),ac x]=some (.bool (l.any fun y=>x==y)):=by
 rw[am amQ rfl];have h:=fun b=>X3 b l x hn;unfold YW at h;cases ha:(l.any fun y=>x==y)<;>rw[ha]at h<;>simp[az9,ai6,h]
def lG(l:List Int):Bool:=l.any fun y=>4==y
structure A8 (X:ah) (r:aa) (bf:Bool) (res:List Int):Prop where
 nc:aw r=1
 ag:isAgg r=false
 len:∀L K O B N A,jn (L::K::O::B::N::A::X) r=some res.length
 fz:∀L K O B N A n,fz false true 3 (L::K::O::B::N::A::X) (n+3) r=.wh bf (bd res)
theorem agV(X:ah)(b:Bool)(l:List Int):A8 X (.wh b (bd l)) b l:=⟨rfl,rfl,fun _ _ _ _ _ _=>by simp,fun _ _ _ _ _ _ _=>by simp⟩
theorem V6(ep:Nat)(l:List Int)(Y:Obj)(X:ah):A8 (Y::.arr 1 ep (bd l)::X) (.sl 7 ep 0 l.length) false l:=⟨rfl,rfl,fun _ _ _ _ _ _=>by simp,fun _ _ _ _ _ _ n=>by simp⟩
def je(n:aO)(opn:List Nat):Option (List Nat):=
 if bD n.op<0∨(opn.length:Int)<bD n.op∨iM n=false then none else
 match opn.drop (opn.length-(bD n.op).toNat) with
 |[]=>if n.l=-1∧n.r=-1 then some [] else none
 |[p]=>if n.l=p∧n.r=-1 then some [p] else none
 |[p,q]=>if n.l=p∧n.r=q then some [p,q] else none
 |_=>none
theorem xv(t:Int):-1≤bD t∧bD t≤2:=by
 unfold bD
 repeat' split
 all_goals omega
abbrev kC(l:List Nat):List aa:=l.map fun (k:Nat)=>aa.int .i64 (k:Int)
structure qU where
 c0:aa
 c1:aa
 c2:aa
 c3:aa
 c4:aa
 c5:aa
 c6:aa
 c7:aa
 c8:aa
 c9:aa
 c10:aa
 c11:aa
abbrev aO.z(n:aO):qU:=⟨ac n.op,ac n.l,ac n.r,ac n.tab,.wh n.bk (n.xX.map (.int .i64)),.bool n.left,.wh n.bc (n.cond.map EN.a),.wh n.by' (n.keys.map (.int .i64)),.wh n.bg (n.yo.map aT.a),.wh n.bi (n.items.map kx.a),.wh n.bo (n.ords.map Ei),ac n.limit⟩
abbrev Ka(bn:Bool)(xQ:List aO)(ep1 m1 ep2 m2:Nat)(z:qU)(a b r:aa):Obj:=.arr 18 0 [.agg [.wh bn (xQ.map aO.a),.sl 1 ep1 0 m1,.sl 2 ep2 0 m2,z.c0,z.c1,z.c2,z.c3,z.c4,z.c5,z.c6,z.c7,z.c8,z.c9,z.c10,z.c11,a,b,r]]
abbrev jO(bn:Bool)(xQ:List aO)(ep1 ep2:Nat)(xX:List (eJ Int))(opn:List Nat)(n0:qU)(a0 b0 r0:aa)(B:Obj):ah:=
 [Ka bn xQ ep1 xX.length ep2 opn.length n0 a0 b0 r0,.arr 1 ep1 (xX.map (eJ.c (.int .i64))),.arr 1 ep2 (kC opn),B]
theorem Sb(bn:Bool)(xQ:List aO)(ep1 ep2:Nat)(xX:List (eJ Int))(opn:List Nat)(n0:qU)(n:aO)(a0 b0 r0:aa)(B:Obj)(ask:aa)(i:Nat)(hi:xQ[i]?=some n)(hk1:n.keys.length≤most)(hk2:n.yo.length≤most)
  (hb:bD n.op<0∨(opn.length:Int)<bD n.op∨iM n=false) :
  ∃σ',bK code I.qfv [.ptr 0 0 0 0,ac i,ask] (jO bn xQ ep1 ep2 xX opn n0 a0 b0 r0 B)=some (.bool false,σ'):=by
 rw[bR uA rfl];have hp:=ti n.op;have hbl:=tU n hk1 hk2;simp only[aO.a]at hbl;by_cases c1:bD n.op<0
 ·exact⟨_,by simp[axV,jU,hi,aO.a,hp,c1];rfl⟩
 by_cases c2:(opn.length:Int)<bD n.op
 ·exact⟨_,by simp[axV,jU,hi,aO.a,hp,c1,c2];rfl⟩
 have c3:iM n=false:=by rcases hb with h|h|h;exact absurd h c1;exact absurd h c2;exact h
 rw[c3]at hbl;exact⟨_,by simp[axV,jU,hi,aO.a,hp,c1,c2,hbl];rfl⟩
theorem sr(σ:ah)(b:Bool)(l:List aa):jn σ (.wh b l)=some l.length:=rfl
theorem sQ(σ:ah)(l:List aa):jn σ (.lst l)=some l.length:=rfl
theorem oS(σ:ah):jn σ .yz=some 0:=rfl
theorem xi(σ:ah)(id ep o n:Nat):jn σ (.sl id ep o n)=if fresh σ id ep then some n else none:=rfl
theorem Yk:IntKind.i64.wrap 1=1:=by decide
theorem XX:IntKind.i64.wrap 2=2:=by decide
theorem amK{a b:Bool}(h:(a&&b)=true):a=true∧b=true:=by revert h;cases a<;>cases b<;>simp
instance:Nc (fun (k:Nat)=>aa.int .i64 (k:Int)) 1 false:=⟨fun _=>rfl,fun _=>rfl⟩
instance:Fx (fun (k:Nat)=>aa.int .i64 (k:Int)):=⟨fun _ _ _ _ _ _=>rfl⟩
abbrev fB(x y:Int):Obj:=.arr 2 0 [.agg [ac x,ac y]]
def mu(n:aO)(i len:Nat):Bool:=!((n.op==8 ||n.op==10)&&i != len-1)
structure uw where
 bn:Bool
 xQ:List aO
 ep1:Nat
 ep2:Nat
 xX:List (eJ Int)
 opn:List Nat
 n0:qU
 a0:aa
 b0:aa
 r0:aa
 B:Obj
 ask:aa
 i:Nat
 n:aO
noncomputable abbrev uw.call(E:uw):Option (aa×ah):=bK code I.qfv [.ptr 0 0 0 0,ac E.i,E.ask] (jO E.bn E.xQ E.ep1 E.ep2 E.xX E.opn E.n0 E.a0 E.b0 E.r0 E.B)
abbrev uw.st(E:uw)(A C r:aa)(x y:Int):ah:=[gF E.bn E.xQ E.ep1 E.xX.length E.ep2 E.opn.length E.n A C r,.arr 1 E.ep1 (E.xX.map (eJ.c (.int .i64))),.arr 1 E.ep2 (kC E.opn),E.B,qC E.n,fB x y]
structure Tk (E:uw) (k:Nat) (ps:List Nat):Prop where
 hi:E.xQ[E.i]?=some E.n
 hil:E.xQ.length≤most
 hol:E.opn.length≤most
 hk1:E.n.keys.length≤most
 hk2:E.n.yo.length≤most
 hop:bD E.n.op=k
 hkl:k≤E.opn.length
 hd:E.opn.drop (E.opn.length-k)=ps
 hbl:iM E.n=true
 hB:∀base σ,ap base σ E.B=E.B
abbrev mV(E:uw):Prop:=((E.n.op==8)=false∧(E.n.op==10)=false∧True)∨((E.n.op==8)=true∧((E.i:Int) != ((E.xQ.length:Int)-1))=false∧True)∨((E.n.op==8)=false∧(E.n.op==10)=true∧((E.i:Int) != ((E.xQ.length:Int)-1))=false)
abbrev FA(E:uw):Prop:=((E.n.op==8)=true∧((E.i:Int) != ((E.xQ.length:Int)-1))=true∧True)∨((E.n.op==8)=false∧(E.n.op==10)=true∧((E.i:Int) != ((E.xQ.length:Int)-1))=true)
theorem iP{E:uw}(h:Tk E 0 []):az I.qfw [ac E.n.op]=some (ac 0)∧az I.qfn [E.n.a]=some (.bool true)∧decide ((E.opn.length:Int)<0)=false∧IntKind.i64.wrap ((E.opn.length:Int))=(E.opn.length:Int)∧((E.opn.length:Int)).toNat=E.opn.length∧(0:Int)≤(E.opn.length:Int)∧E.opn.length-(E.opn.length)=0∧E.opn.length≤E.opn.length∧List.take 0 (kC [])=kC []∧(0:Int)≤(E.opn.length:Int)∧List.drop (E.opn.length) (kC E.opn)=kC []∧IntKind.i64.wrap ((E.xQ.length:Int)-1)=(E.xQ.length:Int)-1∧E.opn.length+0=E.opn.length:=by
 obtain⟨hi,hil,hol,hk1,hk2,hop,hkl,hd,hbl,_⟩:=h;have hil':E.xQ.length≤68719476736:=hil;have hol':E.opn.length≤68719476736:=hol;have hp:=ti E.n.op;have hbs:=tU E.n hk1 hk2;rw[hop]at hp;rw[hbl]at hbs;refine⟨hp,hbs,alg (by omega),Ot (by omega) (by omega),by omega,by omega,by omega,by omega,rfl,by omega,?_,Ot (by omega) (by omega),by omega⟩
 ·rw[kC,←List.map_drop];exact congrArg _ hd
theorem gV{E:uw}{p:Nat}(h:Tk E 1 [p]):az I.qfw [ac E.n.op]=some (ac 1)∧az I.qfn [E.n.a]=some (.bool true)∧decide ((E.opn.length:Int)<1)=false∧IntKind.i64.wrap ((E.opn.length:Int)-1)=(E.opn.length:Int)-1∧((E.opn.length:Int)-1).toNat=E.opn.length-1∧(1:Int)≤(E.opn.length:Int)∧E.opn.length-(E.opn.length-1)=1∧E.opn.length-1≤E.opn.length∧List.take 1 (kC [p])=kC [p]∧(0:Int)≤(E.opn.length:Int)∧List.drop (E.opn.length-1) (kC E.opn)=kC [p]∧IntKind.i64.wrap ((E.xQ.length:Int)-1)=(E.xQ.length:Int)-1∧E.opn.length-1+1=E.opn.length∧E.opn[E.opn.length-1]?=some p:=by
 obtain⟨hi,hil,hol,hk1,hk2,hop,hkl,hd,hbl,_⟩:=h;have hil':E.xQ.length≤68719476736:=hil;have hol':E.opn.length≤68719476736:=hol;have hp:=ti E.n.op;have hbs:=tU E.n hk1 hk2;rw[hop]at hp;rw[hbl]at hbs;refine⟨hp,hbs,alg (by omega),Ot (by omega) (by omega),by omega,by omega,by omega,by omega,rfl,by omega,?_,Ot (by omega) (by omega),by omega,?_⟩
 ·rw[kC,←List.map_drop];exact congrArg _ hd
 have:=congrArg (·[0]?) hd;simpa using this
theorem Tl(E:uw)(h:Tk E 0 [])(hb:¬(E.n.l=-1∧E.n.r=-1)):∃σ',E.call=some (.bool false,σ'):=by
 unfold uw.call;rw[bR uA rfl];obtain⟨hp,hbs,z1,z2,z3,z4,z5,z7,z8,z9,hd',zw,z6⟩:=iP h;have hi:=h.hi;have hB:=h.hB;simp only[aO.a]at hbs;by_cases c:E.n.l=(-1)
 ·have c1:((-1)==E.n.l)=true:=by simp[c]
  have c2:((-1)==E.n.r)=false:=al (Ne.symm fun h=>hb ⟨c,h⟩);exact⟨_,by simp[axV,jU,hi,aO.a,hp,hbs,c1,c2,z1,z2,z3,z4,z5,z6,z7,z8,z9,hd'];rfl⟩
 have c1:((-1)==E.n.l)=false:=al (Ne.symm c);exact⟨_,by simp[axV,jU,hi,aO.a,hp,hbs,c1,z1,z2,z3,z4,z5,z6,z7,z8,z9,hd'];rfl⟩
theorem Sd(E:uw)(p:Nat)(h:Tk E 1 [p])(hb:¬(E.n.l=(p:Int)∧E.n.r=-1)):∃σ',E.call=some (.bool false,σ'):=by
 unfold uw.call;rw[bR uA rfl];obtain⟨hp,hbs,z1,z2,z3,z4,z5,z7,z8,z9,hd',zw,z6,y0⟩:=gV h;have hi:=h.hi;have hB:=h.hB;simp only[aO.a]at hbs;by_cases c:E.n.l=(p:Int)
 ·have c1:((p:Int)==E.n.l)=true:=by simp[c]
  have c2:((-1)==E.n.r)=false:=al (Ne.symm fun h=>hb ⟨c,h⟩);exact⟨_,by simp[axV,jU,hi,aO.a,hp,hbs,c1,c2,z1,z2,z3,z4,z5,z6,z7,z8,z9,hd'];rfl⟩
 have c1:((p:Int)==E.n.l)=false:=al (Ne.symm c);exact⟨_,by simp[axV,jU,hi,aO.a,hp,hbs,c1,z1,z2,z3,z4,z5,z6,z7,z8,z9,hd'];rfl⟩
theorem XG(E:uw)(h:Tk E 0 [])(hA:E.n.l=-1∧E.n.r=-1)(hc:mV E)(σ1:ah)
  (hask:du code E.ask [.ptr 0 0 0 0] (E.st .yz .yz E.r0 (-1) (-1))=some (.bool false,σ1)):∃σ',E.call=some (.bool false,σ'):=by
 unfold uw.call;rw[bR uA rfl];obtain⟨hp,hbs,z1,z2,z3,z4,z5,z7,z8,z9,hd',zw,z6⟩:=iP h;have hi:=h.hi;have hB:=h.hB;simp only[aO.a]at hbs;have c1:((-1)==E.n.l)=true:=by simp[hA.1]
 have c2:((-1)==E.n.r)=true:=by simp[hA.2]
 rcases hc with⟨q1,q2,q3⟩|⟨q1,q2,q3⟩|⟨q1,q2,q3⟩<;>exact⟨_,by simp[axV,jU,hi,aO.a,hp,hbs,c1,c2,z1,z2,z3,z4,z5,z6,z7,z8,z9,hd',zw,iI,bj,ar,ap,hB,Yk,XX,q1,q2,q3,hask];rfl⟩
theorem PL(E:uw)(h:Tk E 0 [])(hA:E.n.l=-1∧E.n.r=-1)(hc:FA E):∃σ',E.call=some (.bool false,σ'):=by
 unfold uw.call;rw[bR uA rfl];obtain⟨hp,hbs,z1,z2,z3,z4,z5,z7,z8,z9,hd',zw,z6⟩:=iP h;have hi:=h.hi;have hB:=h.hB;simp only[aO.a]at hbs;have c1:((-1)==E.n.l)=true:=by simp[hA.1]
 have c2:((-1)==E.n.r)=true:=by simp[hA.2]
 rcases hc with⟨q1,q2,q3⟩|⟨q1,q2,q3⟩<;>exact⟨_,by simp[axV,jU,hi,aO.a,hp,hbs,c1,c2,z1,z2,z3,z4,z5,z6,z7,z8,z9,hd',zw,iI,bj,ar,ap,hB,Yk,XX,q1,q2,q3];rfl⟩
theorem Yb(E:uw)(p:Nat)(h:Tk E 1 [p])(hA:E.n.l=(p:Int)∧E.n.r=-1)(ka:eJ Int)(hka:E.xX[p]?=some ka)(hla:ka.l.length≤most)(h4:((E.n.op != 11)&&lG ka.l)=false)(hc:mV E)(σ1:ah)
  (hask:du code E.ask [.ptr 0 0 0 0] (E.st (.wh ka.b (bd ka.l)) .yz E.r0 (p:Int) (-1))=some (.bool false,σ1)):∃σ',E.call=some (.bool false,σ'):=by
 unfold uw.call;rw[bR uA rfl];obtain⟨hp,hbs,z1,z2,z3,z4,z5,z7,z8,z9,hd',zw,z6,y0⟩:=gV h;have hi:=h.hi;have hB:=h.hB;simp only[aO.a]at hbs;have c1:((p:Int)==E.n.l)=true:=by simp[hA.1]
 have c2:((-1)==E.n.r)=true:=by simp[hA.2]
 obtain⟨hla0,hga⟩:=aaN.1 hka;have ga:(E.n.op != 11)=true→∀b,az I.qhc [.wh b (bd ka.l),ac 4]=some (.bool false):=fun e b=>by
  have:=lk b ka.l 4 hla
  rwa [show (ka.l.any fun y=>4==y)=false by rw[e]at h4;exact h4]at this
 rcases hc with⟨q1,q2,q3⟩|⟨q1,q2,q3⟩|⟨q1,q2,q3⟩<;>cases h12:(E.n.op != 11)<;>first|(have ga:=ga h12;exact⟨_,by simp[axV,jU,hi,aO.a,hp,hbs,c1,c2,z1,z2,z3,z4,z5,z6,z7,z8,z9,hd',zw,iI,bj,ar,ap,hB,Yk,XX,y0,hga,hla0,q1,q2,q3,hask,h12,ga];rfl⟩)|exact⟨_,by simp[axV,jU,hi,aO.a,hp,hbs,c1,c2,z1,z2,z3,z4,z5,z6,z7,z8,z9,hd',zw,iI,bj,ar,ap,hB,Yk,XX,y0,hga,hla0,q1,q2,q3,hask,h12];rfl⟩
theorem QJ(E:uw)(p:Nat)(h:Tk E 1 [p])(hA:E.n.l=(p:Int)∧E.n.r=-1)(ka:eJ Int)(hka:E.xX[p]?=some ka)(hla:ka.l.length≤most)(h4:((E.n.op != 11)&&lG ka.l)=false)(hc:FA E):∃σ',E.call=some (.bool false,σ'):=by
 unfold uw.call;rw[bR uA rfl];obtain⟨hp,hbs,z1,z2,z3,z4,z5,z7,z8,z9,hd',zw,z6,y0⟩:=gV h;have hi:=h.hi;have hB:=h.hB;simp only[aO.a]at hbs;have c1:((p:Int)==E.n.l)=true:=by simp[hA.1]
 have c2:((-1)==E.n.r)=true:=by simp[hA.2]
 obtain⟨hla0,hga⟩:=aaN.1 hka;have ga:(E.n.op != 11)=true→∀b,az I.qhc [.wh b (bd ka.l),ac 4]=some (.bool false):=fun e b=>by
  have:=lk b ka.l 4 hla
  rwa [show (ka.l.any fun y=>4==y)=false by rw[e]at h4;exact h4]at this
 rcases hc with⟨q1,q2,q3⟩|⟨q1,q2,q3⟩<;>cases h12:(E.n.op != 11)<;>first|(have ga:=ga h12;exact⟨_,by simp[axV,jU,hi,aO.a,hp,hbs,c1,c2,z1,z2,z3,z4,z5,z6,z7,z8,z9,hd',zw,iI,bj,ar,ap,hB,Yk,XX,y0,hga,hla0,q1,q2,q3,h12,ga];rfl⟩)|exact⟨_,by simp[axV,jU,hi,aO.a,hp,hbs,c1,c2,z1,z2,z3,z4,z5,z6,z7,z8,z9,hd',zw,iI,bj,ar,ap,hB,Yk,XX,y0,hga,hla0,q1,q2,q3,h12];rfl⟩
theorem Oc(E:uw)(p:Nat)(h:Tk E 1 [p])(hA:E.n.l=(p:Int)∧E.n.r=-1)(ka:eJ Int)(hka:E.xX[p]?=some ka)(hla:ka.l.length≤most)(h4:((E.n.op != 11)&&lG ka.l)=true):∃σ',E.call=some (.bool false,σ'):=by
 unfold uw.call;rw[bR uA rfl];obtain⟨hp,hbs,z1,z2,z3,z4,z5,z7,z8,z9,hd',zw,z6,y0⟩:=gV h;have hi:=h.hi;have hB:=h.hB;simp only[aO.a]at hbs;have c1:((p:Int)==E.n.l)=true:=by simp[hA.1]
 have c2:((-1)==E.n.r)=true:=by simp[hA.2]
 obtain⟨hla0,hga⟩:=aaN.1 hka;have h12:(E.n.op != 11)=true:=(amK h4).1;have ga:=fun b=>lk b ka.l 4 hla;rw[show (ka.l.any fun y=>4==y)=true from (amK h4).2]at ga;exact⟨_,by simp[axV,jU,hi,aO.a,hp,hbs,c1,c2,z1,z2,z3,z4,z5,z6,z7,z8,z9,hd',iI,bj,ar,ap,hB,Yk,XX,y0,hga,hla0,h12,ga];rfl⟩
theorem Q0(E:uw)(h:Tk E 0 [])(hA:E.n.l=-1∧E.n.r=-1)(hc:mV E)(r:aa)(bf:Bool)(res:List Int)(X:ah)(hR:A8 X r bf res)
  (hask:du code E.ask [.ptr 0 0 0 0] (E.st .yz .yz E.r0 (-1) (-1))=some (.bool true,E.st .yz .yz r (-1) (-1)++X)) (hw:16<res.length):∃σ',E.call=some (.bool false,σ'):=by
 unfold uw.call;rw[bR uA rfl];obtain⟨hp,hbs,z1,z2,z3,z4,z5,z7,z8,z9,hd',zw,z6⟩:=iP h;have hi:=h.hi;have hB:=h.hB;simp only[aO.a]at hbs;have c1:((-1)==E.n.l)=true:=by simp[hA.1]
 have c2:((-1)==E.n.r)=true:=by simp[hA.2]
 have hw':(16:Int)<(res.length:Int):=by omega
 rcases hc with⟨q1,q2,q3⟩|⟨q1,q2,q3⟩|⟨q1,q2,q3⟩<;>exact⟨_,by simp[axV,jU,hi,aO.a,hp,hbs,c1,c2,z1,z2,z3,z4,z5,z6,z7,z8,z9,hd',zw,iI,bj,ar,ap,hB,Yk,XX,q1,q2,q3,hask,hw',-jn,sr,sQ,oS,xi,hR.len,hR.nc,hR.ag];rfl⟩
theorem SP(E:uw)(h:Tk E 0 [])(hkn:E.xX.length+1≤most)(hol2:E.opn.length+1≤most)(hA:E.n.l=-1∧E.n.r=-1)(hc:mV E)(r:aa)(bf:Bool)(res:List Int)(X:ah)(hR:A8 X r bf res)
  (hask:du code E.ask [.ptr 0 0 0 0] (E.st .yz .yz E.r0 (-1) (-1))=some (.bool true,E.st .yz .yz r (-1) (-1)++X)) (hw:res.length≤16) :
  E.call=some (.bool true,gF E.bn E.xQ (E.ep1+1) (E.xX.length+1) (E.ep2+1) (E.opn.length-0+1) E.n .yz .yz r::.arr 1 (E.ep1+1) (E.xX.map (eJ.c (.int .i64))++[r])::.arr 1 (E.ep2+1) (kC (E.opn.take (E.opn.length-0))++[ac E.i])::E.B::qC E.n::fB (-1) (-1)::X):=by
 unfold uw.call;rw[bR uA rfl];obtain⟨hp,hbs,z1,z2,z3,z4,z5,z7,z8,z9,hd',zw,z6⟩:=iP h;have hi:=h.hi;have hB:=h.hB;simp only[aO.a]at hbs;have c1:((-1)==E.n.l)=true:=by simp[hA.1]
 have c2:((-1)==E.n.r)=true:=by simp[hA.2]
 have hw':¬((16:Int)<(res.length:Int)):=by omega
 have hm2:E.opn.length-0+1≤most:=by omega
 have hol:=h.hol;rcases hc with⟨q1,q2,q3⟩|⟨q1,q2,q3⟩|⟨q1,q2,q3⟩<;>simp[axV,jU,hi,aO.a,hp,hbs,c1,c2,z1,z2,z3,z4,z5,z6,z7,z8,z9,hd',zw,iI,bj,ar,ap,hB,Yk,XX,q1,q2,q3,hask,hw',-jn,sr,sQ,oS,xi,hR.len,hR.nc,hR.ag,append,hkn,hm2,hol,hol2]
theorem PH(E:uw)(p:Nat)(h:Tk E 1 [p])(hA:E.n.l=(p:Int)∧E.n.r=-1)(ka:eJ Int)(hka:E.xX[p]?=some ka)(hla:ka.l.length≤most)(h4:((E.n.op != 11)&&lG ka.l)=false)(hc:mV E)(r:aa)(bf:Bool)(res:List Int)(X:ah)(hR:A8 X r bf res)
  (hask:du code E.ask [.ptr 0 0 0 0] (E.st (.wh ka.b (bd ka.l)) .yz E.r0 (p:Int) (-1))=some (.bool true,E.st (.wh ka.b (bd ka.l)) .yz r (p:Int) (-1)++X)) (hw:16<res.length):∃σ',E.call=some (.bool false,σ'):=by
 unfold uw.call;rw[bR uA rfl];obtain⟨hp,hbs,z1,z2,z3,z4,z5,z7,z8,z9,hd',zw,z6,y0⟩:=gV h;have hi:=h.hi;have hB:=h.hB;simp only[aO.a]at hbs;have c1:((p:Int)==E.n.l)=true:=by simp[hA.1]
 have c2:((-1)==E.n.r)=true:=by simp[hA.2]
 obtain⟨hla0,hga⟩:=aaN.1 hka;have ga:(E.n.op != 11)=true→∀b,az I.qhc [.wh b (bd ka.l),ac 4]=some (.bool false):=fun e b=>by
  have:=lk b ka.l 4 hla
  rwa [show (ka.l.any fun y=>4==y)=false by rw[e]at h4;exact h4]at this
 have hw':(16:Int)<(res.length:Int):=by omega
 rcases hc with⟨q1,q2,q3⟩|⟨q1,q2,q3⟩|⟨q1,q2,q3⟩<;>cases h12:(E.n.op != 11)<;>first|(have ga:=ga h12;exact⟨_,by simp[axV,jU,hi,aO.a,hp,hbs,c1,c2,z1,z2,z3,z4,z5,z6,z7,z8,z9,hd',zw,iI,bj,ar,ap,hB,Yk,XX,y0,hga,hla0,q1,q2,q3,hask,hw',-jn,sr,sQ,oS,xi,hR.len,hR.nc,hR.ag,h12,ga];rfl⟩)|exact⟨_,by simp[axV,jU,hi,aO.a,hp,hbs,c1,c2,z1,z2,z3,z4,z5,z6,z7,z8,z9,hd',zw,iI,bj,ar,ap,hB,Yk,XX,y0,hga,hla0,q1,q2,q3,hask,hw',-jn,sr,sQ,oS,xi,hR.len,hR.nc,hR.ag,h12];rfl⟩
theorem Ri(E:uw)(p:Nat)(h:Tk E 1 [p])(hkn:E.xX.length+1≤most)(hol2:E.opn.length+1≤most)(hA:E.n.l=(p:Int)∧E.n.r=-1)(ka:eJ Int)(hka:E.xX[p]?=some ka)(hla:ka.l.length≤most)(h4:((E.n.op != 11)&&lG ka.l)=false)(hc:mV E)(r:aa)(bf:Bool)(res:List Int)(X:ah)(hR:A8 X r bf res)
  (hask:du code E.ask [.ptr 0 0 0 0] (E.st (.wh ka.b (bd ka.l)) .yz E.r0 (p:Int) (-1))=some (.bool true,E.st (.wh ka.b (bd ka.l)) .yz r (p:Int) (-1)++X)) (hw:res.length≤16) :
  E.call=some (.bool true,gF E.bn E.xQ (E.ep1+1) (E.xX.length+1) (E.ep2+1) (E.opn.length-1+1) E.n (.wh ka.b (bd ka.l)) .yz r::.arr 1 (E.ep1+1) (E.xX.map (eJ.c (.int .i64))++[r])::.arr 1 (E.ep2+1) (kC (E.opn.take (E.opn.length-1))++[ac E.i])::E.B::qC E.n::fB (p:Int) (-1)::X):=by
 unfold uw.call;rw[bR uA rfl];obtain⟨hp,hbs,z1,z2,z3,z4,z5,z7,z8,z9,hd',zw,z6,y0⟩:=gV h;have hi:=h.hi;have hB:=h.hB;simp only[aO.a]at hbs;have c1:((p:Int)==E.n.l)=true:=by simp[hA.1]
 have c2:((-1)==E.n.r)=true:=by simp[hA.2]
 obtain⟨hla0,hga⟩:=aaN.1 hka;have ga:(E.n.op != 11)=true→∀b,az I.qhc [.wh b (bd ka.l),ac 4]=some (.bool false):=fun e b=>by
  have:=lk b ka.l 4 hla
  rwa [show (ka.l.any fun y=>4==y)=false by rw[e]at h4;exact h4]at this
 have hw':¬((16:Int)<(res.length:Int)):=by omega
 have hm2:E.opn.length-1+1≤most:=by omega
 have hol:=h.hol;rcases hc with⟨q1,q2,q3⟩|⟨q1,q2,q3⟩|⟨q1,q2,q3⟩<;>cases h12:(E.n.op != 11)<;>first|(have ga:=ga h12;simp[axV,jU,hi,aO.a,hp,hbs,c1,c2,z1,z2,z3,z4,z5,z6,z7,z8,z9,hd',zw,iI,bj,ar,ap,hB,Yk,XX,y0,hga,hla0,q1,q2,q3,hask,hw',-jn,sr,sQ,oS,xi,hR.len,hR.nc,hR.ag,append,hkn,hm2,hol,hol2,h12,ga])|simp[axV,jU,hi,aO.a,hp,hbs,c1,c2,z1,z2,z3,z4,z5,z6,z7,z8,z9,hd',zw,iI,bj,ar,ap,hB,Yk,XX,y0,hga,hla0,q1,q2,q3,hask,hw',-jn,sr,sQ,oS,xi,hR.len,hR.nc,hR.ag,append,hkn,hm2,hol,hol2,h12]
abbrev kV:Nat:=4294967296
structure NFit (n:aO):Prop where
 xX:n.xX.length≤kV
 cond:n.cond.length≤kV
 keys:n.keys.length≤kV
 yo:n.yo.length≤kV
 args:∀g∈n.yo,g.arg.length≤kV
 items:n.items.length≤kV
 exprs:∀e∈n.items,e.l.length≤kV
 ords:n.ords.length≤kV
structure NFew (n:aO):Prop extends NFit n where
 few:n.op=9∨n.op=10∨n.op=11
def ya(xQ:List aO)(n:aO):List (eJ Int)→Option (eJ Int)
 |[]=>if n.op=1 then (if Z1 n then some ⟨n.bk,n.xX⟩ else none) else if n.op=9 then (if gg n then some ⟨n.bk,n.xX⟩ else none) else none
 |[a]=>
  if n.op=3 then (if Ll n.cond a.l then some a else none)
  else if n.op=4 then ((fg a.l n.keys).bind fun ks=>if ei n a.l then some ⟨false,ks++n.yo.map fun g=>(jM a.l g).2⟩ else none)
  else if n.op=5 then ((B8 a.l n.items).bind fun ks=>if 0<ks.length then some ⟨false,ks⟩ else none)
  else if n.op=6 then some a
  else if n.op=8 then (if sortF n a.l then some a else none)
  else if n.op=10 then ((fg a.l n.keys).bind fun ks=>if ei n a.l then some ⟨false,ks++n.yo.map (rp a.l)⟩ else none)
  else if n.op=11 then (xQ[n.l.toNat]?).bind fun m=>if jr n m a.l&&(dT a.l 0 n.keys&&dU a.l n.keys.length n.yo) then some ⟨false,iF n.keys.length n.yo a.l⟩ else none
  else none
 |[a,b]=>
  if n.op=2 then (if Ll n.cond (a.l++b.l) then some ⟨false,a.l++b.l⟩ else none)
  else if n.op=7 then (if a.l.length=b.l.length then (mr a.l b.l).map fun ks=>⟨false,ks⟩ else none)
  else none
 |_=>none
def wl(op:Int):aa:=
 if op=1 then .fn 177 [] [] else if op=9 then .fn 178 [] [] else if op=2 then .fn 179 [] [] else if op=3 then .fn 180 [] [] else if op=4 then .fn 181 [] [] else if op=10 then .fn 182 [] [] else if op=11 then .fn 183 [] [] else
 if op=5 then .fn 184 [] [] else if op=6 then .fn 185 [] [] else if op=7 then .fn 186 [] [] else if op=8 then .fn 187 [] [] else .nilf
def ab4(ask:aa)(L:aa→Obj)(r0:aa)(τ:ah)(o:Option (eJ Int)):Prop:=
 match o with
 |none=>∃σ1,du code ask [.ptr 0 0 0 0] (L r0::τ)=some (.bool false,σ1)
 |some s=>∃r X,du code ask [.ptr 0 0 0 0] (L r0::τ)=some (.bool true,L r::τ++X)∧A8 X r s.b s.l
theorem Oy{ask:aa}{L:aa→Obj}{r0:aa}{τ:ah}{t:Bool}{s:eJ Int}{r:aa}{X:ah}
  (h:du code ask [.ptr 0 0 0 0] (L r0::τ)=some (.bool t,L r::τ++X)) (hr:A8 X r s.b s.l):ab4 ask L r0 τ (if t then some s else none):=by
 cases t with
 |true=>exact⟨r,X,h,hr⟩
 |false=>exact⟨_,h⟩
theorem asc(bn:Bool)(xQ:List aO)(ep1 m1 ep2 m2:Nat)(n:aO)(a b r0:aa)(τ:ah)(hn:NFew n)(hop:bD n.op=0) :
  ab4 (wl n.op) (gF bn xQ ep1 m1 ep2 m2 n a b) r0 τ (ya xQ n []):=by
 have hk:n.xX.length≤most:=als hn.xX (by decide);have h2:n.op=9:=by
  rcases hn.few with h|h|h
  ·exact h
  ·rw[h]at hop;exact absurd hop (by decide)
  rw[h]at hop;exact absurd hop (by decide)
 have hs:=Rk (.wh bn (xQ.map aO.a)) (.sl 1 ep1 0 m1) (.sl 2 ep2 0 m2) n a b r0 τ hk;have h:=Oy (ask:=wl n.op) (L:=gF bn xQ ep1 m1 ep2 m2 n a b) (r0:=r0) (τ:=τ) (X:=[]) (s:=⟨n.bk,n.xX⟩) (t:=gg n) (by rw[auE,show wl n.op=.fn 178 [] [] by simp[wl,h2]];simpa using hs) (agV [] _ _);simpa [ya,h2] using h
theorem UF{op:Int}(h:bD op=1):op=3∨op=4∨op=5∨op=6∨op=8∨op=10∨op=11:=by
 unfold bD at h;split at h
 ·omega
 split at h
 ·omega
 split at h
 ·omega
 omega
theorem ar8(bn:Bool)(xQ:List aO)(ep1 m1 ep2 m2:Nat)(n:aO)(a:eJ Int)(r0:aa)(τ:ah)(hτ:lH τ)(hl:τ.length=5)(hn:NFew n)(hop:bD n.op=1)(hL:n.op=11→0≤n.l∧n.l.toNat < xQ.length)(ha:a.l.length≤kV) :
  ab4 (wl n.op) (gF bn xQ ep1 m1 ep2 m2 n (.wh a.b (bd a.l)) .yz) r0 τ (ya xQ n [a]):=by
 have hm:kV≤most:=by decide
 have hmm:kV+kV≤most:=by decide
 have ha':=als ha hm;have hkg:n.keys.length+n.yo.length≤most:=als (Nat.add_le_add hn.keys hn.yo) hmm;have hl2:2≤τ.length:=by omega
 rcases UF hop with h|h|h|h|h|h|h
 ·exact absurd hn.few (by omega)
 ·exact absurd hn.few (by omega)
 ·exact absurd hn.few (by omega)
 ·exact absurd hn.few (by omega)
 ·exact absurd hn.few (by omega)
 ·have hs:=Nm bn xQ ep1 m1 ep2 m2 n a.b a.l r0 τ hτ hl2 (als hn.keys hm) (als hn.yo hm) hkg (fun g hg=>als (hn.args g hg) hm) ha';have ef:wl n.op=.fn 182 [] []:=by simp[wl,h]
  rw[ef];cases hq:fg a.l n.keys with
  |none=>
   rw[hq]at hs;have e:ya xQ n [a]=none:=by simp[ya,h,hq]
   rw[e];exact hs
  |some ks=>
   rw[hq]at hs;have hlen:=iD hq;have e:ya xQ n [a]=if ei n a.l then some ⟨false,ks++n.yo.map (rp a.l)⟩ else none:=by simp[ya,h,hq]
   rw[e];cases hg:ei n a.l with
   |false=>
    rw[hg]at hs;exact hs
   |true=>
    rw[hg]at hs;have hr:=V6 (n.keys.length+n.yo.length) (ks++n.yo.map (rp a.l)) (qC n) [];rw[show (ks++n.yo.map (rp a.l)).length=n.keys.length+n.yo.length by simp[hlen]]at hr;rw[hl]at hs;exact⟨_,_,hs,hr⟩
 obtain⟨h0,h1⟩:=hL h;have hmm:xQ[n.l.toNat]?=some xQ[n.l.toNat]:=ad3 h1;have ef:wl n.op=.fn 183 [] []:=by simp[wl,h]
 have e:ya xQ n [a]=if jr n xQ[n.l.toNat] a.l&&(dT a.l 0 n.keys&&dU a.l n.keys.length n.yo) then some ⟨false,iF n.keys.length n.yo a.l⟩ else none:=by simp[ya,h,hmm]
 rw[e,ef];cases hh:jr n xQ[n.l.toNat] a.l with
 |false=>
  exact YI bn xQ ep1 m1 ep2 m2 n _ a.b a.l r0 τ h0 hmm hkg hh
 |true=>
  have hs:=Us bn xQ ep1 m1 ep2 m2 n _ a.b a.l r0 τ hτ hl2 h0 hmm hkg ha' hh;rw[hl]at hs;have hr:=V6 0 (iF n.keys.length n.yo a.l) (qC n) [];rw[tS]at hr;rw[al5];exact Oy hs hr
def sn:eJ Int:=⟨false,[]⟩
def fV(xQ:List aO)(i:Nat)(n:aO)(xX:List (eJ Int))(opn:List Nat):Option (eJ Int×List Nat):=
 match je n opn with
 |none=>none
 |some ps=>
  if (ps.any fun p=>(n.op != 11)&&lG (xX.getD p sn).l)=true∨mu n i xQ.length=false then none else
  match ya xQ n (ps.map fun p=>xX.getD p sn) with
  |none=>none
  |some res=>if 16<res.l.length then none else some (res,opn.take (opn.length-ps.length)++[i])
def GR(xX:List (eJ Int)):List Nat→aa
 |p::_=>.wh (xX.getD p sn).b (bd (xX.getD p sn).l)
 |[]=>.yz
def Gn(xX:List (eJ Int)):List Nat→aa
 |[_,q]=>.wh (xX.getD q sn).b (bd (xX.getD q sn).l)
 |_=>.yz
def Xo(bn:Bool)(xQ:List aO)(ep1 ep2:Nat)(xX:List (eJ Int))(opn:List Nat)(n:aO)(B:Obj)(i:Nat)(call:Option (aa×ah)):Option (eJ Int×List Nat)→Prop
 |none=>∃σ',call=some (.bool false,σ')
 |some (s,o')=>∃ps r AT X,je n opn=some ps∧call=some (.bool true,
   gF bn xQ (ep1+1) (xX.length+1) (ep2+1) o'.length n (GR xX ps) (Gn xX ps) r::.arr 1 (ep1+1) (xX.map (eJ.c (.int .i64))++[r])::.arr 1 (ep2+1) (kC o')::B::qC n::AT::X)∧A8 X r s.b s.l
theorem A5(E:uw)(hi:E.i<E.xQ.length):(mu E.n E.i E.xQ.length=true∧mV E)∨(mu E.n E.i E.xQ.length=false∧FA E):=by
 have e:((E.i:Int) != ((E.xQ.length:Int)-1))=(E.i != E.xQ.length-1):=by
  rw[arh];simp only[atU,ne_eq];constructor<;>intro h<;>omega
 unfold mV FA mu;rw[e];cases (E.n.op==8)<;>cases (E.n.op==10)<;>cases (E.i != E.xQ.length-1)<;>simp
abbrev uw.is(E:uw):Prop:=Xo E.bn E.xQ E.ep1 E.ep2 E.xX E.opn E.n E.B E.i E.call (fV E.xQ E.i E.n E.xX E.opn)
theorem amP(E:uw)(h:Tk E 0 [])(ha:E.ask=wl E.n.op)(hil:E.xQ.length≤kV)(hol:E.opn.length+1≤most)(hkl:E.xX.length+1≤most)(hkn:E.xX.length≤E.xQ.length)
  (hpre:je E.n E.opn=if E.n.l=-1∧E.n.r=-1 then some [] else none) (hk:∀s∈E.xX,s.l.length≤kV) (hn:NFew E.n):E.is:=by
 have hm:kV≤most:=by decide
 have hlti:=(aaN.1 h.hi).1;have hB:=h.hB;unfold uw.is fV;by_cases hA:E.n.l=-1∧E.n.r=-1
 ·rw[if_pos hA]at hpre;rw[hpre];simp only[af6,ajo,aub,auR,avM];rcases A5 E hlti with⟨hr,hc⟩|⟨hr,hc⟩
  ·rw[if_neg (by simp[hr])];have hask:=asc E.bn E.xQ E.ep1 E.xX.length E.ep2 E.opn.length E.n .yz .yz E.r0 [.arr 1 E.ep1 (E.xX.map (eJ.c (.int .i64))),.arr 1 E.ep2 (kC E.opn),E.B,qC E.n,fB (-1) (-1)] hn h.hop;rw[←ha]at hask;cases ho:ya E.xQ E.n [] with
   |none=>
    rw[ho]at hask;obtain⟨σ1,hask⟩:=hask;exact XG E h hA hc σ1 hask
   |some s=>
    rw[ho]at hask;obtain⟨r,X,hask,hR⟩:=hask;by_cases hw:16<s.l.length
    ·simp only[if_pos hw];exact Q0 E h hA hc r s.b s.l X hR hask hw
    simp only[if_neg hw];refine⟨[],r,fB (-1) (-1),X,hpre,?_,hR⟩;simp only[GR,Gn,aog,al4,aiG,ak3,arz,kC,af6,ajo,apx,ak3];rw[atw (Nat.sub_le _ _)];exact SP E h hkl hol hA hc r s.b s.l X hR hask (by omega)
  rw[if_pos (.inr hr)];exact PL E h hA hc
 rw[if_neg hA]at hpre;rw[hpre];exact Tl E h hA
theorem aqz(E:uw)(p:Nat)(h:Tk E 1 [p])(ha:E.ask=wl E.n.op)(hil:E.xQ.length≤kV)(hol:E.opn.length+1≤most)(hkl:E.xX.length+1≤most)(hkn:E.xX.length≤E.xQ.length)
  (hpre:je E.n E.opn=if E.n.l=(p:Int)∧E.n.r=-1 then some [p] else none) (hp:p<E.xX.length) (hk:∀s∈E.xX,s.l.length≤kV) (hn:NFew E.n):E.is:=by
 have hm:kV≤most:=by decide
 have hlti:=(aaN.1 h.hi).1;have hB:=h.hB;unfold uw.is fV;by_cases hA:E.n.l=(p:Int)∧E.n.r=-1
 ·rw[if_pos hA]at hpre;rw[hpre];obtain⟨kp,hkp⟩:∃s,E.xX[p]?=some s:=⟨_,ad3 hp⟩;have ep:E.xX.getD p sn=kp:=by rw[ad4,hkp];rfl
  have lp:=hk kp (aeb hkp);simp only[af6,ajo,aub,auR,ep,avM];rcases Bool.eq_false_or_eq_true ((E.n.op != 11)&&lG kp.l) with fp|fp
  ·rw[if_pos (.inl (by simp only[fp,Bool.true_or]))];exact Oc E p h hA kp hkp (als lp hm) fp
  rcases A5 E hlti with⟨hr,hc⟩|⟨hr,hc⟩
  ·rw[if_neg (by simp[hr,fp])];have hask:=ar8 E.bn E.xQ E.ep1 E.xX.length E.ep2 E.opn.length E.n kp E.r0 [.arr 1 E.ep1 (E.xX.map (eJ.c (.int .i64))),.arr 1 E.ep2 (kC E.opn),E.B,qC E.n,fB (p:Int) (-1)] (fun base σ=>by rw[af6,af6,af6,hB];simp[ap]) rfl hn h.hop (fun _=>by rw[hA.1];exact⟨by omega,by simp;omega⟩) lp;rw[←ha]at hask;cases ho:ya E.xQ E.n [kp] with
   |none=>
    rw[ho]at hask;obtain⟨σ1,hask⟩:=hask;exact Yb E p h hA kp hkp (als lp hm) fp hc σ1 hask
   |some s=>
    rw[ho]at hask;obtain⟨r,X,hask,hR⟩:=hask;by_cases hw:16<s.l.length
    ·simp only[if_pos hw];exact PH E p h hA kp hkp (als lp hm) fp hc r s.b s.l X hR hask hw
    simp only[if_neg hw];refine⟨[p],r,fB (p:Int) (-1),X,hpre,?_,hR⟩;simp only[GR,Gn,ep,aog,al4,aiG,ak3,arz,kC,af6,ajo,apx,Nat.reduceAdd];rw[atw (Nat.sub_le _ _)];exact Ri E p h hkl hol hA kp hkp (als lp hm) fp hc r s.b s.l X hR hask (by omega)
  rw[if_pos (.inr hr)];exact QJ E p h hA kp hkp (als lp hm) fp hc
 rw[if_neg hA]at hpre;rw[hpre];exact Sd E p h hA
theorem TM(bn:Bool)(xQ:List aO)(ep1 ep2:Nat)(xX:List (eJ Int))(opn:List Nat)(n0:qU)(n:aO)(a0 b0 r0:aa)(B:Obj)(i:Nat)(hi:xQ[i]?=some n)(hil:xQ.length≤kV)(hol:opn.length+1≤most)(hkl:xX.length+1≤most)(hkn:xX.length≤xQ.length)
  (ho:∀p∈opn,p<xX.length) (hk:∀s∈xX,s.l.length≤kV) (hn:NFew n) (hB:∀base σ,ap base σ B=B) :
  Xo bn xQ ep1 ep2 xX opn n B i (bK code I.qfv [.ptr 0 0 0 0,ac i,wl n.op] (jO bn xQ ep1 ep2 xX opn n0 a0 b0 r0 B)) (fV xQ i n xX opn):=by
 have hm:kV≤most:=by decide
 by_cases hb:bD n.op<0∨(opn.length:Int)<bD n.op∨iM n=false
 ·have e:fV xQ i n xX opn=none:=by
   unfold fV je;rw[if_pos hb]
  rw[e];exact Sb bn xQ ep1 ep2 xX opn n0 n a0 b0 r0 B _ i hi (als hn.keys hm) (als hn.yo hm) hb
 have hbl:iM n=true:=by
  cases h:iM n with
  |true=>rfl
  |false=>exact absurd (.inr (.inr h)) hb
 have hpl:=xv n.op;have hpre:je n opn=match opn.drop (opn.length-(bD n.op).toNat) with
  |[]=>if n.l=-1∧n.r=-1 then some [] else none
  |[p]=>if n.l=p∧n.r=-1 then some [p] else none
  |[p,q]=>if n.l=p∧n.r=q then some [p,q] else none
  |_=>none:=by
  unfold je;exact if_neg hb
 have hmem:∀p∈opn.drop (opn.length-(bD n.op).toNat),p<xX.length:=fun p hp=>ho p (asW hp);have hlen:(opn.drop (opn.length-(bD n.op).toNat)).length=(bD n.op).toNat:=by
  rw[atj];omega
 have tk:∀(k:Nat) (ps:List Nat),bD n.op=k→opn.drop (opn.length-k)=ps→Tk ⟨bn,xQ,ep1,ep2,xX,opn,n0,a0,b0,r0,B,wl n.op,i,n⟩ k ps:=fun k ps h1 h2=>
  ⟨hi,als hil hm,by show opn.length≤most;omega,als hn.keys hm,als hn.yo hm,h1,by show k≤opn.length;omega,h2,hbl,hB⟩
 have h012:bD n.op=0∨bD n.op=1∨bD n.op=2:=by omega
 rcases h012 with h|h|h
 ·have e:(bD n.op).toNat=0:=by omega
  rw[e]at hpre hmem hlen;generalize hd:opn.drop (opn.length-0)=l at *
  match l,hlen with
  |[],_=>exact amP ⟨bn,xQ,ep1,ep2,xX,opn,n0,a0,b0,r0,B,wl n.op,i,n⟩ (tk 0 [] h hd) rfl hil hol hkl hkn hpre hk hn
 ·have e:(bD n.op).toNat=1:=by omega
  rw[e]at hpre hmem hlen;generalize hd:opn.drop (opn.length-1)=l at *
  match l,hlen with
  |[p],_=>exact aqz ⟨bn,xQ,ep1,ep2,xX,opn,n0,a0,b0,r0,B,wl n.op,i,n⟩ p (tk 1 [p] h hd) rfl hil hol hkl hkn hpre (hmem p (by simp)) hk hn
 exfalso;rcases hn.few with h'|h'|h'<;>(rw[h']at h;exact absurd h (by decide))
def HS:List (aa×aa):=[(ac 1,.fn 177 [] []),(ac 9,.fn 178 [] []),(ac 2,.fn 179 [] []),(ac 3,.fn 180 [] []),(ac 4,.fn 181 [] []),(ac 10,.fn 182 [] []),(ac 11,.fn 183 [] []),(ac 5,.fn 184 [] []),(ac 6,.fn 185 [] []),(ac 7,.fn 186 [] []),(ac 8,.fn 187 [] [])]
theorem Dh:az I.qfm []=some (.imap false HS):=by
 rw[am apU rfl];simp[aAq,aiC,HS,ng,mput,Kh]
theorem Qs(op:Int):∃r,lookup (ac op) HS=some r∧r.getD .nilf=wl op:=by
 unfold HS wl;by_cases h1:op=1
 ·subst h1;exact⟨some _,rfl,rfl⟩
 by_cases h9:op=9
 ·subst h9;exact⟨some _,rfl,rfl⟩
 by_cases h2:op=2
 ·subst h2;exact⟨some _,rfl,rfl⟩
 by_cases h3:op=3
 ·subst h3;exact⟨some _,rfl,rfl⟩
 by_cases h4:op=4
 ·subst h4;exact⟨some _,rfl,rfl⟩
 by_cases h10:op=10
 ·subst h10;exact⟨some _,rfl,rfl⟩
 by_cases h11:op=11
 ·subst h11;exact⟨some _,rfl,rfl⟩
 by_cases h5:op=5
 ·subst h5;exact⟨some _,rfl,rfl⟩
 by_cases h6:op=6
 ·subst h6;exact⟨some _,rfl,rfl⟩
 by_cases h7:op=7
 ·subst h7;exact⟨some _,rfl,rfl⟩
 by_cases h8:op=8
 ·subst h8;exact⟨some _,rfl,rfl⟩
 refine⟨none,?_,?_⟩
 ·simp[lookup,Kh,al (Ne.symm h1),al (Ne.symm h9),al (Ne.symm h2),al (Ne.symm h3),al (Ne.symm h4),al (Ne.symm h10),al (Ne.symm h11),al (Ne.symm h5),al (Ne.symm h6),al (Ne.symm h7),al (Ne.symm h8)]
 simp[h1,h9,h2,h3,h4,h10,h11,h5,h6,h7,h8]
structure dI where
 xX:List (eJ Int)
 opn:List Nat
 z0:qU
 a0:aa
 b0:aa
 r0:aa
def Hn(xQ:List aO)(i:Nat)(n:aO)(s:dI):dI⊕Nat:=
 match fV xQ i n s.xX s.opn with
 |none=>.inr i
 |some (x,o')=>.inl ⟨s.xX++[x],o',n.z,GR s.xX ((je n s.opn).getD []),Gn s.xX ((je n s.opn).getD []),.wh x.b (bd x.l)⟩
@[simp] theorem aod(xX:List (eJ Int))(ps:List Nat)(base:Nat)(σ:ah)(m:Nat):fz false true base σ (m+3) (GR xX ps)=GR xX ps:=by
 cases ps<;>simp[GR]
@[simp] theorem aof(xX:List (eJ Int))(ps:List Nat)(base:Nat)(σ:ah)(m:Nat):fz false true base σ (m+3) (Gn xX ps)=Gn xX ps:=by
 unfold Gn;split<;>simp
abbrev I0(bn:Bool)(xQ:List aO)(bad e7 e8:aa)(k:Nat)(e15 e16:aa):List aa:=[.wh bn (xQ.map aO.a),.yz,ac 0,ac 0,.ptr 0 0 0 0,.imap false HS,bad,e7,e8,.any,.any,.bool false,.wh bn (xQ.map aO.a),ac xQ.length,ac k,e15,e16,.any,.any,.any,.any,.any,.any]
abbrev nF(bn:Bool)(xQ:List aO)(k:Nat)(s:dI):ah:=[Ka bn xQ k s.xX.length k s.opn.length s.z0 s.a0 s.b0 s.r0,.arr 1 k (s.xX.map (eJ.c (.int .i64))),.arr 1 k (kC s.opn)]
theorem XI{xQ:List aO}{i:Nat}{n:aO}{xX:List (eJ Int)}{opn o':List Nat}{x:eJ Int}(h:fV xQ i n xX opn=some (x,o')):x.l.length≤16∧o'.length≤opn.length+1∧∀p∈o',p∈opn∨p=i:=by
 unfold fV at h;split at h
 ·cases h
 split at h
 ·cases h
 split at h
 ·cases h
 split at h
 ·cases h
 cases h;refine⟨by omega,by simp only[aog,al4,aiG,ak3];omega,fun p hp=>?_⟩;rcases aoS.1 hp with h|h
 ·exact .inl (akt h)
 exact .inr (by simpa using h)
abbrev dI.l(s:dI):List aa:=[s.z0.c0,s.z0.c1,s.z0.c2,s.z0.c3,s.z0.c4,s.z0.c5,s.z0.c6,s.z0.c7,s.z0.c8,s.z0.c9,s.z0.c10,s.z0.c11,s.a0,s.b0,s.r0]
def lW(s:dI):Prop:=∀base σ m,s.l.map (fz false true base σ (m+3))=s.l
theorem Sx(bn:Bool)(xQ:List aO)(hN:xQ.length≤kV)(hF:∀n∈xQ,NFew n)(z0:qU)(a0 b0 r0:aa)(hz:lW ⟨[],[],z0,a0,b0,r0⟩) :
  match aV (Hn xQ) xQ 0 ⟨[],[],z0,a0,b0,r0⟩ with
  |.inl s=>lW s∧s.opn.length≤xQ.length∧s.xX.length=xQ.length∧(∀x∈s.xX,x.l.length≤kV)∧aM code 3 [7,8,15,16] tJ ⟨I0 bn xQ (.int .i64 (-1)) .any .any 0 .any .any,nF bn xQ 0 ⟨[],[],z0,a0,b0,r0⟩⟩ =
    some (.ext 0,⟨I0 bn xQ (ac (-1)) .any .any xQ.length (.bool false) .any,nF bn xQ xQ.length s⟩)
  |.inr i=>∃o,aM code 3 [7,8,15,16] tJ ⟨I0 bn xQ (.int .i64 (-1)) .any .any 0 .any .any,nF bn xQ 0 ⟨[],[],z0,a0,b0,r0⟩⟩=some o ∧
    ∃σ e7 e8 e15 e16,o=(.ext 0,⟨I0 bn xQ (ac i) e7 e8 i e15 e16,σ⟩)∧i<xQ.length:=by
 have hm:kV≤most:=by decide
 have hm1:kV+1≤most:=by decide
 have h:=cD (base:=3) (clr:=[7,8,15,16]) (b:=tJ) xQ
  (fun k (s:dI)=>⟨I0 bn xQ (ac (-1)) .any .any k .any .any,nF bn xQ k s⟩)
  (fun k s=>s.xX.length=k∧s.opn.length≤k∧(∀p∈s.opn,p<k)∧(∀x∈s.xX,x.l.length≤kV)∧lW s) (Hn xQ)
  (fun s=>(.ext 0,⟨I0 bn xQ (ac (-1)) .any .any xQ.length (.bool false) .any,nF bn xQ xQ.length s⟩))
  (fun i o=>∃σ e7 e8 e15 e16,o=(.ext 0,⟨I0 bn xQ (ac i) e7 e8 i e15 e16,σ⟩)∧i<xQ.length)
  (fun k n s hk hy hs=>by
   obtain⟨h1,h2,h3,h4,_⟩:=hs;have hn:=hF n (aeb hy);have ht:=TM bn xQ k k s.xX s.opn s.z0 n s.a0 s.b0 s.r0 (qC n) k hy hN (by omega) (by omega) (by omega) (by rw[h1];exact h3) h4 hn (fun base σ=>by simp[ap]);obtain⟨ra,hr1,hr2⟩:=Qs n.op;have yB:((k:Int)<(xQ.length:Int)):=by omega
   unfold Hn;cases hstep:fV xQ k n s.xX s.opn with
   |none=>
    rw[hstep]at ht;obtain⟨σ',ht⟩:=ht;refine⟨_,?_,σ',ac k,.ptr 3 0 0 0,.bool true,.bool true,rfl,hk⟩;simp[jO]at ht;simp[tJ,yB,hy,aO.a,ng,hr1,hr2,ht]
   |some q=>
    obtain⟨x,o'⟩:=q;rw[hstep]at ht;obtain⟨ps,r,AT,X,hps,ht,hR⟩:=ht;obtain⟨g1,g2,g3⟩:=XI hstep;refine⟨?_,by simp[h1],by simp;omega,fun p hp=>?_,fun y hy=>?_,fun base σ m=>by simp⟩
    ·simp[jO]at ht;simp[tJ,yB,hy,aO.a,ng,hr1,hr2,ht,hps,ar,ap,hR.fz,hR.nc,aA hk (als hN hm),I0,nF]
    ·rcases g3 p hp with h|h
     ·have:=h3 p h;omega
     omega
    rcases aoS.1 hy with h|h
    ·exact h4 y h
    rw[arq.1 h];exact als g1 (by decide))
  (fun s hs=>by simp[tJ]) ⟨[],[],z0,a0,b0,r0⟩ ⟨rfl,aes _,by simp,by simp,hz⟩
 cases hq:aV (Hn xQ) xQ 0 ⟨[],[],z0,a0,b0,r0⟩ with
 |inl s=>
  rw[hq]at h;exact⟨h.1.2.2.2.2,h.1.2.1,h.1.1,h.1.2.2.2.1,h.2⟩
 |inr i=>
  rw[hq]at h;exact h
def YH(xQ:List aO):List aO→Nat→List (eJ Int)→List Nat→(List (eJ Int)×List Nat)⊕Nat
 |[],_,k,o=>.inl (k,o)
 |n::r,i,k,o=>match fV xQ i n k o with
  |none=>.inr i
  |some (x,o')=>YH xQ r (i+1) (k++[x]) o'
theorem QA(xQ:List aO):∀(l:List aO) (i:Nat) (s:dI),match aV (Hn xQ) l i s with
  |.inl s'=>YH xQ l i s.xX s.opn=.inl (s'.xX,s'.opn)
  |.inr j=>YH xQ l i s.xX s.opn=.inr j
 |[],i,s=>by simp[aV,YH]
 |n::l,i,s=>by
  simp only[aV,YH,Hn];cases fV xQ i n s.xX s.opn with
  |none=>simp
  |some q=>exact QA xQ l (i+1) ⟨s.xX++[q.1],q.2,n.z,_,_,_⟩
def fZ(xQ:List aO):List (List Int)⊕Nat:=
 if xQ.length<1∨60<xQ.length then .inr 0 else
 match YH xQ xQ 0 [] [] with
 |.inr i=>.inr i
 |.inl (k,o)=>if o.length=1 then .inl (k.map (·.l)) else .inr (xQ.length-1)
def FJ(l:List Int):aa:=.wh false (l.map (.int .i64))
instance:Nc FJ 1 false:=⟨fun _=>rfl,fun _=>rfl⟩
instance:Fx FJ:=⟨fun fl top base σ n y=>by simp[FJ]⟩
def ww:List (List Int)⊕Nat→aa
 |.inl k=>.tup [.wh false (k.map FJ),.int .i64 0,.int .i64 0]
 |.inr i=>.tup [.wh false [],.int .i64 i,.int .i64 291]
theorem zH{α β:Type}(f:α→β):∀(l:List α) (k:Nat) (acc:List β),aV (ρ:=Empty) (fun _ x acc=>.inl (acc++[f x])) l k acc=.inl (acc++l.map f)
 |[],k,acc=>by simp[aV]
 |x::l,k,acc=>by
  simp only[aV];rw[zH f l];simp
theorem Mq(bn:Bool)(xQ:List aO)(hF:∀n∈xQ,NFew n)(hN:xQ.length≤kV):az I.qfl [.wh bn (xQ.map aO.a)]=some (ww (fZ xQ)):=by
 rw[am anQ rfl];by_cases h1:xQ.length<1
 ·have h1':((xQ.length:Int)<1):=by omega
  rw[show fZ xQ=.inr 0 by simp only[fZ,if_pos (Or.inl h1)]];simp[ayy,Kj,h1',ww]
 have h1':¬((xQ.length:Int)<1):=by omega
 by_cases h2:60<xQ.length
 ·have h2':((60:Int)<(xQ.length:Int)):=by omega
  rw[show fZ xQ=.inr 0 by simp only[fZ,if_pos (Or.inr h2)]];simp[ayy,Kj,h1',h2',ww]
 have h2':¬((60:Int)<(xQ.length:Int)):=by omega
 have e:fZ xQ=match YH xQ xQ 0 [] [] with
   |.inr i=>.inr i
   |.inl (k,o)=>if o.length=1 then .inl (k.map (·.l)) else .inr (xQ.length-1):=by
  simp only[fZ,if_neg (show ¬(xQ.length<1∨60<xQ.length) by omega)]
 have hl:=Sx bn xQ hN hF ⟨ac 0,ac 0,ac 0,ac 0,.yz,.bool false,.yz,.yz,.yz,.yz,.yz,ac 0⟩ .yz .yz .yz (fun base σ m=>by simp);have hg:=QA xQ xQ 0 ⟨[],[],⟨ac 0,ac 0,ac 0,ac 0,.yz,.bool false,.yz,.yz,.yz,.yz,.yz,ac 0⟩,.yz,.yz,.yz⟩;rw[e];cases hq:aV (Hn xQ) xQ 0 ⟨[],[],⟨ac 0,ac 0,ac 0,ac 0,.yz,.bool false,.yz,.yz,.yz,.yz,.yz,ac 0⟩,.yz,.yz,.yz⟩ with
 |inr i=>
  rw[hq]at hl hg;simp only at hl hg;rw[hg];obtain⟨o,h3,σ,e7,e8,e15,e16,rfl,hi⟩:=hl;simp[I0,nF,Ka]at h3;simp[ayy,Kj,h1',h2',Dh,h3,ww,show ¬((i:Int)<0) by omega]
 |inl s=>
  rw[hq]at hl hg;simp only at hl hg;rw[hg];obtain⟨hz,h5,h6,h12,h3⟩:=hl;simp[I0,nF,Ka]at h3;by_cases h7:s.opn.length=1
  ·have hc:=cD (ρ:=Empty) (base:=4) (clr:=[10,22]) (b:=EV) s.xX
    (fun k (acc:List (List Int))=>⟨[.wh bn (xQ.map aO.a),.yz,ac 0,ac 0,.ptr 0 0 0 0,.imap false HS,ac (-1),.any,.any,.sl 3 k 0 acc.length,.any,.bool false,.wh bn (xQ.map aO.a),ac xQ.length,ac xQ.length,.bool false,.any,.bool false,.bool false,.sl 1 xQ.length 0 s.xX.length,ac s.xX.length,ac k,.any],
     nF bn xQ xQ.length s++[.arr 1 k (acc.map FJ)]⟩)
    (fun k acc=>acc.length=k) (fun _ x acc=>.inl (acc++[x.l]))
    (fun acc=>(.ext 2,⟨[.wh bn (xQ.map aO.a),.yz,ac 0,ac 0,.ptr 0 0 0 0,.imap false HS,ac (-1),.any,.any,.sl 3 s.xX.length 0 acc.length,.any,.bool false,.wh bn (xQ.map aO.a),ac xQ.length,ac xQ.length,.bool false,.any,.bool false,.bool false,.sl 1 xQ.length 0 s.xX.length,ac s.xX.length,ac s.xX.length,.bool false],
     nF bn xQ xQ.length s++[.arr 1 s.xX.length (acc.map FJ)]⟩))
    (fun r _=>r.elim)
    (fun k x acc hk hy hs=>by
     have yB:((k:Int)<(s.xX.length:Int)):=by omega
     have hzz:=hz 4;simp[dI.l]at hzz;have hkl:k+1≤most:=by unfold most;omega
     subst hs;obtain⟨hlx,hgx⟩:=aaN.1 hy;refine⟨?_,by simp⟩;simp[EV,yB,hgx,hk,nF,Ka,eJ.c,append,hkl,ar,ap,hzz,aA hk (show s.xX.length≤most by unfold most;omega),FJ,als (h12 x (aeb hy)) (show kV≤most by decide)])
    (fun acc hs=>by simp[EV]) [] rfl
   rw[zH]at hc;obtain⟨_,hc⟩:=hc;have hkl:(s.xX.map (·.l)).length=s.xX.length:=ajk ..;rw[ah5]at hc;simp only[if_pos h7];generalize s.xX.map (·.l)=ks at hc hkl ⊢;have htk:List.take s.xX.length (List.map FJ ks)=List.map FJ ks:=by rw[←hkl];exact lE ks FJ
   simp[nF,Ka,h7,hkl]at hc;simp[ayy,Kj,h1',h2',Dh,h3,ww,h7,hc,hkl,htk];exact fun a _=>by simp[FJ]
  have h7':((s.opn.length:Int) != 1)=true:=by simp;omega
  have h8:¬((xQ.length:Int)-1<0):=by omega
  have h9:(1:Int)≤(xQ.length:Int):=by omega
  have h10:=Ot (n:=(xQ.length:Int)-1) (by omega) (by omega);have h11:((xQ.length-1:Nat):Int)=(xQ.length:Int)-1:=by omega
  simp only[if_neg h7];simp[ayy,Kj,h1',h2',Dh,h3,ww,h7',h8,h9,h10,h11]
def akY(root ym:List Int):Bool:=ym.any fun c=>decide (c<0) ||decide ((root.length:Int)≤c)
structure asq (root ym:List Int) (way:Int):Prop where
 wrong:akY root ym=false
 len:¬((16:Int)<(ym.length:Int))
 way1:¬way<1
 way4:¬4<way
 shuf:(way=1∧0<ym.length)∨(way≠1∧ym=[])
def pK(k:Nat)(r:aJ):Bool:=decide (k<r.length)&&(r.getD k aq).k != 0
def gx(rs:av)(k:Nat):Int:=if rs.any (pK k) then ((rs.getD (rs.findIdx (pK k)) []).getD k aq).k else 0
def cZ(rs:av):List Int:=(List.range (rs.headD []).length).map (gx rs)
def fX(rs:av)(k:Nat):List Int:=(List.range (rs.headD []).length).map fun i=>if i<k then gx rs i else 0
theorem S6(rs:av)(k:Nat):(fX rs k).set k (gx rs k)=fX rs (k+1):=by
 apply avj
 ·simp[fX]
 intro i h1 h2;simp only[fX,List.getElem_set,atf,List.getElem_range];by_cases h:k=i
 ·subst h;simp
 simp only[if_neg h];by_cases h3:i<k
 ·rw[if_pos h3,if_pos (by omega)]
 rw[if_neg h3,if_neg (by omega)]
theorem PY(rs:av):fX rs 0=List.replicate (rs.headD []).length 0:=by
 apply avj<;>simp[fX]
theorem Rg(rs:av):fX rs (rs.headD []).length=cZ rs:=by
 apply avj
 ·simp[fX,cZ]
 intro i h1 h2;simp[fX]at h1;simp[fX,cZ,h1]
theorem OU{rs:av}{k:Nat}(h:gx rs k=0):fX rs k=fX rs (k+1):=by
 unfold fX;refine aj6 fun i _=>?_;by_cases h3:i<k
 ·rw[if_pos h3,if_pos (by omega)]
 rw[if_neg h3];by_cases h4:i=k
 ·subst h4;rw[if_pos (by omega),h]
 rw[if_neg (by omega)]
theorem YX(t:Bool)(k:Nat)(r:aJ):az I.qdv [aG r,.cptr t (ac k) 0]=some (.bool (pK k r)):=by
 rw[am anC rfl];unfold pK;by_cases h:k<r.length
 ·have h':((k:Int)<(r.length:Int)):=by omega
  have hg:r[k]?=some r[k]:=ad3 h;have hd:r.getD k aq=r[k]:=by rw[ad4,hg];rfl
  rw[hd];generalize r[k]=v at *;cases t<;>simp[azK,adF,aG,h',hg,aE.a,bne]
  all_goals simp[h]
 have h':¬((k:Int)<(r.length:Int)):=by omega
 cases t<;>simp[azK,adF,aG,h,h']
def iK(xX:List Int):aO:=⟨9,-1,-1,0,true,xX,false,false,[],false,[],false,[],false,[],false,[],0⟩
def fA(n:aO):aO:={ n with l:=0,r:=-1 }
def cF:List (List Int)⊕Nat→Bool
 |.inl _=>true
 |.inr _=>false
def fR(n:aO)(op:Int)(rs:av):Bool:=
 n.op==op&&decide (rs≠[])&&decide (rs.length≤8000)&&cF (fZ [iK (cZ rs),fA n])&&Ji (cZ rs) rs
theorem U5(n:aO)(op:Int)(b:Bool)(rs:av)(hop:op=10∨op=11)(hF:NFit n)(hm:∀r∈rs,r.length≤kV) :
  az I.qdu [n.a,ac op,.wh b (rs.map aG)]=some (.bool (fR n op rs)):=by
 rw[am anR rfl];have hnz:∀m,fz true false 0 [] (m+3) n.a=n.a:=fun m=>Ft.ft true false 0 [] m n rfl;have hopc:(cellsOf n.a)[0]?=some (ac n.op):=rfl;have hnn:aw n.a=12∧isAgg n.a=true:=⟨rfl,rfl⟩;unfold fR;by_cases h1:n.op=op
 ·subst h1;cases rs with
  |nil=>simp[ayt,Kz,hnz,hopc,hnn]
  |cons r0 rs0=>
   generalize hrs:r0::rs0=rs at *;have hlen:rs.length=rs0.length+1:=by rw[←hrs];rfl
   have hne:((rs.length:Int)==0)=false:=by rw[atv];omega
   have hne2:rs≠[]:=by rw[←hrs];simp
   by_cases h8:rs.length≤8000
   ·have h8':¬((8000:Int)<rs.length):=by omega
    have hr0:rs[0]?=some r0:=by rw[←hrs];rfl
    have hhd:rs.headD []=r0:=by rw[←hrs];rfl
    have hm0:r0.length≤kV:=hm r0 (by rw[←hrs];simp);have hrm:rs.length≤most:=by unfold most;omega
    have hkl:∀k,(fX rs k).length=r0.length:=fun k=>by simp only[fX,hhd,ajk,auL]
    have hloop:=bU (base:=2) (clr:=[6,7,12,13]) (b:=Bp)
     (fun k=>⟨[n.a,ac n.op,.wh b (rs.map aG),.ptr 0 0 0 0,.bool false,.sl 1 0 0 r0.length,.any,.any,.any,.bool false,ac r0.length,ac k,.any,.any],[.arr 12 0 [n.a],.arr 1 0 (bd (fX rs k))]⟩) r0.length
     (.ext 0,⟨[n.a,ac n.op,.wh b (rs.map aG),.ptr 0 0 0 0,.bool false,.sl 1 0 0 r0.length,.any,.any,.any,.bool false,ac r0.length,ac r0.length,.bool false,.any],[.arr 12 0 [n.a],.arr 1 0 (bd (cZ rs))]⟩)
     (fun k hk=>by
      have yB:((k:Int)<(r0.length:Int)):=by omega
      have hI:=fun b=>lR (enc:=aG) (b:=b) (l:=rs) (f:=.fn I.qdv [] [.cptr true (ac k) 0]) (p:=pK k) hrm (fun _=>⟨rfl,rfl⟩) (fun σ=>by simp) (fun y _=>by
       have:=YX true k y;simp[this])
      have hnz2:∀base σ m,fz false true base σ (m+3) n.a=n.a:=fun base σ m=>Ft.ft false true base σ m n rfl;have hw:IntKind.i64.wrap ((k:Int)+1)=(k:Int)+1:=bl (by unfold kV at hm0;omega);have hkk:k<(bd (fX rs k)).length:=by rw[show (bd (fX rs k)).length=(fX rs k).length by simp[bd],hkl];exact hk
      have hset:=S6 rs k;obtain⟨x0,hkp⟩:∃x0,(fX rs k)[k]?=some x0:=⟨_,ad3 (by rw[hkl];exact hk)⟩;unfold YW at hI;cases ha:rs.any (pK k) with
      |true=>
       have hfl:=atp (arL.1 ha);have hp:pK k rs[rs.findIdx (pK k)]=true:=at3 (w:=hfl);have hka:gx rs k=((rs.getD (rs.findIdx (pK k)) []).getD k aq).k:=by unfold gx;rw[ha];rfl
       rw[hka]at hset;simp only[ha,aml]at hI;have hg:rs[rs.findIdx (pK k)]?=some rs[rs.findIdx (pK k)]:=ad3 hfl;have hgD:rs.getD (rs.findIdx (pK k)) []=rs[rs.findIdx (pK k)]:=by rw[ad4,hg];rfl
       rw[hgD]at hset;generalize rs[rs.findIdx (pK k)]=w at *;generalize rs.findIdx (pK k)=j at *;unfold pK at hp;simp at hp;have hgk:w[k]?=some w[k]:=ad3 hp.1;have hgd:w.getD k aq=w[k]:=by rw[ad4,hgk];rfl
       rw[hgd]at hset;have hset':(bd (fX rs k)).set k (ac w[k].k)=bd (fX rs (k+1)):=by rw[←hset,adC]
       generalize w[k]=v at *;simp[Bp,yB,hI,hg,aG,hgk,hkk,hset',hkp,aE.a,hw,ar,ap,hnz2,hk]
      |false=>
       have hka:gx rs k=0:=by unfold gx;rw[ha];rfl
       have hsame:=OU hka;simp only[ha,ai1,ali]at hI;rw[hsame];simp[Bp,yB,hI,hw,ar,ap,hnz2])
     (by
      have:=Rg rs;rw[hhd]at this;rw[this];simp[Bp])
    have hz:=PY rs;rw[hhd]at hz;simp only[hz,show ((0:Nat):Int)=0 from rfl]at hloop;have hK:=Mq true [iK (cZ rs),fA n] (fun x hx=>by
     rcases arm.1 hx with rfl|hx
     ·exact⟨⟨by simp only[iK,cZ,hhd,ajk,auL];exact hm0,by simp[iK,kV],by simp[iK,kV],by simp[iK,kV],by simp[iK],by simp[iK,kV],by simp[iK],by simp[iK,kV]⟩,.inl rfl⟩
     rw[arq.1 hx];exact⟨⟨hF.xX,hF.cond,hF.keys,hF.yo,hF.args,hF.items,hF.exprs,hF.ords⟩,.inr hop⟩) (by simp[kV])
    have hfit:=fun b bk=>Y0 b bk rs (cZ rs) (fun r hr=>als (hm r hr) (by decide));have hKl:(cZ rs).length=r0.length:=by simp only[cZ,hhd,ajk,auL]
    have hmm:r0.length≤most:=als hm0 (by decide);rw[show bd (List.replicate r0.length 0)=List.replicate r0.length (aa.int .i64 0) by simp[bd]]at hloop;have hin:(bd (cZ rs)).length=r0.length:=by simp[bd,hKl]
    generalize fZ [iK (cZ rs),fA n]=Q at *;simp only[af6,ajo,iK,fA,aO.a]at hK;have htk:List.take r0.length (List.map (aa.int .i64) (cZ rs))=List.map (aa.int .i64) (cZ rs):=aea (by simp[hKl]);simp only[aO.a]at *;cases Q with
    |inl K=>
     simp only[ww]at hK;cases hfl:Ji (cZ rs) rs<;>simp only[hfl]at hfit<;>simp[ayt,Kz,hne,hne2,h8,h8',hr0,aG,hmm,hloop,cF,hKl,htk,hK,hfit]
    |inr i=>
     simp only[ww]at hK;simp[ayt,Kz,hne,hne2,h8,h8',hr0,aG,hmm,hloop,cF,hKl,htk,hK]
   have h8':(8000:Int)<rs.length:=by omega
   simp[ayt,Kz,hnz,hopc,hnn,hne,h8,h8']
 simp[ayt,Kz,hnz,hopc,hnn,aR h1,al h1]
theorem Jr(ym:List Int):∀(n:Nat) (S:av) (g:aJ×av),g∈gN ym n S→(∀r∈g.2,r∈S)∧g.2.length≤S.length∧∃a∈S,g.1=bu a ym
 |0,_,_,h=>by cases h
 |n+1,[],_,h=>by cases h
 |n+1,a::t,g,h=>by
  simp only[gN,arm]at h;rcases h with rfl|h
  ·refine⟨fun r hr=>?_,?_,a,by simp,rfl⟩
   ·rcases arm.1 hr with rfl|hr
    ·simp
    exact aer _ ((aun (l:=t) (bA ym a)).subset hr)
   have:=(aun (l:=t) (bA ym a)).length_le;simp only[aiG];omega
  obtain⟨h1,h2,b,h3,h4⟩:=Jr ym n _ g h;have hs:=(avc (l:=t) (bA ym a));exact⟨fun r hr=>aer _ (hs.subset (h1 r hr)),by have:=hs.length_le;simp only[aiG];omega,b,aer _ (hs.subset h3),h4⟩
theorem eh{ym:List Int}{rs:av}{g:aJ×av}(h:g∈bC ym rs):(∀r∈g.2,r∈rs)∧g.2.length≤rs.length∧∃a∈rs,g.1=bu a ym:=by
 obtain⟨h1,h2,a,h3,h4⟩:=Jr ym _ _ g h;have hp:=dX (c:=jp ym) rs;exact⟨fun r hr=>hp.mem_iff.1 (h1 r hr),by rw[il]at h2;exact h2,a,hp.mem_iff.1 h3,h4⟩
theorem tR{ym:List Int}{rs:av}(h:rs≠[]):bC ym rs≠[]:=by
 intro e;unfold bC at e;have hl:=il (jp ym) rs;have h0:rs.length≠0:=fun h'=>h (ahc h');obtain⟨n,hn⟩:∃n,rs.length=n+1:=⟨rs.length-1,by omega⟩;rw[hn]at e;cases hS:df (jp ym) rs with
 |nil=>rw[hS]at hl;simp at hl;omega
 |cons a t=>rw[hS]at e;simp[gN]at e
def iW(n:aO):Prop:=∀a∈n.yo,a.arg.length≤most∧xO a.arg
noncomputable def gp(n:aO)(rs:av):av×Int:=iV n (fun _ a rows=>jD a.tag a.arg rows) rs
theorem YV(n:aO)(b:Bool)(rs:av)(hrs:rs.length≤8000)(hne:rs≠[])(hr:∀r∈rs,nW r=true)(hg:FT rs)(hh:∀r∈rs,yF r n.keys=true)(hc:n.keys.length≤16)(h0:∀c∈n.keys,0≤c)(hn:n.yo.length≤8000)(ha:iW n)
  (hO:∀O,aV (BY n fun _ a rows=>jD a.tag a.arg rows) (bC n.keys rs) 0 []=.inl O→∀r∈O,nW r=true) :
  az I.qeg [n.a,.wh b (rs.map aG)]=some (.tup [.wh false ((gp n rs).1.map aG),ac (gp n rs).2]):=by
 rw[am aqf rfl];have hG:=fun b=>JL b rs n false (.fn 120 [] []) (fun _ a rows=>jD a.tag a.arg rows) hrs hr hh hc h0 (tR hne) (fun g hg'=>by
   obtain⟨_,_,a,_,h4⟩:=eh hg';rw[h4,gL];omega)
  (fun g hg'=>⟨fun base σ m=>by simp,⟨rfl,rfl⟩,fun i a σ hi=>by
   obtain⟨h1,h2,_⟩:=eh hg';obtain⟨h5,h6⟩:=ha a (aeb hi);have:=fun b=>TI i a b g.2 (by omega) h5 (fun r hr'=>hg r (h1 r hr')) h6;have haz:∀fl top σ,(fl ||top)=true→fz fl top 0 σ 20 a.a=a.a:=fun fl top σ h=>Ft.ft fl top 0 σ 17 a h;simp[haz,this]⟩) (by simp) hn hO
 have hnz:∀base σ m,fz true false base σ (m+3) n.a=n.a:=fun base σ m=>Ft.ft true false base σ m n rfl;have hnn:aw n.a=12∧isAgg n.a=true:=⟨rfl,rfl⟩;unfold gp;generalize iV n (fun _ a rows=>jD a.tag a.arg rows) rs=q at *;simp[aAH,ajK,hnz,hnn,hG]
theorem BL{K:List Int}{n:aO}(h:cF (fZ [iK K,fA n])=true):K.length≤16∧0<K.length∧fV [iK K,fA n] 1 (fA n) [⟨true,K⟩] [0]≠none:=by
 unfold fZ at h;rw[if_neg (by simp)]at h;cases hk:YH [iK K,fA n] [iK K,fA n] 0 [] [] with
 |inr i=>rw[hk]at h;cases h
 |inl q=>
  simp only[YH]at hk;cases hs:fV [iK K,fA n] 0 (iK K) [] [] with
  |none=>rw[hs]at hk;cases hk
  |some r=>
   rw[hs]at hk;simp only[ah5]at hk;have hr:r=(⟨true,K⟩,[0])∧gg (iK K)=true:=by
    unfold fV at hs;have hp:je (iK K) []=some []:=by simp[je,iK,bD,iM]
    rw[hp]at hs;simp only[auR,ai1,false_or,ajo]at hs;split at hs
    ·cases hs
    have ho:ya [iK K,fA n] (iK K) []=if gg (iK K) then some ⟨true,K⟩ else none:=rfl
    rw[ho]at hs;split at hs
    ·cases hs
    rename_i res he;split at he
    ·rename_i hin;cases he;split at hs
     ·cases hs
     cases hs;exact⟨rfl,hin⟩
    cases he
   obtain⟨hr,hin⟩:=hr;rw[hr]at hk;unfold gg iK at hin;simp only[acz,ad7]at hin;refine⟨hin.2,hin.1.2,?_⟩;intro h0;simp only at hk;rw[h0]at hk;cases hk
structure ac3 (K:List Int) (n:aO):Prop where
 keys:∀k∈n.keys,0≤k∧k<K.length
 k3:n.keys.length≤3
 a12:n.yo.length≤12
 ag:∀g∈n.yo,(jM K g).1=true
 no4:∀k∈K,k≠4
theorem LO{K:List Int}{n:aO}(hop:n.op=10)(h:cF (fZ [iK K,fA n])=true):ac3 K n:=by
 obtain⟨_,_,hs⟩:=BL h;unfold fV at hs;cases hp:je (fA n) [0] with
 |none=>rw[hp]at hs;exact absurd rfl hs
 |some ps=>
  rw[hp]at hs;simp only at hs;have hps:ps=[0]:=by
   unfold je at hp;split at hp
   ·cases hp
   have:bD (fA n).op=1:=by simp[fA,hop,bD]
   rw[this]at hp;simp[fA]at hp;exact hp.symm
  subst hps;split at hs
  ·exact absurd rfl hs
  rename_i hno;simp only[af6,ajo]at hs;have e:([⟨true,K⟩]:List (eJ Int)).getD 0 sn=⟨true,K⟩:=rfl;rw[e]at hs;have hop':(fA n).op=10:=hop;have ho:ya [iK K,fA n] (fA n) [⟨true,K⟩]=((fg K n.keys).bind fun ks=>if ei n K then some ⟨false,ks++n.yo.map (rp K)⟩ else none):=by
   unfold ya;simp only[hop'];rfl
  rw[ho]at hs;simp only[aub,auR,avM,e]at hno;cases hkf:fg K n.keys with
  |none=>rw[hkf]at hs;exact absurd rfl hs
  |some ks=>
   rw[hkf]at hs;simp only[al7]at hs;cases ha:ei n K with
   |false=>rw[ha]at hs;exact absurd rfl hs
   |true=>
    unfold ei at ha;simp only[acz,ad7]at ha;refine⟨fun k hk=>?_,ha.1.1.1,ha.1.1.2,fun g hg=>afz.1 ha.2 g hg,fun k hk h4=>?_⟩
    ·unfold fg at hkf;split at hkf
     ·rename_i hall;have:=afz.1 hall k hk;simpa using this
     cases hkf
    apply hno;left;subst h4;simp only[hop',lG,acz];exact⟨rfl,arL.2 ⟨4,hk,by simp⟩⟩
structure aot (K:List Int) (n:aO):Prop where
 k3:n.keys.length≤3
 a12:n.yo.length≤12
 len:n.keys.length+n.yo.length=K.length
 keys:dT K 0 n.keys=true
 ags:dU K n.keys.length n.yo=true
theorem GN{K:List Int}{n:aO}(hop:n.op=11)(h:cF (fZ [iK K,fA n])=true):aot K n:=by
 obtain⟨_,_,hs⟩:=BL h;unfold fV at hs;cases hp:je (fA n) [0] with
 |none=>rw[hp]at hs;exact absurd rfl hs
 |some ps=>
  rw[hp]at hs;simp only at hs;have hps:ps=[0]:=by
   unfold je at hp;split at hp
   ·cases hp
   have:bD (fA n).op=1:=by simp[fA,hop,bD]
   rw[this]at hp;simp[fA]at hp;exact hp.symm
  subst hps;split at hs
  ·exact absurd rfl hs
  simp only[af6,ajo]at hs;have e:([⟨true,K⟩]:List (eJ Int)).getD 0 sn=⟨true,K⟩:=rfl;rw[e]at hs;have hop':(fA n).op=11:=hop;have ho:ya [iK K,fA n] (fA n) [⟨true,K⟩]=if jr n (iK K) K&&(dT K 0 n.keys&&dU K n.keys.length n.yo) then some ⟨false,iF n.keys.length n.yo K⟩ else none:=by
   unfold ya;simp only[hop'];rfl
  rw[ho]at hs;cases ha:(jr n (iK K) K&&(dT K 0 n.keys&&dU K n.keys.length n.yo)) with
  |false=>rw[ha]at hs;exact absurd rfl hs
  |true=>
   unfold jr at ha;simp only[acz,ad7,afE]at ha;exact⟨ha.1.1.1.2,ha.1.1.2,ha.1.2,ha.2.1,ha.2.2⟩

def TX:Nat→List av→List aa
 |_,[]=>[]
 |j,p::r=>.sl j p.length 0 p.length::TX (j+1) r
@[simp] theorem Sj:∀(P:List av) (j:Nat),(TX j P).length=P.length
 |[],_=>rfl
 |_::r,j=>by simp[TX,Sj r]

theorem aeA{root:List Int}{r:aJ}(hl:root.length≤16)(h:qD root r=true):nW r=true∧r.length=root.length:=by
 unfold qD at h;simp only[acz,afE]at h;obtain⟨h1,h2⟩:=h;refine⟨?_,h1⟩;unfold nW;simp only[acz,ad7];refine⟨by omega,?_⟩;rw[afz];intro v hv;obtain⟨i,hi,rfl⟩:=ati.1 hv
 have hz:(r[i],root[i]'(by omega))∈r.zip root:=by
  rw[ati];exact⟨i,by simp;omega,by simp⟩
 have:=afz.1 h2 _ hz;unfold Eb at this;simp only[acz]at this;exact this.1
def uR(n:aO)(cd:Nat→aT→av→aE×Int)(rows:av):List (aE×Int):=n.yo.zipIdx.map fun p=>cd p.2 p.1 rows
def W0(n:aO)(cd:Nat→aT→av→aE×Int)(g:aJ×av):Bool:=(uR n cd g.2).all fun q=>q.2==0
def UI(n:aO)(cd:Nat→aT→av→aE×Int)(g:aJ×av):aJ:=g.1++(uR n cd g.2).map (·.1)
theorem JG(cd:Nat→aT→av→aE×Int)(rows:av):∀(l:List aT) (k:Nat) (acc:aJ),
  aV (IC cd rows) l k acc=if ((l.zipIdx k).map fun p=>cd p.2 p.1 rows).all (fun q=>q.2==0) then .inl (acc++((l.zipIdx k).map fun p=>cd p.2 p.1 rows).map (·.1)) else .inr ()
 |[],k,acc=>by simp[aV]
 |a::l,k,acc=>by
  simp only[aV,IC];by_cases h:(cd k a rows).2=0
  ·rw[if_pos h];simp only;rw[JG cd rows l (k+1)];simp only[avh,af6,aty,h,atT,al5,at6,an7,ah5]
  rw[if_neg h];simp[avh,h]
theorem xo(n:aO)(cd:Nat→aT→av→aE×Int):∀(G:List (aJ×av)) (k:Nat) (O:av),
  aV (BY n cd) G k O=if G.all (W0 n cd) then .inl (O++G.map (UI n cd)) else .inr ()
 |[],k,O=>by simp[aV]
 |g::G,k,O=>by
  simp only[aV,BY];rw[JG cd g.2 n.yo 0 g.1];have e:((n.yo.zipIdx 0).map fun p=>cd p.2 p.1 g.2)=uR n cd g.2:=rfl;rw[e];by_cases h:W0 n cd g=true
  ·have h':=h;unfold W0 at h';rw[h'];simp only[aml];rw[xo n cd G (k+1)];simp only[aty,h,al5,af6,at6,an7,ah5];rfl
  have h':(uR n cd g.2).all (fun q=>q.2==0)=false:=atN.2 h;rw[h'];simp[h]
theorem ve(n:aO)(cd:Nat→aT→av→aE×Int)(rs:av):iV n cd rs=if (bC n.keys rs).all (W0 n cd) then (df cf ((bC n.keys rs).map (UI n cd)),0) else ([],140):=by
 unfold iV;rw[xo];cases (bC n.keys rs).all (W0 n cd)<;>simp
theorem No(n:Int):dC (bL n)=true:=by simp[dC,pu,bL]
theorem V3(s:Option Int):dC (kL s).1=true:=by
 cases s with
 |none=>exact gR
 |some x=>unfold kL;simp only;split;exact No _;exact gR
theorem JB{l:aJ}(h:∀v∈l,dC v=true):dC (tu l)=true:=by
 cases l with
 |nil=>exact gR
 |cons v r=>
  rcases Pu dP r v with e|e
  ·unfold tu;simp only;rw[e];exact h v (by simp)
  exact h _ (aer _ e)
theorem AB{l:aJ}(h:∀v∈l,dC v=true):dC (jl l)=true:=by
 cases l with
 |nil=>exact gR
 |cons v r=>
  rcases P4 dP r v with e|e
  ·unfold jl;simp only;rw[e];exact h v (by simp)
  exact h _ (aer _ e)
theorem acG(tag:Int){e:List EN}{rs:av}(hr:FT rs)(hE:xO e):dC (Eg tag e rs).1=true:=by
 have hI:=Q3 (e:=e) (rs:=rs) hr hE;unfold Eg
 repeat' split
 all_goals first|exact No _|exact gR|exact V3 _|exact JB fun v hv=>HU (hI v hv)|exact AB fun v hv=>HU (hI v hv)
theorem YP(tag:Int){e:List EN}{rs:av}(hr:FT rs)(hE:xO e):dC (jD tag e rs).1=true:=by
 unfold jD;split
 ·unfold U3;have key:∀(m:av) k s,match aV (pF e) m k s with
    |.inl _=>True
    |.inr p=>dC p.1=true:=by
   intro m;induction m with
   |nil=>intro k s;trivial
   |cons r m ih=>
    intro k s;simp only[aV];cases hg:pF e k r s with
    |inl s'=>exact ih _ _
    |inr p=>
     unfold pF at hg;simp only;split at hg
     ·cases hg;exact Rm s
     split at hg
     ·cases hg;exact gR
     cases hg
  have:=key rs 0 none;split
  ·exact Rm _
  rename_i p h;rw[h]at this;exact this
 unfold Y1;split
 ·exact acG tag hr hE
 exact gR
theorem ZT(tag:Int){own:aJ}(h:∀v∈own,dC v=true):dC (aci tag own).1=true:=by
 unfold aci
 repeat' split
 all_goals first|exact V3 _|exact JB h|exact AB h
theorem Jy(n:aO)(cd:Nat→aT→av→aE×Int)(rows:av):(uR n cd rows).length=n.yo.length:=by simp[uR]
theorem Xb{r:aJ}(h:nW r=true):r.length≤16∧∀v∈r,dC v=true:=by
 unfold nW at h;simp only[acz,ad7]at h;exact⟨h.1,fun v hv=>afz.1 h.2 v hv⟩
theorem Wd{n:aO}{cd:Nat→aT→av→aE×Int}{rs:av}{g:aJ×av}(hg:g∈bC n.keys rs)(hr:∀r∈rs,nW r=true)(hh:∀r∈rs,yF r n.keys=true)(hl:n.keys.length+n.yo.length≤16)
  (hv:∀(i:Nat) a,n.yo[i]?=some a→dC (cd i a g.2).1=true):nW (UI n cd g)=true:=by
 obtain⟨_,_,a,ha,h4⟩:=eh hg;unfold nW UI;simp only[acz,ad7,aog,ajk,Jy];refine⟨by rw[h4,gL];exact hl,?_⟩;rw[afz];intro v hv';rcases aoS.1 hv' with hv'|hv'
 ·rw[h4]at hv';exact (Xb (hr a ha)).2 v (Yc (ED (hh a ha)).2 v hv')
 obtain⟨q,hq,rfl⟩:=afJ.1 hv';obtain⟨p,hp,rfl⟩:=afJ.1 hq;obtain⟨x,i⟩:=p;have:=auz.1 hp;exact hv i x (by simpa using this)
structure wG (n:aO) (op:Int) (rs:av):Prop where
 op:n.op=op
 ne:rs≠[]
 len:rs.length≤8000
 xX:cF (fZ [iK (cZ rs),fA n])=true
 fit:Ji (cZ rs) rs=true
theorem A9{n:aO}{op:Int}{rs:av}(h:fR n op rs=true):wG n op rs:=by
 unfold fR at h;simp only[acz,ad7,afE]at h;exact⟨h.1.1.1.1,h.1.1.1.2,h.1.1.2,h.1.2,h.2⟩
theorem wG.row{n:aO}{op:Int}{rs:av}(h:wG n op rs):∀r∈rs,nW r=true∧r.length=(cZ rs).length:=fun r hr=>by
 have hk:=(BL h.xX).1;have hf:=h.fit;unfold Ji at hf;simp only[acz,ad7]at hf;exact aeA hk (afz.1 hf.2 r hr)
theorem Wq{r:aJ}{ym:List Int}(h1:ym.length≤16)(h:∀c∈ym,0≤c∧c<r.length):yF r ym=true:=by
 unfold yF;simp only[acz,ad7];refine⟨h1,?_⟩;rw[afz];intro c hc;have:=h c hc;unfold dF;simp;omega
noncomputable def jW(n:aO)(rs:av):av×Int:=if fR n 10 rs=true then gp n rs else ([],2)
theorem Kf{n:aO}{rs:av}(h:wG n 10 rs):(∀c∈n.keys,0≤c)∧(∀r∈rs,yF r n.keys=true):=by
 have hp:=LO h.op h.xX;have hk3:=hp.k3;refine⟨fun c hc=>(hp.keys c hc).1,fun r hr=>Wq (by omega) fun c hc=>?_⟩;have:=hp.keys c hc;have hl:=(h.row r hr).2;omega
theorem Yv(n:aO)(b:Bool)(rs:av)(hF:NFit n)(ha:iW n)(hg:FT rs)(hm:∀r∈rs,r.length≤kV) :
  az I.qds [n.a,.wh b (rs.map aG)]=some (.tup [.wh false ((jW n rs).1.map aG),ac (jW n rs).2]):=by
 rw[am aqa rfl];have hk:=fun b=>U5 n 10 b rs (.inl rfl) hF hm;have hnz:∀base σ m,fz true false base σ (m+3) n.a=n.a:=fun base σ m=>Ft.ft true false base σ m n rfl;have hnn:aw n.a=12∧isAgg n.a=true:=⟨rfl,rfl⟩;unfold jW;cases hq:fR n 10 rs with
 |false=>
  rw[hq]at hk;simp[azA,abl,hnz,hnn,hk]
 |true=>
  rw[hq]at hk;have h:=A9 hq;have hp:=LO h.op h.xX;have hk3:=hp.k3;have ha12:=hp.a12;obtain⟨h0,hh⟩:=Kf h
  have hP:=fun b=>YV n b rs h.len h.ne (fun r hr=>(h.row r hr).1) hg hh (by omega) h0 (by omega) ha (fun O hO r hr=>by
   rw[xo]at hO;split at hO
   ·cases hO;rw[ah5]at hr;obtain⟨g,hg',rfl⟩:=afJ.1 hr;refine Wd hg' (fun r hr=>(h.row r hr).1) hh (by omega) fun i a hi=>?_;exact YP a.tag (fun r hr'=>hg r ((eh hg').1 r hr')) (ha a (aeb hi)).2
   cases hO)
  generalize gp n rs=q at *;simp[azA,abl,hnz,hnn,hk,hP]
theorem GB{a:List Int}:∀{l:List Int} {k:Nat},dT a k l=true→∀i (h:i<l.length),l[i]=((k+i:Nat):Int)
 |[],k,_,i,h=>by cases h
 |x::l,k,hf,i,h=>by
  simp only[dT,acz,afE]at hf;cases i with
  |zero=>simpa using hf.1.1
  |succ i=>
   have:=GB hf.2 i (by simpa using h);simp only[auA,this];omega
theorem wz{n:aO}{rs:av}(h:wG n 11 rs):(∀c∈n.keys,0≤c)∧(∀r∈rs,yF r n.keys=true)∧∀r∈rs,n.keys.length+n.yo.length≤r.length:=by
 have hp:=GN h.op h.xX;have hk3:=hp.k3;have hl:=hp.len;have hat:=GB hp.keys;have hin:∀c∈n.keys,0≤c∧c<n.keys.length:=fun c hc=>by
  obtain⟨i,hi,rfl⟩:=ati.1 hc;rw[hat i hi];omega
 refine⟨fun c hc=>(hin c hc).1,fun r hr=>Wq (by omega) fun c hc=>?_,fun r hr=>?_⟩
 ·have:=hin c hc;have hrl:=(h.row r hr).2;omega
 have hrl:=(h.row r hr).2;omega
def sw(tag:Int)(own:aJ):aE×Int:=if tag=3 then ID own else aci tag own
def Hy(tag:Int)(own:aJ):Prop:=(tag=3→∀v∈own,jd v)∧(tag=1∨tag=2→∀v∈own,kM v=0∧rg v.n)∧∀v∈own,dC v=true
theorem Xz{l:aJ}(ho:∀v∈l,jd v):dC (ID l).1=true:=by
 unfold ID;cases hf:aV uI l 0 aq with
 |inl s=>
  have hs:=Xu ho hf;show dC (vK s).1=true;unfold vK
  repeat' split
  all_goals first|exact hs.ok|exact No _|exact gR
 |inr p=>
  have key:∀(m:aJ) (k:Nat) (s:aE),(∀v∈m,jd v)→aV uI m k s=.inr p→dC p.1=true:=by
   intro m;induction m with
   |nil=>intro k s _ h;cases h
   |cons x m ih=>
    intro k s hm h;simp only[aV]at h;unfold uI at h;split at h
    ·rename_i s' he;split at he
     ·cases he;exact ih _ _ (fun v hv=>hm v (aer _ hv)) h
     cases he
    rename_i r he;split at he
    ·cases he
    rename_i hne;cases he;cases h;unfold lJ at hne ⊢;split
    ·rename_i h4;rw[if_pos h4]at hne;split
     ·rename_i c1;rw[if_pos c1]at hne;exact absurd rfl hne
     rename_i c1;rw[if_neg c1]at hne;split
     ·rename_i c2;rw[if_pos c2]at hne;exact absurd rfl hne
     unfold Ci;split
     ·exact Fr _
     exact gR
    exact gR
  show dC p.1=true;exact key l 0 aq ho hf
theorem Zs(tag:Int){own:aJ}(h:Hy tag own):dC (sw tag own).1=true:=by
 unfold sw;split
 ·rename_i t3;exact Xz (h.1 t3)
 exact ZT tag h.2.2
theorem adS(n:aO)(t:Bool)(i:Nat)(a:aT)(b:Bool)(rs:av)(hn:rs.length≤8000)(hk:n.keys.length+i≤most)(hr:∀r∈rs,n.keys.length+i<r.length)(ho:Hy a.tag (oY (n.keys.length+i) rs)) :
  az I.qdy [ac i,a.a,.wh b (rs.map aG),.cptr t n.a 0]=some (.tup [(sw a.tag (oY (n.keys.length+i) rs)).1.a,ac (sw a.tag (oY (n.keys.length+i) rs)).2]):=by
 rw[am aqH rfl];have hm:rs.length≤most:=by unfold most;omega
 have hz:=fun fl top base σ m (h:(fl ||top)=true)=>FB t n fl top base σ m h;have hkey:(cellsOf n.a)[7]?=some (.wh n.by' (n.keys.map (.int .i64))):=rfl;have hnc:aw n.a=12∧isAgg n.a=true:=⟨rfl,rfl⟩;have hw:IntKind.i64.wrap ((n.keys.length:Int)+(i:Int))=((n.keys.length+i:Nat):Int):=by rw[bl (by unfold most at hk;omega)];omega
 obtain⟨ep,h⟩:=G0 (base:=3) (clr:=[8,9,14,15]) (b:=Bv) rs
  (fun k ep (acc:aJ)=>⟨[ac i,a.a,.wh b (rs.map aG),.cptr t n.a 0,.ptr 0 0 0 0,.ptr 1 0 0 0,ac 0,.sl 2 ep 0 acc.length,.any,.any,.any,.wh b (rs.map aG),ac rs.length,ac k,.any,.any,.any,.any,.any,.any],[.arr 2 0 [a.a],.arr 4 0 [aq.a],.arr 4 ep (acc.map aE.a)]⟩)
  (fun r=>if (r.getD (n.keys.length+i) aq).k=0 then [] else [r.getD (n.keys.length+i) aq])
  (fun ep acc=>(.ext 0,⟨[ac i,a.a,.wh b (rs.map aG),.cptr t n.a 0,.ptr 0 0 0 0,.ptr 1 0 0 0,ac 0,.sl 2 ep 0 acc.length,.any,.any,.any,.wh b (rs.map aG),ac rs.length,ac rs.length,.bool false,.any,.any,.any,.any,.any],[.arr 2 0 [a.a],.arr 4 0 [aq.a],.arr 4 ep (acc.map aE.a)]⟩)) 1
  (fun r _=>by split<;>simp)
  (fun k r ep acc hk hy hacc=>by
   have yB:((k:Int)<(rs.length:Int)):=by omega
   have hl:=hr r (aeb hy);have hg:r[n.keys.length+i]?=some r[n.keys.length+i]:=ad3 hl;have hd:r.getD (n.keys.length+i) aq=r[n.keys.length+i]:=by rw[ad4,hg];rfl
   have hm1:acc.length+1≤most:=by omega
   rw[hd];generalize r[n.keys.length+i]=w at *;have h0:(0:Int)≤(n.keys.length:Int)+(i:Int):=by omega
   have ht:((n.keys.length:Int)+(i:Int)).toNat=n.keys.length+i:=by omega
   by_cases hk0:w.k=0
   ·refine⟨ep,?_⟩;rw[if_pos hk0];simp only[aT.a,aE.a,aq];simp[Bv,hz,hkey,hnc,yB,hy,aG,hw,hg,h0,ht,hk0,aA hk hm,ar,ap,aE.a]
   refine⟨ep+1,?_⟩;rw[if_neg hk0];simp only[aT.a,aE.a,aq];simp[Bv,hz,hkey,hnc,yB,hy,aG,hw,hg,h0,ht,hk0,aR hk0,append,hm1,aA hk hm,ar,ap,aE.a])
  (fun ep acc _=>by simp[Bv]) 0
 have hown:rs.flatMap (fun r=>if (r.getD (n.keys.length+i) aq).k=0 then [] else [r.getD (n.keys.length+i) aq])=oY (n.keys.length+i) rs:=rfl;rw[hown]at h;obtain⟨ho1,ho2,ho3⟩:=ho;have hlen:=PO (n.keys.length+i) rs;generalize oY (n.keys.length+i) rs=own at *;have hol:own.length+1≤most:=by unfold most;omega
 simp only[aq,aE.a,ajo,ak3,show ((0:Nat):Int)=0 from rfl]at h;unfold sw;by_cases t3:a.tag=3
 ·rw[if_pos t3];have hj:=fun b=>ZX b own (by unfold most;omega) (ho1 t3);simp only[aT.a,t3]at *
  try simp at h
  simp[ayn,GG,hz,hkey,hnc,h,hj,aE.a]
 rw[if_neg t3];unfold aci;rw[if_neg t3];by_cases t12:a.tag=1∨a.tag=2
 ·rw[if_pos t12]
  have hj:=fun b=>aet b (own++[bL 0]) (by simp;omega) (fun v hv=>by
   rcases aoS.1 hv with hv|hv
   ·exact ho2 t12 v hv
   rw[arq.1 hv];exact⟨by decide,by simp[bL,rg]⟩)
  simp only[arz,af6,ajo]at hj;have hi0:(bL 0).a=.agg [ac 2,ac 0,.int .u64 0,.str []]:=rfl;rw[hi0]at hj;have htk:List.take (own.length+1) (List.map aE.a own++[aa.agg [ac 2,ac 0,.int .u64 0,.str []]])=List.map aE.a own++[aa.agg [ac 2,ac 0,.int .u64 0,.str []]]:=aea (by simp);have hncs:∀σ,(∀x,x∈List.map aE.a own++[aa.agg [ac 2,ac 0,.int .u64 0,.str []]]→aw (fz true false 0 σ 19 x)=aw x)↔True:=fun σ=>⟨fun _=>trivial,fun _ x hx=>by
   rcases aoS.1 hx with hx|hx
   ·obtain⟨v,_,rfl⟩:=afJ.1 hx;simp
   rw[arq.1 hx];simp⟩
  rcases t12 with t1|t2
  ·simp only[aT.a,t1]at *
   try simp at h
   simp[ayn,GG,hz,hkey,hnc,h,hj,bL,append,hol,htk,hncs,aE.a,-List.mem_append]
  simp only[aT.a,t2]at *
  try simp at h
  simp[ayn,GG,hz,hkey,hnc,h,hj,bL,append,hol,htk,hncs,aE.a,-List.mem_append]
 rw[if_neg t12];have t1:¬a.tag=1:=fun h=>t12 (.inl h);have t2:¬a.tag=2:=fun h=>t12 (.inr h);cases own with
 |nil=>
  simp only[aT.a,tu,jl]at *
  try simp at h
  simp[ayn,GG,hz,hkey,hnc,h,al t1,al t2,al t3,aq,aE.a]
 |cons v l=>
  have hl0:((l.length:Int)+1==0)=false:=by rw[atv];omega
  have hcmp:∀x∈v::l,∀y∈v::l,∀σ,du code (.fn I.qdz [] []) [x.a,y.a] σ=some (ac (dP x y),σ):=fun x hx y hy σ=>by
   have:=aln x y (ho3 x hx) (ho3 y hy);simp[this]
  have hMin:=fun b=>Ky b v l (.fn I.qdz [] []) dP (fun σ=>by simp) (by simp at hol;omega) hcmp;have hMax:=fun b=>J1 b v l (.fn I.qdz [] []) dP (fun σ=>by simp) (by simp at hol;omega) hcmp;simp only[tu,jl];generalize It dP v l=vm at *;generalize GJ dP v l=vM at *;simp only[af6,aE.a]at hMin hMax;by_cases t4:a.tag=4
  ·rw[if_pos t4];simp only[aT.a,t4]at *
   try simp at h
   simp[ayn,GG,hz,hkey,hnc,h,hMin,hl0,aE.a]
  rw[if_neg t4];simp only[aT.a]at *
  try simp at h
  simp[ayn,GG,hz,hkey,hnc,h,al t1,al t2,al t3,al t4,hMax,hl0,aE.a]
noncomputable def ly(n:aO)(rs:av):av×Int:=iV n (fun i a rows=>sw a.tag (oY (n.keys.length+i) rows)) rs
theorem agQ(n:aO)(b:Bool)(rs:av)(hrs:rs.length≤8000)(hne:rs≠[])(hr:∀r∈rs,nW r=true)(hh:∀r∈rs,yF r n.keys=true)(hc:n.keys.length≤16)(h0:∀c∈n.keys,0≤c)(hn:n.yo.length≤8000)
  (hw:∀r∈rs,n.keys.length+n.yo.length≤r.length) (hf:∀g∈bC n.keys rs,∀(i:Nat) a,n.yo[i]?=some a→Hy a.tag (oY (n.keys.length+i) g.2))
  (hO:∀O,aV (BY n fun i a rows=>sw a.tag (oY (n.keys.length+i) rows)) (bC n.keys rs) 0 []=.inl O→∀r∈O,nW r=true) :
  az I.qdx [n.a,.wh b (rs.map aG)]=some (.tup [.wh false ((ly n rs).1.map aG),ac (ly n rs).2]):=by
 rw[am amG rfl];have hG:=fun b=>JL b rs n true (.fn 121 [] [.cptr true n.a 0]) (fun i a rows=>sw a.tag (oY (n.keys.length+i) rows)) hrs hr hh hc h0 (tR hne) (fun g hg'=>by
   obtain⟨_,_,a,_,h4⟩:=eh hg';rw[h4,gL];omega)
  (fun g hg'=>⟨fun base σ m=>by
   rw[aib];simp only[ajo,af6,FB true n false true base σ m rfl],⟨rfl,rfl⟩,fun i a σ hi=>by
   obtain⟨h1,h2,_⟩:=eh hg';obtain⟨yB,_⟩:=aaN.1 hi;have:=fun b=>adS n true i a b g.2 (by omega) (by unfold most;omega) (fun r hr'=>by have:=hw r (h1 r hr');omega) (hf g hg' i a hi);have haz:∀fl top σ,(fl ||top)=true→fz fl top 0 σ 20 a.a=a.a:=fun fl top σ h=>Ft.ft fl top 0 σ 17 a h;have hcz:∀σ,fz true false 0 σ 20 (.cptr true n.a 0)=.cptr true n.a 0:=fun σ=>FB true n true false 0 σ 16 rfl;simp[-aaK,haz,hcz,this]⟩) (by
   rw[aib];simp only[ajo,af6,FB true n true false 0 [] 15 rfl]) hn hO
 have hnz:∀base σ m,fz true false base σ (m+3) n.a=n.a:=fun base σ m=>Ft.ft true false base σ m n rfl;have hnn:aw n.a=12∧isAgg n.a=true:=⟨rfl,rfl⟩;unfold ly;generalize iV n (fun i a rows=>sw a.tag (oY (n.keys.length+i) rows)) rs=q at *;simp[az4,ah1,hnz,hnn,hG]
noncomputable def uj(n:aO)(rs:av):av×Int:=if fR n 11 rs=true then ly n rs else ([],2)
theorem aeQ(n:aO)(b:Bool)(rs:av)(hF:NFit n)(hm:∀r∈rs,r.length≤kV)
  (hf:fR n 11 rs=true→∀g∈bC n.keys rs,∀(i:Nat) a,n.yo[i]?=some a→Hy a.tag (oY (n.keys.length+i) g.2)) :
  az I.qdr [n.a,.wh b (rs.map aG)]=some (.tup [.wh false ((uj n rs).1.map aG),ac (uj n rs).2]):=by
 rw[am aqR rfl];have hk:=fun b=>U5 n 11 b rs (.inr rfl) hF hm;have hnz:∀base σ m,fz true false base σ (m+3) n.a=n.a:=fun base σ m=>Ft.ft true false base σ m n rfl;have hnn:aw n.a=12∧isAgg n.a=true:=⟨rfl,rfl⟩;unfold uj;cases hq:fR n 11 rs with
 |false=>
  rw[hq]at hk;simp[azS,adP,hnz,hnn,hk]
 |true=>
  rw[hq]at hk;have h:=A9 hq;have hp:=GN h.op h.xX;have hk3:=hp.k3;have ha12:=hp.a12;obtain⟨h0,hh,hw⟩:=wz h
  have hP:=fun b=>agQ n b rs h.len h.ne (fun r hr=>(h.row r hr).1) hh (by omega) h0 (by omega) hw (hf hq) (fun O hO r hr=>by
   rw[xo]at hO;split at hO
   ·cases hO;rw[ah5]at hr;obtain⟨g,hg',rfl⟩:=afJ.1 hr;refine Wd hg' (fun r hr=>(h.row r hr).1) hh (by omega) fun i a hi=>?_;exact Zs a.tag (hf hq g hg' i a hi)
   cases hO)
  generalize ly n rs=q at *;simp[azS,adP,hnz,hnn,hk,hP]
def co(e:List EN):Nat→Nat
 |0=>0
 |m+1=>
  match e[m]? with
  |none=>0
  |some n=>
   if aI n.tag<0∨cq n=false then 0
   else if aI n.tag=0 then (if n.l=-1∧n.r=-1 then 1 else 0)
   else if co e m=0 then 0
   else if aI n.tag=1 then (if n.l=(m:Int)-1∧n.r=-1 then co e m+1 else 0)
   else if co e (m-co e m)=0∨n.r≠(m:Int)-1∨n.l≠(m:Int)-1-co e m then 0
   else co e (m-co e m)+co e m+1
termination_by m=>m
decreasing_by all_goals omega
theorem wB(e:List EN):∀m,co e m≤m:=by
 intro m;induction m using Nat.strongRecOn with
 |_ m ih=>
  cases m with
  |zero=>simp[co]
  |succ m=>
   have h1:=ih m (by omega);have h2:=ih (m-co e m) (by omega);rw[co];split
   ·omega
   repeat' split
   all_goals omega
theorem abR(_:Bool)(e:List EN)(hn:e.length≤most):∀m:Nat,∀b,m≤e.length→az I.qcd [nV b e,ac ((m:Int)-1)]=some (ac (co e m)):=by
 intro m;induction m using Nat.strongRecOn with
 |_ m ih=>
  intro b hm;rw[am aol rfl];cases m with
  |zero=>simp[axY,pD,nV,co]
  |succ m=>
   have hmm:((m+1:Nat):Int)-1=(m:Int):=by omega
   rw[hmm];have yB:m<e.length:=by omega
   have hg:=HZ yB;obtain⟨n,hnn⟩:∃n,e[m]=n:=⟨_,rfl⟩;have hn':e[m]?=some n:=by rw[←hnn];exact ad3 yB
   rw[hnn]at hg;have hge:¬((e.length:Int)≤m):=by omega
   have hneg:¬((m:Int)<0):=by omega
   have hp:=Yx n.tag;have hc:=SA n;have hw:IntKind.i64.wrap ((m:Int)-1)=(m:Int)-1:=bl (by unfold most at *;omega);rw[co,hn'];simp only;have hle:=wB e m;have i1:=fun b=>ih m (by omega) b (by omega);have i2:=fun b=>ih (m-co e m) (by omega) b (by omega);unfold nV at i1 i2 ⊢;obtain⟨t,l,r,c,w⟩:=n;simp only[EN.a]at hg hc;simp only at hp ⊢;generalize cq ⟨t,l,r,c,w⟩=cb at *;have hpl:=iB t;generalize aI t=p at *;by_cases hp0:p<0
   ·simp[axY,pD,hge,hneg,hg,hp,hp0]
   cases cb with
   |false=>simp[axY,pD,hge,hneg,hg,hp,hp0,hc]
   |true=>
    by_cases e0:p=0
    ·subst e0;by_cases hl:l=-1
     ·subst hl;by_cases hr:r=-1
      ·subst hr;simp[axY,pD,hge,hneg,hg,hp,hc]
      simp[axY,pD,hge,hneg,hg,hp,hc,hr,aR hr]
     simp[axY,pD,hge,hneg,hg,hp,hc,hl,aR hl]
    by_cases z1:co e m=0
    ·simp[axY,pD,hge,hneg,hg,hp,hc,hp0,al e0,e0,hw,i1,z1]
    have z1':¬((co e m:Int)=0):=by omega
    by_cases e1:p=1
    ·subst e1;have hw1:IntKind.i64.wrap ((co e m:Int)+1)=(co e m:Int)+1:=bl (by unfold most at *;omega);by_cases hl:l=(m:Int)-1
     ·subst hl;by_cases hr:r=-1
      ·subst hr;simp[axY,pD,hge,hneg,hg,hp,hc,hw,hw1,i1,z1,z1',al z1']
      simp[axY,pD,hge,hneg,hg,hp,hc,hw,hw1,i1,z1,z1',al z1',hr,aR hr]
     simp[axY,pD,hge,hneg,hg,hp,hc,hw,hw1,i1,z1,z1',al z1',hl,aR hl]
    have hp2:p=2:=by omega
    subst hp2;generalize hs:co e m=q at *;have hle2:=wB e (m-q);have hc2:((m-q:Nat):Int)=(m:Int)-q:=by omega
    rw[hc2]at i2;have hw2:IntKind.i64.wrap ((m:Int)-1-q)=(m:Int)-1-q:=bl (by unfold most at *;omega);have hsw:(m:Int)-q-1=(m:Int)-1-q:=by omega
    rw[hsw]at i2;generalize co e (m-q)=f at *;have hw3:IntKind.i64.wrap ((f:Int)+q)=(f:Int)+q:=bl (by unfold most at *;omega);have hw4:IntKind.i64.wrap ((f:Int)+q+1)=(f:Int)+q+1:=bl (by unfold most at *;omega);by_cases z2:f=0
    ·subst z2;simp[axY,pD,hge,hneg,hg,hp,hc,hw,i1,z1,z1',al z1',hw2,i2]
    have z2':¬((f:Int)=0):=by omega
    by_cases hr:r=(m:Int)-1
    ·subst hr;by_cases hl:l=(m:Int)-1-q
     ·subst hl;simp[axY,pD,hge,hneg,hg,hp,hc,hw,i1,z1,z1',al z1',hw2,i2,z2,z2',al z2',hw3,hw4]
     simp[axY,pD,hge,hneg,hg,hp,hc,hw,i1,z1,z1',al z1',hw2,i2,z2,z2',al z2',hw3,hw4,hl,aR hl]
    simp[axY,pD,hge,hneg,hg,hp,hc,hw,i1,z1,z1',al z1',hw2,i2,z2,z2',al z2',hw3,hw4,hr,aR hr]
def Cs(e:List EN):Bool:=decide (1≤e.length)&&decide (e.length≤1000)&&decide (co e e.length=e.length)
theorem XK(b:Bool)(e:List EN)(hn:e.length≤most):az I.qbx [nV b e]=some (.bool (Cs e)):=by
 rw[am aq9 rfl];have h:=fun b=>abR b e hn e.length b (aes _);have hle:=wB e e.length;unfold nV at h ⊢;unfold Cs;have hw:IntKind.i64.wrap ((e.length:Int)-1)=(e.length:Int)-1:=bl (by unfold most at *;omega);by_cases h1:1≤e.length
 ·have h1':(1:Int)≤e.length:=by omega
  by_cases h2:e.length≤1000
  ·have h2':(e.length:Int)≤1000:=by omega
   by_cases h3:co e e.length=e.length
   ·simp[ayM,Qt,h1,h1',h2,h2',hw,h,h3]
   have h3':¬((co e e.length:Int)=e.length):=by omega
   simp[ayM,Qt,h1,h1',h2,h2',hw,h,h3,h3',al h3']
  have h2':¬(e.length:Int)≤1000:=by omega
  simp[ayM,Qt,h1,h1',h2,h2']
 have h1':¬(1:Int)≤e.length:=by omega
 simp[ayM,Qt,h1,h1']
def UP(e:List EN):Nat→List Nat→Prop
 |k,[]=>k=0
 |k,p::r=>k=p+1∧0<co e k∧UP e (k-co e k) r
theorem Kn{e:List EN}{m:Nat}{n:EN}(hn:e[m]?=some n):co e (m+1) =
   if aI n.tag<0∨cq n=false then 0
   else if aI n.tag=0 then (if n.l=-1∧n.r=-1 then 1 else 0)
   else if co e m=0 then 0
   else if aI n.tag=1 then (if n.l=(m:Int)-1∧n.r=-1 then co e m+1 else 0)
   else if co e (m-co e m)=0∨n.r≠(m:Int)-1∨n.l≠(m:Int)-1-co e m then 0
   else co e (m-co e m)+co e m+1:=by
 rw[co,hn]
theorem Y8{e:List EN}{k:Nat}{n:EN}(hn:e[k]?=some n){a o a' o':List Nat}(ht:UP e k o.reverse)(hs:gX k n a o=some (a',o')):UP e (k+1) o'.reverse∧a'.length=a.length+1:=by
 have h1:=Kn hn;unfold gX at hs;split at hs
 ·cases hs
 rename_i hc;have hc1:¬(aI n.tag<0∨cq n=false):=fun h=>hc (h.elim .inl fun h=>.inr (.inr h));have hc2:aI n.tag≤o.length:=by
  have:¬((o.length:Int)<aI n.tag):=fun h=>hc (.inr (.inl h));omega
 have hpl:=iB n.tag;rw[if_neg hc1]at h1;have hp0:0≤aI n.tag:=by
  have:¬(aI n.tag<0):=fun h=>hc1 (.inl h);omega
 clear hc hc1;rcases (by omega:aI n.tag=0∨aI n.tag=1∨aI n.tag=2) with hp|hp|hp
 ·rw[hp]at hs h1;simp only[aus,auy,atZ]at hs;split at hs
  ·rename_i hlr;cases hs;rw[if_pos rfl,if_pos hlr]at h1;refine⟨?_,by simp⟩;rw[atg];refine⟨rfl,by rw[h1];decide,?_⟩;rw[h1];simpa using ht
  cases hs
 ·rw[hp]at hs h1 hc2;obtain⟨o0,p,rfl⟩:∃o0 p,o=o0++[p]:=by
   rcases ar0 o with h|⟨o0,p,h⟩
   ·subst h;simp at hc2
   exact⟨o0,p,by simpa using h⟩
  have e1:(o0++[p]).drop ((o0++[p]).length-(1:Int).toNat)=[p]:=by
   have:(o0++[p]).length-(1:Int).toNat=o0.length:=by simp
   rw[this,atD]
  rw[e1]at hs;simp only at hs;rw[atg]at ht;obtain⟨t1,t2,t3⟩:=ht;split at hs
  ·rename_i hlr;cases hs;have t2':co e k≠0:=by omega
   rw[if_neg (by decide),if_neg t2',if_pos rfl,if_pos ⟨by omega,hlr.2⟩]at h1;refine⟨?_,by simp⟩;have e2:(o0++[p]).take ((o0++[p]).length-1)=o0:=by
    have:(o0++[p]).length-1=o0.length:=by simp
    rw[this,atF]
   rw[e2,atg];refine⟨rfl,by rw[h1];omega,?_⟩;rw[h1,show k+1-(co e k+1)=k-co e k by omega];exact t3
  cases hs
 rw[hp]at hs h1 hc2;obtain⟨o0,p,q,rfl⟩:∃o0 p q,o=o0++[p,q]:=by
  rcases ar0 o with h|⟨o1,q,h⟩
  ·subst h;simp at hc2
  rcases ar0 o1 with h'|⟨o0,p,h'⟩
  ·subst h' h;simp at hc2
  exact⟨o0,p,q,by rw[h,h'];simp⟩
 have e1:(o0++[p,q]).drop ((o0++[p,q]).length-(2:Int).toNat)=[p,q]:=by
  have:(o0++[p,q]).length-(2:Int).toNat=o0.length:=by simp
  rw[this,atD]
 rw[e1]at hs;simp only at hs;rw[atg]at ht;obtain⟨t1,t2,t3,t4,t5⟩:=ht;split at hs
 ·rename_i hlr;cases hs;have t2':co e k≠0:=by omega
  rw[if_neg (by decide),if_neg t2',if_neg (by decide),if_neg (by
   rintro (h|h|h)
   ·omega
   ·exact h (by omega)
   exact h (by omega))]at h1
  refine⟨?_,by simp⟩;have e2:(o0++[p,q]).take ((o0++[p,q]).length-2)=o0:=by
   have:(o0++[p,q]).length-2=o0.length:=by simp
   rw[this,atF]
  rw[e2,atg];refine⟨rfl,by rw[h1];omega,?_⟩;rw[h1,show k+1-(co e (k-co e k)+co e k+1)=k-co e k-co e (k-co e k) by omega];exact t5
 cases hs
theorem qS(e:List EN):∀k,k≤e.length→∀a o,cG (e.take k) 0 [] []=some (a,o)→UP e k o.reverse∧a.length=k:=by
 intro k;induction k with
 |zero=>
  intro _ a o h;simp[cG]at h;obtain⟨rfl,rfl⟩:=h;exact⟨rfl,rfl⟩
 |succ k ih=>
  intro hk a o h;have yB:k<e.length:=by omega
  rw[am3 yB,lf]at h;cases hf:cG (e.take k) 0 [] [] with
  |none=>rw[hf]at h;cases h
  |some q=>
   obtain⟨a1,o1⟩:=q;rw[hf]at h;simp only[al7,apx,al4]at h;rw[atw (by omega)]at h;obtain⟨i1,i2⟩:=ih (by omega) a1 o1 hf;obtain⟨j1,j2⟩:=Y8 (ad3 yB) i1 h;exact⟨j1,by omega⟩
theorem PU(e:List EN):∀m,m≤e.length→0<co e m→∀a o,cG (e.take (m-co e m)) 0 [] []=some (a,o)→∃a',cG (e.take m) 0 [] []=some (a',o++[m-1]):=by
 intro m;induction m using Nat.strongRecOn with
 |_ m ih=>
  intro hm h0 a o hf;cases m with
  |zero=>simp[co]at h0
  |succ m=>
   have yB:m<e.length:=by omega
   have hn:e[m]?=some e[m]:=ad3 yB;have h1:=Kn hn;have hstep:∀a1 o1,cG (e.take m) 0 [] []=some (a1,o1)→cG (e.take (m+1)) 0 [] []=gX m e[m] a1 o1:=fun a1 o1 h=>by
    rw[am3 yB,lf,h];simp only[al7,apx,al4];rw[atw (by omega)]
   have hpl:=iB e[m].tag;generalize e[m]=n at *;by_cases c1:aI n.tag<0∨cq n=false
   ·rw[if_pos c1]at h1;omega
   rw[if_neg c1]at h1;have c1a:¬aI n.tag<0:=fun h=>c1 (.inl h);have c1b:cq n≠false:=fun h=>c1 (.inr h);rcases (by omega:aI n.tag=0∨aI n.tag=1∨aI n.tag=2) with hp|hp|hp
   ·rw[if_pos hp]at h1;split at h1
    ·rename_i hlr;rw[h1]at hf;rw[show m+1-1=m by omega]at hf;rw[hstep a o hf];unfold gX;rw[if_neg (by
      rintro (h|h|h)
      ·exact c1a h
      ·omega
      exact c1b h),hp]
     simp only[aus,auy,atZ,if_pos hlr];exact⟨_,rfl⟩
    omega
   ·rw[if_neg (by omega)]at h1;split at h1
    ·omega
    rename_i z1
    try rw[if_pos hp]at h1
    split at h1
    ·rename_i hlr;rw[h1,show m+1-(co e m+1)=m-co e m by omega]at hf;obtain⟨a1,hf1⟩:=ih m (by omega) (by omega) (by omega) a o hf;have hm0:m≠0:=fun h=>by subst h;simp[co]at z1
     rw[hstep _ _ hf1];unfold gX;have e1:(o++[m-1]).drop ((o++[m-1]).length-(1:Int).toNat)=[m-1]:=by
      have:(o++[m-1]).length-(1:Int).toNat=o.length:=by simp
      rw[this,atD]
     have e2:(o++[m-1]).take ((o++[m-1]).length-1)=o:=by
      have:(o++[m-1]).length-1=o.length:=by simp
      rw[this,atF]
     rw[if_neg (by
      rintro (h|h|h)
      ·exact c1a h
      ·simp at h;omega
      exact c1b h),hp,e1]
     simp only;rw[if_pos ⟨by omega,hlr.2⟩,e2];exact⟨_,rfl⟩
    omega
   rw[if_neg (by omega)]at h1;split at h1
   ·omega
   rename_i z1
   try rw[if_neg (show ¬aI n.tag=1 by omega)]at h1
   split at h1
   ·omega
   rename_i z2;have y1:co e (m-co e m)≠0:=fun h=>z2 (.inl h);have y2:n.r=(m:Int)-1:=att fun h=>z2 (.inr (.inl h));have y3:n.l=(m:Int)-1-co e m:=att fun h=>z2 (.inr (.inr h));have hle:=wB e m;rw[h1,show m+1-(co e (m-co e m)+co e m+1)=(m-co e m)-co e (m-co e m) by omega]at hf;obtain⟨a1,hf1⟩:=ih (m-co e m) (by omega) (by omega) (by omega) a o hf;obtain⟨a2,hf2⟩:=ih m (by omega) (by omega) (by omega) a1 _ hf1;have hm0:m-co e m≠0:=fun h=>by rw[h]at y1;simp[co]at y1
   rw[hstep _ _ hf2];rw[at6,an7,ah5];unfold gX;generalize hpq:m-co e m-1=p at *;have e1:(o++[p,m-1]).drop ((o++[p,m-1]).length-(2:Int).toNat)=[p,m-1]:=by
    have:(o++[p,m-1]).length-(2:Int).toNat=o.length:=by simp
    rw[this,atD]
   have e2:(o++[p,m-1]).take ((o++[p,m-1]).length-2)=o:=by
    have:(o++[p,m-1]).length-2=o.length:=by simp
    rw[this,atF]
   rw[if_neg (by
    rintro (h|h|h)
    ·exact c1a h
    ·simp at h;omega
    exact c1b h),hp,e1]
   simp only;rw[if_pos ⟨by omega,by omega⟩,e2];exact⟨_,rfl⟩
theorem Hz(e:List EN):Cs e=si e:=by
 rw[arh];unfold Cs si;have hle:=wB e e.length;constructor
 ·intro h;simp only[acz,ad7]at h;obtain⟨⟨h1,h2⟩,h3⟩:=h;obtain⟨a,ha⟩:=PU e e.length (aes _) (by omega) [] [] (by rw[h3,avT];rfl);have hl:=(qS e e.length (aes _) _ _ ha).2;rw[atd]at ha;rw[ha];simp;omega
 intro h;cases hf:cG e 0 [] [] with
 |none=>rw[hf]at h;cases h
 |some q=>
  obtain⟨a,o⟩:=q;rw[hf]at h;simp only[acz,afE,ad7]at h;obtain⟨t,hl⟩:=qS e e.length (aes _) a o (by rw[atd];exact hf)
  match o,h.1 with
  |[p],_=>
   obtain⟨t1,t2,t3⟩:=t;have t3':e.length-co e e.length=0:=t3;simp only[acz,ad7];omega
theorem G9(b:Bool)(e:List EN)(hn:e.length≤most):az I.qbx [nV b e]=some (.bool (si e)):=by
 rw[←Hz];exact XK b e hn
def nL(k w:Int):Bool:=k==w ||k==0
theorem ZK(k w:Int):az I.qcb [ac k,ac w]=some (.bool (nL k w)):=by
 rw[am amJ rfl];unfold nL;by_cases h:k=w
 ·simp[azO,aa9,h]
 simp[azO,aa9,al h]
def gh(t l r:Int):Int×Bool:=
 if t=4∨(12≤t∧t≤15) then (2,nL l 2&&nL r 2)
 else if t=5∨22≤t then (1,nL l 1&&nL r 1)
 else if t=6∨t=7 then (1,true)
 else (1,l==r ||l==0 ||r==0)
theorem abB(t l r:Int):az I.qcc [ac t,ac l,ac r]=some (.tup [ac (gh t l r).1,.bool (gh t l r).2]):=by
 rw[am an4 rfl];have h:=ZK;unfold gh;by_cases c1:t=4∨(12≤t∧t≤15)
 ·rw[if_pos c1];have a1:=h l 2;have a2:=h r 2;generalize nL l 2=x at *;generalize nL r 2=y at *;rcases c1 with c1|⟨c1,c2⟩
  ·subst c1;cases x<;>simp[ax4,uH,a1,a2]
  have c3:¬t=4:=by omega
  cases x<;>simp[ax4,uH,a1,a2,al c3,c1,c2]
 rw[if_neg c1];have n4:¬t=4:=fun h=>c1 (.inl h);have n12:12≤t→¬t≤15:=fun h h'=>c1 (.inr ⟨h,h'⟩);have hb:(if 12≤t then decide (t≤15) else false)=false:=by
  by_cases h:12≤t
  ·simp[n12 h]
  simp[h]
 by_cases c2:t=5∨22≤t
 ·rw[if_pos c2];have a1:=h l 1;have a2:=h r 1;generalize nL l 1=x at *;generalize nL r 1=y at *;rcases c2 with c2|c2
  ·subst c2;cases x<;>simp[ax4,uH,a1,a2]
  have m1:¬t=5:=by omega
  have m2:12≤t:=by omega
  have m3:¬t≤15:=by omega
  cases x<;>simp[ax4,uH,a1,a2,al n4,al m1,m2,m3,c2]
 rw[if_neg c2];have n5:¬t=5:=fun h=>c2 (.inl h);have n22:¬22≤t:=fun h=>c2 (.inr h);by_cases c3:t=6∨t=7
 ·rw[if_pos c3];rcases c3 with c3|c3<;>subst c3<;>simp[ax4,uH]
 rw[if_neg c3];have n6:¬t=6:=fun h=>c3 (.inl h);have n7:¬t=7:=fun h=>c3 (.inr h);by_cases m2:12≤t
 ·have m3:=n12 m2;by_cases x1:l=r
  ·simp[ax4,uH,al n4,al n5,al n6,al n7,m2,m3,n22,x1]
  by_cases x2:l=0
  ·subst x2;simp[ax4,uH,al n4,al n5,al n6,al n7,m2,m3,n22,x1,al x1]
  simp[ax4,uH,al n4,al n5,al n6,al n7,m2,m3,n22,al x1,al x2]
 by_cases x1:l=r
 ·simp[ax4,uH,al n4,al n5,al n6,al n7,m2,n22,x1]
 by_cases x2:l=0
 ·subst x2;simp[ax4,uH,al n4,al n5,al n6,al n7,m2,n22,x1,al x1]
 simp[ax4,uH,al n4,al n5,al n6,al n7,m2,n22,al x1,al x2]
def Eh(xX:List Int)(_:Nat)(n:EN)(own:List Int):List Int⊕Unit:=
 if n.tag=1 then .inl (own++[n.v.k]) else if n.tag=2 then .inl (own++[xX.getD n.col.toNat 0]) else
 if (gh n.tag (own.getD n.l.toNat 0) (if 0≤n.r then own.getD n.r.toNat 0 else 0)).2=true then .inl (own++[(gh n.tag (own.getD n.l.toNat 0) (if 0≤n.r then own.getD n.r.toNat 0 else 0)).1]) else .inr ()
end Go.AM
