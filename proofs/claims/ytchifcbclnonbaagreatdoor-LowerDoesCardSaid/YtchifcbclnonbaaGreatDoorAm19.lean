/- Part of the proof. -/
import Derived.Test.YtchifcbclnonbaaGreatDoorAm18
set_option linter.unusedVariables false
set_option linter.unusedSimpArgs false
set_option linter.unusedSectionVars false
namespace Go.AM
open P
set_option maxHeartbeats 64000000
set_option maxRecDepth 40000
attribute [local simp] aF br
theorem Cj(b:Bool)(e:List EN)(bk:Bool)(ac:List Int)(hn:e.length≤aV)(hk:ac.length≤aV) :
  bI I.qfn [.agg [.aa b (e.map EN.a)],.aa bk (bE ac)]=some (.bool (mn e ac)):=by
 rw[aQ ahs rfl];have h:=fun b bk=>Ca b e bk ac hn hk;unfold mn;simp[apA,ab1,h]
 repeat' (split<;>(try simp_all))
theorem IR(c:Int)(t bk:Bool)(ac:List Int):bI I.qfl [aL c,.cptr t (.aa bk (bE ac)) 0]=some (.bool (decide (c<0) ||decide ((ac.length:Int)≤c))):=by
 rw[aQ agH rfl];cases t<;>simp[apc,abo]<;>(repeat' (split<;>(try simp_all)))<;>omega
def uX(l ac:List Int):Bool:=!(l.any fun c=>decide (c<0) ||decide ((ac.length:Int)≤c))
theorem LP(b:Bool)(l:List Int)(bk:Bool)(ac:List Int)(hl:l.length≤aV):bI I.qfk [.aa b (l.map (.int .i64)),.aa bk (bE ac)]=some (.bool (uX l ac)):=by
 rw[aQ ahO rfl];have hC:=oT (enc:=.int .i64) (b:=b) (l:=l) (f:=iC [.arr 1 0 [.aa bk (bE ac)]] (.fn 272 [] [.ptr 0 0 0 0])) (p:=fun c=>decide (c<0) ||decide ((ac.length:Int)≤c)) hl (fun _=>⟨rfl,rfl⟩) (fun σ=>pg _ _ _) (fun c _=>by
  simp[IR])
 unfold uX;simp at hC;cases hA:(l.any fun c=>decide (c<0) ||decide ((ac.length:Int)≤c))<;>rw[hA]at hC<;>simp[apx,abf,hC]
theorem MO(k:Int):bI I.qfm [aL k]=some (.bool (k==1 ||k==2 ||k==3)):=by
 rw[aQ agY rfl];simp[ap3,aaH]
 repeat' (split<;>(try simp_all))
theorem LR(k:Int):bI I.qfe [aL k]=some (.bool (decide (k<1) ||decide (3<k))):=by
 rw[aQ agu rfl];have h:=MO k;have e:(!(k==1 ||k==2 ||k==3))=(decide (k<1) ||decide (3<k)):=by
  rw[cS];simp;omega
 rw[←e];simp[apa,abk,h]
theorem MP(o:Int×Bool)(t bk:Bool)(a:List Int):bI I.qfb [fU o,.cptr t (.aa bk (bE a)) 0]=some (.bool (decide (o.1<0) ||decide ((a.length:Int)≤o.1))):=by
 rw[aQ agi rfl];obtain⟨c,d⟩:=o;cases t<;>simp[apI,abP,fU]<;>(repeat' (split<;>(try simp_all)))<;>omega
def oC(op:Int):Int:=if op=1 then 0 else if op=2∨op=7 then 2 else 1
theorem Lk(op:Int):bI I.qfj [aL op]=some (aL (oC op)):=by
 rw[aQ ae2 rfl];unfold oC;simp[apQ,aaZ]
 repeat' (split<;>(try simp_all))
def Lt(n:bB):Bool:=n.tab==0&&n.ac.length==0&&!n.left&&n.cond.length==0&&n.keys.length==0&&n.ah.length==0&&n.items.length==0&&n.ords.length==0&&n.limit==0
theorem M5(n:bB):bI I.qfo [n.a]=some (.bool (Lt n)):=by
 rw[aQ ajF rfl];have hz:∀{α:Type} (l:List α),(l=[]∧((l.length:Int)==0)=true∧(l.length==0)=true)∨(l≠[]∧((l.length:Int)==0)=false∧(l.length==0)=false):=fun l=>by
  cases l with
  |nil=>exact .inl ⟨rfl,rfl,rfl⟩
  |cons x r=>exact .inr ⟨by simp,by simp;omega,by simp⟩
 unfold Lt;by_cases c1:n.tab=0
 ·rcases hz n.ac with⟨c2,c2',c2''⟩|⟨c2,c2',c2''⟩
  ·cases c3:n.left with
   |true=>simp[anS,xO,bB.a,c1,c2,c3]
   |false=>
    rcases hz n.cond with⟨c4,c4',c4''⟩|⟨c4,c4',c4''⟩
    ·rcases hz n.keys with⟨c5,c5',c5''⟩|⟨c5,c5',c5''⟩
     ·rcases hz n.ah with⟨c6,c6',c6''⟩|⟨c6,c6',c6''⟩
      ·rcases hz n.items with⟨c7,c7',c7''⟩|⟨c7,c7',c7''⟩
       ·rcases hz n.ords with⟨c8,c8',c8''⟩|⟨c8,c8',c8''⟩
        ·simp[anS,xO,bB.a,c1,c2,c3,c4,c5,c6,c7,c8]
        simp[anS,xO,bB.a,c1,c2,c3,c4,c5,c6,c7,c8',c8'']
       simp[anS,xO,bB.a,c1,c2,c3,c4,c5,c6,c7',c7'']
      simp[anS,xO,bB.a,c1,c2,c3,c4,c5,c6',c6'']
     simp[anS,xO,bB.a,c1,c2,c3,c4,c5',c5'']
    simp[anS,xO,bB.a,c1,c2,c3,c4',c4'']
  simp[anS,xO,bB.a,c1,c2',c2'']
 simp[anS,xO,bB.a,c1,aP c1]
def Fr(ac:List Int)(g:ew):Int:=if g.tag=1∨g.tag=2∨g.tag=3 then 2 else if g.tag=4∨g.tag=5 then (fe g.arg ac).1 else 0
theorem YR{ac:List Int}{g:ew}(h:(xH ac g).1=true):Fr ac g=(xH ac g).2:=by
 unfold xH Fr at *;by_cases t1:g.tag=1
 ·simp[t1]
 rw[if_neg t1]at h ⊢;simp at h;by_cases t45:g.tag=4∨g.tag=5
 ·have:¬(g.tag=1∨g.tag=2∨g.tag=3):=by omega
  simp[t45,this]
 have:(g.tag=1∨g.tag=2∨g.tag=3):=by omega
 simp[t45,this]
theorem Tf(g:ew)(bk:Bool)(ac:List Int)(hg:g.arg.length≤aV)(hk:ac.length≤aV) :
  bI I.qer [g.a,.aa bk (bE ac)]=some (.tup [aL (Fr ac g),.bool (xH ac g).1]):=by
 rw[aQ ahC rfl];have h:=fun b bk=>Ca b g.arg bk ac hg hk;unfold xH Fr;by_cases t1:g.tag=1
 ·rw[if_pos t1];simp[an4,HL,ew.a,t1];rw[cS];simp
 rw[if_neg t1];generalize (fe g.arg ac).1=kk at *;generalize (fe g.arg ac).2=no at *;by_cases t2:g.tag=2
 ·simp[an4,HL,ew.a,t2,h]
 by_cases t3:g.tag=3
 ·simp[an4,HL,ew.a,t3,h]
  repeat' (split<;>(try simp_all))
 by_cases t45:g.tag=4∨g.tag=5
 ·rcases t45 with t|t<;>simp[an4,HL,ew.a,t,h]
 have t4:¬g.tag=4:=fun h=>t45 (.inl h);have t5:¬g.tag=5:=fun h=>t45 (.inr h);have:(no==0&&decide (1<g.tag)&&decide (g.tag≤5)&&(g.tag != 3 ||kk==2 ||kk==0))=false:=by
  rw[iY];intro hh;simp at hh;omega
 rw[this];simp[an4,HL,ew.a,t1,t2,t3,t4,t5,aP t1,aP t2,aP t3,aP t4,aP t5,h]
section
abbrev rO(bn:Bool)(ns:List bB)(bk:Bool)(ks:List (jp Int))(bf:Bool)(fs:List Nat):ap:=.agg [.aa bn (ns.map bB.a),.aa bk (ks.map (jp.c (.int .i64))),.aa bf (nk fs)]
section
variable (t bn:Bool) (ns:List bB) (bk:Bool) (ks:List (jp Int)) (bf:Bool) (fs:List Nat) (n:bB)
theorem Hy:∀base σ m,fz true false base σ (m+4) (.cptr t (rO bn ns bk ks bf fs) 0)=.cptr t (rO bn ns bk ks bf fs) 0:=fun base σ m=>by
 cases t<;>simp
theorem NF(p q:Nat)(hp:n.l=(p:Int))(hq:n.r=(q:Int))(a b:jp Int)(ha:ks[p]?=some a)(hb:ks[q]?=some b)(hc:n.cond.length≤aV)(hl:a.l.length+b.l.length≤aV) :
  bI I.qez [.cptr t (rO bn ns bk ks bf fs) 0,n.a]=some (.tup [.aa false (bE (a.l++b.l)),.bool (mn n.cond (a.l++b.l))]):=by
 rw[aQ af1 rfl];have hpl:=(ak.1 ha).1;have hag:∀hh:p<ks.length,ks[p]'hh=a:=fun hh=>(ak.1 ha).2;have hpi:((p:Int)<(ks.length:Int)):=by omega
 have hql:=(ak.1 hb).1;have hbg:∀hh:q<ks.length,ks[q]'hh=b:=fun hh=>(ak.1 hb).2;have hqi:((q:Int)<(ks.length:Int)):=by omega
 have h:=fun b' bk=>Cj b' n.cond bk (a.l++b.l) hc (by simpa using hl);have hcc:∀t,bI I.qhj [.aa t [.aa a.b (bE a.l),.aa b.b (bE b.l)]]=some (.aa false (bE (a.l++b.l))):=fun t=>by
  have:=Fl (enc:=.int .i64) t [a,b] (by simpa using hl) (by simp[aV]);simpa using this
 have hz1:=Hy t bn ns bk ks bf fs;have n1:∀base σ m,fz true false base σ (m+3) n.a=n.a:=fun base σ m=>Ft.ft true false base σ m n rfl;have n3:aC n.a=12∧isAgg n.a=true:=⟨rfl,rfl⟩;have k1:(cellsOf n.a)[1]?=some (aL n.l):=rfl;have k2:(cellsOf n.a)[2]?=some (aL n.r):=rfl;have k6:List.take 1 (List.drop 6 (cellsOf n.a))=[.aa n.bc (n.cond.map EN.a)]:=rfl;have k6':(cellsOf n.a)[6]?=some (.aa n.bc (n.cond.map EN.a)):=rfl;simp only[bE,bR]at h hcc;simp[apN,ab5,h,hcc,hz1,n1,n3,k1,k2,k6,k6',hp,hq,ha,hb,hpl,hag,hpi,hql,hbg,hqi]
def Li(a:List Int)(s:Bool×Nat×List Int)(e:kh):Bool×Nat×List Int:=(s.1&&(fe e.l a).2==0,s.2.1+1,s.2.2++[(fe e.l a).1])
theorem Ge(a:List Int):∀(l:List kh) (ok:Bool) (ep:Nat) (acc:List Int),l.foldl (Li a) (ok,ep,acc)=(ok&&l.all (fun e=>(fe e.l a).2==0),ep+l.length,acc++l.map fun e=>(fe e.l a).1)
 |[],ok,ep,acc=>by simp
 |e::l,ok,ep,acc=>by
  rw[dh,Li,Ge a l];simp[eK,cA,eE 1]
theorem GP(p:Nat)(hp:n.l=(p:Int))(a:jp Int)(ha:ks[p]?=some a)(hi:n.items.length≤aV)(he:∀e∈n.items,e.l.length≤aV)(hal:a.l.length≤aV) :
  bI I.qfc [.cptr t (rO bn ns bk ks bf fs) 0,n.a]=some (.tup [.aa false (bE (n.items.map fun e=>(fe e.l a.l).1)),.bool (decide (1≤n.items.length)&&decide (n.items.length≤16)&&n.items.all (fun e=>(fe e.l a.l).2==0))]):=by
 rw[aQ aai rfl];have hpl:=(ak.1 ha).1;have hag:∀hh:p<ks.length,ks[p]'hh=a:=fun hh=>(ak.1 ha).2;have hpi:((p:Int)<(ks.length:Int)):=by omega
 have hz1:=Hy t bn ns bk ks bf fs;have hz2:∀base σ m,fz false true base σ (m+4) (.cptr t (rO bn ns bk ks bf fs) 0)=.cptr t (rO bn ns bk ks bf fs) 0:=fun base σ m=>by cases t<;>simp
 have n1:∀base σ m,fz true false base σ (m+3) n.a=n.a:=fun base σ m=>Ft.ft true false base σ m n rfl;have n2:∀base σ m,fz false true base σ (m+3) n.a=n.a:=fun base σ m=>Ft.ft false true base σ m n rfl;have n3:aC n.a=12∧isAgg n.a=true:=⟨rfl,rfl⟩;have k1:(cellsOf n.a)[1]?=some (aL n.l):=rfl;have k9:(cellsOf n.a)[9]?=some (.aa n.bi (n.items.map kh.a)):=rfl;have h:=fun ok0:Bool=>(eh (base:=2) (clr:=[7,8,9,13]) (b:=C5) n.items
  (fun k (s:Bool×Nat×List Int)=>⟨[.cptr t (rO bn ns bk ks bf fs) 0,n.a,.ptr 0 0 0 0,.ai,.bool false,.bool s.1,.sl 1 s.2.1 0 s.2.2.length,.any,.any,.any,.aa n.bi (n.items.map kh.a),aL n.items.length,aL k,.any],[.arr 12 0 [n.a],.arr 1 s.2.1 (bE s.2.2)]⟩)
  (fun k s=>s.2.2.length≤k) (Li a.l)
  (fun s=>(.ext 0,⟨[.cptr t (rO bn ns bk ks bf fs) 0,n.a,.ptr 0 0 0 0,.ai,.bool false,.bool s.1,.sl 1 s.2.1 0 s.2.2.length,.any,.any,.any,.aa n.bi (n.items.map kh.a),aL n.items.length,aL n.items.length,.bool false],[.arr 12 0 [n.a],.arr 1 s.2.1 (bE s.2.2)]⟩))
  (fun k e s hk hy hs=>by
   obtain⟨ok,ep,acc⟩:=s;simp only at hs;have aj:((k:Int)<(n.items.length:Int)):=by omega
   have h5:acc.length+1≤aV:=by omega
   have hkd:=fun b bk=>Ca b e.l bk a.l (he e (aD hy)) hal;refine⟨?_,by simp[Li];omega⟩;unfold Li;cases ok<;>simp[C5,aj,hy,kh.a,hkd,hag,hpl,hpi,ha,hp,n3,k1,append,h5,bJ hk hi,aT,aW,hz2,n2])
  (fun s _=>by simp[C5]) (ok0,0,[]) (by simp)).1
 simp only[Ge]at h;have hA:(decide (1≤n.items.length)&&decide (n.items.length≤16))=true∨(1≤n.items.length∧¬n.items.length≤16)∨¬1≤n.items.length:=by
  by_cases c1:1≤n.items.length<;>by_cases c2:n.items.length≤16<;>simp[c1,c2]
 simp at h;rcases hA with c|⟨c1,c2⟩|c1
 ·simp at c;obtain⟨c1,c2⟩:=c;have c1':(1:Int)≤(n.items.length:Int):=by omega
  have c2':(n.items.length:Int)≤16:=by omega
  simp[aoz,Rb,hz1,n1,n3,k9,h,c1,c2,c1',c2']
 ·have c1':(1:Int)≤(n.items.length:Int):=by omega
  have c2':¬(n.items.length:Int)≤16:=by omega
  simp[aoz,Rb,hz1,n1,n3,k9,h,c1,c2,c1',c2']
 have c1':¬(1:Int)≤(n.items.length:Int):=by omega
 simp[aoz,Rb,hz1,n1,n3,k9,h,c1,c1']
end
end
section
section
variable (t bn:Bool) (ns:List bB) (bk:Bool) (ks:List (jp Int)) (bf:Bool) (fs:List Nat) (n:bB)
def unG(k:Nat)(o:Int)(s:Bool×List Int):Bool×List Int⊕Empty:=.inl (s.1&&((if s.2.getD k 0=0 then o else s.2.getD k 0)==o ||o==0),if s.2.getD k 0=0 then s.2.set k o else s.2)
theorem My:∀(b a pre:List Int) (ok:Bool),a.length=b.length→∃out,dm unG b pre.length (ok,pre++a)=.inl (ok&&(mu a b).isSome,out)∧out.length=pre.length+a.length∧∀r,mu a b=some r→out=pre++r
 |[],a,pre,ok,h=>by
  obtain rfl:a=[]:=bM h;exact⟨pre,by simp[dm,mu],by simp,fun r hr=>by simp[mu]at hr;simp[←hr]⟩
 |o::b,[],pre,ok,h=>by cases h
 |o::b,k::a,pre,ok,h=>by
  have ih:=My b a (pre++[if k=0 then o else k]) (ok&&((if k=0 then o else k)==o ||o==0)) (by simpa using h);obtain⟨out,h1,h2,h3⟩:=ih;have hget:(pre++k::a).getD pre.length 0=k:=by simp[aE]
  have hset:(if k=0 then (pre++k::a).set pre.length o else pre++k::a)=pre++[if k=0 then o else k]++a:=by
   by_cases hk:k=0
   ·simp[hk]
   simp[hk]
  have hu:mu (k::a) (o::b)=if o≠0∧o≠(if k=0 then o else k) then none else (mu a b).map ((if k=0 then o else k)::·):=rfl
  refine⟨out,?_,by simp at h2 ⊢;omega,?_⟩
  ·simp only[dm,unG,hget,hset];rw[show pre.length+1=(pre++[if k=0 then o else k]).length by simp,h1,hu];clear h1 h2 h3 hset hu;generalize (if k=0 then o else k)=w;by_cases hc:o≠0∧o≠w
   ·have hc1:(o==0)=false:=by simp[hc.1]
    have hc2:(w==o)=false:=by simp;exact fun h=>hc.2 h.symm
    simp[hc,hc1,hc2]
   have:(w==o ||o==0)=true:=by
    simp;by_cases h0:o=0
    ·exact .inr h0
    by_cases h1:o=w
    ·exact .inl h1.symm
    exact absurd ⟨h0,h1⟩ hc
   rw[if_neg hc,this];simp
  intro r hr;rw[hu]at hr;by_cases hc:o≠0∧o≠(if k=0 then o else k)
  ·rw[if_pos hc]at hr;cases hr
  rw[if_neg hc]at hr;cases hq:mu a b with
  |none=>rw[hq]at hr;cases hr
  |some q=>
   rw[hq]at hr;simp only[cL,az]at hr;rw[h3 q hq,←hr,iT];rfl
theorem LQ(p q:Nat)(hp:n.l=(p:Int))(hq:n.r=(q:Int))(a b:jp Int)(ha:ks[p]?=some a)(hb:ks[q]?=some b)(hal:a.l.length≤aV)(hlen:a.l.length=b.l.length) :
  ∃out,bI I.qff [.cptr t (rO bn ns bk ks bf fs) 0,n.a]=some (.tup [.aa false (bE out),.bool (mu a.l b.l).isSome])∧∀r,mu a.l b.l=some r→out=r:=by
 obtain⟨out,h1,h2,h3⟩:=My b.l a.l [] true hlen;refine⟨out,?_,by simpa using h3⟩;rw[aQ Uq rfl];have hpl:=(ak.1 ha).1;have hag:∀hh:p<ks.length,ks[p]'hh=a:=fun hh=>(ak.1 ha).2;have hpi:((p:Int)<(ks.length:Int)):=by omega
 have hql:=(ak.1 hb).1;have hbg:∀hh:q<ks.length,ks[q]'hh=b:=fun hh=>(ak.1 hb).2;have hqi:((q:Int)<(ks.length:Int)):=by omega
 have hz1:=Hy t bn ns bk ks bf fs;have hz2:∀base σ m,fz false true base σ (m+4) (.cptr t (rO bn ns bk ks bf fs) 0)=.cptr t (rO bn ns bk ks bf fs) 0:=fun base σ m=>by cases t<;>simp
 have n1:∀base σ m,fz true false base σ (m+3) n.a=n.a:=fun base σ m=>Ft.ft true false base σ m n rfl;have n2:∀base σ m,fz false true base σ (m+3) n.a=n.a:=fun base σ m=>Ft.ft false true base σ m n rfl;have n3:aC n.a=12∧isAgg n.a=true:=⟨rfl,rfl⟩;have k1:(cellsOf n.a)[1]?=some (aL n.l):=rfl;have k2:(cellsOf n.a)[2]?=some (aL n.r):=rfl;have hbm:b.l.length≤aV:=by omega
 have h:=eL (base:=2) (clr:=[9,10,15,16]) (b:=uL) b.l
  (fun k (s:Bool×List Int)=>⟨[.cptr t (rO bn ns bk ks bf fs) 0,n.a,.ptr 0 0 0 0,.ai,.bool false,.aa a.b (bE a.l),.aa b.b (bE b.l),.sl 1 0 0 a.l.length,.bool s.1,.any,.any,.bool false,.aa b.b (bE b.l),aL b.l.length,aL k,.any,.any],[.arr 12 0 [n.a],.arr 1 0 (bE s.2)]⟩)
  (fun _ s=>s.2.length=a.l.length) unG
  (fun s=>(.ext 0,⟨[.cptr t (rO bn ns bk ks bf fs) 0,n.a,.ptr 0 0 0 0,.ai,.bool false,.aa a.b (bE a.l),.aa b.b (bE b.l),.sl 1 0 0 a.l.length,.bool s.1,.any,.any,.bool false,.aa b.b (bE b.l),aL b.l.length,aL b.l.length,.bool false,.any],[.arr 12 0 [n.a],.arr 1 0 (bE s.2)]⟩))
  (fun (r:Empty) _=>r.elim)
  (fun k o s hk hy hs=>by
   obtain⟨ok,X⟩:=s;simp only at hs;unfold unG;have aj:((k:Int)<(b.l.length:Int)):=by omega
   have hkX:k<X.length:=by omega
   have hkA:k<a.l.length:=by omega
   refine⟨?_,by simp only;split<;>simp[hs]⟩;have hof:X[k]?=some (X.getD k 0):=by simp[aE,hkX]
   have hge:∀h:k<X.length,X[k]'h=X.getD k 0:=fun h=>(ak.1 hof).2;generalize hw:X.getD k 0=w at *;by_cases c:w=0
   ·subst c;cases ok<;>by_cases c2:o=0
    all_goals simp[uL,aj,hy,hof,hge,hkX,hkA,hs,n3,bJ hk hbm,aT,aW,hz2,n2,c2,aP]
   cases ok
   ·simp[uL,aj,hy,hof,hge,hkX,hkA,hs,n3,bJ hk hbm,aT,aW,hz2,n2,c,aP c]
   by_cases c2:w=o
   ·subst c2;simp[uL,aj,hy,hof,hge,hkX,hkA,hs,n3,bJ hk hbm,aT,aW,hz2,n2,c,aP c]
   simp[uL,aj,hy,hof,hge,hkX,hkA,hs,n3,bJ hk hbm,aT,aW,hz2,n2,c,aP c,c2,aP c2])
  (fun s _=>by simp[uL]) (true,a.l) rfl
 simp only[cK,bN]at h1;rw[h1]at h;obtain⟨_,h⟩:=h;have hcl:=nI (enc:=.int .i64) a.b a.l hal;have hne:((a.l.length:Int) != (b.l.length:Int))=false:=by simp[hlen]
 simp only[show ((0:Nat):Int)=0 from rfl]at h;simp at h2;have htk:List.take a.l.length (out.map (ap.int .i64))=out.map (.int .i64):=ay (by simp[h2]);simp only[bE]at *;simp[aoI,WM,hz1,n1,n3,k1,k2,hp,hq,ha,hb,hpl,hag,hpi,hql,hbg,hqi,hne,hcl,h,h2,htk]
end
end
section
section
variable (t bn:Bool) (ns:List bB) (bk:Bool) (ks:List (jp Int)) (bf:Bool) (fs:List Nat) (n:bB)
theorem Pm(p q:Nat)(hp:n.l=(p:Int))(hq:n.r=(q:Int))(a b:jp Int)(ha:ks[p]?=some a)(hb:ks[q]?=some b)(hlen:a.l.length≠b.l.length) :
  bI I.qff [.cptr t (rO bn ns bk ks bf fs) 0,n.a]=some (.tup [.aa false [],.bool false]):=by
 rw[aQ Uq rfl];have hpl:=(ak.1 ha).1;have hag:∀hh:p<ks.length,ks[p]'hh=a:=fun hh=>(ak.1 ha).2;have hpi:((p:Int)<(ks.length:Int)):=by omega
 have hql:=(ak.1 hb).1;have hbg:∀hh:q<ks.length,ks[q]'hh=b:=fun hh=>(ak.1 hb).2;have hqi:((q:Int)<(ks.length:Int)):=by omega
 have hz1:=Hy t bn ns bk ks bf fs;have n1:∀base σ m,fz true false base σ (m+3) n.a=n.a:=fun base σ m=>Ft.ft true false base σ m n rfl;have n3:aC n.a=12∧isAgg n.a=true:=⟨rfl,rfl⟩;have k1:(cellsOf n.a)[1]?=some (aL n.l):=rfl;have k2:(cellsOf n.a)[2]?=some (aL n.r):=rfl;have hne:((a.l.length:Int) != (b.l.length:Int))=true:=by simp;omega
 simp[aoI,WM,hz1,n1,n3,k1,k2,hp,hq,ha,hb,hpl,hag,hpi,hql,hbg,hqi,hne]
def sO(a:List Int):Bool:=Bq n&&uX n.keys a
def U2(a:List Int)(s:Nat×List Int)(x:Int):Nat×List Int:=(s.1+1,s.2++[a.getD x.toNat 0])
theorem Hi(a:List Int):∀(l:List Int) (ep:Nat) (acc:List Int),l.foldl (U2 a) (ep,acc)=(ep+l.length,acc++l.map fun x=>a.getD x.toNat 0)
 |[],ep,acc=>by simp
 |x::l,ep,acc=>by
  rw[dh,U2,Hi a l];simp[cA,eE 1]
def VD(a:List Int)(s:Bool×Nat×List Int)(g:ew):Bool×Nat×List Int:=(s.1&&(xH a g).1,s.2.1+1,s.2.2++[Fr a g])
theorem HU(a:List Int):∀(l:List ew) (ok:Bool) (ep:Nat) (acc:List Int),l.foldl (VD a) (ok,ep,acc)=(ok&&l.all (fun g=>(xH a g).1),ep+l.length,acc++l.map (Fr a))
 |[],ok,ep,acc=>by simp
 |g::l,ok,ep,acc=>by
  rw[dh,VD,HU a l];simp[eK,cA,eE 1]
theorem Mi(p:Nat)(hp:n.l=(p:Int))(a:jp Int)(ha:ks[p]?=some a)(hk:n.keys.length≤wJ)(hg:n.ah.length≤wJ)(he:∀g∈n.ah,g.arg.length≤aV)(hal:a.l.length≤aV) :
  bI I.qey [.cptr t (rO bn ns bk ks bf fs) 0,n.a]=some (if sO n a.l then .tup [.aa false (bE ((n.keys.map fun x=>a.l.getD x.toNat 0)++n.ah.map (Fr a.l))),.bool (n.ah.all fun g=>(xH a.l g).1)] else .tup [.aa false [],.bool false]):=by
 rw[aQ aaW rfl];have hkm:n.keys.length≤aV:=aZ hk (by decide);have hgm:n.ah.length≤aV:=aZ hg (by decide);have hkg:n.keys.length+n.ah.length≤68719476736:=aZ (Nat.add_le_add hk hg) (by decide);have hw:IntKind.i64.wrap ((n.keys.length:Int)+(n.ah.length:Int))=(n.keys.length:Int)+n.ah.length:=tI (by omega) (by omega);have hpl:=(ak.1 ha).1;have hag:∀hh:p<ks.length,ks[p]'hh=a:=fun hh=>(ak.1 ha).2;have hpi:((p:Int)<(ks.length:Int)):=by omega
 have hz1:=Hy t bn ns bk ks bf fs;have hz2:∀base σ m,fz false true base σ (m+4) (.cptr t (rO bn ns bk ks bf fs) 0)=.cptr t (rO bn ns bk ks bf fs) 0:=fun base σ m=>by cases t<;>simp
 have n1:∀base σ m,fz true false base σ (m+3) n.a=n.a:=fun base σ m=>Ft.ft true false base σ m n rfl;have n2:∀base σ m,fz false true base σ (m+3) n.a=n.a:=fun base σ m=>Ft.ft false true base σ m n rfl;have n3:aC n.a=12∧isAgg n.a=true:=⟨rfl,rfl⟩;have k1:(cellsOf n.a)[1]?=some (aL n.l):=rfl;have k7:(cellsOf n.a)[7]?=some (.aa n.by' (n.keys.map (.int .i64))):=rfl;have k8:(cellsOf n.a)[8]?=some (.aa n.bg (n.ah.map ew.a)):=rfl;have hP:=fun b bk=>LP b n.keys bk a.l hkm;simp only[bE]at hP;by_cases c1:n.keys.length≤3
 ·have c1':(n.keys.length:Int)≤3:=by omega
  by_cases c2:n.ah.length≤12
  ·have c2':(n.ah.length:Int)≤12:=by omega
   by_cases c3:0<n.keys.length+n.ah.length
   ·have c3':(0:Int)<(n.keys.length:Int)+n.ah.length:=by omega
    cases c4:uX n.keys a.l with
    |false=>
     have e:sO n a.l=false:=by unfold sO;rw[c4];simp
     rw[c4]at hP;simp[an2,HY,hz1,n1,n3,k1,k7,k8,hp,ha,hag,hpl,hpi,c1',c2',c3',hw,hP,e]
    |true=>
     have e:sO n a.l=true:=by unfold sO Bq;rw[c4];simp[c1,c2];omega
     rw[c4]at hP;have hin:∀x∈n.keys,0≤x∧x<a.l.length:=fun x hx=>by
      unfold uX at c4;simp only[eM,dX]at c4;have:=c4 x hx;simp at this;omega
     have h1:=(eh (base:=2) (clr:=[8,16]) (b:=Dz) n.keys
      (fun k (s:Nat×List Int)=>⟨[.cptr t (rO bn ns bk ks bf fs) 0,n.a,.ptr 0 0 0 0,.ai,.bool false,.aa a.b (bE a.l),.bool true,.sl 1 s.1 0 s.2.length,.any,.any,.any,.any,.bool false,.aa n.by' (n.keys.map (.int .i64)),aL n.keys.length,aL k,.any,.any,.any,.any,.any],[.arr 12 0 [n.a],.arr 1 s.1 (bE s.2)]⟩)
      (fun k s=>s.2.length≤k) (U2 a.l)
      (fun s=>(.ext 0,⟨[.cptr t (rO bn ns bk ks bf fs) 0,n.a,.ptr 0 0 0 0,.ai,.bool false,.aa a.b (bE a.l),.bool true,.sl 1 s.1 0 s.2.length,.any,.any,.any,.any,.bool false,.aa n.by' (n.keys.map (.int .i64)),aL n.keys.length,aL n.keys.length,.bool false,.any,.any,.any,.any],[.arr 12 0 [n.a],.arr 1 s.1 (bE s.2)]⟩))
      (fun k x s hk' hy hs=>by
       obtain⟨ep,acc⟩:=s;simp only at hs;have aj:((k:Int)<(n.keys.length:Int)):=by omega
       have h5:acc.length+1≤aV:=by omega
       obtain⟨x0,x1⟩:=hin x (aD hy);refine⟨?_,by simp[U2];omega⟩;have e3:a.l[x.toNat]?=some (a.l.getD x.toNat 0):=by
        have:x.toNat < a.l.length:=by omega
        simp[aE,this]
       unfold U2;generalize a.l.getD x.toNat 0=w at *;simp[Dz,aj,hy,x0,e3,append,h5,bJ hk' hkm,aT,aW,hz2,n2])
      (fun s _=>by simp[Dz]) (0,[]) (by simp)).1
     have h2:=(eh (base:=2) (clr:=[9,10,11,20]) (b:=Db) n.ah
      (fun k (s:Bool×Nat×List Int)=>⟨[.cptr t (rO bn ns bk ks bf fs) 0,n.a,.ptr 0 0 0 0,.ai,.bool false,.aa a.b (bE a.l),.bool s.1,.sl 1 s.2.1 0 s.2.2.length,.any,.any,.any,.any,.bool false,.aa n.by' (n.keys.map (.int .i64)),aL n.keys.length,aL n.keys.length,.bool false,.aa n.bg (n.ah.map ew.a),aL n.ah.length,aL k,.any],[.arr 12 0 [n.a],.arr 1 s.2.1 (bE s.2.2)]⟩)
      (fun k s=>s.2.2.length≤n.keys.length+k) (VD a.l)
      (fun s=>(.ext 2,⟨[.cptr t (rO bn ns bk ks bf fs) 0,n.a,.ptr 0 0 0 0,.ai,.bool false,.aa a.b (bE a.l),.bool s.1,.sl 1 s.2.1 0 s.2.2.length,.any,.any,.any,.any,.bool false,.aa n.by' (n.keys.map (.int .i64)),aL n.keys.length,aL n.keys.length,.bool false,.aa n.bg (n.ah.map ew.a),aL n.ah.length,aL n.ah.length,.bool false],[.arr 12 0 [n.a],.arr 1 s.2.1 (bE s.2.2)]⟩))
      (fun k g s hk' hy hs=>by
       obtain⟨ok,ep,acc⟩:=s;simp only at hs;have aj:((k:Int)<(n.ah.length:Int)):=by omega
       have h5:acc.length+1≤aV:=by unfold aV;omega
       have hgz:aC g.a=2∧isAgg g.a=true:=⟨rfl,rfl⟩;have g1:∀base σ m,fz true false base σ (m+3) g.a=g.a:=fun base σ m=>Ft.ft true false base σ m g rfl;have g2:∀base σ m,fz false true base σ (m+3) g.a=g.a:=fun base σ m=>Ft.ft false true base σ m g rfl;have hA:=fun bk=>Tf g bk a.l (he g (aD hy)) hal;refine⟨?_,by simp[VD];omega⟩;unfold VD;cases ok<;>simp[Db,aj,hy,hgz,g1,g2,hA,append,h5,bJ hk' hgm,aT,aW,hz2,n2])
      (fun s _=>by simp[Db]) (true,n.keys.length,n.keys.map fun x=>a.l.getD x.toNat 0) (by simp)).1
     rw[Hi]at h1;rw[HU]at h2;simp only[cG]at h2;generalize hL:(n.keys.map fun x=>a.l.getD x.toNat 0)++n.ah.map (Fr a.l)=L at h2 ⊢;simp at h1 h2;simp only[bE]at *;simp[an2,HY,hz1,n1,n3,k1,k7,k8,hp,ha,hag,hpl,hpi,c1',c2',c3',hw,hP,e,h1,h2]
   have c3':¬(0:Int)<(n.keys.length:Int)+n.ah.length:=by omega
   have e:sO n a.l=false:=by unfold sO Bq;simp;omega
   simp[an2,HY,hz1,n1,n3,k1,k7,k8,hp,ha,hag,hpl,hpi,c1',c2',c3',hw,e]
  have c2':¬(n.ah.length:Int)≤12:=by omega
  have e:sO n a.l=false:=by unfold sO Bq;simp;omega
  simp[an2,HY,hz1,n1,n3,k1,k7,k8,hp,ha,hag,hpl,hpi,c1',c2',hw,e]
 have c1':¬(n.keys.length:Int)≤3:=by omega
 have e:sO n a.l=false:=by unfold sO Bq;simp;omega
 simp[an2,HY,hz1,n1,n3,k1,k7,k8,hp,ha,hag,hpl,hpi,c1',hw,e]
end
end
section
def lk(n:bB):List ap:=[aL n.op,aL n.l,aL n.r,aL (if n.op=1 then 0 else n.tab),if n.op=1 then .ai else .aa n.bk (n.ac.map (.int .i64)),.bool (if n.op=2 then false else n.left),
 if n.op=2∨n.op=3 then .ai else .aa n.bc (n.cond.map EN.a),if n.op=4 then .ai else .aa n.by' (n.keys.map (.int .i64)),if n.op=4 then .ai else .aa n.bg (n.ah.map ew.a),if n.op=5 then .ai else .aa n.bi (n.items.map kh.a),
 if n.op=8 then .ai else .aa n.bo (n.ords.map fU),aL (if n.op=8 then 0 else n.limit)]
def Io(n:bB):bB:=⟨n.op,n.l,n.r,if n.op=1 then 0 else n.tab,if n.op=1 then false else n.bk,if n.op=1 then [] else n.ac,if n.op=2 then false else n.left,
 if n.op=2∨n.op=3 then false else n.bc,if n.op=2∨n.op=3 then [] else n.cond,if n.op=4 then false else n.by',if n.op=4 then [] else n.keys,if n.op=4 then false else n.bg,if n.op=4 then [] else n.ah,
 if n.op=5 then false else n.bi,if n.op=5 then [] else n.items,if n.op=8 then false else n.bo,if n.op=8 then [] else n.ords,if n.op=8 then 0 else n.limit⟩
def UG(n:bB):List ap:=cellsOf (Io n).a
theorem SH(n:bB)(base:Nat)(σ:aw)(m:Nat):(lk n).map (fz true false base σ (m+2))=UG n:=by
 unfold lk UG Io bB.a;by_cases c1:n.op=1
 ·simp[c1]
 by_cases c2:n.op=2
 ·simp[c2]
 by_cases c3:n.op=3
 ·simp[c3]
 by_cases c4:n.op=4
 ·simp[c4]
 by_cases c5:n.op=5
 ·simp[c5]
 by_cases c8:n.op=8
 ·simp[c8]
 simp[c1,c2,c3,c4,c5,c8]
theorem Nn(n:bB)(σ:aw):db code I.qes [n.a] σ=some (.agg (lk n),σ++[.arr 12 0 [.agg (lk n)],.arr 12 0 [.agg (lk n)]]):=by
 rw[dq ajB rfl];unfold lk bB.a;by_cases c1:n.op=1
 ·simp[anU,CE,c1]
 by_cases c2:n.op=2
 ·simp[anU,CE,c2]
 by_cases c3:n.op=3
 ·simp[anU,CE,c3]
 by_cases c4:n.op=4
 ·simp[anU,CE,c4]
 by_cases c5:n.op=5
 ·simp[anU,CE,c5]
 by_cases c8:n.op=8
 ·simp[anU,CE,c8]
 simp[anU,CE,c1,c2,c3,c4,c5,c8,aP c1,aP c2,aP c3,aP c4,aP c5,aP c8]
theorem OP(n:bB):bI I.qfo [.agg (UG n)]=some (.bool (Lt (Io n))):=M5 (Io n)
theorem Vx{n:bB}(h:1≤n.op∧n.op≤8):Lt (Io n)=uz n:=by
 have hs:∀{α:Type} (l:List α),(l.length==0)=decide (l=[]):=fun l=>by cases l<;>simp
 unfold Lt Io uz;have:n.op=1∨n.op=2∨n.op=3∨n.op=4∨n.op=5∨n.op=6∨n.op=7∨n.op=8:=by omega
 have hk:((n.keys.length:Int)+n.ah.length==0)=(n.keys.length==0&&n.ah.length==0):=by
  rw[cS,am,aG,aG,aG];omega
 rw[hk];rcases this with c|c|c|c|c|c|c|c<;>simp[c]<;>(rw[cS];simp[and_assoc,and_left_comm,and_comm])
theorem M1(c:ap)(n:bB)(σ:aw)(hk:n.ac.length≤aV):db code I.qfd [c,n.a] σ=some (.tup [.aa n.bk (n.ac.map (.int .i64)),.bool (wQ n)],σ++[.arr 12 0 [n.a]]):=by
 rw[dq ahR rfl];have hc:=fun b=>oT (enc:=.int .i64) (b:=b) (l:=n.ac) (f:=.fn 39 [] []) (p:=fun k=>decide (k<1) ||decide (3<k)) hk (fun _=>⟨rfl,rfl⟩) (fun σ=>by simp) (fun k _=>by simp[LR]);unfold wQ;have n3:aC n.a=12∧isAgg n.a=true:=⟨rfl,rfl⟩;have k3:(cellsOf n.a)[3]?=some (aL n.tab):=rfl;have k4:(cellsOf n.a)[4]?=some (.aa n.bk (n.ac.map (.int .i64))):=rfl;by_cases c1:0≤n.tab
 ·by_cases c2:n.tab<4
  ·by_cases c3:0<n.ac.length
   ·have c3':(1:Int)≤(n.ac.length:Int):=by omega
    by_cases c4:n.ac.length≤4
    ·have c4':(n.ac.length:Int)≤4:=by omega
     cases hA:(n.ac.any fun k=>decide (k<1) ||decide (3<k))<;>rw[hA]at hc<;>simp[an6,Hj,n3,k3,k4,hc,c1,c2,c3,c3',c4,c4']
    have c4':¬(n.ac.length:Int)≤4:=by omega
    simp[an6,Hj,n3,k3,k4,c1,c2,c3',c4,c4']
   have c3':¬(1:Int)≤(n.ac.length:Int):=by omega
   simp[an6,Hj,n3,k3,k4,c1,c2,c3,c3']
  simp[an6,Hj,n3,k3,k4,c1,c2]
 simp[an6,Hj,n3,k3,k4,c1]
structure AtL (σ:aw) (id ik jf:Nat) (bn:Bool) (ns:List bB) (ep:Nat) (ks:List (jp Int)) (ef:Nat) (fs:List Nat):Prop where
 hd:σ[id]?=some (.arr 3 0 [.agg [.aa bn (ns.map bB.a),.sl ik ep 0 ks.length,.sl jf ef 0 fs.length]])
 hk:σ[ik]?=some (.arr 1 ep (ks.map (jp.c (.int .i64))))
 hf:σ[jf]?=some (.arr 1 ef (nk fs))
theorem AtL.more{σ:aw}{id ik jf:Nat}{bn:Bool}{ns:List bB}{ep:Nat}{ks:List (jp Int)}{ef:Nat}{fs:List Nat}(h:AtL σ id ik jf bn ns ep ks ef fs)(X:aw):AtL (σ++X) id ik jf bn ns ep ks ef fs:=
 ⟨by rw[bu (ak.1 h.hd).1];exact h.hd,by rw[bu (ak.1 h.hk).1];exact h.hk,by rw[bu (ak.1 h.hf).1];exact h.hf⟩
section
variable {σ:aw} {id ik jf:Nat} {bn:Bool} {ns:List bB} {ep:Nat} {ks:List (jp Int)} {ef:Nat} {fs:List Nat} (h:AtL σ id ik jf bn ns ep ks ef fs) (n:bB) (p:Nat) (hp:n.l=(p:Int)) (a:jp Int) (ha:ks[p]?=some a)
include h hp ha
theorem CZ:db code I.qew [.ptr id 0 0 0,n.a] σ=some (.tup [.aa a.b (bE a.l),.bool true],σ++[.arr 12 0 [n.a]]):=by
 rw[dq ajH rfl];obtain⟨d1,d2,d3⟩:=h.more [.arr 12 0 [n.a]];have hpl:=(ak.1 ha).1;have hag:∀hh:p<ks.length,ks[p]'hh=a:=fun hh=>(ak.1 ha).2;have hpi:((p:Int)<(ks.length:Int)):=by omega
 have n3:aC n.a=12∧isAgg n.a=true:=⟨rfl,rfl⟩;have k1:(cellsOf n.a)[1]?=some (aL n.l):=rfl;simp[apL,aa7,n3,k1,hp,ha,hag,hpl,hpi,d1,d2]
theorem GV(hc:n.cond.length≤aV)(hl:a.l.length≤aV):db code I.qex [.ptr id 0 0 0,n.a] σ=some (.tup [.aa a.b (bE a.l),.bool (mn n.cond a.l)],σ++[.arr 12 0 [n.a]]):=by
 rw[dq agh rfl];obtain⟨d1,d2,d3⟩:=h.more [.arr 12 0 [n.a]];have hT:=fun b' bk=>Cj b' n.cond bk a.l hc hl;have hpl:=(ak.1 ha).1;have hag:∀hh:p<ks.length,ks[p]'hh=a:=fun hh=>(ak.1 ha).2;have hpi:((p:Int)<(ks.length:Int)):=by omega
 have n3:aC n.a=12∧isAgg n.a=true:=⟨rfl,rfl⟩;have k1:(cellsOf n.a)[1]?=some (aL n.l):=rfl;have k6:List.take 1 (List.drop 6 (cellsOf n.a))=[.aa n.bc (n.cond.map EN.a)]:=rfl;have k6':(cellsOf n.a)[6]?=some (.aa n.bc (n.cond.map EN.a)):=rfl;simp[ao5,aaQ,n3,k1,k6,k6',hp,ha,hag,hpl,hpi,d1,d2,hT]
theorem ID(ho:n.ords.length≤aV)(hl:a.l.length≤aV)(hkn:ks.length≤8000)(hnn:ns.length≤8000):∃X Y,db code I.qfa [.ptr id 0 0 0,n.a] σ=some (.tup [.aa a.b (bE a.l),.bool (vw n a.l&&decide (ks.length+1=ns.length))],σ++[X,Y]):=by
 refine⟨.arr 12 0 [n.a],.arr 1 0 [.aa a.b (bE a.l)],?_⟩;rw[dq aiR rfl];obtain⟨d1,d2,d3⟩:=h.more [.arr 12 0 [n.a]];obtain⟨e1,e2,e3⟩:=h.more [.arr 12 0 [n.a],.arr 1 0 [.aa a.b (bE a.l)]];obtain⟨e1',e2',e3'⟩:=h.more [.arr 12 0 [n.a],.arr 1 0 [.ai]];have hpl:=(ak.1 ha).1;have hag:∀hh:p<ks.length,ks[p]'hh=a:=fun hh=>(ak.1 ha).2;have hpi:((p:Int)<(ks.length:Int)):=by omega
 have n3:aC n.a=12∧isAgg n.a=true:=⟨rfl,rfl⟩;have k1:(cellsOf n.a)[1]?=some (aL n.l):=rfl;have k10:(cellsOf n.a)[10]?=some (.aa n.bo (n.ords.map fU)):=rfl;have k11:(cellsOf n.a)[11]?=some (aL n.limit):=rfl;have w1:=tI (n:=(ns.length:Int)-1) (by omega) (by omega)
 have hC:=tz (enc:=fU) (b:=n.bo) (l:=n.ords) (f:=.fn 203 [] [.cptr true (.aa a.b (bE a.l)) 0]) (p:=fun o=>decide (o.1<0) ||decide ((a.l.length:Int)≤o.1)) ho (fun _=>⟨rfl,rfl⟩) (fun σ=>by simp) (fun o _=>by
  have hz:∀σ,fz true false 0 σ 20 (fU o)=fU o:=fun σ=>Fx.fx true false 0 σ 17 o;simp[hz,MP])
 have hq:((ks.length:Int)==(ns.length:Int)-1)=decide (ks.length+1=ns.length):=by
  rw[cS];simp;omega
 unfold vw;by_cases c1:n.ords.length≤3
 ·have c1':(n.ords.length:Int)≤3:=by omega
  cases hA:(n.ords.any fun o=>decide (o.1<0) ||decide ((a.l.length:Int)≤o.1)) with
  |true=>
   rw[hA]at hC;simp[an3,Ic,n3,k1,k10,k11,hp,ha,hag,hpl,hpi,d1,d2,e1,e2,e1',e2',w1,hC,c1,c1']
  |false=>
   rw[hA]at hC;by_cases c2:-1≤n.limit
   ·by_cases c3:n.limit≤2147483647
    ·simp[an3,Ic,n3,k1,k10,k11,hp,ha,hag,hpl,hpi,d1,d2,e1,e2,e1',e2',w1,hC,c1,c1',c2,c3,hq]
    simp[an3,Ic,n3,k1,k10,k11,hp,ha,hag,hpl,hpi,d1,d2,e1,e2,e1',e2',w1,hC,c1,c1',c2,c3]
   simp[an3,Ic,n3,k1,k10,k11,hp,ha,hag,hpl,hpi,d1,d2,e1,e2,e1',e2',w1,hC,c1,c1',c2]
 have c1':¬(n.ords.length:Int)≤3:=by omega
 simp[an3,Ic,n3,k1,k10,k11,hp,ha,hag,hpl,hpi,d1,d2,e1,e2,e1',e2',w1,c1,c1']
end
end
def gT(n:bB)(i:Nat)(fs:List Nat):Int×Bool:=
 if oC n.op=0 then ((i:Int),n.l == -1&&n.r == -1)
 else if oC n.op=1 then (if n.l≠(i:Int)-1∨n.r≠-1∨i=0 then (0,false) else ((fs.getD (i-1) 0:Nat),true))
 else if n.r≠(i:Int)-1∨i=0∨n.l≠(fs.getD (i-1) 0:Nat)-1∨n.l<0 then (0,false) else ((fs.getD n.l.toNat 0:Nat),true)
theorem vb(op:Int):oC op=0∨oC op=1∨oC op=2:=by
 unfold oC
 repeat' split
 all_goals simp
theorem PN(t bn:Bool)(ns:List bB)(bk:Bool)(ks:List (jp Int))(bf:Bool)(fs:List Nat)(i:Nat)(n:bB)(hi:ns[i]?=some n)(hfs:fs.length=i)(hle:∀f∈fs,f≤i)(hN:i≤8000) :
  bI I.qev [.cptr t (rO bn ns bk ks bf fs) 0,aL i]=some (.tup [aL (gT n i fs).1,.bool (gT n i fs).2]):=by
 rw[aQ aiC rfl];have hpl:=(ak.1 hi).1;have hag:∀hh:i<ns.length,ns[i]'hh=n:=fun hh=>(ak.1 hi).2;have hpi:((i:Int)<(ns.length:Int)):=by omega
 have n1:∀base σ m,fz true false base σ (m+3) n.a=n.a:=fun base σ m=>Ft.ft true false base σ m n rfl;have n3:aC n.a=12∧isAgg n.a=true:=⟨rfl,rfl⟩;have k0:(cellsOf n.a)[0]?=some (aL n.op):=rfl;have k1:(cellsOf n.a)[1]?=some (aL n.l):=rfl;have k2:(cellsOf n.a)[2]?=some (aL n.r):=rfl;have hz1:=Hy t bn ns bk ks bf fs;have w1:=tI (n:=(i:Int)-1) (by omega) (by omega);have hP:=Lk n.op;have w0:IntKind.i64.wrap (-1)=-1:=by decide
 unfold gT;rcases vb n.op with hp|hp|hp
 ·rw[hp]at hP ⊢;by_cases c1:n.l=-1
  ·simp[anO,vq,hz1,hi,hag,hpl,hpi,n3,k0,k1,k2,hP,c1]
  simp[anO,vq,hz1,hi,hag,hpl,hpi,n3,k0,k1,k2,hP,c1,aP c1]
 ·rw[hp]at hP ⊢;by_cases c1:n.l=(i:Int)-1
  ·by_cases c2:n.r=-1
   ·by_cases c3:i=0
    ·subst c3;have c1':n.l=-1:=by omega
     simp[anO,vq,hz1,hi,hag,hpl,n3,k0,k1,k2,hP,c1',c2,w0]
    have c3':¬((i:Int)=0):=by omega
    have e1:(1:Int)≤(i:Int):=by omega
    have e2:((i:Int)-1).toNat=i-1:=by omega
    have e3:i-1<fs.length:=by omega
    have e4:((i:Int)-1<(fs.length:Int)):=by omega
    have hof:fs[i-1]?=some (fs.getD (i-1) 0):=by simp[aE,e3]
    have hge:∀h:i-1<fs.length,fs[i-1]'h=fs.getD (i-1) 0:=fun h=>(ak.1 hof).2;generalize fs.getD (i-1) 0=f at *;simp[anO,vq,hz1,hi,hag,hpl,hpi,n3,k0,k1,k2,hP,w1,c1,c2,c3,c3',aP c3',e1,e2,e3,e4,hof,hge]
   simp[anO,vq,hz1,hi,hag,hpl,hpi,n3,k0,k1,k2,hP,w1,c1,c2,df c2]
  simp[anO,vq,hz1,hi,hag,hpl,hpi,n3,k0,k1,k2,hP,w1,c1,df c1]
 rw[hp]at hP ⊢;by_cases c1:n.r=(i:Int)-1
 ·by_cases c3:i=0
  ·subst c3;have c1':n.r=-1:=by omega
   simp[anO,vq,hz1,hi,hag,hpl,n3,k0,k1,k2,hP,c1',w0]
  have c3':¬((i:Int)=0):=by omega
  have e1:(1:Int)≤(i:Int):=by omega
  have e2:((i:Int)-1).toNat=i-1:=by omega
  have e3:i-1<fs.length:=by omega
  have e4:((i:Int)-1<(fs.length:Int)):=by omega
  have hof:fs[i-1]?=some (fs.getD (i-1) 0):=by simp[aE,e3]
  have hge:∀h:i-1<fs.length,fs[i-1]'h=fs.getD (i-1) 0:=fun h=>(ak.1 hof).2;have hfl:=hle _ (aD hof);have w2:=tI (n:=((fs.getD (i-1) 0:Nat):Int)-1) (by omega) (by omega);generalize fs.getD (i-1) 0=f at *;by_cases c2:n.l=(f:Int)-1
  ·by_cases c4:n.l<0
   ·obtain rfl:f=0:=by omega
    have c2':n.l=-1:=by omega
    simp[anO,vq,hz1,hi,hag,hpl,hpi,n3,k0,k1,k2,hP,w1,c1,c3,c3',aP c3',e1,e2,e3,e4,hof,hge,c2',w0]
   have c4':0≤n.l:=by omega
   have e5:n.l.toNat < fs.length:=by omega
   have e6:(n.l<(fs.length:Int)):=by omega
   have hof2:fs[n.l.toNat]?=some (fs.getD n.l.toNat 0):=by simp[aE,e5]
   have hge2:∀h:n.l.toNat < fs.length,fs[n.l.toNat]'h=fs.getD n.l.toNat 0:=fun h=>(ak.1 hof2).2;generalize fs.getD n.l.toNat 0=f2 at *;have c2':(n.l != (f:Int)-1)=false:=by simp[c2]
   generalize n.l=nl at *;simp[anO,vq,hz1,hi,hag,hpl,hpi,n3,k0,k1,k2,hP,w1,w2,c1,c3,c3',aP c3',e1,e2,e3,e4,hof,hge,c2',c4,c4',e5,e6,hof2,hge2];simp[c2]
  simp[anO,vq,hz1,hi,hag,hpl,hpi,n3,k0,k1,k2,hP,w1,w2,c1,c3,c3',aP c3',e1,e2,e3,e4,hof,hge,c2,df c2]
 simp[anO,vq,hz1,hi,hag,hpl,hpi,n3,k0,k1,k2,hP,w1,c1,df c1]
theorem SZ{n:bB}{i:Nat}{fs:List Nat}(hfs:fs.length=i)(hle:∀f∈fs,f≤i)(h:(gT n i fs).2=true):(gT n i fs).1=(((gT n i fs).1.toNat:Nat):Int)∧(gT n i fs).1.toNat≤i:=by
 have hg:∀k,fs.getD k 0≤i:=fun k=>by
  by_cases hk:k<fs.length
  ·rw[aE,aq hk];exact hle _ (aO hk)
  rw[aE,eC (by omega)];exact cd _
 unfold gT at *;rcases vb n.op with hp|hp|hp<;>rw[hp]at h ⊢<;>simp at h ⊢
 ·split at h
  ·cases h
  rename_i hc;rw[if_neg hc];exact⟨by simp,by simpa using hg (i-1)⟩
 split at h
 ·cases h
 rename_i hc;rw[if_neg hc];exact⟨by simp,by simpa using hg n.l.toNat⟩
def WN(id:Nat)(op:Int):ap:=
 if op=1 then .fn 80 [.ptr id 0 0 0] [] else if op=2 then .fn 199 [.ptr id 0 0 0] [] else if op=3 then .fn 91 [.ptr id 0 0 0] [] else if op=4 then .fn 200 [.ptr id 0 0 0] [] else
 if op=5 then .fn 106 [.ptr id 0 0 0] [] else if op=6 then .fn 201 [.ptr id 0 0 0] [] else if op=7 then .fn 202 [.ptr id 0 0 0] [] else if op=8 then .fn 159 [.ptr id 0 0 0] [] else .nilf
def sr(id:Nat):List (ap×ap):=[(aL 1,.fn 80 [.ptr id 0 0 0] []),(aL 2,.fn 199 [.ptr id 0 0 0] []),(aL 3,.fn 91 [.ptr id 0 0 0] []),(aL 4,.fn 200 [.ptr id 0 0 0] []),
 (aL 5,.fn 106 [.ptr id 0 0 0] []),(aL 6,.fn 201 [.ptr id 0 0 0] []),(aL 7,.fn 202 [.ptr id 0 0 0] []),(aL 8,.fn 159 [.ptr id 0 0 0] [])]
theorem MQ(id:Nat)(op:Int):lookup (aL op) (sr id)=some (if 1≤op∧op≤8 then some (WN id op) else none):=by
 unfold sr WN;by_cases h:1≤op∧op≤8
 ·rw[if_pos h];have:op=1∨op=2∨op=3∨op=4∨op=5∨op=6∨op=7∨op=8:=by omega
  rcases this with rfl|rfl|rfl|rfl|rfl|rfl|rfl|rfl<;>rfl
 rw[if_neg h];have h1:¬1=op:=by omega
 have h2:¬2=op:=by omega
 have h3:¬3=op:=by omega
 have h4:¬4=op:=by omega
 have h5:¬5=op:=by omega
 have h6:¬6=op:=by omega
 have h7:¬7=op:=by omega
 have h8:¬8=op:=by omega
 simp[lookup,EX,aP h1,aP h2,aP h3,aP h4,aP h5,aP h6,aP h7,aP h8]
def oH(N:Nat)(ks:List (jp Int))(n:bB):Option (jp Int):=
 if n.op=1 then (if wQ n then some ⟨n.bk,n.ac⟩ else none)
 else (ks[n.l.toNat]?).bind fun a=>
  if n.op=2 then (ks[n.r.toNat]?).bind fun b=>if mn n.cond (a.l++b.l) then some ⟨false,a.l++b.l⟩ else none
  else if n.op=3 then (if mn n.cond a.l then some a else none)
  else if n.op=4 then (if sO n a.l&&n.ah.all (fun g=>(xH a.l g).1) then some ⟨false,(n.keys.map fun x=>a.l.getD x.toNat 0)++n.ah.map (Fr a.l)⟩ else none)
  else if n.op=5 then (if decide (1≤n.items.length)&&decide (n.items.length≤16)&&n.items.all (fun e=>(fe e.l a.l).2==0) then some ⟨false,n.items.map fun e=>(fe e.l a.l).1⟩ else none)
  else if n.op=6 then some a
  else if n.op=7 then (ks[n.r.toNat]?).bind fun b=>if a.l.length=b.l.length then (mu a.l b.l).map fun r=>⟨false,r⟩ else none
  else if n.op=8 then (if vw n a.l&&decide (ks.length+1=N) then some a else none)
  else none
def T8(call:Option (ap×aw))(σ:aw)(o:Option (jp Int)):Prop:=∃b l X,call=some (.tup [.aa b (bE l),.bool o.isSome],σ++X)∧∀r,o=some r→r=⟨b,l⟩
theorem nG{call:Option (ap×aw)}{σ:aw}{b:Bool}{l:List Int}{X:aw}{t:Bool}(h:call=some (.tup [.aa b (bE l),.bool t],σ++X)):T8 call σ (if t then some ⟨b,l⟩ else none):=by
 refine⟨b,l,X,?_,?_⟩
 ·rw[h];cases t<;>rfl
 intro r hr;cases t with
 |true=>simpa using hr.symm
 |false=>cases hr
theorem AtL.snapped{σ:aw}{id ik jf:Nat}{bn:Bool}{ns:List bB}{ep:Nat}{ks:List (jp Int)}{ef:Nat}{fs:List Nat}(h:AtL σ id ik jf bn ns ep ks ef fs):fz true false 0 σ 20 (.ptr id 0 0 0)=.cptr true (rO bn ns true ks true fs) 0:=by
 obtain⟨d1,d2,d3⟩:=h;have t1:List.take ks.length (ks.map (jp.c (.int .i64)))=ks.map (jp.c (.int .i64)):=ay (by simp);have t2:List.take fs.length (nk fs)=nk fs:=ay (by simp);simp[d1,d2,d3,t1,t2]
theorem Tj{σ:aw}{id ik jf:Nat}{bn:Bool}{ns:List bB}{ep:Nat}{ks:List (jp Int)}{ef:Nat}{fs:List Nat}(h:AtL σ id ik jf bn ns ep ks ef fs)(n:bB)(hn:su n)(hop:1≤n.op∧n.op≤8)
  {fs0:List Nat} (hb:(gT n ks.length fs0).2=true) (hle:∀f∈fs0,f≤ks.length) (hfl:fs0.length=ks.length) (hkm:∀a∈ks,a.l.length≤16) (hkn:ks.length≤8000) (hnn:ns.length≤8000):T8 (mr code (WN id n.op) [n.a] σ) σ (oH ns.length ks n):=by
 have hm:wJ≤aV:=by decide
 have n1:∀base σ m,fz true false base σ (m+3) n.a=n.a:=fun base σ m=>Ft.ft true false base σ m n rfl;have hsn:=h.snapped;have at1:n.op=3∨n.op=4∨n.op=5∨n.op=6∨n.op=8→∃p:Nat,∃a,n.l=(p:Int)∧ks[p]?=some a:=fun hq=>by
  unfold gT at hb;rw[if_neg (by unfold oC;rw[if_neg (by omega)];split<;>omega),if_pos (by unfold oC;rw[if_neg (by omega),if_neg (by omega)])]at hb;split at hb
  ·cases hb
  rename_i hc;have h0:ks.length≠0:=fun hz=>hc (.inr (.inr hz));have h1:n.l=(ks.length:Int)-1:=by
   by_cases hx:n.l=(ks.length:Int)-1
   ·exact hx
   exact absurd (.inl hx) hc
  exact⟨ks.length-1,ks[ks.length-1]'(by omega),by omega,aq _⟩
 have at2:n.op=2∨n.op=7→∃p q:Nat,∃a b,n.l=(p:Int)∧n.r=(q:Int)∧ks[p]?=some a∧ks[q]?=some b:=fun hq=>by
  unfold gT at hb;rw[if_neg (by unfold oC;rw[if_neg (by omega),if_pos hq];omega),if_neg (by unfold oC;rw[if_neg (by omega),if_pos hq];omega)]at hb;split at hb
  ·cases hb
  rename_i hc;have h0:ks.length≠0:=fun hz=>hc (.inr (.inl hz));have h1:n.r=(ks.length:Int)-1:=by
   by_cases hx:n.r=(ks.length:Int)-1
   ·exact hx
   exact absurd (.inl hx) hc
  have h2:0≤n.l:=by
   by_cases hx:n.l<0
   ·exact absurd (.inr (.inr (.inr hx))) hc
   omega
  have h3:n.l=((fs0.getD (ks.length-1) 0:Nat):Int)-1:=by
   by_cases hx:n.l=((fs0.getD (ks.length-1) 0:Nat):Int)-1
   ·exact hx
   exact absurd (.inr (.inr (.inl hx))) hc
  have h4:fs0.getD (ks.length-1) 0≤ks.length:=by
   have:ks.length-1<fs0.length:=by omega
   rw[aE,aq this];exact hle _ (aO this)
  exact⟨n.l.toNat,ks.length-1,ks[n.l.toNat]'(by omega),ks[ks.length-1]'(by omega),by omega,by omega,aq _,aq _⟩
 have:n.op=1∨n.op=2∨n.op=3∨n.op=4∨n.op=5∨n.op=6∨n.op=7∨n.op=8:=by omega
 rcases this with c|c|c|c|c|c|c|c
 ·have hs:=M1 (.ptr id 0 0 0) n σ (aZ hn.ac hm);have e:oH ns.length ks n=if wQ n then some ⟨n.bk,n.ac⟩ else none:=by unfold oH;rw[if_pos c]
  rw[e,show WN id n.op=.fn 80 [.ptr id 0 0 0] [] by rw[c];rfl];exact nG hs
 ·obtain⟨p,q,a,b,hp,hq,ha,hbb⟩:=at2 (.inl c);have hla:=hkm _ (aD ha);have hlb:=hkm _ (aD hbb);have hs:=NF true bn ns true ks true fs n p q hp hq a b ha hbb (aZ hn.cond hm) (by unfold aV;omega);have e:oH ns.length ks n=if mn n.cond (a.l++b.l) then some ⟨false,a.l++b.l⟩ else none:=by unfold oH;simp[c,hp,hq,ha,hbb]
  rw[e,show WN id n.op=.fn 199 [.ptr id 0 0 0] [] by rw[c];rfl];refine nG (X:=[]) ?_;simp[hsn,n1,hs]
 ·obtain⟨p,a,hp,ha⟩:=at1 (.inl c);have hla:=hkm _ (aD ha);have hs:=GV h n p hp a ha (aZ hn.cond hm) (by unfold aV;omega);have e:oH ns.length ks n=if mn n.cond a.l then some a else none:=by unfold oH;simp[c,hp,ha]
  rw[e,show WN id n.op=.fn 91 [.ptr id 0 0 0] [] by rw[c];rfl];exact nG hs
 ·obtain⟨p,a,hp,ha⟩:=at1 (.inr (.inl c));have hla:=hkm _ (aD ha);have hs:=Mi true bn ns true ks true fs n p hp a ha hn.keys hn.ah (fun g hg=>aZ (hn.args g hg) hm) (by unfold aV;omega);rw[show WN id n.op=.fn 200 [.ptr id 0 0 0] [] by rw[c];rfl];by_cases hg:sO n a.l=true
  ·rw[if_pos hg]at hs;have e:oH ns.length ks n=if n.ah.all (fun g=>(xH a.l g).1) then some ⟨false,(n.keys.map fun x=>a.l.getD x.toNat 0)++n.ah.map (Fr a.l)⟩ else none:=by unfold oH;simp[c,hp,ha,hg]
   rw[e];refine nG (X:=[]) ?_;simp only[fg];rw[adN,ahw];simp only[bV,bN,fg,cH,cE,Dd,hsn,n1,hs,cL]
  rw[if_neg hg]at hs;have e:oH ns.length ks n=if false then some ⟨false,[]⟩ else none:=by unfold oH;simp[c,hp,ha,hg]
  rw[e];refine nG (X:=[]) ?_;simp[hsn,n1,hs]
 ·obtain⟨p,a,hp,ha⟩:=at1 (.inr (.inr (.inl c)));have hla:=hkm _ (aD ha);have hs:=GP true bn ns true ks true fs n p hp a ha (aZ hn.items hm) (fun e he=>aZ (hn.exprs e he) hm) (by unfold aV;omega);have e:oH ns.length ks n=if decide (1≤n.items.length)&&decide (n.items.length≤16)&&n.items.all (fun e=>(fe e.l a.l).2==0) then some ⟨false,n.items.map fun e=>(fe e.l a.l).1⟩ else none:=by unfold oH;simp[c,hp,ha]
  rw[e,show WN id n.op=.fn 106 [.ptr id 0 0 0] [] by rw[c];rfl];refine nG (X:=[]) ?_;rw[adN,afF];simp only[bV,bN,fg,cH,cE,Dd,hsn,n1,hs,cL]
 ·obtain⟨p,a,hp,ha⟩:=at1 (.inr (.inr (.inr (.inl c))));have hs:=CZ h n p hp a ha;have e:oH ns.length ks n=if true then some a else none:=by unfold oH;simp[c,hp,ha]
  rw[e,show WN id n.op=.fn 201 [.ptr id 0 0 0] [] by rw[c];rfl];exact nG hs
 ·obtain⟨p,q,a,b,hp,hq,ha,hbb⟩:=at2 (.inr c);have hla:=hkm _ (aD ha);rw[show WN id n.op=.fn 202 [.ptr id 0 0 0] [] by rw[c];rfl];by_cases hl:a.l.length=b.l.length
  ·obtain⟨out,hs,ho⟩:=LQ true bn ns true ks true fs n p q hp hq a b ha hbb (by unfold aV;omega) hl;have e:oH ns.length ks n=(mu a.l b.l).map fun r=>⟨false,r⟩:=by unfold oH;simp[c,hp,hq,ha,hbb,hl]
   rw[e];refine⟨false,out,[],?_,?_⟩
   ·rw[adN,ajg];simp only[bV,bN,fg,cH,cE,Dd,hsn,n1,hs,cL,Option.isSome_map]
   intro r hr;cases hu:mu a.l b.l with
   |none=>rw[hu]at hr;cases hr
   |some w=>
    rw[hu]at hr;cases hr;rw[ho w hu]
  have hs:=Pm true bn ns true ks true fs n p q hp hq a b ha hbb hl;have e:oH ns.length ks n=if false then some ⟨false,[]⟩ else none:=by unfold oH;simp[c,hp,hq,ha,hbb,hl]
  rw[e];refine nG (X:=[]) ?_;simp[hsn,n1,hs]
 obtain⟨p,a,hp,ha⟩:=at1 (.inr (.inr (.inr (.inr c))));have hla:=hkm _ (aD ha);obtain⟨X,Y,hs⟩:=ID h n p hp a ha (aZ hn.ords hm) (by unfold aV;omega) hkn hnn;have e:oH ns.length ks n=if vw n a.l&&decide (ks.length+1=ns.length) then some a else none:=by unfold oH;simp[c,hp,ha]
 rw[e,show WN id n.op=.fn 159 [.ptr id 0 0 0] [] by rw[c];rfl];exact nG hs
def Ls(N:Nat)(n:bB)(ks:List (jp Int))(fs:List Nat):Option (jp Int×Nat):=
 if (decide (1≤n.op)&&decide (n.op≤8)&&uz n&&(gT n ks.length fs).2)=false then none else
 match oH N ks n with
 |none=>none
 |some r=>if 16<r.l.length then none else some (r,(gT n ks.length fs).1.toNat)
def tZ(N:Nat)(k:Nat)(n:bB)(s:List (jp Int)×List Nat):(List (jp Int)×List Nat)⊕Nat:=match Ls N n s.1 s.2 with
 |some r=>.inl (s.1++[r.1],s.2++[r.2])
 |none=>.inr k
abbrev ZU(L:Nat)(bn:Bool)(ns:List bB):List ap:=
 [.agg [.aa bn (ns.map bB.a)],.ptr L 0 0 0,.ptr (L+1) 0 0 0,.ptr (L+2) 0 0 0,.ptr (L+3) 0 0 0,.ptr (L+5) 0 0 0,aL ns.length,.any,.any,.bool false,.fn 79 [] [.ptr (L+6) 0 0 0],.any,.any,.any]
abbrev XG(L:Nat)(P:aw)(bn:Bool)(ns:List bB)(r2 r3 r4:ap)(ep:Nat)(kc:List ap)(ef:Nat)(fc:List ap)(o:Obj):aw:=
 P++[.arr 1 0 [.agg [.aa bn (ns.map bB.a)]],.arr 1 0 [r2],.arr 1 0 [r3],.arr 1 0 [r4],.arr 3 0 [.agg [.aa bn (ns.map bB.a),.sl (L+7) ep 0 kc.length,.sl (L+8) ef 0 fc.length]],.arr 1 0 [.ptr (L+4) 0 0 0],.arr 1 0 [.ptr (L+4) 0 0 0],.arr 1 ep kc,.arr 1 ef fc,o]
theorem P5(L:Nat)(P:aw)(hP:(L=1∧∃a,P=[.arr 1 0 [a]])∨(L=2∧∃a b,P=[.arr 1 0 [a],.arr 1 0 [b]]))(bn:Bool)(ns:List bB)(k:Nat)(ok:Bool)(ep:Nat)(kc:List ap)(ef:Nat)(fc:List ap)(X:aw) :
  db code 35 (.frs (L+9) []::(ZU L bn ns++[aL k,.bool ok])) (XG L P bn ns .nilp (aL 0) (.bool false) ep kc ef fc (.pend false none)++X) =
   some (.bool ok,if ok then XG L P bn ns .nilp (aL 0) (.bool false) ep kc ef fc (.pend false none)++X else XG L P bn ns (.ptr (L+4) 0 0 0) (aL k) (.bool false) ep kc ef fc (.pend false (some .ret))++X):=by
 rw[MR gz (g:=ot) rfl];rcases hP with⟨rfl,a,rfl⟩|⟨rfl,a,b,rfl⟩
 all_goals
  cases ok
  ·simp[ot,p6,rQ,td,tS,lZ]
  simp[ot,p6,rQ,td,tS,lZ]
abbrev Kh(L:Nat)(bn:Bool)(ns:List bB)(k:Nat)(c:ap):List ap:=
 [.yld (L+9) 35 (ZU L bn ns),.ptr (L+6) 0 0 0,.mp (L+10),.any,.any,.any,.any,.any,.any,.any,.aa bn (ns.map bB.a),aL ns.length,aL k,c,.any,.any,.any]
abbrev stA(L:Nat)(P:aw)(bn:Bool)(ns:List bB)(k:Nat)(ks:List (jp Int))(fs:List Nat):aw:=
 XG L P bn ns .nilp (aL 0) (.bool false) k (ks.map (jp.c (.int .i64))) k (nk fs) (.pend false none)++[.map (sr (L+4))]
theorem ZR(id base:Nat)(σ:aw)(h:id<base):(sr id).map (fun e=>(e.1,fz false true base σ 20 e.2))=sr id:=by
 simp[sr,h]
def JE(L:Nat)(P:aw)(bn:Bool)(ns:List bB)(k:Nat)(τ:aw):Prop:=
 ∃ep kc ef fc X,τ=XG L P bn ns (.ptr (L+4) 0 0 0) (aL k) (.bool false) ep kc ef fc (.pend false (some .ret))++X
theorem acN(L:Nat)(P:aw)(hP:(L=1∧∃a,P=[.arr 1 0 [a]])∨(L=2∧∃a b,P=[.arr 1 0 [a],.arr 1 0 [b]]))(hPz:∀x,.arr 1 0 [x]∈P→∀base σ m,fz false true base σ (m+3) x=x)(bn:Bool)(ns:List bB)(hN:∀n∈ns,su n)(hl:ns.length≤60) :
  match dm (tZ ns.length) ns 0 ([],[]) with
  |.inl s=>(s.1.length=ns.length∧s.2.length=ns.length)∧cc code (L+11) [3,4,5,6,7,8,9,13,14,15,16] mJ ⟨Kh L bn ns 0 .any,stA L P bn ns 0 [] []⟩=some (.ext 0,⟨Kh L bn ns ns.length (.bool false),stA L P bn ns ns.length s.1 s.2⟩)
  |.inr k=>∃env τ,cc code (L+11) [3,4,5,6,7,8,9,13,14,15,16] mJ ⟨Kh L bn ns 0 .any,stA L P bn ns 0 [] []⟩=some (.ret,⟨env,τ⟩)∧JE L P bn ns k τ:=by
 have hm:ns.length≤aV:=by unfold aV;omega
 have key:=eL (base:=L+11) (clr:=[3,4,5,6,7,8,9,13,14,15,16]) (b:=mJ) ns
  (fun k (s:List (jp Int)×List Nat)=>⟨Kh L bn ns k .any,stA L P bn ns k s.1 s.2⟩)
  (fun k s=>(s.1.length=k∧s.2.length=k)∧(∀f∈s.2,f≤k)∧∀a∈s.1,a.l.length≤16) (tZ ns.length)
  (fun s=>(.ext 0,⟨Kh L bn ns ns.length (.bool false),stA L P bn ns ns.length s.1 s.2⟩))
  (fun (k:Nat) o=>∃env τ,o=(.ret,⟨env,τ⟩)∧JE L P bn ns k τ)
  (fun k n s hk hy hs=>by
   obtain⟨ks,fs⟩:=s;obtain⟨⟨hs1,hs2⟩,hs3,hs4⟩:=hs;simp only at hs1 hs2 hs3 hs4;have aj:((k:Int)<(ns.length:Int)):=by omega
   have n1:∀base σ m,fz true false base σ (m+3) n.a=n.a:=fun base σ m=>Ft.ft true false base σ m n rfl;have n3:aC n.a=12∧isAgg n.a=true:=⟨rfl,rfl⟩;have k0:(cellsOf n.a)[0]?=some (aL n.op):=rfl;have hkm:k+1≤aV:=by unfold aV;omega
   have hlk:=MQ (L+4) n.op;have hB:=Nn n;have hbz:=fun σ=>SH n 0 σ 17;have hZ:=OP n;have hnF:=hN n (aD hy);have hRt:=fun ep kc ef fc X=>P5 L P hP bn ns k true ep kc ef fc X;have hRf:=fun ep kc ef fc X=>P5 L P hP bn ns k false ep kc ef fc X;have htk:List.take k (ks.map (jp.c (.int .i64)))=ks.map (jp.c (.int .i64)):=ay (by simp[hs1]);have htf:List.take k (nk fs)=nk fs:=ay (by simp[hs2]);unfold tZ Ls;simp only;by_cases c1:1≤n.op∧n.op≤8
   ·rw[if_pos c1]at hlk;rw[Vx c1]at hZ;have d1:decide (1≤n.op)=true:=nV c1.1;have d2:decide (n.op≤8)=true:=nV c1.2;rw[d1,d2];cases c2:uz n with
    |false=>
     rw[c2]at hZ;have hR:=hRf (k+1) (ks.map (jp.c (.int .i64))++[.ai]) k (nk fs) [.map (sr (L+4)),.arr 12 0 [n.a],.arr 12 0 [(.agg (lk n))],.arr 12 0 [(.agg (lk n))]];rcases hP with⟨hL,a,rfl⟩|⟨hL,a,b,rfl⟩
     all_goals
      simp only[hL,Nat.reduceAdd]at hlk;simp[hs1,hs2,hL]at hR;exact⟨_,by simp[mJ,hL,aj,hy,n3,k0,kg,hlk,hs1,hs2,append,hkm,htk,hB,hbz,hZ,hR,ph];rfl,_,_,rfl,k+1,ks.map (jp.c (.int .i64))++[.ai],k,nk fs,[.map (sr (L+4)),.arr 12 0 [n.a],.arr 12 0 [(.agg (lk n))],.arr 12 0 [(.agg (lk n))]],rfl⟩
    |true=>
     rw[c2]at hZ;have hBl:=PN true bn ns true ks true fs k n hy hs2 hs3 (by omega);cases c3:(gT n k fs).2 with
     |false=>
      rw[c3]at hBl;rw[hs1,c3];have hR:=hRf (k+1) (ks.map (jp.c (.int .i64))++[.ai]) (k+1) (nk fs++[aL (gT n k fs).1]) [.map (sr (L+4)),.arr 12 0 [n.a],.arr 12 0 [(.agg (lk n))],.arr 12 0 [(.agg (lk n))]];rcases hP with⟨hL,a,rfl⟩|⟨hL,a,b,rfl⟩
      all_goals
       simp only[hL,Nat.reduceAdd]at hlk;simp[hs1,hs2,hL]at hR;exact⟨_,by simp[mJ,hL,aj,hy,n3,k0,kg,hlk,hs1,hs2,append,hkm,htk,htf,hB,hbz,hZ,hBl,hR,ph];rfl,_,_,rfl,k+1,ks.map (jp.c (.int .i64))++[.ai],k+1,nk fs++[aL (gT n k fs).1],[.map (sr (L+4)),.arr 12 0 [n.a],.arr 12 0 [(.agg (lk n))],.arr 12 0 [(.agg (lk n))]],rfl⟩
     |true=>
      rw[c3]at hBl;rw[hs1,c3];obtain⟨hb1,hb2⟩:=SZ hs2 hs3 c3;rw[hb1]at hBl;generalize (gT n k fs).1.toNat=f at *;have hat:AtL (XG L P bn ns .nilp (aL 0) (.bool false) k (ks.map (jp.c (.int .i64))) (k+1) (nk (fs++[f])) (.pend false none)++[.map (sr (L+4)),.arr 12 0 [n.a],.arr 12 0 [.agg (lk n)],.arr 12 0 [.agg (lk n)]]) (L+4) (L+7) (L+8) bn ns k ks (k+1) (fs++[f]):=by
       rcases hP with⟨hL,a,rfl⟩|⟨hL,a,b,rfl⟩
       all_goals
        subst hL;exact⟨by simp only[XG,cR];rfl,rfl,rfl⟩
      obtain⟨b',l,X,hq,hr⟩:=Tj hat n hnF c1 (fs0:=fs) (by rw[hs1];exact c3) (by rw[hs1];exact hs3) (by rw[hs1];exact hs2) hs4 (by omega) (by omega);have hl3:(bE l).length=l.length:=by simp
      have hnc:aC (.aa b' (bE l))=1∧isAgg (.aa b' (bE l))=false:=⟨rfl,rfl⟩;have hRf':=hRf (k+1) (ks.map (jp.c (.int .i64))++[.aa b' (bE l)]) (k+1) (nk (fs++[f])) (.map (sr (L+4))::.arr 12 0 [n.a]::.arr 12 0 [.agg (lk n)]::.arr 12 0 [.agg (lk n)]::X);have hRt':=hRt (k+1) (ks.map (jp.c (.int .i64))++[.aa b' (bE l)]) (k+1) (nk (fs++[f])) (.map (sr (L+4))::.arr 12 0 [n.a]::.arr 12 0 [.agg (lk n)]::.arr 12 0 [.agg (lk n)]::X);cases hA:oH ns.length ks n with
      |none=>
       rw[hA]at hq;simp only[pa,Bool.true_eq_false,bQ];rcases hP with⟨hL,a,rfl⟩|⟨hL,a,b,rfl⟩
       all_goals
        simp only[hL,Nat.reduceAdd]at hlk;simp[hs1,hs2,hL]at hRf' hq;exact⟨_,by simp[mJ,hL,aj,hy,n3,k0,kg,hlk,hs1,hs2,append,hkm,htk,htf,hB,hbz,hZ,hBl,hq,hRf',ph];rfl,_,_,rfl,k+1,ks.map (jp.c (.int .i64))++[.aa b' (bE l)],k+1,nk (fs++[f]),.map (sr (L+4))::.arr 12 0 [n.a]::.arr 12 0 [.agg (lk n)]::.arr 12 0 [.agg (lk n)]::X,rfl⟩
      |some r=>
       obtain rfl:=hr r hA;rw[hA]at hq;simp only;by_cases hw:16<l.length
       ·have hw':¬((l.length:Int)≤16):=by omega
        rw[if_pos hw];rcases hP with⟨hL,a,rfl⟩|⟨hL,a,b,rfl⟩
        all_goals
         simp only[hL,Nat.reduceAdd]at hlk;simp[hs1,hs2,hL]at hRf' hq;exact⟨_,by simp[mJ,hL,aj,hy,n3,k0,kg,hlk,hs1,hs2,append,hkm,htk,htf,hB,hbz,hZ,hBl,hq,hw',hRf',ph];rfl,_,_,rfl,k+1,ks.map (jp.c (.int .i64))++[.aa b' (bE l)],k+1,nk (fs++[f]),.map (sr (L+4))::.arr 12 0 [n.a]::.arr 12 0 [.agg (lk n)]::.arr 12 0 [.agg (lk n)]::X,rfl⟩
       have hw':((l.length:Int)≤16):=by omega
       rw[if_neg hw];refine⟨?_,⟨by simp[hs1],by simp[hs2]⟩,?_,?_⟩
       ·have hmz:=fun base σ h=>ZR (L+4) base σ h;rcases hP with⟨hL,a,rfl⟩|⟨hL,a,b,rfl⟩
        ·have hza:=hPz a (by simp);simp only[hL,Nat.reduceAdd]at hlk hmz;simp[hs1,hs2,hL]at hRt' hq;simp[Kh,mJ,hL,aj,hy,n3,k0,kg,hlk,hs1,hs2,append,hkm,htk,htf,hB,hbz,hZ,hBl,hq,hw',hRt',ph,aT,aW,VW,hza,hmz,bJ hk hm]
        have hza:=hPz a (by simp);have hzb:=hPz b (by simp);simp only[hL,Nat.reduceAdd]at hlk hmz;simp[hs1,hs2,hL]at hRt' hq;simp[Kh,mJ,hL,aj,hy,n3,k0,kg,hlk,hs1,hs2,append,hkm,htk,htf,hB,hbz,hZ,hBl,hq,hw',hRt',ph,aT,aW,VW,hza,hzb,hmz,bJ hk hm]
       ·intro x hx;rcases cq.1 hx with hx|hx
        ·exact Nat.le_succ_of_le (hs3 x hx)
        rw[cg.1 hx];omega
       intro x hx;rcases cq.1 hx with hx|hx
       ·exact hs4 x hx
       rw[cg.1 hx];simp;omega
   rw[if_neg c1]at hlk;have e:(decide (1≤n.op)&&decide (n.op≤8)&&uz n&&(gT n ks.length fs).2)=false:=by
    by_cases h:1≤n.op
    ·have:¬n.op≤8:=fun h'=>c1 ⟨h,h'⟩;simp[this]
    simp[h]
   rw[if_pos e];have hR:=hRf (k+1) (ks.map (jp.c (.int .i64))++[.ai]) k (nk fs) [.map (sr (L+4)),.arr 12 0 [n.a]];rcases hP with⟨hL,a,rfl⟩|⟨hL,a,b,rfl⟩
   all_goals
    simp only[hL,Nat.reduceAdd]at hlk;simp[hs1,hs2,hL]at hR;exact⟨_,by simp[mJ,hL,aj,hy,n3,k0,kg,hlk,hs1,hs2,append,hkm,htk,hR,ph];rfl,_,_,rfl,k+1,ks.map (jp.c (.int .i64))++[.ai],k,nk fs,[.map (sr (L+4)),.arr 12 0 [n.a]],rfl⟩)
  (fun s hs=>by
   rcases hP with⟨rfl,a,rfl⟩|⟨rfl,a,b,rfl⟩
   all_goals simp[mJ]) ([],[]) ⟨⟨rfl,rfl⟩,by simp,by simp⟩
 simp only[show ((0:Nat):Int)=0 from rfl]at key;cases hf:dm (tZ ns.length) ns 0 ([],[]) with
 |inl s=>
  rw[hf]at key;exact⟨key.1.1,key.2⟩
 |inr k=>
  rw[hf]at key;obtain⟨o,h1,env,τ,rfl,h2⟩:=key;exact⟨env,τ,h1,h2⟩
def kj(ns:List bB):Option (List (jp Int)×List Nat):=
 if ns.length<1∨60<ns.length then none else match dm (tZ ns.length) ns 0 ([],[]) with
 |.inl s=>if s.2.getD (ns.length-1) 0=0 then some s else none
 |.inr _=>none
abbrev stE(L:Nat)(P:aw)(bn:Bool)(ns:List bB)(s:List (jp Int)×List Nat)(t:Bool):aw:=
 XG L P bn ns (.ptr (L+4) 0 0 0) (aL ((ns.length:Int)-1)) (.bool t) ns.length (s.1.map (jp.c (.int .i64))) ns.length (nk s.2) .dead++[.map (sr (L+4))]
theorem LS(id:Nat)(N:ap)(σ:aw)(h:σ[id]?=some (.arr 3 0 [.agg [N,.ai,.ai]])) :
  db code I.qet [.ptr id 0 0 0] σ=some (.fn 79 [] [.ptr σ.length 0 0 0],(σ.set id (.arr 3 0 [.agg [N,.sl (σ.length+1) 0 0 0,.sl (σ.length+2) 0 0 0]]))++[.arr 1 0 [.ptr id 0 0 0],.arr 1 0 [],.arr 1 0 []]):=by
 rw[dq ajY rfl];have hl:=(ak.1 h).1;have h2:(σ++[.arr 1 0 [.ptr id 0 0 0]])[id]?=some (.arr 3 0 [.agg [N,.ai,.ai]]):=by rw[bu hl,h]
 have h3:∀X t,(σ.set id X++t)[id]?=some X:=fun X t=>by rw[bu (by simpa using hl)];simp[hl]
 simp[ape,aa4,h,h2,h3,hl]
theorem BX(L:Nat)(P:aw)(hP:(L=1∧∃a,P=[.arr 1 0 [a]])∨(L=2∧∃a b,P=[.arr 1 0 [a],.arr 1 0 [b]]))(hPz:∀x,.arr 1 0 [x]∈P→∀base σ m,fz false true base σ (m+3) x=x)(bn:Bool)(ns:List bB)(hN:∀n∈ns,su n)(h1:ns.length≤60) :
  match dm (tZ ns.length) ns 0 ([],[]) with
  |.inl s=>(s.1.length=ns.length∧s.2.length=ns.length)∧db code 79 [.yld (L+9) 35 (ZU L bn ns),.ptr (L+6) 0 0 0] (XG L P bn ns .nilp (.int .i64 0) (.bool false) 0 [] 0 [] (.pend false none))=some (.tup [],stA L P bn ns ns.length s.1 s.2)
  |.inr k=>∃τ,db code 79 [.yld (L+9) 35 (ZU L bn ns),.ptr (L+6) 0 0 0] (XG L P bn ns .nilp (.int .i64 0) (.bool false) 0 [] 0 [] (.pend false none))=some (.tup [],τ)∧JE L P bn ns k τ:=by
 have hk:=acN L P hP hPz bn ns hN h1;cases hf:dm (tZ ns.length) ns 0 ([],[]) with
 |inl s=>
  rw[hf]at hk;obtain⟨e1,hk⟩:=hk;refine⟨e1,?_⟩;rw[dq aar rfl];rcases hP with⟨hL,a,rfl⟩|⟨hL,a,b,rfl⟩
  all_goals
   subst hL;simp[Kh,sr]at hk;simp[aoY,VY,kg,mput,EX,sr,hk]
 |inr k=>
  rw[hf]at hk;obtain⟨env,τ,hk,hS⟩:=hk;refine⟨τ,?_,hS⟩;rw[dq aar rfl];rcases hP with⟨hL,a,rfl⟩|⟨hL,a,b,rfl⟩
  all_goals
   subst hL;simp[Kh,sr]at hk;simp[aoY,VY,kg,mput,EX,sr,hk]
theorem Yg(L:Nat)(P:aw)(hP:(L=1∧∃a,P=[.arr 1 0 [a]])∨(L=2∧∃a b,P=[.arr 1 0 [a],.arr 1 0 [b]]))(hPz:∀x,.arr 1 0 [x]∈P→∀base σ m,fz false true base σ (m+3) x=x)(bn:Bool)(ns:List bB)(hN:∀n∈ns,su n)
  (h0:0<ns.length) (h1:ns.length≤60) (s:List (jp Int)×List Nat) (hs:dm (tZ ns.length) ns 0 ([],[])=.inl s) :
  db code I.qfi [.agg [.aa bn (ns.map bB.a)]] P=some (.tup [.ptr (L+4) 0 0 0,aL ((ns.length:Int)-1),.bool (s.2.getD (ns.length-1) 0==0)],stE L P bn ns s (s.2.getD (ns.length-1) 0==0)):=by
 rw[dq Ub rfl];have c1:¬((ns.length:Int)<1):=by omega
 have c2:¬(60<(ns.length:Int)):=by omega
 have hm:ns.length≤aV:=by unfold aV;omega
 have hk:=BX L P hP hPz bn ns hN h1;rw[hs]at hk;obtain⟨⟨e1,e2⟩,hk⟩:=hk;have w1:=tI (n:=(ns.length:Int)-1) (by omega) (by omega);have w2:(0:Int)≤(ns.length:Int)-1:=by omega
 have w3:((ns.length:Int)-1).toNat=ns.length-1:=by omega
 have w4:((ns.length:Int)-1<(ns.length:Int)):=by omega
 have w5:(1:Int)≤(ns.length:Int):=by omega
 have w6:ns.length-1<s.2.length:=by omega
 have w7:ns.length-1<ns.length:=by omega
 obtain⟨ks,fs⟩:=s;simp only at *;have hof:fs[ns.length-1]?=some (fs.getD (ns.length-1) 0):=by simp[aE,w6]
 have hge:∀h:ns.length-1<fs.length,fs[ns.length-1]'h=fs.getD (ns.length-1) 0:=fun h=>(ak.1 hof).2;generalize fs.getD (ns.length-1) 0=f at *;have hA:=fun id σ h=>LS id (.aa bn (ns.map bB.a)) σ h;have hf0:((f:Int)==0)=(f==0):=by rw[cS,aG,aG];omega
 rcases hP with⟨hL,a,rfl⟩|⟨hL,a,b,rfl⟩
 all_goals
  subst hL;simp at hk;simp[an8,La,c1,c2,hA,hk,tH,w1,w2,w3,w4,w5,w6,w7,hof,hge,e1,e2,hf0]
theorem Sn(L:Nat)(P:aw)(hP:(L=1∧∃a,P=[.arr 1 0 [a]])∨(L=2∧∃a b,P=[.arr 1 0 [a],.arr 1 0 [b]]))(hPz:∀x,.arr 1 0 [x]∈P→∀base σ m,fz false true base σ (m+3) x=x)(bn:Bool)(ns:List bB)(hN:∀n∈ns,su n)
  (h0:0<ns.length) (h1:ns.length≤60) (k:Nat) (hs:dm (tZ ns.length) ns 0 ([],[])=.inr k) :
  ∃τ,db code I.qfi [.agg [.aa bn (ns.map bB.a)]] P=some (.tup [.ptr (L+4) 0 0 0,aL k,.bool false],τ):=by
 rw[dq Ub rfl];have c1:¬((ns.length:Int)<1):=by omega
 have c2:¬(60<(ns.length:Int)):=by omega
 have hk:=BX L P hP hPz bn ns hN h1;rw[hs]at hk;obtain⟨τ,hk,ep,kc,ef,fc,X,rfl⟩:=hk;have hA:=fun id σ h=>LS id (.aa bn (ns.map bB.a)) σ h;rcases hP with⟨hL,a,rfl⟩|⟨hL,a,b,rfl⟩
 all_goals
  subst hL;simp at hk;exact⟨_,by simp[an8,La,c1,c2,hA,hk,tH];rfl⟩
theorem Sj(L:Nat)(P:aw)(hP:(L=1∧∃a,P=[.arr 1 0 [a]])∨(L=2∧∃a b,P=[.arr 1 0 [a],.arr 1 0 [b]]))(bn:Bool)(ns:List bB)(h0:ns.length<1∨60<ns.length) :
  ∃τ,db code I.qfi [.agg [.aa bn (ns.map bB.a)]] P=some (.tup [.ptr (L+4) 0 0 0,aL 0,.bool false],τ):=by
 rw[dq Ub rfl];rcases hP with⟨hL,a,rfl⟩|⟨hL,a,b,rfl⟩
 all_goals
  subst hL;by_cases c1:ns.length<1
  ·have c1':((ns.length:Int)<1):=by omega
   exact⟨_,by simp[an8,La,c1'];rfl⟩
  have c1':¬((ns.length:Int)<1):=by omega
  have c2':(60<(ns.length:Int)):=by omega
  exact⟨_,by simp[an8,La,c1',c2'];rfl⟩
theorem KA(L:Nat)(P:aw)(hP:(L=1∧∃a,P=[.arr 1 0 [a]])∨(L=2∧∃a b,P=[.arr 1 0 [a],.arr 1 0 [b]]))(hPz:∀x,.arr 1 0 [x]∈P→∀base σ m,fz false true base σ (m+3) x=x)(bn:Bool)(ns:List bB)(hN:∀n∈ns,su n) :
  match kj ns with
  |some s=>(0<ns.length∧ns.length≤60∧s.1.length=ns.length∧s.2.length=ns.length)∧db code I.qfi [.agg [.aa bn (ns.map bB.a)]] P=some (.tup [.ptr (L+4) 0 0 0,.int .i64 ((ns.length:Int)-1),.bool true],stE L P bn ns s true)
  |none=>∃k τ,db code I.qfi [.agg [.aa bn (ns.map bB.a)]] P=some (.tup [.ptr (L+4) 0 0 0,.int .i64 k,.bool false],τ):=by
 unfold kj;by_cases h:ns.length<1∨60<ns.length
 ·rw[if_pos h];obtain⟨τ,h⟩:=Sj L P hP bn ns h;exact⟨_,τ,h⟩
 rw[if_neg h];have h0:0<ns.length:=by omega
 have h1:ns.length≤60:=by omega
 cases hf:dm (tZ ns.length) ns 0 ([],[]) with
 |inr k=>
  obtain⟨τ,h⟩:=Sn L P hP hPz bn ns hN h0 h1 k hf;exact⟨_,τ,h⟩
 |inl s=>
  have hk:=Yg L P hP hPz bn ns hN h0 h1 s hf;have hl:=BX L P hP hPz bn ns hN h1;rw[hf]at hl;simp only;by_cases c:s.2.getD (ns.length-1) 0=0
  ·rw[if_pos c];rw[c]at hk;exact⟨⟨h0,h1,hl.1.1,hl.1.2⟩,hk⟩
  rw[if_neg c];rw[show (s.2.getD (ns.length-1) 0==0)=false by simpa using c]at hk;exact⟨_,_,hk⟩
theorem Hl(bn:Bool)(ns:List bB)(hN:∀n∈ns,su n):∃k,bI I.qem [.agg [.aa bn (ns.map bB.a)]]=some (.tup [aL k,aL (if (kj ns).isSome then 0 else 230)]):=by
 have h:=KA 1 [.arr 1 0 [.agg [.aa bn (ns.map bB.a)]]] (.inl ⟨rfl,_,rfl⟩) (fun x hx base σ m=>by simp at hx;rw[hx];simp) bn ns hN;cases hl:kj ns with
 |none=>
  rw[hl]at h;obtain⟨k,τ,h⟩:=h;refine⟨k,?_⟩;rw[aQ abi rfl];simp[aoQ,Wh,h]
 |some s=>
  rw[hl]at h;obtain⟨_,h⟩:=h;refine⟨0,?_⟩;rw[aQ abi rfl];simp[aoQ,Wh,h]
theorem SV(bn:Bool)(ns:List bB)(hN:∀n∈ns,su n)(s:List (jp Int)×List Nat)(hl:kj ns=some s)(hs:∀a∈s.1,a.l.length≤16) :
  bI I.qen [.agg [.aa bn (ns.map bB.a)]]=some (.tup [.aa false (bE (s.1.getD (ns.length-1) WT).l),aL 0]):=by
 have h:=KA 1 [.arr 1 0 [.agg [.aa bn (ns.map bB.a)]]] (.inl ⟨rfl,_,rfl⟩) (fun x hx base σ m=>by simp at hx;rw[hx];simp) bn ns hN;rw[hl]at h;obtain⟨⟨h0,h1,e1,e2⟩,h⟩:=h;rw[aQ abL rfl];obtain⟨ks,fs⟩:=s;simp only at *;have w1:=tI (n:=(ns.length:Int)-1) (by omega) (by omega);have w2:(0:Int)≤(ns.length:Int)-1:=by omega
 have w3:((ns.length:Int)-1).toNat=ns.length-1:=by omega
 have w4:((ns.length:Int)-1<(ns.length:Int)):=by omega
 have w5:(1:Int)≤(ns.length:Int):=by omega
 have w6:ns.length-1<ks.length:=by omega
 have w7:ns.length-1<ns.length:=by omega
 have hof:ks[ns.length-1]?=some (ks.getD (ns.length-1) WT):=by simp[aE,w6]
 have hge:∀h:ns.length-1<ks.length,ks[ns.length-1]'h=ks.getD (ns.length-1) WT:=fun h=>(ak.1 hof).2;have hlen:=hs _ (aD hof);generalize ks.getD (ns.length-1) WT=a at *;have hcl:=nI (enc:=.int .i64) a.b a.l (by unfold aV;omega);simp at h;simp[aoV,Vo,h,w1,w2,w3,w4,w5,w6,w7,hof,hge,e1,e2,hcl]
end Go.AM
namespace Go.AM
open P
set_option maxHeartbeats 16000000
set_option maxRecDepth 8000
attribute [local simp] aF br
structure NS (n:bB):Prop where
 fit:su n
 keys:n.keys.length≤8000
 ah:n.ah.length≤8000
 items:n.items.length≤8000
def zh(n:bB)(a b:List Int):Option (List Int):=
 if n.op=1 then (if wQ n then some n.ac else none)
 else if n.op=2 then (if mn n.cond (a++b) then some (a++b) else none)
 else if n.op=3 then (if mn n.cond a then some a else none)
 else if n.op=4 then (tL a n.keys).bind fun ks=>if WG n a then some (ks++n.ah.map fun g=>(oQ a g).1) else none
 else if n.op=5 then (if ((n.items.all fun e=>(fe e.l a).2==0)&&decide (1≤n.items.length)&&decide (n.items.length≤16)) then some (n.items.map fun e=>(fe e.l a).1) else none)
 else if n.op=6 then some a
 else if n.op=7 then (if a.length=b.length then (if (a.foldl (Kd b) (0,[],true)).2.2 then some (a.foldl (Kd b) (0,[],true)).2.1 else none) else none)
 else if vw n a then some a else none
theorem Vp(n:bB)(hn:NS n)(ba bb:Bool)(a b:List Int)(A B:ap)(hp:0≤eD n.op)(hA:eD n.op≠0→A=.aa ba (bE a)∧a≠[]∧a.length≤8000)(hB:eD n.op=2→B=.aa bb (bE b)∧b≠[]∧b.length≤8000)
  (σ:aw) (hσ:sw σ):∃R ok l,db code I.qco [n.a,A,B] σ=some (.tup [R,.bool ok],σ)∧Va R l∧zh n a b=if ok then some l else none:=by
 have hf:=hn.fit;have hm:wJ≤aV:=by unfold wJ aV;omega
 by_cases h1:n.op=1
 ·refine⟨_,_,_,aif n A B h1 (aZ hf.ac hm) σ hσ,sL _ _,?_⟩;simp[zh,h1]
 have hA':A=.aa ba (bE a)∧a≠[]∧a.length≤8000:=hA (by unfold eD at hp ⊢;repeat' split at hp<;>(repeat' split)<;>omega);obtain⟨rfl,a0,al⟩:=hA';by_cases h2:n.op=2
 ·obtain⟨rfl,b0,bl⟩:=hB (by simp[eD,h2]);refine⟨_,_,_,aj1 n ba bb a b h2 (aZ hf.cond hm) a0 b0 al bl σ hσ,sL _ _,?_⟩;simp[zh,h2]
 by_cases h7:n.op=7
 ·obtain⟨rfl,b0,bl⟩:=hB (by simp[eD,h7]);by_cases hl:a.length=b.length
  ·refine⟨_,_,_,ag6 n ba bb a b h7 al hl σ hσ,sL _ _,?_⟩;simp[zh,h7,hl]
  refine⟨_,_,[],ads n ba bb a b h7 hl σ hσ,.inl ⟨rfl,rfl⟩,?_⟩;simp[zh,h7,hl]
 by_cases h3:n.op=3
 ·refine⟨_,_,_,aky n ba a B h3 (aZ hf.cond hm) al σ hσ,sL _ _,?_⟩;simp[zh,h3]
 by_cases h6:n.op=6
 ·refine⟨_,_,_,agB n ba a B h6 σ hσ,sL _ _,?_⟩;simp[zh,h6]
 by_cases h5:n.op=5
 ·refine⟨_,_,_,aio n ba a B h5 hn.items (fun e he=>aZ (hf.exprs e he) hm) al σ hσ,sL _ _,?_⟩;simp[zh,h5]
 by_cases h4:n.op=4
 ·have h:=afI n ba a B h4 hn.keys hn.ah (fun g hg=>aZ (hf.args g hg) hm) al σ hσ;cases hk:tL a n.keys with
  |none=>
   rw[hk]at h;exact⟨_,_,[],h,.inl ⟨rfl,rfl⟩,by simp[zh,h4,hk]⟩
  |some ks=>
   rw[hk]at h;exact⟨_,_,_,h,sL _ _,by simp[zh,h4,hk]⟩
 have h8:n.op=8:=by unfold eD at hp;repeat' split at hp<;>omega
 refine⟨_,_,_,ajh n ba a B h8 (aZ hf.ords hm) σ hσ,sL _ _,?_⟩;simp[zh,h8]
end Go.AM
namespace Go.AM
open P
set_option maxHeartbeats 16000000
set_option maxRecDepth 8000
attribute [local simp] aF br
def kd(l:List bB):Nat→Option (List Int)
 |0=>none
 |m+1=>match l[m]? with
  |none=>none
  |some n=>
   if cI l (m+1)=0∨sN n=false then none else
   (if eD n.op=0 then zh n [] [] else if eD n.op=1 then (kd l m).bind fun a=>zh n a []
    else (kd l (m-cI l m)).bind fun a=>(kd l m).bind fun b=>zh n a b).bind fun r=>if (n.op=8∧m+1≠l.length)∨16<r.length then none else some r
termination_by m=>m
decreasing_by all_goals omega
theorem Pq(b:List Int):∀(a:List Int) (i:Nat) (p:List Int) (ok:Bool),(a.foldl (Kd b) (i,p,ok)).2.1.length=p.length+a.length
 |[],_,_,_=>by simp
 |x::a,i,p,ok=>by
  rw[dh];have:∀s,Kd b s x=((Kd b s x).1,(Kd b s x).2.1,(Kd b s x).2.2):=fun _=>rfl;rw[this,Pq b a];simp[Kd];omega
theorem Od{n:bB}{a b r:List Int}(ha:eD n.op≠0→a≠[])(hb:eD n.op=2→b≠[])(hp:0≤eD n.op)(h:zh n a b=some r):r≠[]:=by
 by_cases h1:n.op=1
 ·rw[zh,if_pos h1]at h;split at h
  ·rename_i hs;cases h;unfold wQ at hs;simp only[am,aR]at hs;intro e;rw[e]at hs;simp at hs
  cases h
 have ha':a≠[]:=ha (by unfold eD at hp ⊢;repeat' split at hp<;>(repeat' split)<;>omega);unfold zh at h;rw[if_neg h1]at h;by_cases h2:n.op=2
 ·rw[if_pos h2]at h;split at h
  ·cases h;simp[ha']
  cases h
 rw[if_neg h2]at h;by_cases h3:n.op=3
 ·rw[if_pos h3]at h;split at h
  ·cases h;exact ha'
  cases h
 rw[if_neg h3]at h;by_cases h4:n.op=4
 ·rw[if_pos h4]at h;cases hk:tL a n.keys with
  |none=>rw[hk]at h;cases h
  |some ks=>
   rw[hk]at h;simp only[dk]at h;split at h
   ·rename_i hg;cases h;have hl:ks.length=n.keys.length:=by
     unfold tL at hk;split at hk
     ·cases hk;simp
     cases hk
    unfold WG at hg;simp only[am,aR]at hg;intro e;have:=congrArg List.length e;simp only[dD,cR,cK]at this;omega
   cases h
 rw[if_neg h4]at h;by_cases h5:n.op=5
 ·rw[if_pos h5]at h;split at h
  ·rename_i hg;cases h;simp only[am,aR]at hg;intro e;have:=congrArg List.length e;simp only[cR,cK]at this;omega
  cases h
 rw[if_neg h5]at h;by_cases h6:n.op=6
 ·rw[if_pos h6]at h;cases h;exact ha'
 rw[if_neg h6]at h;by_cases h7:n.op=7
 ·rw[if_pos h7]at h;split at h
  ·split at h
   ·cases h;intro e;have:=congrArg List.length e;rw[Pq]at this;simp at this;exact ha' this
   cases h
  cases h
 rw[if_neg h7]at h;split at h
 ·cases h;exact ha'
 cases h
theorem sQ{l:List bB}{m:Nat}{n:bB}(hn:l[m]?=some n)(h:cI l (m+1)≠0) :
  (eD n.op=0∧n.l=-1∧n.r=-1)∨(eD n.op=1∧n.l=(m:Int)-1∧n.r=-1∧cI l m≠0) ∨
  (eD n.op=2∧n.r=(m:Int)-1∧n.l=(m:Int)-1-cI l m∧cI l m≠0∧cI l (m-cI l m)≠0):=by
 rw[cI,hn]at h;simp only at h;split at h
 ·rename_i h0;split at h
  ·rename_i c;exact .inl ⟨h0,c.1,c.2⟩
  exact absurd rfl h
 split at h
 ·rename_i h1;split at h
  ·rename_i c;exact .inr (.inl ⟨h1,c.1,c.2.1,c.2.2⟩)
  exact absurd rfl h
 split at h
 ·rename_i h2;split at h
  ·exact absurd rfl h
  rename_i c;split at h
  ·exact absurd rfl h
  rename_i c2;exact .inr (.inr ⟨h2,by omega,by omega,by omega,c2⟩)
 exact absurd rfl h
theorem wd{l:List bB}{m:Nat}{r:List Int}(h:kd l m=some r):r.length≤16:=by
 cases m with
 |zero=>simp[kd]at h
 |succ m=>
  rw[kd]at h;split at h
  ·cases h
  split at h
  ·cases h
  rw[aA]at h;obtain⟨q,_,h⟩:=h;split at h
  ·cases h
  cases h;omega
theorem Fe{l:List bB}:∀(m:Nat) {r:List Int},kd l m=some r→r≠[]:=by
 intro m;induction m using Nat.strongRecOn with
 |_ m ih=>
  intro r h;cases m with
  |zero=>simp[kd]at h
  |succ m=>
   rw[kd]at h;cases hn:l[m]? with
   |none=>rw[hn]at h;cases h
   |some n=>
    rw[hn]at h;simp only at h;split at h
    ·cases h
    rename_i hc;rw[aA]at h;obtain⟨q,hq,h⟩:=h;split at h
    ·cases h
    cases h;rcases sQ hn (fun e=>hc (.inl e)) with⟨p0,_⟩|⟨p1,_⟩|⟨p2,_⟩
    ·rw[if_pos p0]at hq;exact Od (fun h=>absurd p0 h) (fun h=>by omega) (by omega) hq
    ·rw[if_neg (by omega),if_pos p1,aA]at hq;obtain⟨a,ha,hq⟩:=hq;exact Od (fun _=>ih m (by omega) ha) (fun h=>by omega) (by omega) hq
    rw[if_neg (by omega),if_neg (by omega),aA]at hq;obtain⟨a,ha,hq⟩:=hq;rw[aA]at hq;obtain⟨b,hb,hq⟩:=hq;exact Od (fun _=>ih _ (by omega) ha) (fun _=>ih m (by omega) hb) (by omega) hq
end Go.AM
namespace Go.AM
open P
set_option maxHeartbeats 32000000
set_option maxRecDepth 8000
attribute [local simp] aF br
abbrev TA(b:Bool)(ab:List bB):ap:=.agg [.aa b (ab.map bB.a)]
abbrev KT(σ:aw)(b:Bool)(ab:List bB)(n:bB):aw:=σ++[.arr 1 0 [TA b ab],.arr 12 0 [n.a]]
def aak(τ:aw)(L:ap)(x:Int)(R:ap)(ok:Bool):Prop:=(x=-1∧R=.ai∧ok=true)∨(0≤x∧(∃l,Va R l)∧db code I.qcd [L,.int .i64 x] τ=some (.tup [R,.bool ok],τ))
theorem abF{σ:aw}(hσ:sw σ)(b:Bool)(ab:List bB)(n:bB):sw (KT σ b ab n):=hσ.app _ fun τ q hq=>by
 have hz2:∀base σ m,fz false true base σ (m+3) n.a=n.a:=fun base σ m=>Ft.ft (f:=bB.a) false true base σ m n rfl;simp[aW,bG,dp,hz2]
theorem rf{σ:aw}(hσ:sw σ){ab:List bB}(hN:ab.length≤aV)(b:Bool){p:Nat}{n:bB}(hp:ab[p]?=some n)(hs:cI ab (p+1)≠0)(ho:sN n=true){RA RB R:ap}{oa ob ok:Bool}{lr:List Int}
  (hA:aak (KT σ b ab n) (TA b ab) n.l RA oa) (hB:oa=true→aak (KT σ b ab n) (TA b ab) n.r RB ob)
  (hk:oa=true→ob=true→db code I.qco [n.a,RA,RB] (KT σ b ab n)=some (.tup [R,.bool ok],KT σ b ab n)) (hR:Va R lr) :
  db code I.qcd [TA b ab,.int .i64 p] σ=some (if oa=false∨ob=false∨(n.op=8∧((p:Int) != (ab.length:Int)-1)=true)∨16<lr.length then .tup [.ai,.bool false] else .tup [R,.bool ok],σ):=by
 rw[eV Qf rfl];have aj:p<ab.length:=(ak.1 hp).1;have hsz:=fun b=>Gq ab hN (p+1) b (by omega);have hpp:((p+1:Nat):Int)-1=(p:Int):=by omega
 rw[hpp]at hsz;have hsz0:((cI ab (p+1):Int)==0)=false:=by rw[du];omega
 have hown:=Rf n;rw[ho]at hown;have hw:IntKind.i64.wrap ((ab.length:Int)-1)=(ab.length:Int)-1:=dT (by unfold aV at *;omega);have hfr:=abF hσ b ab n;have hc0:(cellsOf n.a)[0]?=some (.int .i64 n.op):=rfl;have hc1:(cellsOf n.a)[1]?=some (.int .i64 n.l):=rfl;have hc2:(cellsOf n.a)[2]?=some (.int .i64 n.r):=rfl;have hnn:aC n.a=12∧isAgg n.a=true:=⟨Nc.nc n,Nc.ag n⟩;have hz1:∀base σ m,fz true false base σ (m+3) n.a=n.a:=fun base σ m=>Ft.ft (f:=bB.a) true false base σ m n rfl;have hz2:∀base σ m,fz false true base σ (m+3) n.a=n.a:=fun base σ m=>Ft.ft (f:=bB.a) false true base σ m n rfl;have hg:ab[p]=n:=(ak.1 hp).2;generalize cI ab (p+1)=z at *;generalize n.op=op at *;generalize n.l=x at *;generalize n.r=y at *;clear hs ho;generalize hq:((p:Int) != (ab.length:Int)-1)=q at *;rcases hA with⟨rfl,rfl,rfl⟩|⟨hx,⟨la,⟨rfl,rfl⟩|⟨ca,rfl⟩⟩,hA⟩
 ·replace hB:=hB rfl;rcases hB with⟨rfl,rfl,rfl⟩|⟨hy,⟨lb,⟨rfl,rfl⟩|⟨cb,rfl⟩⟩,hB⟩
  ·replace hk:=hk rfl rfl;rcases hR with⟨rfl,rfl⟩|⟨c,rfl⟩
   ·by_cases o8:op=8<;>cases q<;>(try subst o8)<;>simp[anJ,nR,hsz,hsz0,aj,hp,hg,hown,hnn,hz1,hz2,hc0,hc1,hc2,hw,b9 hσ,bG,dp, *]
   by_cases c16:16<lr.length
   ·have c16':(16:Int)<lr.length:=by omega
    by_cases o8:op=8<;>cases q<;>(try subst o8)<;>simp[anJ,nR,hsz,hsz0,aj,hp,hg,hown,hnn,hz1,hz2,hc0,hc1,hc2,hw,b9 hσ,bG,dp, *]
   have c16':¬(16:Int)<lr.length:=by omega
   by_cases o8:op=8<;>cases q<;>(try subst o8)<;>simp[anJ,nR,hsz,hsz0,aj,hp,hg,hown,hnn,hz1,hz2,hc0,hc1,hc2,hw,b9 hσ,bG,dp, *]
  all_goals
   cases ob with
   |false=>simp[anJ,nR,hsz,hsz0,aj,hp,hg,hown,hnn,hz1,hz2,hc0,hc1,hc2,hw,b9 hσ,bG,dp, *]
   |true=>
    replace hk:=hk rfl rfl;rcases hR with⟨rfl,rfl⟩|⟨c,rfl⟩
    ·by_cases o8:op=8<;>cases q<;>(try subst o8)<;>simp[anJ,nR,hsz,hsz0,aj,hp,hg,hown,hnn,hz1,hz2,hc0,hc1,hc2,hw,b9 hσ,bG,dp, *]
    by_cases c16:16<lr.length
    ·have c16':(16:Int)<lr.length:=by omega
     by_cases o8:op=8<;>cases q<;>(try subst o8)<;>simp[anJ,nR,hsz,hsz0,aj,hp,hg,hown,hnn,hz1,hz2,hc0,hc1,hc2,hw,b9 hσ,bG,dp, *]
    have c16':¬(16:Int)<lr.length:=by omega
    by_cases o8:op=8<;>cases q<;>(try subst o8)<;>simp[anJ,nR,hsz,hsz0,aj,hp,hg,hown,hnn,hz1,hz2,hc0,hc1,hc2,hw,b9 hσ,bG,dp, *]
 all_goals
  cases oa with
  |false=>simp[anJ,nR,hsz,hsz0,aj,hp,hg,hown,hnn,hz1,hz2,hc0,hc1,hc2,hw,b9 hσ,bG,dp, *]
  |true=>
   replace hB:=hB rfl;rcases hB with⟨rfl,rfl,rfl⟩|⟨hy,⟨lb,⟨rfl,rfl⟩|⟨cb,rfl⟩⟩,hB⟩
   ·replace hk:=hk rfl rfl;rcases hR with⟨rfl,rfl⟩|⟨c,rfl⟩
    ·by_cases o8:op=8<;>cases q<;>(try subst o8)<;>simp[anJ,nR,hsz,hsz0,aj,hp,hg,hown,hnn,hz1,hz2,hc0,hc1,hc2,hw,b9 hσ,bG,dp, *]
    by_cases c16:16<lr.length
    ·have c16':(16:Int)<lr.length:=by omega
     by_cases o8:op=8<;>cases q<;>(try subst o8)<;>simp[anJ,nR,hsz,hsz0,aj,hp,hg,hown,hnn,hz1,hz2,hc0,hc1,hc2,hw,b9 hσ,bG,dp, *]
    have c16':¬(16:Int)<lr.length:=by omega
    by_cases o8:op=8<;>cases q<;>(try subst o8)<;>simp[anJ,nR,hsz,hsz0,aj,hp,hg,hown,hnn,hz1,hz2,hc0,hc1,hc2,hw,b9 hσ,bG,dp, *]
   all_goals
    cases ob with
    |false=>simp[anJ,nR,hsz,hsz0,aj,hp,hg,hown,hnn,hz1,hz2,hc0,hc1,hc2,hw,b9 hσ,bG,dp, *]
    |true=>
     replace hk:=hk rfl rfl;rcases hR with⟨rfl,rfl⟩|⟨c,rfl⟩
     ·by_cases o8:op=8<;>cases q<;>(try subst o8)<;>simp[anJ,nR,hsz,hsz0,aj,hp,hg,hown,hnn,hz1,hz2,hc0,hc1,hc2,hw,b9 hσ,bG,dp, *]
     by_cases c16:16<lr.length
     ·have c16':(16:Int)<lr.length:=by omega
      by_cases o8:op=8<;>cases q<;>(try subst o8)<;>simp[anJ,nR,hsz,hsz0,aj,hp,hg,hown,hnn,hz1,hz2,hc0,hc1,hc2,hw,b9 hσ,bG,dp, *]
     have c16':¬(16:Int)<lr.length:=by omega
     by_cases o8:op=8<;>cases q<;>(try subst o8)<;>simp[anJ,nR,hsz,hsz0,aj,hp,hg,hown,hnn,hz1,hz2,hc0,hc1,hc2,hw,b9 hσ,bG,dp, *]
end Go.AM
namespace Go.AM
open P
set_option maxHeartbeats 8000000
set_option maxRecDepth 8000
theorem Hv(ab:List bB)(hN:ab.length≤aV)(hF:∀n∈ab,NS n)(b:Bool):∀m:Nat,∀σ,sw σ→m≤ab.length →
  ∃R,db code I.qcd [TA b ab,.int .i64 ((m:Int)-1)] σ=some (.tup [R,.bool (kd ab m).isSome],σ)∧(∃l,Va R l)∧∀r,kd ab m=some r→Va R r:=by
 intro m;induction m using Nat.strongRecOn with
 |_ m ih=>
  intro σ hσ hm;have hsz:=fun b=>Gq ab hN m b hm;cases m with
  |zero=>
   refine⟨.ai,?_,⟨_,.inl ⟨rfl,rfl⟩⟩,fun r h=>by simp[kd]at h⟩;rw[eV Qf rfl];simp only[aJ,Int.zero_sub]at hsz ⊢;simp[anJ,nR,hsz,cI,kd,b9 hσ,bG,dp]
  |succ m=>
   have aj:m<ab.length:=by omega
   have hpp:((m+1:Nat):Int)-1=(m:Int):=by omega
   rw[hpp]at hsz ⊢;obtain⟨n,hn⟩:∃n,ab[m]?=some n:=⟨_,aq aj⟩;have hg:ab[m]=n:=(ak.1 hn).2;have hown:=Rf n;have hns:=hF n (aD hn);rw[kd,hn];simp only;by_cases hs:cI ab (m+1)=0
   ·rw[if_pos (.inl hs)];refine⟨.ai,?_,⟨_,.inl ⟨rfl,rfl⟩⟩,fun r h=>by cases h⟩;rw[eV Qf rfl];simp[anJ,nR,hsz,hs,b9 hσ,bG,dp]
   cases ho:sN n with
   |false=>
    rw[ho]at hown;rw[if_pos (.inr rfl)];refine⟨.ai,?_,⟨_,.inl ⟨rfl,rfl⟩⟩,fun r h=>by cases h⟩;have hsz0:((cI ab (m+1):Int)==0)=false:=by rw[du];omega
    have hnn:aC n.a=12∧isAgg n.a=true:=⟨Nc.nc n,Nc.ag n⟩;have hz1:∀base σ m,fz true false base σ (m+3) n.a=n.a:=fun base σ m=>Ft.ft (f:=bB.a) true false base σ m n rfl;rw[eV Qf rfl];simp[anJ,nR,hsz,hsz0,aj,hn,hg,hown,hnn,hz1,b9 hσ,bG,dp]
   |true=>
    rw[if_neg (by simp[hs])];have hfr:=abF hσ b ab n;have q8:(n.op=8∧((m:Int) != (ab.length:Int)-1)=true)↔(n.op=8∧m+1≠ab.length):=by simp;omega
    have bad:∀{c:Prop} [Decidable c] {R:ap} {ok:Bool} {o:Option (List Int)},c→o=none→∃R',(some (if c then .tup [.ai,.bool false] else .tup [R,.bool ok],σ):Option (ap×aw))=some (.tup [R',.bool o.isSome],σ)∧(∃l,Va R' l)∧∀r,o=some r→Va R' r:=fun hc ho=>by
     subst ho;exact⟨.ai,by rw[if_pos hc];rfl,⟨_,.inl ⟨rfl,rfl⟩⟩,fun r h=>by cases h⟩
    have fin:∀{R:ap} {ok:Bool} {l:List Int} {o:Option (List Int)},Va R l→o=(if ok then some l else none)→∃R',(some (if true=false∨true=false∨(n.op=8∧((m:Int) != (ab.length:Int)-1)=true)∨16<l.length then .tup [.ai,.bool false] else .tup [R,.bool ok],σ):Option (ap×aw)) =
      some (.tup [R',.bool (o.bind fun r=>if (n.op=8∧m+1≠ab.length)∨16<r.length then none else some r).isSome],σ)∧(∃l,Va R' l)∧∀r,(o.bind fun r=>if (n.op=8∧m+1≠ab.length)∨16<r.length then none else some r)=some r→Va R' r:=fun {R ok l o} hl ho=>by
     subst ho;by_cases c:(n.op=8∧m+1≠ab.length)∨16<l.length
     ·refine bad (.inr (.inr (c.imp q8.2 id))) ?_;cases ok<;>simp[c]
     have c':¬(true=false∨true=false∨(n.op=8∧((m:Int) != (ab.length:Int)-1)=true)∨16<l.length):=fun h=>by
      rcases h with h|h|h|h
      ·cases h
      ·cases h
      ·exact c (.inl (q8.1 h))
      exact c (.inr h)
     rw[if_neg c'];refine⟨R,?_,⟨l,hl⟩,fun r h=>?_⟩
     ·cases ok<;>simp[c]
     cases ok<;>simp[c]at h;subst h;exact hl
    rcases sQ hn hs with⟨p0,l0,r0⟩|⟨p1,l1,r1,z1⟩|⟨p2,r2,l2,z1,z2⟩
    ·obtain⟨R,ok,l,k1,k2,k3⟩:=Vp n hns false false [] [] .ai .ai (by omega) (fun h=>absurd p0 h) (fun h=>by omega) _ hfr;rw[if_pos p0,k3];rw[rf hσ hN b hn hs ho (.inl ⟨l0,rfl,rfl⟩) (fun _=>.inl ⟨r0,rfl,rfl⟩) (fun _ _=>k1) k2];exact fin k2 rfl
    ·obtain⟨RA,a1,⟨la,a2⟩,a3⟩:=ih m (by omega) _ hfr (by omega);have hm0:m≠0:=fun e=>by subst e;simp[cI]at z1
     rw[if_neg (by omega),if_pos p1];cases ha:kd ab m with
     |none=>
      rw[ha]at a1;rw[rf (R:=.ai) (lr:=[]) (RB:=.ai) (ob:=true) (ok:=false) hσ hN b hn hs ho (.inr ⟨by omega,⟨la,a2⟩,by rw[l1];exact a1⟩) (fun h=>by cases h) (fun h=>by cases h) (.inl ⟨rfl,rfl⟩)];exact bad (.inl rfl) rfl
     |some a=>
      rw[ha]at a1;have hA:=a3 a ha;obtain⟨c,rfl⟩:∃c,RA=.aa c (bE a):=hA.resolve_left fun h=>Fe m ha h.2;obtain⟨R,ok,l,k1,k2,k3⟩:=Vp n hns c false a [] (.aa c (bE a)) .ai (by omega) (fun _=>⟨rfl,Fe m ha,by have:=wd ha;omega⟩) (fun h=>by omega) _ hfr;rw[rf hσ hN b hn hs ho (.inr ⟨by omega,⟨a,hA⟩,by rw[l1];exact a1⟩) (fun _=>.inl ⟨r1,rfl,rfl⟩) (fun _ _=>k1) k2];exact fin k2 k3
    have hle:=rX ab m;have hm0:m≠0:=fun e=>by subst e;simp[cI]at z1
    have hq0:m-cI ab m≠0:=fun e=>by rw[e]at z2;simp[cI]at z2
    have hll:n.l=((m-cI ab m:Nat):Int)-1:=by rw[l2];omega
    obtain⟨RA,a1,⟨la,a2⟩,a3⟩:=ih (m-cI ab m) (by omega) _ hfr (by omega);obtain⟨RB,b1,⟨lb,b2⟩,b3⟩:=ih m (by omega) _ hfr (by omega);rw[if_neg (by omega),if_neg (by omega)];cases ha:kd ab (m-cI ab m) with
    |none=>
     rw[ha]at a1;rw[rf (R:=.ai) (lr:=[]) (RB:=.ai) (ob:=true) (ok:=false) hσ hN b hn hs ho (.inr ⟨by omega,⟨la,a2⟩,by rw[hll];exact a1⟩) (fun h=>by cases h) (fun h=>by cases h) (.inl ⟨rfl,rfl⟩)];exact bad (.inl rfl) rfl
    |some a=>
     rw[ha]at a1;have hA:=a3 a ha;obtain⟨c,rfl⟩:∃c,RA=.aa c (bE a):=hA.resolve_left fun h=>Fe _ ha h.2;cases hb:kd ab m with
     |none=>
      rw[hb]at b1;rw[rf (R:=.ai) (lr:=[]) (ok:=false) hσ hN b hn hs ho (.inr ⟨by omega,⟨a,hA⟩,by rw[hll];exact a1⟩) (fun _=>.inr ⟨by omega,⟨lb,b2⟩,by rw[r2];exact b1⟩) (fun _ h=>by cases h) (.inl ⟨rfl,rfl⟩)];exact bad (.inr (.inl rfl)) rfl
     |some bb=>
      rw[hb]at b1;have hB:=b3 bb hb;obtain⟨c2,rfl⟩:∃c,RB=.aa c (bE bb):=hB.resolve_left fun h=>Fe _ hb h.2;obtain⟨R,ok,l,k1,k2,k3⟩:=Vp n hns c c2 a bb (.aa c (bE a)) (.aa c2 (bE bb)) (by omega) (fun _=>⟨rfl,Fe _ ha,by have:=wd ha;omega⟩) (fun _=>⟨rfl,Fe _ hb,by have:=wd hb;omega⟩) _ hfr;rw[rf hσ hN b hn hs ho (.inr ⟨by omega,⟨a,hA⟩,by rw[hll];exact a1⟩) (fun _=>.inr ⟨by omega,⟨bb,hB⟩,by rw[r2];exact b1⟩) (fun _ _=>k1) k2];exact fin k2 k3
end Go.AM
namespace Go.AM
open P
set_option maxHeartbeats 16000000
set_option maxRecDepth 8000
attribute [local simp] aF br
def ko(ab:List bB):Bool:=decide (1≤ab.length)&&decide (ab.length≤60)&&((List.range ab.length).all fun i=>(kd ab (i+1)).isSome)&&cI ab ab.length==ab.length
def GQ(b:Bool)(ab:List bB)(k:Nat):List ap:=[TA b ab,.ptr 0 0 0 0,.any,.int .i64 ab.length,.int .i64 k,.any,.bool false,.any,.any,.any]
theorem Nj(ab:List bB)(hN:ab.length≤60)(hF:∀n∈ab,NS n)(b c:Bool) :
  match dm (fun k _ (_:Unit)=>if (kd ab (k+1)).isSome then (.inl ():Unit⊕Nat) else .inr k) ab 0 () with
  |.inl _=>cc code 1 [2,5,7,8] uq ⟨GQ b ab 0,[.arr 1 0 [TA c ab]]⟩=some (.ext 0,⟨(GQ b ab ab.length).set 7 (.bool false),[.arr 1 0 [TA c ab]]⟩)
  |.inr r=>∃o,cc code 1 [2,5,7,8] uq ⟨GQ b ab 0,[.arr 1 0 [TA c ab]]⟩=some o∧∃s,o=(.ret,s)∧s.env[2]?=some (.int .i64 r):=by
 have hm:ab.length≤aV:=by unfold aV;omega
 have hfirm:sw [.arr 1 0 [TA c ab]]:=fun τ q hq=>by simp[aW,bG,dp]
 have key:=eL (base:=1) (clr:=[2,5,7,8]) (b:=uq) ab (fun k (_:Unit)=>⟨GQ b ab k,[.arr 1 0 [TA c ab]]⟩) (fun _ _=>True)
  (fun k _ (_:Unit)=>if (kd ab (k+1)).isSome then (.inl ():Unit⊕Nat) else .inr k)
  (fun _=>(.ext 0,⟨(GQ b ab ab.length).set 7 (.bool false),[.arr 1 0 [TA c ab]]⟩)) (fun r o=>∃s,o=(.ret,s)∧s.env[2]?=some (.int .i64 r))
  (fun k y s hk hy _=>by
   obtain⟨R,h1,⟨l,h2⟩,_⟩:=Hv ab hm hF c (k+1) [.arr 1 0 [TA c ab]] hfirm (by omega);have e1:((k+1:Nat):Int)-1=(k:Int):=by omega
   rw[e1]at h1;have hw:IntKind.i64.wrap ((k:Int)+1)=(k:Int)+1:=dT (by omega);cases hq:(kd ab (k+1)).isSome with
   |true=>
    rw[hq]at h1;rcases h2 with⟨rfl,rfl⟩|⟨d,rfl⟩<;>simp[GQ,uq,hk,h1,hw,aT,aW,bG,dp,clear]
   |false=>
    rw[hq]at h1;rcases h2 with⟨rfl,rfl⟩|⟨d,rfl⟩<;>simp[GQ,uq,hk,h1,hw,aT,aW,bG,dp,clear])
  (fun s _=>by simp[GQ,uq]) () trivial
 revert key;cases dm (fun k _ (_:Unit)=>if (kd ab (k+1)).isSome then (.inl ():Unit⊕Nat) else .inr k) ab 0 () with
 |inl s=>exact fun h=>h.2
 |inr r=>exact fun h=>h
theorem HH(p:Nat→Bool):∀(l:List bB) (k:Nat),match dm (fun k _ (_:Unit)=>if p k then (.inl ():Unit⊕Nat) else .inr k) l k () with
  |.inl _=>∀i,k≤i→i<k+l.length→p i=true
  |.inr r=>k≤r∧r<k+l.length∧p r=false
 |[],k=>fun i h1 h2=>by simp at h2;omega
 |y::l,k=>by
  rw[dm];cases h:p k with
  |false=>exact⟨aB _,by simp,h⟩
  |true=>
   have:=HH p l (k+1);simp only[bU];revert this;cases dm (fun k _ (_:Unit)=>if p k then (.inl ():Unit⊕Nat) else .inr k) l (k+1) () with
   |inl _=>
    intro g i h1 h2;by_cases e:i=k
    ·subst e;exact h
    exact g i (by omega) (by simp at h2;omega)
   |inr r=>
    intro g;exact⟨by omega,by simp;omega,g.2.2⟩
theorem S5(ab:List bB)(hm:ab.length≤aV)(hF:∀n∈ab,NS n)(b:Bool):∃k:Int,bI I.qcm [TA b ab]=some (.int .i64 k)∧decide (k<0)=ko ab:=by
 rw[aQ akq rfl];by_cases h1:ab.length<1
 ·have h1':(ab.length:Int)<1:=by omega
  exact⟨0,by simp[an5,Ij,h1'],by simp[ko];omega⟩
 by_cases h2:60<ab.length
 ·have h1':¬(ab.length:Int)<1:=by omega
  have h2':(60:Int)<ab.length:=by omega
  exact⟨0,by simp[an5,Ij,h1',h2'],by simp[ko];omega⟩
 have h1':¬(ab.length:Int)<1:=by omega
 have h2':¬(60:Int)<ab.length:=by omega
 have hl:=Nj ab (by omega) hF;have ha:=HH (fun k=>(kd ab (k+1)).isSome) ab 0;have hsz:=fun b=>Gq ab hm ab.length b (aB _);have hw:IntKind.i64.wrap ((ab.length:Int)-1)=(ab.length:Int)-1:=dT (by omega);have hl0:=hl b b;clear hl;revert hl0 ha;cases dm (fun k _ (_:Unit)=>if (kd ab (k+1)).isSome then (.inl ():Unit⊕Nat) else .inr k) ab 0 () with
 |inl _=>
  intro ha hl0;simp only at ha hl0;simp only[GQ,TA,List.set,aJ]at hl0;have hall:((List.range ab.length).all fun i=>(kd ab (i+1)).isSome)=true:=aI.2 fun i hi=>ha i (by omega) (by simp at hi;omega);by_cases hz:cI ab ab.length=ab.length
  ·have hz':((cI ab ab.length:Int) != (ab.length:Int))=false:=by simp;omega
   refine⟨-1,?_,?_⟩
   ·simp[an5,Ij,h1',h2',hsz,hw,hz',hl0]
   simp[ko,hall,hz];omega
  have hz':((cI ab ab.length:Int) != (ab.length:Int))=true:=by simp;omega
  refine⟨(ab.length:Int)-1,?_,?_⟩
  ·simp[an5,Ij,h1',h2',hsz,hw,hz',hl0]
  have:ko ab=false:=by simp[ko,hz]
  rw[this,fZ];omega
 |inr r=>
  intro ha hl0;simp only at ha hl0;obtain⟨o,hl0,s,rfl,h2⟩:=hl0;simp only[GQ,TA,aJ]at hl0;refine⟨r,?_,?_⟩
  ·simp[an5,Ij,h1',h2',hl0,h2]
  have:((List.range ab.length).all fun i=>(kd ab (i+1)).isSome)=false:=by
   rw[iY];intro h;have:=aI.1 h r (by simp;omega);rw[ha.2.2]at this;cases this
  simp[ko,this]
theorem HZ(ab:List bB)(hm:ab.length≤aV)(hF:∀n∈ab,NS n)(b:Bool):bI I.qch [TA b ab]=some (.bool (ko ab)):=by
 rw[aQ afU rfl];obtain⟨k,h1,h2⟩:=S5 ab hm hF b;simp only[TA]at h1;simp[apJ,abh,h1,h2]
end Go.AM
namespace Go.AM
set_option maxHeartbeats 8000000
set_option maxRecDepth 8000
def adT(ok:Bool)(l:List Int):Option (List Int):=if ok=true∧l.length≤16 then some l else none
theorem RD(b:List Int):∀(a:List Int) (k:Nat) (out:List Int) (ok:Bool),a.length=(b.drop k).length→∃r:List Int,∃t:Bool,a.foldl (Kd b) (k,out,ok)=(k+a.length,out++r,ok&&t)∧r.length=a.length∧mu a (b.drop k)=if t then some r else none
 |[],k,out,ok,h=>⟨[],true,by simp,rfl,by cases b.drop k<;>rfl⟩
 |x::a,k,out,ok,h=>by
  cases hb:b.drop k with
  |nil=>rw[hb]at h;cases h
  |cons o t=>
   have ho:b.getD k 0=o:=by
    have:=congrArg (·[0]?) hb;simp at this;simp[aE,this]
   have ht:b.drop (k+1)=t:=by
    have:=congrArg List.tail hb;simpa [fY] using this
   rw[dh];have hl:a.length=(b.drop (k+1)).length:=by rw[ht];rw[hb]at h;simpa using h
   simp only[Kd,ho];obtain⟨r,q,h1,h2,h3⟩:=RD b a (k+1) (out++[T4 x o]) (ok&&(o==T4 x o ||o==0)) hl;rw[h1];refine⟨T4 x o::r,(o==T4 x o ||o==0)&&q,by simp[cA,eE 1,eK],by simp[h2],?_⟩;rw[ht]at h3;simp only[mu];by_cases c:o≠0∧o≠(if x=0 then o else x)
   ·rw[if_pos c];have:(o==T4 x o ||o==0)=false:=by
     unfold T4;rw[aP c.2,aP c.1];rfl
    rw[this];rfl
   rw[if_neg c];have:(o==T4 x o ||o==0)=true:=by
    unfold T4;rw[dI,aG,aG];exact dP fun h=>c ⟨fun e=>h (.inr e),fun e=>h (.inl e)⟩
   rw[this,cG,h3];cases q<;>rfl
theorem R9(a b:List Int)(h:a.length=b.length)(ha:a.length≤16):adT (a.foldl (Kd b) (0,[],true)).2.2 (a.foldl (Kd b) (0,[],true)).2.1=mu a b:=by
 obtain⟨r,t,h1,h2,h3⟩:=RD b a 0 [] true (by simpa using h);rw[h1];rw[List.drop_zero]at h3;rw[h3];unfold adT;simp only[bN,cG];cases t with
 |false=>rw[if_neg (by simp)];rfl
 |true=>rw[if_pos ⟨rfl,by omega⟩];rfl
theorem K3(a:List Int)(l:List Int):uX l a=l.all fun k=>decide (0≤k)&&decide (k<a.length):=by
 unfold uX;induction l with
 |nil=>rfl
 |cons x l ih=>
  rw[md,Bool.not_or,ih,eU];congr 1;rw[cS];simp<;>omega
theorem JC{N:Nat}{ks:List (jp Int)}{n:bB}{a b:jp Int}(h1:1≤n.op)(h8:n.op≤8)(hA:n.op≠1→ks[n.l.toNat]?=some a)(hB:n.op=2∨n.op=7→ks[n.r.toNat]?=some b)(ha:a.l.length≤16) :
  (oH N ks n).map (·.l)=if n.op=8∧ks.length+1≠N then none else zh n a.l b.l:=by
 unfold oH zh;by_cases e1:n.op=1
 ·simp only[e1,bU];cases wQ n<;>simp
 have hA:=hA e1;rw[if_neg e1,if_neg e1,hA];simp only[dk];by_cases e2:n.op=2
 ·rw[hB (.inl e2)];by_cases ht:mn n.cond (a.l++b.l)=true<;>simp[e2,ht]
 by_cases e3:n.op=3
 ·simp only[e3];cases mn n.cond a.l<;>simp
 by_cases e4:n.op=4
 ·simp only[e4];unfold tL sO Bq WG;rw[K3];have hg:(n.ah.all fun g=>(oQ a.l g).2)=n.ah.all fun g=>(xH a.l g).1:=by
   congr 1;funext g;exact (Mj a.l g).1
  rw[hg];cases hk:(n.keys.all fun k=>decide (0≤k)&&decide (k<a.l.length))
  ·simp
  cases hq:(n.ah.all fun g=>(xH a.l g).1)
  ·simp
  have hm:n.ah.map (Fr a.l)=n.ah.map fun g=>(oQ a.l g).1:=aU fun g hg=>by
   have:=aI.1 hq g hg;rw[YR this,(Mj a.l g).2 this]
  rw[hm];cases hx:(decide (n.keys.length≤3)&&decide (n.ah.length≤12)&&decide (0<n.keys.length+n.ah.length))<;>simp_all
 by_cases e5:n.op=5
 ·simp only[e5];cases (n.items.all fun e=>(fe e.l a.l).2==0)<;>cases decide (1≤n.items.length)<;>cases decide (n.items.length≤16)<;>simp
 by_cases e6:n.op=6
 ·simp[e6]
 by_cases e7:n.op=7
 ·rw[hB (.inr e7)];simp only[e7];by_cases hl:a.l.length=b.l.length
  ·have h:=R9 a.l b.l hl ha;unfold adT at h;rw[Pq]at h;have hb:b.l.length≤16:=by omega
   cases hq:(a.l.foldl (Kd b.l) (0,[],true)).2.2<;>rw[hq]at h<;>simp[hl,hb]at h<;>simp[hl,hq,←h]
  simp[hl]
 have e8:n.op=8:=by omega
 simp only[e8];by_cases hN:ks.length+1=N
 ·cases vw n a.l<;>simp[hN]
 cases vw n a.l<;>simp[hN]
end Go.AM
namespace Go.AM
set_option maxHeartbeats 8000000
set_option maxRecDepth 8000
theorem ZV{α:Type}(l:List α):(l.length==0)=l.isEmpty:=by cases l<;>rfl
theorem alZ{α β:Type}(l:List α)(m:List β):(((l.length:Int)+m.length)==0)=(l.isEmpty&&m.isEmpty):=by
 cases l<;>cases m<;>simp<;>omega
theorem MI{n:bB}(h1:1≤n.op)(h8:n.op≤8):sN n=uz n:=by
 unfold sN uz;rw[ZV,ZV,ZV,ZV,alZ];have e9:(n.op==9)=false:=by simp;omega
 have e10:(n.op==10)=false:=by simp;omega
 have e11:(n.op==11)=false:=by simp;omega
 rw[e9,e10,e11];cases (n.op==1)<;>cases (n.op==2)<;>cases (n.op==3)<;>cases n.left<;>simp[eK]
structure Pr (ns:List bB) (k:Nat) (s:List (jp Int)×List Nat):Prop where
 kl:s.1.length=k
 fl:s.2.length=k
 at':∀i,i<k→∃r,s.1[i]?=some r∧kd ns (i+1)=some r.l∧s.2[i]?=some (i+1-cI ns (i+1))∧cI ns (i+1)≠0
theorem Wn{t:Int}(h1:1≤t)(h8:t≤8):eD t=oC t:=by
 unfold eD oC
 repeat' split
 all_goals omega
theorem WE{t:Int}(h:¬(1≤t∧t≤8)):eD t=-1:=by
 unfold eD
 repeat' split
 all_goals omega
theorem YX{ns:List bB}{k:Nat}{n:bB}(hn:ns[k]?=some n)(h:¬(1≤n.op∧n.op≤8)):cI ns (k+1)=0:=by
 rw[cI,hn];simp only[WE h];rfl
theorem OW{ns:List bB}{k:Nat}{n:bB}(hn:ns[k]?=some n){s:List (jp Int)×List Nat}(hI:Pr ns k s)(h1:1≤n.op)(h8:n.op≤8) :
  ((gT n k s.2).2=true→cI ns (k+1)≠0∧(gT n k s.2).1.toNat=k+1-cI ns (k+1))∧((gT n k s.2).2=false→cI ns (k+1)=0):=by
 have hp:=Wn h1 h8;have hz:cI ns (k+1)=if eD n.op=0 then (if n.l=-1∧n.r=-1 then 1 else 0)
   else if eD n.op=1 then (if n.l=(k:Int)-1∧n.r=-1∧cI ns k≠0 then cI ns k+1 else 0)
   else if eD n.op=2 then
    if cI ns k=0∨n.r≠(k:Int)-1∨n.l≠(k:Int)-1-cI ns k then 0
    else if cI ns (k-cI ns k)=0 then 0 else cI ns (k-cI ns k)+cI ns k+1
   else 0:=by rw[cI,hn]
 have hle:=rX ns k;unfold gT;rw[←hp];rcases vb n.op with h|h|h<;>rw[←hp]at h
 ·rw[if_pos h];rw[if_pos h]at hz;rw[hz];constructor
  ·intro hb;simp only[am,aG]at hb;rw[if_pos hb];simp
  intro hb;rw[if_neg];intro hc;simp[hc.1,hc.2]at hb
 ·rw[if_neg (by omega),if_pos h];rw[if_neg (by omega),if_pos h]at hz;rw[hz];by_cases hk:k=0
  ·subst hk;have h0:cI ns 0=0:=by simp[cI]
   rw[if_pos (by omega),if_neg (by omega)];simp
  obtain⟨r,_,_,i3,i4⟩:=hI.at' (k-1) (by omega);rw[show k-1+1=k by omega]at i3 i4;have hfs:s.2.getD (k-1) 0=k-cI ns k:=by rw[aE,i3];rfl
  rw[hfs];by_cases c:n.l=(k:Int)-1∧n.r=-1
  ·rw[if_neg (by omega),if_pos ⟨c.1,c.2,i4⟩];simp<;>omega
  rw[if_pos (by omega),if_neg (by omega)];simp
 rw[if_neg (by omega),if_neg (by omega)];rw[if_neg (by omega),if_neg (by omega),if_pos h]at hz;rw[hz];by_cases hk:k=0
 ·subst hk;have h0:cI ns 0=0:=by simp[cI]
  rw[if_pos (by omega),if_pos (by omega)];simp
 obtain⟨r,_,_,i3,i4⟩:=hI.at' (k-1) (by omega);rw[show k-1+1=k by omega]at i3 i4;have hfs:s.2.getD (k-1) 0=k-cI ns k:=by rw[aE,i3];rfl
 rw[hfs];by_cases c:n.r=(k:Int)-1∧n.l=(k:Int)-1-cI ns k
 ·by_cases hq:k-cI ns k=0
  ·have h0:cI ns 0=0:=by simp[cI]
   rw[hq,h0,if_pos (by omega),if_neg (by omega),if_pos rfl];simp
  obtain⟨r2,_,_,j3,j4⟩:=hI.at' (k-cI ns k-1) (by omega);rw[show k-cI ns k-1+1=k-cI ns k by omega]at j3 j4;have hle2:=rX ns (k-cI ns k);have hll:n.l.toNat=k-cI ns k-1:=by omega
  have hf2:s.2.getD n.l.toNat 0=k-cI ns k-cI ns (k-cI ns k):=by rw[hll,aE,j3];rfl
  rw[hf2,if_neg (by omega),if_neg (by omega),if_neg j4];simp;omega
 rw[if_pos (by omega),if_pos (by omega)];simp
end Go.AM
namespace Go.AM
set_option maxHeartbeats 8000000
set_option maxRecDepth 8000
theorem Om{ns:List bB}{k:Nat}{n:bB}(hn:ns[k]?=some n){s:List (jp Int)×List Nat}(hI:Pr ns k s) :
  match Ls ns.length n s.1 s.2 with
  |some r=>Pr ns (k+1) (s.1++[r.1],s.2++[r.2])
  |none=>kd ns (k+1)=none:=by
 have hkd:kd ns (k+1)=if cI ns (k+1)=0∨sN n=false then none else
   (if eD n.op=0 then zh n [] [] else if eD n.op=1 then (kd ns k).bind fun a=>zh n a []
    else (kd ns (k-cI ns k)).bind fun a=>(kd ns k).bind fun b=>zh n a b).bind fun r=>if (n.op=8∧k+1≠ns.length)∨16<r.length then none else some r:=by rw[kd,hn]
 have hkl:=hI.kl;unfold Ls;rw[hkl];by_cases ho:1≤n.op∧n.op≤8
 rotate_left
 ·have:(decide (1≤n.op)&&decide (n.op≤8)&&uz n&&(gT n k s.2).2)=false:=by
   rw[gC,gC];exact .inl (.inl (by simp;omega))
  rw[if_pos this,hkd,if_pos (.inl (YX hn ho))]
 obtain⟨h1,h8⟩:=ho;obtain⟨b1,b2⟩:=OW hn hI h1 h8;have d1:decide (1≤n.op)=true:=by simpa using h1
 have d8:decide (n.op≤8)=true:=by simpa using h8
 rw[d1,d8,cG,cG,←MI h1 h8];cases hw:sN n with
 |false=>rw[gg,if_pos rfl,hkd,if_pos (.inr hw)]
 |true=>
  cases hb:(gT n k s.2).2 with
  |false=>rw[gK,if_pos rfl,hkd,if_pos (.inl (b2 hb))]
  |true=>
   obtain⟨c1,c2⟩:=b1 hb;rw[fv,if_neg (by simp),c2];rw[if_neg (by simp[c1,hw])]at hkd;have fin:∀(o:Option (List Int)),(oH ns.length s.1 n).map (·.l)=(if n.op=8∧k+1≠ns.length then none else o)→(kd ns (k+1)=o.bind fun r=>if (n.op=8∧k+1≠ns.length)∨16<r.length then none else some r) →
     match (match oH ns.length s.1 n with
      |none=>(none:Option (jp Int×Nat))
      |some r=>if 16<r.l.length then none else some (r,k+1-cI ns (k+1))) with
     |some r=>Pr ns (k+1) (s.1++[r.1],s.2++[r.2])
     |none=>kd ns (k+1)=none:=fun o e1 e2=>by
    cases ha:oH ns.length s.1 n with
    |none=>
     rw[ha]at e1;simp only[Option.map_none]at e1 ⊢;rw[e2];by_cases c:n.op=8∧k+1≠ns.length
     ·cases o<;>simp[c]
     rw[if_neg c]at e1;rw[←e1];rfl
    |some r=>
     rw[ha]at e1;simp only[cL]at e1 ⊢;by_cases c:n.op=8∧k+1≠ns.length
     ·rw[if_pos c]at e1;cases e1
     rw[if_neg c]at e1;subst e1;by_cases c16:16<r.l.length
     ·rw[if_pos c16];simp only;rw[e2];simp[c16]
     rw[if_neg c16];have e3:kd ns (k+1)=some r.l:=by rw[e2];simp[c,c16]
     refine⟨by simp[hI.kl],by simp[hI.fl],fun i hi=>?_⟩;by_cases hik:i<k
     ·obtain⟨q,q1,q2,q3,q4⟩:=hI.at' i hik;exact⟨q,by rw[bu (by rw[hI.kl];exact hik)];exact q1,q2,by rw[bu (by rw[hI.fl];exact hik)];exact q3,q4⟩
     have:i=k:=by omega
     subst this;exact⟨r,by rw[bY (by rw[hI.kl];omega),hI.kl];simp,e3,by rw[bY (by rw[hI.fl];omega),hI.fl];simp,c1⟩
   rcases sQ hn c1 with⟨p0,l0,r0⟩|⟨p1,l1,r1,z1⟩|⟨p2,r2,l2,z1,z2⟩
   ·have e1:n.op=1:=by unfold eD at p0;repeat' split at p0<;>omega
    rw[if_pos p0]at hkd;refine fin _ ?_ hkd;rw[JC (a:=⟨false,[]⟩) (b:=⟨false,[]⟩) h1 h8 (fun h=>absurd e1 h) (fun h=>by omega) (by simp),hkl]
   ·rw[if_neg (by omega),if_pos p1]at hkd;have hk0:k≠0:=fun e=>by subst e;simp[cI]at z1
    obtain⟨a,i1,i2,_⟩:=hI.at' (k-1) (by omega);rw[show k-1+1=k by omega]at i2;rw[i2]at hkd;refine fin _ ?_ hkd;have e2:¬(n.op=2∨n.op=7):=by unfold eD at p1;repeat' split at p1<;>omega
    rw[JC (a:=a) (b:=⟨false,[]⟩) h1 h8 (fun _=>by rw[show n.l.toNat=k-1 by omega];exact i1) (fun h=>absurd h e2) (wd i2),hkl];rfl
   rw[if_neg (by omega),if_neg (by omega)]at hkd;have hle:=rX ns k;have hk0:k≠0:=fun e=>by subst e;simp[cI]at z1
   have hq0:k-cI ns k≠0:=fun e=>by rw[e]at z2;simp[cI]at z2
   obtain⟨b,j1,j2,_⟩:=hI.at' (k-1) (by omega);rw[show k-1+1=k by omega]at j2;obtain⟨a,i1,i2,_⟩:=hI.at' (k-cI ns k-1) (by omega);rw[show k-cI ns k-1+1=k-cI ns k by omega]at i2;rw[i2,j2]at hkd;refine fin _ ?_ hkd;rw[JC (a:=a) (b:=b) h1 h8 (fun _=>by rw[show n.l.toNat=k-cI ns k-1 by omega];exact i1) (fun _=>by rw[show n.r.toNat=k-1 by omega];exact j1) (wd i2),hkl];rfl
end Go.AM
namespace Go.AM
set_option maxHeartbeats 8000000
set_option maxRecDepth 8000
theorem HD(ns:List bB):∀(m:List bB) (k:Nat) (s:List (jp Int)×List Nat),ns.drop k=m→k≤ns.length→Pr ns k s→match dm (tZ ns.length) m k s with
  |.inl s'=>Pr ns ns.length s'
  |.inr _=>∃i,i<ns.length∧kd ns (i+1)=none
 |[],k,s,hd,hk,hI=>by
  have:k=ns.length:=by
   have:=congrArg List.length hd;simp at this;omega
  subst this;exact hI
 |y::m,k,s,hd,hk,hI=>by
  have aj:k<ns.length:=by
   have:=congrArg List.length hd;simp at this;omega
  have hy:ns[k]?=some y:=by
   have:(ns.drop k)[0]?=some y:=by rw[hd];rfl
   simpa using this
  have hd':ns.drop (k+1)=m:=by
   rw[←List.drop_drop,hd];rfl
  have h:=Om hy hI;rw[dm];unfold tZ;cases hs:Ls ns.length y s.1 s.2 with
  |none=>
   rw[hs]at h;exact⟨k,aj,h⟩
  |some r=>
   rw[hs]at h;exact HD ns m (k+1) _ hd' (by omega) h
theorem mV(ns:List bB):(kj ns).isSome=ko ns∧∀s,kj ns=some s→Pr ns ns.length s:=by
 unfold kj ko;by_cases h:ns.length<1∨60<ns.length
 ·rw[if_pos h];refine⟨?_,fun s h=>by cases h⟩;rcases h with h|h
  ·simp;omega
  have:decide (ns.length≤60)=false:=by simpa using h
  rw[this];simp
 rw[if_neg h];have d1:decide (1≤ns.length)=true:=by simp;omega
 have d2:decide (ns.length≤60)=true:=by simp;omega
 rw[d1,d2,cG,cG];have hf:=HD ns ns 0 ([],[]) rfl (by omega) ⟨rfl,rfl,fun i hi=>by omega⟩;revert hf;cases dm (tZ ns.length) ns 0 ([],[]) with
 |inr r=>
  intro⟨i,hi,hk⟩;refine⟨?_,fun s h=>by cases h⟩;have:((List.range ns.length).all fun i=>(kd ns (i+1)).isSome)=false:=by
   rw[iY];intro h;have:=aI.1 h i (by simp;exact hi);rw[hk]at this;cases this
  rw[this];rfl
 |inl s=>
  intro hI;have hall:((List.range ns.length).all fun i=>(kd ns (i+1)).isSome)=true:=aI.2 fun i hi=>by
   obtain⟨r,_,h2,_⟩:=hI.at' i (by simpa using hi);rw[h2];rfl
  obtain⟨r,_,_,i3,i4⟩:=hI.at' (ns.length-1) (by omega);rw[show ns.length-1+1=ns.length by omega]at i3 i4;have hfs:s.2.getD (ns.length-1) 0=ns.length-cI ns ns.length:=by rw[aE,i3];rfl
  have hle:=rX ns ns.length;rw[hall,cG];simp only;rw[hfs];by_cases c:cI ns ns.length=ns.length
  ·rw[if_pos (by omega)];refine⟨by simp[c],fun s' h=>by cases h;exact hI⟩
  rw[if_neg (by omega)];refine⟨by simp[c],fun s' h=>by cases h⟩
end Go.AM
namespace Go.AM
open P
set_option maxHeartbeats 64000000
set_option maxRecDepth 40000
attribute [local simp] aF br
theorem vF{α:Type}{enc:α→ap}[Nc enc 2 true][Fx enc](b:Bool)(l:List α)(hn:l.length≤aV):bI I.qhg [.aa b (l.map enc)]=some (.frs 2 (l.map enc)):=by
 cases l with
 |nil=>cases b<;>exact gM (n:=20) (σ:=[]) (by kernel_rfl)
 |cons v r=>
  have hall:=Ej (f:=enc) (v::r);have hl:((v::r).map enc).length=r.length+1:=by simp
  have hne:ip [] (.aa b ((v::r).map enc))=false:=rfl;unfold bI;rw[iV gz abS,hne];simp only[aH,bQ];unfold kw;have hn':r.length+1≤aV:=by simpa using hn
  have hnil:sj false [] (.aa b ((v::r).map enc))=some (.bool false):=rfl;have hf:=kR (f:=enc) (v::r) 0 0 [.arr 2 0 ((v::r).map enc)] rfl;have hx:(v::r).map enc≠[]:=by simp
  have hy:∀x,x∈(v::r).map enc→aC x=2:=fun x hx=>by simpa using aI.1 hall x hx
  have ht:((v::r).map enc).take (r.length+1)=(v::r).map enc:=ay (by simp);simp only[cn]at hf;generalize (v::r).map enc=xs at *;simp[apm,abR,enter,oM,append,hall,hl,hn',-sj,hnil,hx];rw[if_pos hy];simp[oM];exact hf
@[simp] theorem ug{α:Type}{enc:α→ap}[Nc enc 2 true][Fx enc](b:Bool)(l:List α)(hn:l.length≤aV)(σ:aw):db code I.qhg [.aa b (l.map enc)] σ=some (.frs 2 (l.map enc),σ):=by
 rw[rj abS rfl,vF b l hn];rfl
theorem sv{α:Type}{enc:α→ap}[Nc enc 8 true][Fx enc](b:Bool)(l:List α)(hn:l.length≤aV):bI I.qhe [.aa b (l.map enc)]=some (.frs 8 (l.map enc)):=by
 cases l with
 |nil=>cases b<;>exact gM (n:=20) (σ:=[]) (by kernel_rfl)
 |cons v r=>
  have hall:=Ej (f:=enc) (v::r);have hl:((v::r).map enc).length=r.length+1:=by simp
  have hne:ip [] (.aa b ((v::r).map enc))=false:=rfl;unfold bI;rw[iV gz aau,hne];simp only[aH,bQ];unfold kw;have hn':r.length+1≤aV:=by simpa using hn
  have hnil:sj false [] (.aa b ((v::r).map enc))=some (.bool false):=rfl;have hf:=kR (f:=enc) (v::r) 0 0 [.arr 8 0 ((v::r).map enc)] rfl;have hx:(v::r).map enc≠[]:=by simp
  have hy:∀x,x∈(v::r).map enc→aC x=8:=fun x hx=>by simpa using aI.1 hall x hx
  have ht:((v::r).map enc).take (r.length+1)=(v::r).map enc:=ay (by simp);simp only[cn]at hf;generalize (v::r).map enc=xs at *;simp[apU,aam,enter,oM,append,hall,hl,hn',-sj,hnil,hx];rw[if_pos hy];simp[oM];exact hf
@[simp] theorem ir{α:Type}{enc:α→ap}[Nc enc 8 true][Fx enc](b:Bool)(l:List α)(hn:l.length≤aV)(σ:aw):db code I.qhe [.aa b (l.map enc)] σ=some (.frs 8 (l.map enc),σ):=by
 rw[rj aau rfl,sv b l hn];rfl
theorem vI{α:Type}{enc:α→ap}[Nc enc 2 true][Fx enc](b:Bool)(l:List α)(hn:l.length≤aV):bI I.qhd [.aa b (l.map enc)]=some (.frs 2 (l.map enc)):=by
 cases l with
 |nil=>cases b<;>exact gM (n:=20) (σ:=[]) (by kernel_rfl)
 |cons v r=>
  have hall:=Ej (f:=enc) (v::r);have hl:((v::r).map enc).length=r.length+1:=by simp
  have hne:ip [] (.aa b ((v::r).map enc))=false:=rfl;unfold bI;rw[iV gz aaY,hne];simp only[aH,bQ];unfold kw;have hn':r.length+1≤aV:=by simpa using hn
  have hnil:sj false [] (.aa b ((v::r).map enc))=some (.bool false):=rfl;have hf:=kR (f:=enc) (v::r) 0 0 [.arr 2 0 ((v::r).map enc)] rfl;have hx:(v::r).map enc≠[]:=by simp
  have hy:∀x,x∈(v::r).map enc→aC x=2:=fun x hx=>by simpa using aI.1 hall x hx
  have ht:((v::r).map enc).take (r.length+1)=(v::r).map enc:=ay (by simp);simp only[cn]at hf;generalize (v::r).map enc=xs at *;simp[ao3,abu,enter,oM,append,hall,hl,hn',-sj,hnil,hx];rw[if_pos hy];simp[oM];exact hf
@[simp] theorem uD{α:Type}{enc:α→ap}[Nc enc 2 true][Fx enc](b:Bool)(l:List α)(hn:l.length≤aV)(σ:aw):db code I.qhd [.aa b (l.map enc)] σ=some (.frs 2 (l.map enc),σ):=by
 rw[rj aaY rfl,vI b l hn];rfl
theorem tO{α:Type}{enc:α→ap}[Nc enc 1 true][Fx enc](b:Bool)(l:List α)(hn:l.length≤aV):bI I.qhf [.aa b (l.map enc)]=some (.frs 1 (l.map enc)):=by
 cases l with
 |nil=>cases b<;>exact gM (n:=20) (σ:=[]) (by kernel_rfl)
 |cons v r=>
  have hall:=Ej (f:=enc) (v::r);have hl:((v::r).map enc).length=r.length+1:=by simp
  have hne:ip [] (.aa b ((v::r).map enc))=false:=rfl;unfold bI;rw[iV gz abd,hne];simp only[aH,bQ];unfold kw;have hn':r.length+1≤aV:=by simpa using hn
  have hnil:sj false [] (.aa b ((v::r).map enc))=some (.bool false):=rfl;have hf:=kR (f:=enc) (v::r) 0 0 [.arr 1 0 ((v::r).map enc)] rfl;have hx:(v::r).map enc≠[]:=by simp
  have hy:∀x,x∈(v::r).map enc→aC x=1:=fun x hx=>by simpa using aI.1 hall x hx
  have ht:((v::r).map enc).take (r.length+1)=(v::r).map enc:=ay (by simp);simp only[cn]at hf;generalize (v::r).map enc=xs at *;simp[ap5,abm,enter,oM,append,hall,hl,hn',-sj,hnil,hx];rw[if_pos hy];simp[oM];exact hf
@[simp] theorem tg{α:Type}{enc:α→ap}[Nc enc 1 true][Fx enc](b:Bool)(l:List α)(hn:l.length≤aV)(σ:aw):db code I.qhf [.aa b (l.map enc)] σ=some (.frs 1 (l.map enc),σ):=by
 rw[rj abd rfl,tO b l hn];rfl
end Go.AM
