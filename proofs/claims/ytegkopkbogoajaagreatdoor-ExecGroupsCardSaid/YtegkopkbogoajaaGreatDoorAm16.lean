/- Part of the proof. -/
import Derived.Test.YtegkopkbogoajaaGreatDoorAm15
set_option linter.unusedVariables false
set_option linter.unusedSimpArgs false
namespace Go.AM
open P
set_option maxHeartbeats 8000000
set_option maxRecDepth 8000
abbrev xM:List Nat:=[2,3,6,7,8,9,10,11,12,13,17,18,19,20,21,22,23]
def P3(r:Option (Ex×St)):Prop:=∃s,r=some (.ret,s)∧kr s.env 2=.yz∧kr s.env 3=.bool false
theorem TW{k:Nat}{n:EN}{all opn:List Nat}(h:gX k n all opn=none) :
  (aI n.tag<0∨opn.length<aI n.tag∨cq n=false) ∨
  ((0≤aI n.tag∧aI n.tag≤opn.length∧cq n=true) ∧
   ((aI n.tag=0∧¬(n.l=-1∧n.r=-1))∨(∃(o:List Nat) (p:Nat),aI n.tag=1∧opn=o++[p]∧¬(n.l=(p:Int)∧n.r=-1))∨(∃(o:List Nat) (p q:Nat),aI n.tag=2∧opn=o++[p,q]∧¬(n.l=(p:Int)∧n.r=(q:Int))))):=by
 unfold gX at h;split at h
 ·exact .inl (by assumption)
 rename_i hneg;have hc:cq n=true:=by cases hq:cq n<;>simp_all
 have hk2:=iB n.tag;refine .inr ⟨⟨by omega,by omega,hc⟩,?_⟩;rcases (show aI n.tag=0∨aI n.tag=1∨aI n.tag=2 by omega) with h0|h0|h0
 ·rw[h0]at h;simp at h;exact .inl ⟨h0,fun ⟨a,b⟩=>h a b⟩
 ·rw[h0]at h;have hol1:1≤opn.length:=by omega
  obtain⟨o,p,rfl⟩:∃o p,opn=o++[p]:=⟨opn.dropLast,opn.getLast (by intro e;subst e;simp at hol1),(atI _).symm⟩;simp at h;exact .inr (.inl ⟨o,p,h0,rfl,fun ⟨a,b⟩=>h a b⟩)
 rw[h0]at h;have hol1:2≤opn.length:=by omega
 obtain⟨o',q,rfl⟩:∃o p,opn=o++[p]:=⟨opn.dropLast,opn.getLast (by intro e;subst e;simp at hol1),(atI _).symm⟩;have hol2:1≤o'.length:=by simp at hol1;omega
 obtain⟨o,p,rfl⟩:∃o p,o'=o++[p]:=⟨o'.dropLast,o'.getLast (by intro e;subst e;simp at hol2),(atI _).symm⟩;have hdrop:(o++[p]++[q]).drop ((o++[p]++[q]).length-(2:Int).toNat)=[p,q]:=by simp
 rw[hdrop]at h;simp only at h;split at h
 ·cases h
 rename_i hne;exact .inr (.inr ⟨o,p,q,h0,by simp,hne⟩)
theorem akP{a b c d:Int}(h:¬(c=a∧d=b)):eqa true [0,0] (.agg [ac a,ac b]) (.agg [ac c,ac d])=some (.bool true):=by
 by_cases h1:c=a
 ·have h2:¬b=d:=fun e=>h ⟨h1,e.symm⟩;simp[h1,al h2]
 have h2:¬a=c:=fun e=>h1 e.symm;simp[al h2]
theorem OM{b:Bool}{e:List EN}{k:Nat}{all opn:List Nat}(hk:k<e.length)(hn:e.length≤most)(ha:all.length=k)(ho:∀p∈opn,p<k)(hol:opn.length≤k)
  (h:gX k e[k] all opn=none):P3 (bM 3 xM fE (run code fE (ek b e k all opn))):=by
 have h1:=HZ hk;have hp:=ud e[k].tag;have hc:=Du e[k];have hlt:((k:Int)<(e.length:Int)):=by omega
 rcases TW h with hA|⟨⟨h0,h2,h3⟩,hB⟩
 ·unfold EN.a at h1 hc;by_cases hk0:aI e[k].tag<0
  ·exact⟨_,by simp[ek,fE,h1,hlt,hp,hk0];rfl,rfl,rfl⟩
  by_cases hk1:(opn.length:Int)<aI e[k].tag
  ·exact⟨_,by simp[ek,fE,h1,hlt,hp,hk0,hk1];rfl,rfl,rfl⟩
  have hc1:cq e[k]=false:=hA.elim (fun h=>absurd h hk0) fun h=>h.elim (fun h=>absurd h hk1) id;rw[hc1]at hc;exact⟨_,by simp[ek,fE,h1,hlt,hp,hk0,hk1,hc];rfl,rfl,rfl⟩
 have hk0:¬(aI e[k].tag<0):=by omega
 have hk1:¬((opn.length:Int)<aI e[k].tag):=by omega
 rw[h3]at hc;unfold EN.a at h1 hc;have hw1:IntKind.i64.wrap (opn.length:Int)=opn.length:=by rw[bl (by unfold most at hn;omega)]
 rcases hB with⟨h0,hne⟩|⟨o,p,h0,rfl,hne⟩|⟨o,p,q,h0,rfl,hne⟩
 ·rw[h0]at hp;have hx:=akP hne;have hnn:¬((opn.length:Int)<0):=by omega
  exact⟨_,by simp[ek,fE,h1,hlt,hp,hnn,hc,hw1,bS 5,bS 6,tc,-eqa,hx];rfl,rfl,rfl⟩
 ·rw[h0]at hp;have hx:=akP hne;have hpk:p<k:=ho p (by simp);have hpa:p<all.length:=by omega
  have q1:=oJ hpa;simp at hol;have t3:(cY (o++[p]))[o.length]?=some (ac (p:Int)):=by rw[eH,arD (by simp)];simp
  have hnn:¬((o.length:Int)+1<1):=by omega
  have hw:IntKind.i64.wrap ((o.length:Int)+1-1)=o.length:=by rw[bl (by unfold most at hn;omega)];omega
  have hw2:IntKind.i64.wrap (o.length:Int)=o.length:=by rw[bl (by unfold most at hn;omega)]
  exact⟨_,by simp[ek,fE,h1,hlt,hp,hnn,hc,hw,hw2,ha,t3,q1,hpk,hpa,tf,eH,ar,ap,bS 5,tc,VY,-eqa,hx];rfl,rfl,rfl⟩
 rw[h0]at hp;have hx:=akP hne;have hpk:p<k:=ho p (by simp);have hqk:q<k:=ho q (by simp);have hpa:p<all.length:=by omega
 have hqa:q<all.length:=by omega
 have q1:=oJ hpa;have q2:=oJ hqa;simp at hol;have hN:cY (o++[p,q])=cY o++([ac (p:Int),ac (q:Int)]:List aa):=by simp[eH]
 have t3:(cY o++([ac (p:Int),ac (q:Int)]:List aa))[o.length]?=some (ac (p:Int)):=by rw[arD (by simp)];simp
 have t4:(cY o++([ac (p:Int),ac (q:Int)]:List aa))[o.length+1]?=some (ac (q:Int)):=by rw[arD (by simp)];simp
 have hnn:¬((o.length:Int)+2<2):=by omega
 have hw:IntKind.i64.wrap ((o.length:Int)+2-2)=o.length:=by rw[bl (by unfold most at hn;omega)];omega
 have hw2:IntKind.i64.wrap (o.length:Int)=o.length:=by rw[bl (by unfold most at hn;omega)]
 unfold ek;rw[hN];exact⟨_,by simp[fE,h1,hlt,hp,hnn,hc,hw,hw2,ha,t3,t4,q1,q2,hpk,hpa,hqk,hqa,tf,eH,ar,ap,bS 5,tc,VY,ahC,-eqa,hx];rfl,rfl,rfl⟩
def cG:List EN→Nat→List Nat→List Nat→Option (List Nat×List Nat)
 |[],_,all,opn=>some (all,opn)
 |n::r,i,all,opn=>(gX i n all opn).bind fun q=>cG r (i+1) q.1 q.2
theorem BQ{k:Nat}{n:EN}{all opn all' opn':List Nat}(ha:all.length=k)(ho:∀p∈opn,p<k)(hol:opn.length≤k)(h:gX k n all opn=some (all',opn')) :
  all'.length=k+1∧(∀p∈opn',p<k+1)∧opn'.length≤k+1:=by
 unfold gX at h;split at h
 ·cases h
 split at h
 ·split at h
  ·cases h
   exact⟨by simp[ha],fun p hp=>by
    rcases aoS.1 hp with hp|hp
    ·have:=ho p hp;omega
    simp at hp;omega,by simp;omega⟩
  cases h
 ·split at h
  ·cases h
   exact⟨by simp[ha],fun p hp=>by
    rcases aoS.1 hp with hp|hp
    ·have:=ho p (akt hp);omega
    simp at hp;omega,by simp;omega⟩
  cases h
 ·split at h
  ·cases h
   exact⟨by simp[ha],fun p hp=>by
    rcases aoS.1 hp with hp|hp
    ·have:=ho p (akt hp);omega
    simp at hp;omega,by simp;omega⟩
  cases h
 cases h
theorem D4{b:Bool}{e:List EN}(hn:e.length≤most):∀(m k:Nat) (all opn:List Nat),k+m=e.length→all.length=k→(∀p∈opn,p<k)→opn.length≤k →
  (match cG (e.drop k) k all opn with
   |none=>P3 (aM code 3 xM fE (ek b e k all opn))
   |some (all',opn')=>all'.length=e.length∧∃x,aM code 3 xM fE (ek b e k all opn) =
     some (.ext 0,⟨[.agg [.wh b (vx e)],.ptr 0 0 0 0,.any,.any,.sl 1 e.length 0 all'.length,.sl 2 e.length 0 opn'.length,.any,.any,.any,.any,.any,.any,.any,.any,.wh b (vx e),ac e.length,ac e.length,x,.any,.any,.any,.any,.any,.any],
      [.arr 1 0 [.agg [.wh b (vx e)]],.arr 1 e.length (cY all'),.arr 1 e.length (cY opn')]⟩))
 |0,k,all,opn,hk,ha,ho,hol=>by
  have hk:k=e.length:=by omega
  subst hk;rw[atZ];simp only[cG];refine⟨ha,.bool false,?_⟩;rw[bS];simp[ek,fE]
 |m+1,k,all,opn,hk,ha,ho,hol=>by
  have hk':k<e.length:=by omega
  rw[atG hk'];simp only[cG];cases hs:gX k e[k] all opn with
  |none=>
   simp only[auT];rw[bS];exact OM hk' hn ha ho hol hs
  |some q=>
   obtain⟨all',opn'⟩:=q;simp only[al7];obtain⟨i1,i2,i3⟩:=BQ ha ho hol hs;have ih:=D4 (b:=b) hn m (k+1) all' opn' (by omega) i1 i2 i3;have hst:=QW (b:=b) hk' hn ha ho hol hs;rw[bS 3 xM fE (ek b e k all opn),hst];exact ih
theorem JA(l:List Nat)(fl top:Bool)(base:Nat)(σ:ah)(n:Nat):∀a,a∈cY l→aw (fz fl top base σ (n+1) a)=aw a:=fun a ha=>by
 obtain⟨k,_,rfl⟩:=afJ.1 ha;simp
def si(e:List EN):Bool:=match cG e 0 [] [] with
 |none=>false
 |some (all,opn)=>opn.length==1&&decide (all.length≤1000)
theorem P5(b:Bool)(e:List EN)(hn:e.length≤most):∃x,az I.qex [nV b e]=some (.tup [x,.bool (si e)])∧(si e=true→∃all,cG e 0 [] []=some all∧x=.wh false (cY all.1)):=by
 rw[am anV rfl];have h:=D4 (b:=b) hn e.length 0 [] [] (by omega) rfl (by simp) (by simp);rw[auu]at h;unfold si nV;cases hf:cG e 0 [] [] with
 |none=>
  rw[hf]at h;obtain⟨s,h1,h2,h3⟩:=h;refine⟨.wh false [],?_,fun h=>by cases h⟩;unfold ek at h1;simp at h1;have h2':s.env[2]?.getD .any=.yz:=h2;have h3':s.env[3]?.getD .any=.bool false:=h3;simp[azd,W2,h1,h2',h3']
 |some q=>
  rw[hf]at h;obtain⟨all,opn⟩:=q;obtain⟨hl,x,h1⟩:=h;refine⟨.wh false (cY all),?_,fun _=>⟨_,rfl,rfl⟩⟩;unfold ek at h1;simp at h1;have t1:(cY all).take all.length=cY all:=aea (by simp);have f1:=ni all;by_cases ho:opn.length=1
  ·simp[azd,W2,h1,ho,t1,f1];exact⟨JA all _ _ _ _ _,by omega⟩
  have ho':¬((opn.length:Int)=1):=by omega
  simp[azd,W2,h1,ho,al ho',t1,f1];exact JA all _ _ _ _ _
theorem qV(b:Bool)(e:List EN)(hn:e.length≤most):az I.qem [nV b e]=some (ac (if si e then 0 else 200)):=by
 rw[am aqn rfl];obtain⟨x,h,_⟩:=P5 b e hn;have hx:∀b',b'=b∨b'=true→True:=fun _ _=>trivial;unfold nV at *;cases ho:si e<;>rw[ho]at h<;>simp[aAp,ajE,h]
end Go.AM
namespace Go.AM
open P
set_option maxHeartbeats 64000000
set_option maxRecDepth 40000
attribute [local simp] aB aP
def IZ(x:Int):List Int→List Int
 |[]=>[x]
 |y::r=>if x≤y then x::y::r else y::IZ x r
def mP:List Int→List Int
 |[]=>[]
 |x::r=>IZ x (mP r)
theorem Pk(x z:Int):∀l:List Int,z∈IZ x l↔z=x∨z∈l
 |[]=>by simp[IZ]
 |y::r=>by
  unfold IZ;split
  ·simp
  simp[Pk x z r];constructor<;>rintro (h|h|h)<;>simp[h]
theorem Cz(z:Int):∀l:List Int,z∈mP l↔z∈l
 |[]=>by simp[mP]
 |x::r=>by simp[mP,Pk,Cz z r]
theorem QB(x:Int):∀l:List Int,(IZ x l).length=l.length+1
 |[]=>rfl
 |y::r=>by
  unfold IZ;split<;>simp[QB x r]
theorem xH:∀l:List Int,(mP l).length=l.length
 |[]=>rfl
 |x::r=>by simp[mP,QB,xH r]
theorem WM(x:Int):∀l:List Int,er mT (ac x) (l.map (.int .i64))=(IZ x l).map (.int .i64)
 |[]=>rfl
 |y::r=>by
  by_cases h:x≤y
  ·simp[er,IZ,mT,h]
  simp[er,IZ,mT,h,WM x r]
theorem PF:∀l:List Int,dt mT (l.map (.int .i64))=(mP l).map (.int .i64)
 |[]=>rfl
 |x::r=>by simp only[af6,dt,PF r,WM];rfl
theorem JD:∀l:List Int,Oz (l.map (.int .i64))=some l
 |[]=>rfl
 |x::r=>by simp[Oz,JD r]
theorem Yy{σ:ah}{id ep:Nat}{l:List Int}(hσ:σ[id]?=some (.arr 1 ep (bd l)))(hn:l.length≤most) :
  bK code I.slices_Sort_int_int [.sl id ep 0 l.length] σ=some (.any,σ.set id (.arr 1 ep (bd (mP l)))):=by
 refine pk good (k:=2) (n:=0) uJ ?_;have hp:code.prims=prims:=rfl;rw[hp];have h1:((bd l).drop 0).take l.length=bd l:=by simp
 have h2:(bd l).drop l.length=[]:=by simp
 simp only[prims,vN,hσ,h1,h2,apx,JD,PF];rw[if_pos (by simp[hn])];simp
def oc(e:List EN):List Int:=e.flatMap fun n=>if n.tag=2 then [n.col] else []
theorem QI(e:List EN):(oc e).length≤e.length:=by
 induction e with
 |nil=>exact aes _
 |cons n e ih=>
  unfold oc at *;simp only[atE,aog,aiG];split<;>simp only[aiG,ak3]<;>omega
def fu(e:List EN):List Int:=cj (mP (oc e))
theorem KC(b:Bool)(e:List EN)(hn:e.length≤most)(ho:si e=true):az I.qen [.agg [.wh b (e.map EN.a)]]=some (.wh false (bd (fu e))):=by
 rw[am anA rfl];have hc:=fun b=>qV b e hn;rw[ho]at hc;simp only[nV,vx]at hc;have hm:(oc e).length≤most:=als (QI e) hn;obtain⟨ep,hl⟩:=G0 (base:=2) (clr:=[4,9,10]) (b:=zY) e
  (fun k ep (acc:List Int)=>⟨[.agg [.wh b (e.map EN.a)],.ptr 0 0 0 0,.yz,.sl 1 ep 0 acc.length,.any,.bool false,.wh b (e.map EN.a),ac e.length,ac k,.any,.any],[.arr 1 0 [.agg [.wh b (e.map EN.a)]],.arr 1 ep (bd acc)]⟩)
  (fun n=>if n.tag=2 then [n.col] else [])
  (fun ep acc=>(.ext 0,⟨[.agg [.wh b (e.map EN.a)],.ptr 0 0 0 0,.yz,.sl 1 ep 0 acc.length,.any,.bool false,.wh b (e.map EN.a),ac e.length,ac e.length,.bool false,.any],[.arr 1 0 [.agg [.wh b (e.map EN.a)]],.arr 1 ep (bd acc)]⟩)) 1
  (fun n _=>by split<;>simp)
  (fun k n ep acc hk hy ha=>by
   have yB:((k:Int)<(e.length:Int)):=by omega
   have h5:acc.length+1≤most:=by omega
   by_cases ht:n.tag=2
   ·exact⟨ep+1,by simp[zY,yB,hy,EN.a,ht,append,h5,aA hk hn,ar,ap]⟩
   exact⟨ep,by simp[zY,yB,hy,EN.a,ht,al ht,aA hk hn,ar,ap]⟩)
  (fun ep acc _=>by simp[zY]) 0
 have hs:=fun σ':Obj=>Yy (σ:=[σ',.arr 1 ep (bd (oc e))]) (id:=1) (ep:=ep) rfl hm;obtain⟨A,h1,h2,h3⟩:=Mw (σ:=[.arr 1 0 [.agg [.wh b (e.map EN.a)]],.arr 1 ep (bd (mP (oc e)))]) (id:=1) (ep:=ep) (l:=mP (oc e)) rfl (by rw[xH];exact hm);simp only[bd,ajo,ak3,show ((0:Nat):Int)=0 from rfl]at hl;rw[xH]at h1;unfold fu;have hcl:=uP (mP (oc e));have hfl:(e.flatMap fun n=>if n.tag=2 then [n.col] else [])=oc e:=rfl;rw[hfl]at hl;have hA:(bd A).take (cj (mP (oc e))).length=bd (cj (mP (oc e))):=by
  unfold bd;rw[←List.map_take,h3]
 generalize cj (mP (oc e))=c at *;generalize mP (oc e)=s at *;generalize oc e=cs at *;have hle:c.length≤A.length:=by omega
 simp[aAF,aiT,hc,hl,hs,h1,hA,hle]
theorem um{f:Nat}{g:aD}(h:code.fns f=.nilfn g)(hm:g.mode.isPure=true){x:aa}{σ:ah}{xs:List aa}(hx:dW σ x=.wh true xs)(he:eZ σ x=xs.isEmpty) :
  bK code f [x] σ=(az f [.wh true xs]).map (·,σ):=by
 have e2:∀b,eZ [] (.wh b xs)=xs.isEmpty:=fun b=>by cases xs<;>simp[eZ,rd]
 have h1:=xh h hm true xs σ;rw[←h1,gm good h,gm good h,he];have e3:eZ σ (.wh true xs)=xs.isEmpty:=by cases xs<;>simp[eZ,rd]
 rw[e3];have e4:dW σ (.wh true xs)=.wh true xs:=by simp
 cases xs.isEmpty with
 |true=>rfl
 |false=>
  simp only[ai1,ali];rw[qI hm [x] σ,qI hm [.wh true xs] σ];simp only[af6,ajo,hx,e4]
def fI{β:Type}(cd:EN→List β→β×Int)(_:Nat)(n:EN)(st:List β):List β⊕Int:=
 if (cd n (st.drop (st.length-(aI n.tag).toNat))).2=0 then .inl (st.take (st.length-(aI n.tag).toNat)++[(cd n (st.drop (st.length-(aI n.tag).toNat))).1])
 else .inr (cd n (st.drop (st.length-(aI n.tag).toNat))).2
def jg{β:Type}(z:β)(cd:EN→List β→β×Int)(e:List EN):β×Int:=
 match aV (fI cd) e 0 [] with
 |.inl st=>(st.headD z,0)
 |.inr no=>(z,no)
theorem lf:∀(l:List EN) (n:EN) (i:Nat) (a o:List Nat),cG (l++[n]) i a o=(cG l i a o).bind fun q=>gX (i+l.length) n q.1 q.2
 |[],n,i,a,o=>by simp[cG];cases gX i n a o<;>rfl
 |m::l,n,i,a,o=>by
  simp only[an7,cG,aiG];cases gX i m a o with
  |none=>rfl
  |some q=>
   simp only[al7];rw[lf l n (i+1) q.1 q.2];simp only[arJ,auf 1]
theorem Ru{e:List EN}(ho:si e=true){k:Nat}(hk:k≤e.length):∃a o,cG (e.take k) 0 [] []=some (a,o):=by
 cases h:cG (e.take k) 0 [] [] with
 |some q=>exact⟨q.1,q.2,rfl⟩
 |none=>
  have key:∀m,k≤m→m≤e.length→cG (e.take m) 0 [] []=none:=by
   intro m hm;induction hm with
   |refl=>intro _;exact h
   |@step m hm ih=>
    intro hl;rw[am3 (by omega),lf,ih (by omega)];rfl
  have:=key e.length hk (aes _);rw[atd]at this;unfold si at ho;rw[this]at ho;cases ho
theorem jX{e:List EN}(ho:si e=true){k:Nat}{n:EN}(hn:e[k]?=some n){a o:List Nat}(h:cG (e.take k) 0 [] []=some (a,o)) :
  ∃a' o',cG (e.take (k+1)) 0 [] []=some (a',o')∧gX k n a o=some (a',o')∧0≤aI n.tag∧aI n.tag≤o.length∧cq n=true∧o'.length=o.length-(aI n.tag).toNat+1:=by
 obtain⟨hk,he⟩:=aaN.1 hn;obtain⟨a',o',h'⟩:=Ru ho (k:=k+1) (by omega);have hs:=h';rw[am3 hk,lf,h,he]at hs;simp only[al7,al4,atw (Nat.le_of_lt hk),apx]at hs;refine⟨a',o',h',hs,?_⟩;unfold gX at hs;split at hs
 ·cases hs
 rename_i hc;have h1:0≤aI n.tag∧aI n.tag≤o.length∧cq n=true:=by
  refine⟨by omega,by omega,?_⟩;cases hq:cq n
  ·exact absurd (.inr (.inr hq)) hc
  rfl
 refine⟨h1.1,h1.2.1,h1.2.2,?_⟩;have hd:(o.drop (o.length-(aI n.tag).toNat)).length=(aI n.tag).toNat:=by rw[atj];omega
 have:=iB n.tag;rcases hL:o.drop (o.length-(aI n.tag).toNat) with _|⟨p,_|⟨q,_|⟨r,t⟩⟩⟩<;>rw[hL]at hs hd<;>simp only[ak3,aiG]at hs hd<;>(try split at hs)<;>(try cases hs)<;>simp<;>omega
theorem xg{e:List EN}(ho:si e=true){a o:List Nat}(h:cG e 0 [] []=some (a,o)):o.length=1:=by
 unfold si at ho;rw[h]at ho;simp at ho;exact ho.1
theorem aew{f:Int→aa}(hf:f=(aa.int .i64))(st:List Int)(k ep:Nat)(hk:k≤st.length)(hn:st.length≤most)(OA OB:Obj) :
  bK code I.qff [ac k,.ptr 1 0 0 0] [OA,.arr 1 0 [.sl 2 ep 0 st.length],.arr 1 ep (st.map f),OB] =
   some (.sl 4 0 0 k,[OA,.arr 1 0 [.sl 2 ep 0 (st.length-k)],.arr 1 ep (st.map f),OB,.arr 1 0 ((st.drop (st.length-k)).map f)]):=by
 subst hf;rw[bR am8 rfl];have hn':st.length≤68719476736:=hn;have w1:=Ot (n:=(st.length:Int)-(k:Int)) (by omega) (by omega);have w2:((st.length:Int)-(k:Int)).toNat=st.length-k:=by omega
 have w3:(0:Int)≤(st.length:Int)-(k:Int):=by omega
 have w4:st.length-k+k=st.length:=by omega
 have hw4:st.length-(st.length-k)=k:=by omega
 have hd:(st.drop (st.length-k)).length=k:=by rw[atj];omega
 have hcl:=yi (enc:=(aa.int .i64)) true (st.drop (st.length-k)) (by rw[hd];omega);have hx:dW [OA,.arr 1 0 [.sl 2 ep 0 st.length],.arr 1 ep (st.map (aa.int .i64)),OB] (.sl 2 ep (st.length-k) k)=.wh true ((st.drop (st.length-k)).map (aa.int .i64)):=by
  have ht:(st.drop (st.length-k)).take k=st.drop (st.length-k):=aea (by omega);simp[w4,←List.map_drop,ht,←List.map_take]
 have he:eZ [OA,.arr 1 0 [.sl 2 ep 0 st.length],.arr 1 ep (st.map (aa.int .i64)),OB] (.sl 2 ep (st.length-k) k)=((st.drop (st.length-k)).map (aa.int .i64)).isEmpty:=by
  have ht:(st.drop (st.length-k)).take k=st.drop (st.length-k):=aea (by omega);simp only[eZ,rd,sliceAt];simp[w4,←List.map_drop,ht,←List.map_take];cases st.drop (st.length-k)<;>simp
 have hcall:=um aaf rfl hx he;rw[hcl]at hcall;have hle:(st.length:Int)-(k:Int)≤st.length:=by omega
 simp[aBp,ait,w1,w2,w3,hw4,hcall,hd,hk]
def wQ(cd:EN→List Int→Int×Int)(k:Nat)(n:EN)(s:Nat×List Int):Nat×List Int⊕Int:=match fI cd k n s.2 with
 |.inl st=>.inl (s.1+1,st)
 |.inr r=>.inr r
theorem vZ(cd:EN→List Int→Int×Int):∀(l:List EN) (k ep:Nat) (st:List Int),aV (wQ cd) l k (ep,st)=match aV (fI cd) l k st with
  |.inl st'=>.inl (ep+l.length,st')
  |.inr r=>.inr r
 |[],k,ep,st=>rfl
 |n::l,k,ep,st=>by
  simp only[aV,wQ];cases fI cd k n st with
  |inl st'=>
   simp only;rw[vZ cd l (k+1) (ep+1) st'];cases aV (fI cd) l (k+1) st'<;>simp[arJ,auf 1]
  |inr r=>rfl
theorem ZS(b:Bool)(e:List EN)(hn:e.length≤most)(ho:si e=true)(g:aa)(hg:∀fl top base σ,(fl ||top)=true→fz fl top base σ 20 g=g)(cd:EN→List Int→Int×Int)
  (Iv:Int→Prop) (hIv:∀n∈e,∀l:List Int,l.length=(aI n.tag).toNat→cq n=true→(∀y∈l,Iv y)→(cd n l).2=0→Iv (cd n l).1)
  (hdo:∀n∈e,∀l:List Int,l.length=(aI n.tag).toNat→cq n=true→(∀y∈l,Iv y)→∀σ x,dW σ x=.wh true (l.map (aa.int .i64))→du code g [n.a,x] σ=some (.tup [(aa.int .i64) (cd n l).1,ac (cd n l).2],σ)) :
  az I.qfe [.agg [.wh b (e.map EN.a)],g]=some (.tup [(aa.int .i64) (jg 0 cd e).1,ac (jg 0 cd e).2]):=by
 rw[am ann rfl];have hg1:=hg true false 0 [] rfl;have h:=cD (base:=3) (clr:=[9,10,11,15,16]) (b:=Ae) e
  (fun k (s:Nat×List Int)=>⟨[.agg [.wh b (e.map EN.a)],g,.ptr 0 0 0 0,ac 0,ac 0,.ptr 1 0 0 0,ac 0,.fn I.qff [] [.ptr 1 0 0 0],ac 0,.any,.any,.any,.wh b (e.map EN.a),ac e.length,ac k,.any,.any,.any],[.arr 1 0 [.agg [.wh b (e.map EN.a)]],.arr 1 0 [.sl 2 s.1 0 s.2.length],.arr 1 s.1 (s.2.map (aa.int .i64))]⟩)
  (fun k s=>s.2.length≤k∧(∀y∈s.2,Iv y)∧∃a o,cG (e.take k) 0 [] []=some (a,o)∧s.2.length=o.length)
  (wQ cd)
  (fun s=>(.ext 0,⟨[.agg [.wh b (e.map EN.a)],g,.ptr 0 0 0 0,ac 0,ac 0,.ptr 1 0 0 0,ac 0,.fn I.qff [] [.ptr 1 0 0 0],ac 0,.any,.any,.any,.wh b (e.map EN.a),ac e.length,ac e.length,.bool false,.any,.any],[.arr 1 0 [.agg [.wh b (e.map EN.a)]],.arr 1 0 [.sl 2 s.1 0 s.2.length],.arr 1 s.1 (s.2.map (aa.int .i64))]⟩))
  (fun r o=>r≠0∧∃k x9 x10 A τ,o=(.ext 0,⟨[.agg [.wh b (e.map EN.a)],g,.ptr 0 0 0 0,ac 0,ac 0,.ptr 1 0 0 0,ac 0,.fn I.qff [] [.ptr 1 0 0 0],ac r,x9,x10,ac r,.wh b (e.map EN.a),ac e.length,k,.bool true,.bool true,.any],.arr 1 0 [.agg [.wh b (e.map EN.a)]]::A::τ⟩))
  (fun k n s hk hy hi=>by
   obtain⟨ep,st⟩:=s;obtain⟨hle,hiv,a,o,hf,hlo⟩:=hi;simp only at hle hlo;obtain⟨a',o',hf',hs,h1,h2,h3,h4⟩:=jX ho hy hf;have yB:((k:Int)<(e.length:Int)):=by omega
   have hk2:(aI n.tag).toNat≤st.length:=by omega
   have hpc:((aI n.tag).toNat:Int)=aI n.tag:=by omega
   have hd:(st.drop (st.length-(aI n.tag).toNat)).length=(aI n.tag).toNat:=by rw[atj];omega
   have hp:=ud n.tag;have hpop:=fun OA OB=>aew rfl st (aI n.tag).toNat ep hk2 (by omega) OA OB;rw[hpc]at hpop;have hivd:∀y∈st.drop (st.length-(aI n.tag).toNat),Iv y:=fun y hy'=>hiv y (asW hy');have hdo':=hdo n (aeb hy) (st.drop (st.length-(aI n.tag).toNat)) hd h3 hivd;have hIv':=hIv n (aeb hy) (st.drop (st.length-(aI n.tag).toNat)) hd h3 hivd;have hlen:st.length-(aI n.tag).toNat+1≤most:=by omega
   have htl:(st.take (st.length-(aI n.tag).toNat)).length=st.length-(aI n.tag).toNat:=by rw[al4];omega
   have hdo2:=hdo' [.arr 1 0 [.agg [.wh b (e.map EN.a)]],.arr 1 0 [.sl 2 ep 0 (st.length-(aI n.tag).toNat)],.arr 1 ep (st.map (aa.int .i64)),.arr 8 0 [n.a],.arr 1 0 ((st.drop (st.length-(aI n.tag).toNat)).map (aa.int .i64))] (.sl 4 0 0 (aI n.tag).toNat) (by
    have:=aea (Nat.le_of_eq hd);simp[←List.map_drop,hd,←List.map_take,this])
   unfold wQ fI;rcases hr:cd n (st.drop (st.length-(aI n.tag).toNat)) with⟨x,no⟩;rw[hr]at hdo2 hIv';simp only[av2]at hdo2;simp only;have hz:∀x,aw ((aa.int .i64) x)=1∧isAgg ((aa.int .i64) x)=false:=fun x=>⟨rfl,rfl⟩;have hzx:∀fl top base σ n,fz fl top base σ (n+3) ((aa.int .i64) x)=(aa.int .i64) x:=fun fl top base σ n=>Fx.fx fl top base σ n x;have hng:∀fl top base σ n',fz fl top base σ (n'+3) n.a=n.a:=fun fl top base σ n'=>Fx.fx fl top base σ n' n;have hnn:aw n.a=8∧isAgg n.a=true:=⟨rfl,rfl⟩;have htag:(cellsOf n.a)[0]?=some (ac n.tag):=rfl;by_cases h0:no=0
   ·subst h0;refine⟨?_,by simp;omega,fun y hy'=>(aoS.1 hy').elim (fun h=>hiv y (akt h)) (fun h=>by rw[arq.1 h];exact hIv' rfl),a',o',hf',by simp[htl,h4,hlo]⟩;simp[Ae,yB,hy,hp,hpop,hdo2,htag,hz,hzx,hng,hnn,append,hlen,htl,aA hk hn,ar,ap,hg]
   rw[if_neg h0];exact⟨_,by simp[Ae,yB,hy,hp,hpop,hdo2,htag,hz,hzx,hng,hnn,aR h0];and_intros<;>rfl,h0,_,_,_,_,_,rfl⟩)
  (fun s _=>by simp[Ae]) (0,[]) ⟨aes _,by simp,[],[],by simp[cG],rfl⟩
 rw[vZ]at h;unfold jg;cases hf:aV (fI cd) e 0 [] with
 |inl st=>
  rw[hf]at h;obtain⟨⟨_,_,a,o,h1,h2⟩,h3⟩:=h;simp only at h2;rw[atd]at h1;rw[xg ho h1]at h2
  match st,h2 with
  |[x],_=>
   simp at h3;simp[azr,Zz,hg1,h3]
 |inr r=>
  rw[hf]at h;obtain⟨_,h3,h0,k,x9,x10,A,τ,rfl⟩:=h;simp at h3;simp[azr,Zz,hg1,h3,aR h0]
theorem afy{f:aE→aa}(hf:f=aE.a)(st:aJ)(k ep:Nat)(hk:k≤st.length)(hn:st.length≤most)(OA OA1 OA3 OB:Obj) :
  bK code I.qfd [ac k,.ptr 2 0 0 0] [OA,OA1,.arr 1 0 [.sl 4 ep 0 st.length],OA3,.arr 4 ep (st.map f),OB] =
   some (.sl 6 0 0 k,[OA,OA1,.arr 1 0 [.sl 4 ep 0 (st.length-k)],OA3,.arr 4 ep (st.map f),OB,.arr 4 0 ((st.drop (st.length-k)).map f)]):=by
 subst hf;rw[bR aov rfl];have hn':st.length≤68719476736:=hn;have w1:=Ot (n:=(st.length:Int)-(k:Int)) (by omega) (by omega);have w2:((st.length:Int)-(k:Int)).toNat=st.length-k:=by omega
 have w3:(0:Int)≤(st.length:Int)-(k:Int):=by omega
 have w4:st.length-k+k=st.length:=by omega
 have hw4:st.length-(st.length-k)=k:=by omega
 have hd:(st.drop (st.length-k)).length=k:=by rw[atj];omega
 have hcl:=p8 (enc:=aE.a) true (st.drop (st.length-k)) (by rw[hd];omega);have hx:dW [OA,OA1,.arr 1 0 [.sl 4 ep 0 st.length],OA3,.arr 4 ep (st.map aE.a),OB] (.sl 4 ep (st.length-k) k)=.wh true ((st.drop (st.length-k)).map aE.a):=by
  have ht:(st.drop (st.length-k)).take k=st.drop (st.length-k):=aea (by omega);simp[w4,←List.map_drop,ht,←List.map_take]
 have he:eZ [OA,OA1,.arr 1 0 [.sl 4 ep 0 st.length],OA3,.arr 4 ep (st.map aE.a),OB] (.sl 4 ep (st.length-k) k)=((st.drop (st.length-k)).map aE.a).isEmpty:=by
  have ht:(st.drop (st.length-k)).take k=st.drop (st.length-k):=aea (by omega);simp only[eZ,rd,sliceAt];simp[w4,←List.map_drop,ht,←List.map_take];cases st.drop (st.length-k)<;>simp
 have hcall:=um aiV rfl hx he;rw[hcl]at hcall;have hle:(st.length:Int)-(k:Int)≤st.length:=by omega
 simp[aBb,ajw,w1,w2,w3,hw4,hcall,hd,hk]
def wP(cd:EN→aJ→aE×Int)(k:Nat)(n:EN)(s:Nat×aJ):Nat×aJ⊕Int:=match fI cd k n s.2 with
 |.inl st=>.inl (s.1+1,st)
 |.inr r=>.inr r
theorem vC(cd:EN→aJ→aE×Int):∀(l:List EN) (k ep:Nat) (st:aJ),aV (wP cd) l k (ep,st)=match aV (fI cd) l k st with
  |.inl st'=>.inl (ep+l.length,st')
  |.inr r=>.inr r
 |[],k,ep,st=>rfl
 |n::l,k,ep,st=>by
  simp only[aV,wP];cases fI cd k n st with
  |inl st'=>
   simp only;rw[vC cd l (k+1) (ep+1) st'];cases aV (fI cd) l (k+1) st'<;>simp[arJ,auf 1]
  |inr r=>rfl
theorem abG(b:Bool)(e:List EN)(hn:e.length≤most)(ho:si e=true)(g:aa)(hg:∀fl top base σ,(fl ||top)=true→fz fl top base σ 20 g=g)(cd:EN→aJ→aE×Int)
  (Iv:aE→Prop) (hIv:∀n∈e,∀l:aJ,l.length=(aI n.tag).toNat→cq n=true→(∀y∈l,Iv y)→(cd n l).2=0→Iv (cd n l).1)
  (hdo:∀n∈e,∀l:aJ,l.length=(aI n.tag).toNat→cq n=true→(∀y∈l,Iv y)→∀σ x,dW σ x=.wh true (l.map aE.a)→du code g [n.a,x] σ=some (.tup [aE.a (cd n l).1,ac (cd n l).2],σ)) :
  az I.qfc [.agg [.wh b (e.map EN.a)],g]=some (.tup [aE.a (jg aq cd e).1,ac (jg aq cd e).2]):=by
 rw[am apf rfl];have hg1:=hg true false 0 [] rfl;have h:=cD (base:=5) (clr:=[9,10,11,15,16]) (b:=zZ) e
  (fun k (s:Nat×aJ)=>⟨[.agg [.wh b (e.map EN.a)],g,.ptr 0 0 0 0,.ptr 1 0 0 0,ac 0,.ptr 2 0 0 0,.ptr 3 0 0 0,.fn I.qfd [] [.ptr 2 0 0 0],ac 0,.any,.any,.any,.wh b (e.map EN.a),ac e.length,ac k,.any,.any,.any],[.arr 1 0 [.agg [.wh b (e.map EN.a)]],.arr 4 0 [.agg [ac 0,ac 0,.int .u64 0,.str []]],.arr 1 0 [.sl 4 s.1 0 s.2.length],.arr 4 0 [.agg [ac 0,ac 0,.int .u64 0,.str []]],.arr 4 s.1 (s.2.map aE.a)]⟩)
  (fun k s=>s.2.length≤k∧(∀y∈s.2,Iv y)∧∃a o,cG (e.take k) 0 [] []=some (a,o)∧s.2.length=o.length)
  (wP cd)
  (fun s=>(.ext 0,⟨[.agg [.wh b (e.map EN.a)],g,.ptr 0 0 0 0,.ptr 1 0 0 0,ac 0,.ptr 2 0 0 0,.ptr 3 0 0 0,.fn I.qfd [] [.ptr 2 0 0 0],ac 0,.any,.any,.any,.wh b (e.map EN.a),ac e.length,ac e.length,.bool false,.any,.any],[.arr 1 0 [.agg [.wh b (e.map EN.a)]],.arr 4 0 [.agg [ac 0,ac 0,.int .u64 0,.str []]],.arr 1 0 [.sl 4 s.1 0 s.2.length],.arr 4 0 [.agg [ac 0,ac 0,.int .u64 0,.str []]],.arr 4 s.1 (s.2.map aE.a)]⟩))
  (fun r o=>r≠0∧∃k x9 x10 A τ,o=(.ext 0,⟨[.agg [.wh b (e.map EN.a)],g,.ptr 0 0 0 0,.ptr 1 0 0 0,ac 0,.ptr 2 0 0 0,.ptr 3 0 0 0,.fn I.qfd [] [.ptr 2 0 0 0],ac r,x9,x10,ac r,.wh b (e.map EN.a),ac e.length,k,.bool true,.bool true,.any],.arr 1 0 [.agg [.wh b (e.map EN.a)]]::.arr 4 0 [.agg [ac 0,ac 0,.int .u64 0,.str []]]::A::.arr 4 0 [.agg [ac 0,ac 0,.int .u64 0,.str []]]::τ⟩))
  (fun k n s hk hy hi=>by
   obtain⟨ep,st⟩:=s;obtain⟨hle,hiv,a,o,hf,hlo⟩:=hi;simp only at hle hlo;obtain⟨a',o',hf',hs,h1,h2,h3,h4⟩:=jX ho hy hf;have yB:((k:Int)<(e.length:Int)):=by omega
   have hk2:(aI n.tag).toNat≤st.length:=by omega
   have hpc:((aI n.tag).toNat:Int)=aI n.tag:=by omega
   have hd:(st.drop (st.length-(aI n.tag).toNat)).length=(aI n.tag).toNat:=by rw[atj];omega
   have hp:=ud n.tag;have hpop:=fun OA OA1 OA3 OB=>afy rfl st (aI n.tag).toNat ep hk2 (by omega) OA OA1 OA3 OB;rw[hpc]at hpop;have hivd:∀y∈st.drop (st.length-(aI n.tag).toNat),Iv y:=fun y hy'=>hiv y (asW hy');have hdo':=hdo n (aeb hy) (st.drop (st.length-(aI n.tag).toNat)) hd h3 hivd;have hIv':=hIv n (aeb hy) (st.drop (st.length-(aI n.tag).toNat)) hd h3 hivd;have hlen:st.length-(aI n.tag).toNat+1≤most:=by omega
   have htl:(st.take (st.length-(aI n.tag).toNat)).length=st.length-(aI n.tag).toNat:=by rw[al4];omega
   have hdo2:=hdo' [.arr 1 0 [.agg [.wh b (e.map EN.a)]],.arr 4 0 [.agg [ac 0,ac 0,.int .u64 0,.str []]],.arr 1 0 [.sl 4 ep 0 (st.length-(aI n.tag).toNat)],.arr 4 0 [.agg [ac 0,ac 0,.int .u64 0,.str []]],.arr 4 ep (st.map aE.a),.arr 8 0 [n.a],.arr 4 0 ((st.drop (st.length-(aI n.tag).toNat)).map aE.a)] (.sl 6 0 0 (aI n.tag).toNat) (by
    have:=aea (Nat.le_of_eq hd);simp[←List.map_drop,hd,←List.map_take,this])
   unfold wP fI;rcases hr:cd n (st.drop (st.length-(aI n.tag).toNat)) with⟨x,no⟩;rw[hr]at hdo2 hIv';simp only[av2]at hdo2;simp only;have hz:∀x,aw (aE.a x)=4∧isAgg (aE.a x)=true:=fun x=>⟨rfl,rfl⟩;have hzx:∀fl top base σ n,fz fl top base σ (n+3) (aE.a x)=aE.a x:=fun fl top base σ n=>Fx.fx fl top base σ n x;have hng:∀fl top base σ n',fz fl top base σ (n'+3) n.a=n.a:=fun fl top base σ n'=>Fx.fx fl top base σ n' n;have hnn:aw n.a=8∧isAgg n.a=true:=⟨rfl,rfl⟩;have htag:(cellsOf n.a)[0]?=some (ac n.tag):=rfl;by_cases h0:no=0
   ·subst h0;refine⟨?_,by simp;omega,fun y hy'=>(aoS.1 hy').elim (fun h=>hiv y (akt h)) (fun h=>by rw[arq.1 h];exact hIv' rfl),a',o',hf',by simp[htl,h4,hlo]⟩;simp[zZ,yB,hy,hp,hpop,hdo2,htag,aE.a,hz,hzx,hng,hnn,append,hlen,htl,aA hk hn,ar,ap,hg]
   rw[if_neg h0];exact⟨_,by simp[zZ,yB,hy,hp,hpop,hdo2,htag,aE.a,hz,hzx,hng,hnn,aR h0];and_intros<;>rfl,h0,_,_,_,_,_,rfl⟩)
  (fun s _=>by simp[zZ]) (0,[]) ⟨aes _,by simp,[],[],by simp[cG],rfl⟩
 rw[vC]at h;unfold jg;cases hf:aV (fI cd) e 0 [] with
 |inl st=>
  rw[hf]at h;obtain⟨⟨_,_,a,o,h1,h2⟩,h3⟩:=h;simp only at h2;rw[atd]at h1;rw[xg ho h1]at h2
  match st,h2 with
  |[x],_=>
   simp at h3;simp[azC,adu,hg1,h3,aq,aE.a]
 |inr r=>
  rw[hf]at h;obtain⟨_,h3,h0,k,x9,x10,A,τ,rfl⟩:=h;simp at h3;simp[azC,adu,hg1,h3,aR h0,aq,aE.a]
def zm(k:Int):Bool:=decide (k<0) ||decide (3<k)
def dm(e:List EN)(xX:List Int):Int×Int:=
 if si e=false then (0,200) else if xX.any zm then (0,2) else if (fu e).any (fun c=>decide ((xX.length:Int)≤c)) then (0,2) else jg 0 (gq xX) e
theorem oR{e:List EN}{n:EN}(h:n∈e)(ht:n.tag=2):n.col∈fu e:=by
 unfold fu;rw[Af,Cz];exact auS.2 ⟨n,h,by rw[if_pos ht];simp⟩
theorem xD{e:List EN}{c:Int}(h:c∈fu e):∃n∈e,n.tag=2∧n.col=c:=by
 unfold fu at h;rw[Af,Cz]at h;obtain⟨n,hn,hc⟩:=auS.1 h;split at hc
 ·rename_i ht;exact⟨n,hn,ht,(arq.1 hc).symm⟩
 cases hc
theorem ij{n:EN}(h:cq n=true)(ht:n.tag=2):0≤n.col∧n.col<16:=by
 unfold cq at h;rw[if_neg (by omega),if_pos ht]at h;simp at h;exact⟨h.1.2,h.2⟩
theorem Pw(e:List EN):(fu e).length≤e.length:=by
 unfold fu;have h1:=uP (mP (oc e));have h2:=xH (oc e);have h3:=QI e;omega
theorem YO(b:Bool)(e:List EN)(bk:Bool)(xX:List Int)(hn:e.length≤most)(hk:xX.length≤most) :
  az I.qeq [.agg [.wh b (e.map EN.a)],.wh bk (bd xX)]=some (.tup [ac (dm e xX).1,ac (dm e xX).2]):=by
 rw[am ap3 rfl];have hc:=fun b=>qV b e hn;simp only[nV,vx]at hc;unfold dm;cases ho:si e with
 |false=>
  rw[ho]at hc;simp[ayJ,O2,hc]
 |true=>
  rw[ho]at hc;have h1:=fM (base:=2) (clr:=[4,5,7,13,14]) (b:=JU) xX
   (fun k=>⟨[.agg [.wh b (e.map EN.a)],.wh bk (bd xX),.ptr 0 0 0 0,.ptr 1 0 0 0,.any,.any,ac 0,.any,.any,.bool false,.wh bk (bd xX),ac xX.length,ac k,.any,.any,.any,.any,.any,.any,.any],[.arr 1 0 [.agg [.wh b (e.map EN.a)]],.arr 1 0 [.wh bk (bd xX)]]⟩) zm
   (.ext 0,⟨[.agg [.wh b (e.map EN.a)],.wh bk (bd xX),.ptr 0 0 0 0,.ptr 1 0 0 0,.any,.any,ac 0,.any,.any,.bool false,.wh bk (bd xX),ac xX.length,ac xX.length,.bool false,.any,.any,.any,.any,.any,.any],[.arr 1 0 [.agg [.wh b (e.map EN.a)]],.arr 1 0 [.wh bk (bd xX)]]⟩)
   (fun o=>∃s,o=(.ret,s)∧bF .pure [.env 4,.env 5] (some (.ret,s))=some (.tup [ac 0,ac 2]))
   (fun k y hk' hy hp=>by
    have yB:((k:Int)<(xX.length:Int)):=by omega
    unfold zm at hp;simp at hp;have e1:¬(y<0):=by omega
    have e2:¬(3<y):=by omega
    simp[JU,yB,hy,e1,e2,aA hk' hk,aH])
   (fun k y hk' hy hp=>by
    have yB:((k:Int)<(xX.length:Int)):=by omega
    unfold zm at hp;simp at hp;by_cases e1:y<0
    ·exact⟨_,by simp[JU,yB,hy,e1];rfl,_,rfl,by simp⟩
    have e2:3<y:=by omega
    exact⟨_,by simp[JU,yB,hy,e1,e2];rfl,_,rfl,by simp⟩)
   (by simp[JU])
  rcases h1 with⟨ha,h1⟩|⟨ha,o,h1,s,rfl,h2⟩
  ·rw[ha];have hC:=fun b=>KC b e hn ho;have hcl:=Pw e;have h2:=fM (base:=2) (clr:=[4,5,8,18,19]) (b:=Bf) (fu e)
    (fun k=>⟨[.agg [.wh b (e.map EN.a)],.wh bk (bd xX),.ptr 0 0 0 0,.ptr 1 0 0 0,.any,.any,ac 0,.any,.any,.bool false,.wh bk (bd xX),ac xX.length,ac xX.length,.bool false,.any,.wh false (bd (fu e)),ac (fu e).length,ac k,.any,.any],[.arr 1 0 [.agg [.wh b (e.map EN.a)]],.arr 1 0 [.wh bk (bd xX)]]⟩)
    (fun c=>decide ((xX.length:Int)≤c))
    (.ext 2,⟨[.agg [.wh b (e.map EN.a)],.wh bk (bd xX),.ptr 0 0 0 0,.ptr 1 0 0 0,.any,.any,ac 0,.any,.any,.bool false,.wh bk (bd xX),ac xX.length,ac xX.length,.bool false,.any,.wh false (bd (fu e)),ac (fu e).length,ac (fu e).length,.bool false,.any],[.arr 1 0 [.agg [.wh b (e.map EN.a)]],.arr 1 0 [.wh bk (bd xX)]]⟩)
    (fun o=>∃s,o=(.ret,s)∧bF .pure [.env 4,.env 5] (some (.ret,s))=some (.tup [ac 0,ac 2]))
    (fun k y hk' hy hp=>by
     have yB:((k:Int)<((fu e).length:Int)):=by omega
     have hp':¬((xX.length:Int)≤y):=by simpa using hp
     simp[Bf,yB,hy,hp',aA hk' (by omega),aH])
    (fun k y hk' hy hp=>by
     have yB:((k:Int)<((fu e).length:Int)):=by omega
     have hp':((xX.length:Int)≤y):=by simpa using hp
     exact⟨_,by simp[Bf,yB,hy,hp'];rfl,_,rfl,by simp⟩)
    (by simp[Bf])
   simp at h1;rcases h2 with⟨hb,h2⟩|⟨hb,o,h2,s,rfl,h3⟩
   ·rw[hb]
    have hover:=fun b=>ZS b e hn ho (.fn I.qer [] [.cptr true (.wh bk (bd xX)) 0]) (fun fl top base σ h=>by cases fl<;>cases top<;>simp at h ⊢) (gq xX) (fun _=>True) (fun _ _ _ _ _ _ _=>trivial)
     (fun n hne l hl hcn _ σ x hx=>by
      have:=iB n.tag
      have hk1:=Ug n true l bk xX (by unfold most;omega) (fun ht=>by
       obtain⟨h1,h2⟩:=ij hcn ht;have:=arG.1 hb n.col (oR hne ht);simp at this;exact⟨h1,by omega⟩)
      have hna:fz true false 0 σ 20 n.a=n.a:=Fx.fx true false 0 σ 17 n;simp only[Ma]at hx;simp[hx,hna,hk1])
    simp at h2;simp[ayJ,O2,hc,h1,hC,h2,hover]
   rw[hb];simp at h2;simp[ayJ,O2,hc,h1,hC,h2,-bP];exact h3
  rw[ha];simp at h1;simp[ayJ,O2,hc,h1,-bP];exact h2
def Bb(t:Int):Int:=if t<1∨23<t then -1 else if t≤3 then 0 else if t≤11 then 1 else 2
theorem YR(t:Int):az I.qbs [ac t]=some (ac (Bb t)):=by
 rw[am amZ rfl];unfold Bb;by_cases h1:t<1
 ·simp[ayx,JZ,h1]
 by_cases h2:23<t
 ·simp[ayx,JZ,h1,h2]
 by_cases h3:t≤3
 ·simp[ayx,JZ,h1,h2,h3]
 by_cases h4:t≤11
 ·simp[ayx,JZ,h1,h2,h3,h4]
 simp[ayx,JZ,h1,h2,h3,h4]
theorem Yx(t:Int):az I.qbw [ac t]=some (ac (aI t)):=by
 rw[am aow rfl];have h:=YR t;have hp:aI t=if t=3∨(8≤t∧t≤11) then -1 else Bb t:=by
  unfold aI Bb
  repeat' split
  all_goals omega
 rw[hp];generalize Bb t=p at *;by_cases h1:t=3
 ·subst h1;simp[ayH,Po]
 by_cases h2:8≤t
 ·by_cases h3:t≤11
  ·simp[ayH,Po,h1,al h1,h2,h3]
  simp[ayH,Po,h1,al h1,h2,h3,h]
 simp[ayH,Po,h1,al h1,h2,h]
theorem Hg(k n u:Int)(s:List UInt8):dC ⟨k,n,u,s⟩=if k=0 then (decide (n=0)&&decide (u=0)&&decide (s=[])) else if k=1 then (decide (u=0)&&decide (s=[])&&(decide (n=0) ||decide (n=1)))
  else if k=2 then (decide (u=0)&&decide (s=[])) else if k=3 then (decide (n=0)&&decide (u=0)&&decide (s.length≤40)) else (decide (k=4)&&decide (s=[])):=by
 rw[arh];simp only[dC,pu,afE];by_cases h0:k=0
 ·subst h0;simp[and_assoc]
 by_cases h1:k=1
 ·subst h1;by_cases a:n=0
  ·simp[a]
  by_cases b:n=1
  ·simp[b]
  simp[a,b]
 by_cases h2:k=2
 ·subst h2;simp
 by_cases h3:k=3
 ·subst h3;by_cases a:s.length≤40<;>simp[a]
 by_cases h4:k=4
 ·subst h4;simp
 simp[h0,h1,h2,h3,h4]
theorem NY(s:List UInt8):(s==[])=decide (s=[]):=by cases s<;>rfl
theorem dz(w:aE):az I.qaq [w.a]=some (.bool (dC w)):=by
 rw[am anL rfl];have hz:=MG w;obtain⟨k,n,u,s⟩:=w;simp only at hz;rw[Hg];by_cases h0:k=0
 ·subst h0;have e:((⟨0,n,u,s⟩:aE)==aq)=(decide (n=0)&&decide (u=0)&&decide (s=[])):=by
   rw[arh];simp[aq,and_assoc]
  rw[e]at hz;simp[axW,nq,aE.a,hz,-cX,-Bool.and_eq_true]
 by_cases h1:k=1
 ·subst h1;by_cases hu:u=0
  ·by_cases hs:s=[]
   ·by_cases hn0:n=0
    ·subst hu hs hn0;simp[axW,nq,aE.a,eY]
    by_cases hn1:n=1
    ·subst hu hs hn1;simp[axW,nq,aE.a,eY]
    subst hu hs;simp[axW,nq,aE.a,eY,al hn0,al hn1,hn0,hn1]
   have hs':(s==[])=false:=by rw[NY];simp[hs]
   subst hu;simp[axW,nq,aE.a,eY,hs,hs']
  simp[axW,nq,aE.a,eY,hu,al hu]
 by_cases h2:k=2
 ·subst h2;by_cases hu:u=0
  ·by_cases hs:s=[]
   ·subst hu hs;simp[axW,nq,aE.a,eY]
   have hs':(s==[])=false:=by rw[NY];simp[hs]
   subst hu;simp[axW,nq,aE.a,eY,hs,hs']
  simp[axW,nq,aE.a,eY,hu,al hu]
 by_cases h3:k=3
 ·subst h3;by_cases hn0:n=0
  ·by_cases hu:u=0
   ·by_cases hl:s.length≤40
    ·have hl':(s.length:Int)≤40:=by omega
     subst hu hn0;simp[axW,nq,aE.a,eY,hl,hl']
    have hl':¬(s.length:Int)≤40:=by omega
    subst hu hn0;simp[axW,nq,aE.a,eY,hl,hl']
   subst hn0;simp[axW,nq,aE.a,eY,hu,al hu]
  simp[axW,nq,aE.a,eY,hn0,al hn0]
 by_cases h4:k=4
 ·subst h4;by_cases hs:s=[]
  ·subst hs;simp[axW,nq,aE.a,eY]
  have hs':(s==[])=false:=by rw[NY];simp[hs]
  simp[axW,nq,aE.a,eY,hs,hs']
 simp[axW,nq,eY,aE.a,al h0,al h1,al h2,al h3,al h4,h0,h1,h2,h3,h4]
theorem oQ(w:aE):az I.qap [w.a]=some (.bool (dd w)):=by
 rw[am amO rfl];have h:=dz w;unfold dd;simp only[aE.a]at *;cases hv:dC w<;>rw[hv]at h<;>simp[az1,ahu,h]
theorem SA(n:EN):az I.qbz [n.a]=some (.bool (cq n)):=by
 rw[am amM rfl];have hp:=oQ n.v;have hz:=MG n.v;obtain⟨t,l,r,c,w⟩:=n;simp only[aE.a]at hp hz;unfold cq;simp only;by_cases h1:t=1
 ·subst h1;cases hv:dd w<;>rw[hv]at hp<;>simp[ayS,Xq,EN.a,hp]
 by_cases h2:t=2
 ·subst h2;cases hv:(w==aq)<;>rw[hv]at hz<;>by_cases hc:0≤c<;>by_cases hc2:c<16<;>simp[ayS,Xq,EN.a,hz,hc,hc2,-cX]
 cases hv:(w==aq)<;>rw[hv]at hz<;>simp[ayS,Xq,EN.a,hz,h1,h2,al h1,al h2,-cX]
theorem vU(b:Bool):az I.qai [.bool b]=some (bG b).a:=by
 rw[am apY rfl];cases b<;>simp[aAP,aiR,bG,aE.a]
theorem Ez(n:Int):az I.qal [ac n]=some (bL n).a:=by
 rw[am aq2 rfl];simp[azZ,ai2,bL,aE.a]
def AZ(v w:aE):Int:=if (dC v&&dC w)=false then 120 else if 1<v.k∨1<w.k then 2 else 0
theorem Gl(v w:aE):az I.qas [v.a,w.a]=some (ac (AZ v w)):=by
 rw[am ap8 rfl];have h1:=dz v;have h2:=dz w;unfold AZ;obtain⟨k,n,u,s⟩:=v;obtain⟨k',n',u',s'⟩:=w;simp only[dL]at *;cases ho:dC ⟨k,n,u,s⟩ with
 |false=>
  rw[ho]at h1;simp[ayF,KB,h1]
 |true=>
  rw[ho]at h1;cases ho':dC ⟨k',n',u',s'⟩ with
  |false=>
   rw[ho']at h2;simp[ayF,KB,h1,h2]
  |true=>
   rw[ho']at h2;by_cases c1:1<k
   ·simp[ayF,KB,h1,h2,c1]
   by_cases c2:1<k'
   ·simp[ayF,KB,h1,h2,c1,c2]
   simp[ayF,KB,h1,h2,c1,c2]
theorem mZ{v:aE}(ho:dC v=true)(hk:¬1<v.k):v=aq∨v=bG false∨v=bG true:=by
 obtain⟨k,n,u,s⟩:=v;rw[Hg]at ho;simp only at hk;by_cases h0:k=0
 ·subst h0;simp at ho;obtain⟨⟨rfl,rfl⟩,rfl⟩:=ho;exact .inl rfl
 rw[if_neg h0]at ho;by_cases h1:k=1
 ·subst h1;simp at ho;obtain⟨⟨rfl,rfl⟩,rfl|rfl⟩:=ho
  ·exact .inr (.inl rfl)
  exact .inr (.inr rfl)
 rw[if_neg h1,if_neg (by omega),if_neg (by omega)]at ho;simp at ho;omega
theorem Ax(v:aE):az I.qan [v.a]=some (.tup [(kP v).1.a,ac (kP v).2]):=by
 rw[am ani rfl];have h1:=Gl v v;have hB:=vU;unfold AZ at h1;unfold kP;cases ho:dC v with
 |false=>
  rw[ho]at h1;simp only[aE.a]at h1 ⊢;simp[ayD,KG,h1,aq]
 |true=>
  rw[ho]at h1;by_cases hk:1<v.k
  ·rw[if_neg (by simp),if_pos (.inl hk)]at h1;rw[if_neg (by simp),if_pos hk];simp only[aE.a]at h1 ⊢;simp[ayD,KG,h1,aq]
  rw[if_neg (by simp),if_neg (by omega)]at h1;rw[if_neg (by simp),if_neg hk];rcases mZ ho hk with rfl|rfl|rfl
  ·simp only[aE.a,aq]at h1 ⊢;simp[ayD,KG,h1,gn,ku,aq]
  ·simp only[aE.a,bG]at h1 hB ⊢;simp at h1 hB;simp[ayD,KG,h1,hB.2,gn,ku,bG,IntKind.wrap,IntKind.bits,IntKind.signed]
  simp only[aE.a,bG]at h1 hB ⊢;simp at h1 hB;simp[ayD,KG,h1,hB.1,gn,ku,bG,IntKind.wrap,IntKind.bits,IntKind.signed]
theorem abX(v w:aE):eqa false [0,0,0,2] v.a w.a=some (.bool (decide (v=w))):=by
 obtain⟨k,n,u,s⟩:=v;obtain⟨k',n',u',s'⟩:=w;by_cases h1:k=k'<;>by_cases h2:n=n'<;>by_cases h3:u=u'<;>by_cases h4:s=s'<;>simp[aE.a,eY,h1,h2,h3,h4]
theorem Xf(v w:aE):az I.qah [v.a,w.a]=some (.tup [(eS min v w).1.a,ac (eS min v w).2]):=by
 rw[am aos rfl];have h1:=Gl v w;have hB:=vU;unfold AZ at h1;unfold eS;cases ho:(dC v&&dC w) with
 |false=>
  rw[ho]at h1;simp only[aE.a,bG]at h1 hB ⊢;simp at h1 hB;simp[azn,Vk,h1,hB.1,hB.2,aq]
 |true=>
  rw[ho]at h1;by_cases hk:1<v.k∨1<w.k
  ·rw[if_neg (by simp),if_pos hk]at h1;rw[if_neg (by simp),if_pos hk];simp only[aE.a,bG]at h1 hB ⊢;simp at h1 hB;simp[azn,Vk,h1,hB.1,hB.2,aq]
  rw[if_neg (by simp),if_neg hk]at h1;rw[if_neg (by simp),if_neg hk];simp only[acz]at ho;have e1:=abX;rcases mZ ho.1 (fun h=>hk (.inl h)) with rfl|rfl|rfl<;>rcases mZ ho.2 (fun h=>hk (.inr h)) with rfl|rfl|rfl <;>
   simp only[aE.a,bG,aq]at h1 hB ⊢<;>simp at h1 hB <;>
   simp[azn,Vk,h1,hB.1,hB.2,gn,ku,aq,bG,eY,IntKind.wrap,IntKind.bits,IntKind.signed]<;>decide
theorem aj0(v w:aE):az I.qao [v.a,w.a]=some (.tup [(eS max v w).1.a,ac (eS max v w).2]):=by
 rw[am ap6 rfl];have h1:=Gl v w;have hN:=Ax;have hA:=Xf;unfold AZ at h1;unfold eS;cases ho:(dC v&&dC w) with
 |false=>
  rw[ho]at h1;simp only[aE.a]at h1 ⊢
  try simp at h1
  simp[ay5,Xi,h1,aq]
 |true=>
  rw[ho]at h1;by_cases hk:1<v.k∨1<w.k
  ·rw[if_neg (by simp),if_pos hk]at h1;rw[if_neg (by simp),if_pos hk];simp only[aE.a]at h1 ⊢
   try simp at h1
   simp[ay5,Xi,h1,aq]
  rw[if_neg (by simp),if_neg hk]at h1;rw[if_neg (by simp),if_neg hk];simp only[acz]at ho;have n1:=hN v;have n2:=hN w;have a1:=hA (kP v).1 (kP w).1;have n3:=hN (eS min (kP v).1 (kP w).1).1;rcases mZ ho.1 (fun h=>hk (.inl h)) with rfl|rfl|rfl<;>rcases mZ ho.2 (fun h=>hk (.inr h)) with rfl|rfl|rfl <;>
   simp[kP,eS,gn,ku,aq,bG,dC,pu,IntKind.wrap,IntKind.bits,IntKind.signed,aE.a]at n1 n2 a1 n3 h1 ⊢ <;>
   simp[ay5,Xi,h1,n1,n2,a1,n3,ku,aq,bG]<;>decide
def Ek:List UInt8→List UInt8→Option Int
 |a::x,b::y=>if a=b then Ek x y else some (fc a.toNat b.toNat)
 |_,_=>none
theorem PB:∀x y:List UInt8,qA x y=match Ek x y with
  |some c=>c
  |none=>fc x.length y.length:=by
 intro x y;rw[EG];induction x generalizing y with
 |nil=>cases y<;>simp[lz,Ek,fc]
 |cons a x ih=>
  cases y with
  |nil=>
   simp[lz,Ek,fc];omega
  |cons b y=>
   simp only[lz,Ek];by_cases h:a=b
   ·subst h;rw[if_pos rfl,ih y];have:fc (a.toNat:Int) a.toNat=0:=by simp[fc]
    rw[this];simp only[lex,ne_eq,av1,ali];cases Ek x y with
    |some c=>rfl
    |none=>simp[fc]
   rw[if_neg h];have hn:(a.toNat:Int)≠b.toNat:=fun hh=>h (au0.1 (by omega));have:fc (a.toNat:Int) b.toNat≠0:=by
    unfold fc
    repeat' split
    all_goals omega
   simp[lex,this]
abbrev eC(v w:aE)(e4 e5 e10 e11 e12 e13:aa):List aa:=
 [v.a,w.a,.ptr 0 0 0 0,.ptr 1 0 0 0,e4,e5,.bool false,.bool false,.any,.bool false,e10,e11,e12,e13,.any,.any]
theorem aaw(v w:aE):∀(x y p:List UInt8),v.s=p++x→w.s=p++y→p.length+x.length≤8000→p.length+y.length≤8000 →
  match Ek x y with
  |some c=>∃s,aM code 2 [4,11,12,13] mx ⟨eC v w .any (.int .i64 p.length) .any .any .any .any,[.arr 4 0 [v.a],.arr 4 0 [w.a]]⟩=some (.ret,s)∧s.env[4]?=some (.int .i64 c)
  |none=>∃k:Nat,aM code 2 [4,11,12,13] mx ⟨eC v w .any (.int .i64 p.length) .any .any .any .any,[.arr 4 0 [v.a],.arr 4 0 [w.a]]⟩=some (.ext 0,⟨eC v w .any (.int .i64 k) .any (.bool false) .any .any,[.arr 4 0 [v.a],.arr 4 0 [w.a]]⟩):=by
 obtain⟨k,n,u,s⟩:=v;obtain⟨k',n',u',t⟩:=w;intro x;induction x with
 |nil=>
  intro y p hs ht h1 h2;simp only at hs ht;subst hs ht;refine⟨p.length,?_⟩;rw[bj];simp[eC,aE.a,mx]
 |cons a x ih=>
  intro y p hs ht h1 h2;simp only at hs ht;cases y with
  |nil=>
   simp only[Ek];have hlx:((p.length:Int)<(s.length:Int)):=by rw[hs];simp;omega
   have hly:¬((p.length:Int)<(t.length:Int)):=by rw[ht];simp
   refine⟨p.length,?_⟩;rw[bj];simp[eC,aE.a,mx,hlx,hly]
  |cons b y=>
   have hlx:((p.length:Int)<(s.length:Int)):=by rw[hs];simp;omega
   have hly:((p.length:Int)<(t.length:Int)):=by rw[ht];simp;omega
   have hx:s[p.length]?=some a:=by rw[hs];simp
   have hy:t[p.length]?=some b:=by rw[ht];simp
   have hxl:∀hh:p.length<s.length,s[p.length]'hh=a:=fun hh=>(aaN.1 hx).2;have hyl:∀hh:p.length<t.length,t[p.length]'hh=b:=fun hh=>(aaN.1 hy).2;have hw:IntKind.i64.wrap ((p.length:Int)+1)=(p.length:Int)+1:=bl (by simp at h1;omega);simp only[Ek];by_cases hab:a=b
   ·subst hab;rw[if_pos rfl];have:=ih y (p++[a]) (by simp[hs]) (by simp[ht]) (by simp at h1 ⊢;omega) (by simp at h2 ⊢;omega);have step:aM code 2 [4,11,12,13] mx ⟨eC ⟨k,n,u,s⟩ ⟨k',n',u',t⟩ .any (ac p.length) .any .any .any .any,[.arr 4 0 [(⟨k,n,u,s⟩:aE).a],.arr 4 0 [(⟨k',n',u',t⟩:aE).a]]⟩ =
      aM code 2 [4,11,12,13] mx ⟨eC ⟨k,n,u,s⟩ ⟨k',n',u',t⟩ .any (ac (p++[a]).length) .any .any .any .any,[.arr 4 0 [(⟨k,n,u,s⟩:aE).a],.arr 4 0 [(⟨k',n',u',t⟩:aE).a]]⟩:=by
     rw[bj];simp[eC,aE.a,mx,hlx,hly,hx,hy,hxl,hyl,hw,aH]
    rw[step];exact this
   rw[if_neg hab];have hn:¬((a.toNat:Int)=b.toNat):=fun hh=>hab (au0.1 (by omega));rw[bj];unfold fc;by_cases yB:(a.toNat:Int)<b.toNat
   ·rw[if_pos yB];exact⟨_,by simp[eC,aE.a,mx,hlx,hly,hx,hy,hxl,hyl,aR hn,yB];rfl,rfl⟩
   rw[if_neg yB,if_pos (by omega)];exact⟨_,by simp[eC,aE.a,mx,hlx,hly,hx,hy,hxl,hyl,aR hn,yB];rfl,rfl⟩
theorem Jq{v:aE}(h:dC v=true):v.s.length≤40:=by
 obtain⟨k,n,u,s⟩:=v;rw[Hg]at h;simp only
 repeat' split at h
 all_goals simp at h
 ·rw[h.2];simp
 ·rw[h.1.2];simp
 ·rw[h.2];simp
 ·exact h.2
 rw[h.2];simp
theorem DB(v w:aE):az I.qaj [v.a,w.a]=some (ac (xZ v w)):=by
 rw[am aqI rfl];have p1:=oQ v;have p2:=oQ w;have hL:=fun h1 h2=>aaw v w v.s w.s [] rfl rfl h1 h2;have lv:dd v=true→([]:List UInt8).length+v.s.length≤8000:=fun h=>by
  have:=Jq (v:=v) (by unfold dd at h;simp at h;exact h.1);simp;omega
 have lw:dd w=true→([]:List UInt8).length+w.s.length≤8000:=fun h=>by
  have:=Jq (v:=w) (by unfold dd at h;simp at h;exact h.1);simp;omega
 have hD:=PB v.s w.s;unfold xZ;generalize Ek v.s w.s=d at *;obtain⟨k,n,u,s⟩:=v;obtain⟨k',n',u',t⟩:=w;simp only[dL,eC]at *;cases ho:dd ⟨k,n,u,s⟩ with
 |false=>
  rw[ho]at p1;simp[ax6,wA,p1]
 |true=>
 rw[ho]at p1;cases ho':dd ⟨k',n',u',t⟩ with
 |false=>
  rw[ho']at p2;simp[ax6,wA,p1,p2]
 |true=>
 rw[ho']at p2;have hL:=hL (lv ho) (lw ho');rw[if_pos ⟨rfl,rfl⟩];by_cases hk:k=k'
 rotate_left
 ·have:fc k k'≠0:=by
   unfold fc
   repeat' split
   all_goals omega
  rw[show lex (fc k k') (lex (fc n n') (qA s t))=fc k k' by simp[lex,this]];unfold fc;by_cases yB:k<k'
  ·rw[if_pos yB];simp[ax6,wA,p1,p2,aR hk,yB]
  rw[if_neg yB,if_pos (by omega)];simp[ax6,wA,p1,p2,aR hk,yB]
 subst hk;have hk0:(k != k)=false:=by simp
 rw[show fc k k=0 by simp[fc]];rw[show ∀c,lex 0 c=c from fun c=>by simp[lex]];by_cases hn:n=n'
 rotate_left
 ·have:fc n n'≠0:=by
   unfold fc
   repeat' split
   all_goals omega
  rw[show lex (fc n n') (qA s t)=fc n n' by simp[lex,this]];unfold fc;by_cases yB:n<n'
  ·rw[if_pos yB];simp[ax6,wA,p1,p2,aR hn,yB]
  rw[if_neg yB,if_pos (by omega)];simp[ax6,wA,p1,p2,aR hn,yB]
 subst hn;have hn0:(n != n)=false:=by simp
 rw[show fc n n=0 by simp[fc]];rw[show ∀c,lex 0 c=c from fun c=>by simp[lex],hD];simp only[ak3,show ((0:Nat):Int)=0 from rfl]at hL;cases d with
 |some c=>
  obtain⟨s',hL,hs'⟩:=hL
  try simp at hL
  simp[ax6,wA,p1,p2,hL,hs']
 |none=>
  obtain⟨j,hL⟩:=hL
  try simp at hL
  unfold fc;by_cases hl:(s.length:Int)=t.length
  ·rw[if_neg (by omega),if_neg (by omega)];simp[ax6,wA,p1,p2,hL,hl]
  by_cases yB:(s.length:Int)<t.length
  ·rw[if_pos yB];simp[ax6,wA,p1,p2,hL,aR hl,yB]
  rw[if_neg yB,if_pos (by omega)];simp[ax6,wA,p1,p2,hL,aR hl,yB]
def IM(v w:aE):Int:=if (dC v&&dC w)=false then 120 else if v.k=4∨w.k=4∨v.k≠0∧w.k≠0∧v.k≠w.k then 2 else 0
theorem aa8(v w:aE):az I.qar [v.a,w.a]=some (ac (IM v w)):=by
 rw[am aoI rfl];have h1:=dz v;have h2:=dz w;have p1:=oQ v;have p2:=oQ w;unfold IM;unfold dd at p1 p2;obtain⟨k,n,u,s⟩:=v;obtain⟨k',n',u',s'⟩:=w;simp only[dL]at *;cases ho:dC ⟨k,n,u,s⟩ with
 |false=>
  rw[ho]at h1;simp[ayd,AY,h1]
 |true=>
  rw[ho]at h1 p1;cases ho':dC ⟨k',n',u',s'⟩ with
  |false=>
   rw[ho']at h2;simp[ayd,AY,h1,h2]
  |true=>
   rw[ho']at h2 p2;simp only[al5]at p1 p2;by_cases c1:k=4
   ·subst c1;simp at p1;simp[ayd,AY,h1,h2,p1]
   rw[aR c1]at p1;by_cases c2:k'=4
   ·subst c2;simp at p2;simp[ayd,AY,h1,h2,p1,p2]
   rw[aR c2]at p2;by_cases c3:k=0
   ·subst c3;simp[ayd,AY,h1,h2,p1,p2,c2]
   by_cases c4:k'=0
   ·subst c4;simp[ayd,AY,h1,h2,p1,p2,c1,c3,aR c3]
   by_cases c5:k=k'
   ·subst c5;simp[ayd,AY,h1,h2,p1,p2,c1,c3,aR c3]
   simp[ayd,AY,h1,h2,p1,p2,c1,c2,c3,c4,c5,aR c3,aR c4,aR c5]
theorem Bi(is:Int→Bool)(v w:aE):mR is v w=if IM v w≠0∨v.k=0∨w.k=0 then (aq,IM v w) else (bG (is (xZ v w)),0):=by
 unfold mR IM;by_cases h1:(dC v&&dC w)=false
 ·rw[if_pos h1,if_pos h1];simp
 rw[if_neg h1,if_neg h1];by_cases h2:v.k=4∨w.k=4∨v.k≠0∧w.k≠0∧v.k≠w.k
 ·rw[if_pos h2,if_pos h2];simp
 rw[if_neg h2,if_neg h2];simp
theorem Y6(v w:aE):az I.qak [v.a,w.a]=some (.tup [(nR v w).1.a,ac (nR v w).2]):=by
 rw[am aqU rfl];have hb:=aa8 v w;have hc:=DB v w;have hB:=vU;rw[show nR v w=_ from Bi _ v w];generalize IM v w=e at *;generalize xZ v w=c at *;obtain⟨k,n,u,s⟩:=v;obtain⟨k',n',u',s'⟩:=w;simp only[dL]at *;by_cases c1:e=0
 ·subst c1;by_cases c2:k=0
  ·subst c2;simp[ayK,PK,hb,aq,aE.a]
  by_cases c3:k'=0
  ·subst c3;simp[ayK,PK,hb,aq,aE.a,c2,al c2]
  have hz:∀b σ m,fz true false 0 σ (m+3) (bG b).a=(bG b).a:=fun b σ m=>by simp[aE.a]
  have hn:∀b,aw (bG b).a=4∧isAgg (bG b).a=true:=fun b=>⟨rfl,rfl⟩;cases hcc:decide (c=0)<;>simp only[bG,aE.a]at hB<;>simp at hB hcc<;>simp[ayK,PK,hb,hc,hB.1,hB.2,c2,al c2,c3,al c3,hcc,bG,aE.a]
  all_goals (first|done|simp[al hcc,hB.1,hB.2])
 simp[ayK,PK,hb,aq,aE.a,c1,aR c1]
theorem O7(v w:aE):az I.qam [v.a,w.a]=some (.tup [(kF v w).1.a,ac (kF v w).2]):=by
 rw[am anf rfl];have hb:=aa8 v w;have hc:=DB v w;have hB:=vU;rw[show kF v w=_ from Bi _ v w];generalize IM v w=e at *;generalize xZ v w=c at *;obtain⟨k,n,u,s⟩:=v;obtain⟨k',n',u',s'⟩:=w;simp only[dL]at *;by_cases c1:e=0
 ·subst c1;by_cases c2:k=0
  ·subst c2;simp[ays,KH,hb,aq,aE.a]
  by_cases c3:k'=0
  ·subst c3;simp[ays,KH,hb,aq,aE.a,c2,al c2]
  cases hcc:decide (c<0)<;>simp only[bG,aE.a]at hB<;>simp at hB hcc
  ·have:¬c<0:=by omega
   simp[ays,KH,hb,hc,hB.1,hB.2,c2,al c2,c3,al c3,this,bG,aE.a]
  simp[ays,KH,hb,hc,hB.1,hB.2,c2,al c2,c3,al c3,hcc,bG,aE.a]
 simp[ays,KH,hb,aq,aE.a,c1,aR c1]
abbrev u64(n:Int):aa:=.int .u64 n
abbrev rJ(p:Int)(b:Bool):aa:=.agg [u64 (p%4294967296),u64 (p/4294967296%4294967296),u64 (p/18446744073709551616%4294967296),u64 (p/79228162514264337593543950336%4294967296),u64 (p/340282366920938463463374607431768211456%4294967296),u64 (p/1461501637330902918203684832716283019655932542976%4294967296),u64 (p/6277101735386680763835789423207666416102355444464034512896%4294967296),u64 (p/26959946667150639794667015087019630673637144422540572481103610249216%4294967296),.bool b]
def kU(x:Int):aa:=rJ x.natAbs (decide (x<0))
def Dq(p:Int):Prop:=0≤p∧p<26959946667150639794667015087019630673637144422540572481103610249216
theorem Qm(x:Int):shift .shl .u64 x 32=some (.int .u64 (IntKind.u64.wrap (x*4294967296))):=rfl
theorem EK{n:Int}(h:nv n):una .xor (.int .u64 n)=some (.int .u64 (18446744073709551615-n)):=by
 unfold nv at h;have hb:(BitVec.ofInt 64 18446744073709551615 ^^^ BitVec.ofInt 64 n).toNat=(18446744073709551615-n).toNat:=by
  have e:BitVec.ofInt 64 18446744073709551615=BitVec.allOnes 64:=rfl;rw[e,BitVec.allOnes_xor,BitVec.toNat_not,BitVec.toNat_ofInt];omega
 show ((some (IntKind.u64.wrap ((BitVec.ofInt 64 18446744073709551615 ^^^ BitVec.ofInt 64 n).toNat:Int))).map (aa.int .u64))=_;rw[hb,bO,atH];congr 2;omega
theorem th{n:Int}(h:0≤n):n.tmod 4294967296=n%4294967296:=Int.tmod_eq_emod_of_nonneg h
theorem XA{n u:Int}(hn:rg n)(hu:nv u):az I.qay [ac n,.int .u64 u]=some (kU (n*18446744073709551616+u)):=by
 rw[am anm rfl];unfold kU;have hrn:=hn;have hru:=hu;unfold rg at hn;unfold nv at hu;by_cases h:n<0
 ·have e1:IntKind.u64.wrap n=n+18446744073709551616:=by rw[bO];omega
  have n1:=EK (n:=n+18446744073709551616) (by unfold nv;omega);have n2:=EK hru;have hx:n*18446744073709551616+u<0:=by omega
  by_cases h0:u=0
  ·subst h0;have e2:IntKind.u64.wrap 18446744073709551616=0:=by rw[bO];rfl
   have e3:IntKind.u64.wrap (18446744073709551615-(n+18446744073709551616)+1)=-n:=by rw[bO];omega
   have e4:((n*18446744073709551616+0).natAbs:Int)=-n*18446744073709551616:=by omega
   rw[e4,ar6 hx];simp only[Int.sub_zero]at n2;have t1:=th (n:=-n) (by omega);simp[ay3,WQ,h,e1,n1,n2,e2,e3,DS,-una,-shift,t1]
   try rw[t1]
   omega
  have e2:IntKind.u64.wrap (18446744073709551615-u+1)=18446744073709551616-u:=by rw[bO];omega
  have e4:((n*18446744073709551616+u).natAbs:Int)=(-n-1)*18446744073709551616+(18446744073709551616-u):=by omega
  have h0':¬18446744073709551616-u=0:=by omega
  have h0'':¬18446744073709551615-u+1=0:=by omega
  rw[e4,ar6 hx];have t1:=th (n:=18446744073709551616-u) (by omega);have t2:=th (n:=18446744073709551615-(n+18446744073709551616)) (by omega);simp[ay3,WQ,h,e1,n1,n2,e2,DS,-una,-shift,t1,t2,h0',al h0'];omega
 have e1:IntKind.u64.wrap n=n:=by rw[bO];omega
 have hx:¬n*18446744073709551616+u<0:=by omega
 have e4:((n*18446744073709551616+u).natAbs:Int)=n*18446744073709551616+u:=by omega
 rw[e4,alg hx];have t1:=th (n:=u) (by omega);have t2:=th (n:=n) (by omega);simp[ay3,WQ,h,e1,DS,-una,-shift,t1,t2];omega
theorem Nk{n:Int}(hn:rg n):az I.qaw [ac n]=some (kU n):=by
 rw[am aqM rfl];have hrn:=hn;unfold rg at hn;by_cases h:n<0
 ·have e1:IntKind.u64.wrap n=n+18446744073709551616:=by rw[bO];omega
  have ho:=XA (n:=-1) (u:=n+18446744073709551616) (by unfold rg;omega) (by unfold nv;omega);rw[show (-1:Int)*18446744073709551616+(n+18446744073709551616)=n by omega]at ho;simp only[kU]at ho ⊢;simp[azt,acA,h,e1,ho]
 have e1:IntKind.u64.wrap n=n:=by rw[bO];omega
 have ho:=XA (n:=0) (u:=n) (by unfold rg;omega) (by unfold nv;omega);rw[show (0:Int)*18446744073709551616+n=n by omega]at ho;simp only[kU]at ho ⊢;simp[azt,acA,h,e1,ho]
theorem ahd(d0 d1 d2 d3 d4 d5 d6 d7:Int)(b:Bool):az I.qbj [.agg [u64 d0,u64 d1,u64 d2,u64 d3,u64 d4,u64 d5,u64 d6,u64 d7,.bool b]]=some (.bool (decide (d0=0∧d1=0∧d2=0∧d3=0∧d4=0∧d5=0∧d6=0∧d7=0))):=by
 rw[am amp rfl];by_cases a0:d0=0
 rotate_left
 ·rw[alg (fun h=>a0 (by omega))];simp[aya,yb,a0,al a0]
 subst a0;by_cases a1:d1=0
 rotate_left
 ·rw[alg (fun h=>a1 (by omega))];simp[aya,yb,a1,al a1]
 subst a1;by_cases a2:d2=0
 rotate_left
 ·rw[alg (fun h=>a2 (by omega))];simp[aya,yb,a2,al a2]
 subst a2;by_cases a3:d3=0
 rotate_left
 ·rw[alg (fun h=>a3 (by omega))];simp[aya,yb,a3,al a3]
 subst a3;by_cases a4:d4=0
 rotate_left
 ·rw[alg (fun h=>a4 (by omega))];simp[aya,yb,a4,al a4]
 subst a4;by_cases a5:d5=0
 rotate_left
 ·rw[alg (fun h=>a5 (by omega))];simp[aya,yb,a5,al a5]
 subst a5;by_cases a6:d6=0
 rotate_left
 ·rw[alg (fun h=>a6 (by omega))];simp[aya,yb,a6,al a6]
 subst a6;by_cases a7:d7=0
 rotate_left
 ·rw[alg (fun h=>a7 (by omega))];simp[aya,yb,a7,al a7]
 subst a7;simp[aya,yb]
theorem vQ{p:Int}(h:Dq p)(b:Bool):az I.qbj [rJ p b]=some (.bool (decide (p=0))):=by
 unfold Dq at h;rw[ahd];congr 2;rw[arh,ad7,ad7];omega
theorem aaS{x:Int}(h:Dq x.natAbs):az I.qbf [kU x]=some (kU (-x)):=by
 rw[am api rfl];have hz:=fun b=>vQ h b;unfold kU;rw[Int.natAbs_neg];by_cases h0:x<0
 ·have:¬(-x<0):=by omega
  rw[ar6 h0,alg this];simp[azi,VC]
 by_cases h1:x=0
 ·subst h1;have hz0:=ahd 0 0 0 0 0 0 0 0 false;simp at hz0;simp[azi,VC,hz0]
 have:-x<0:=by omega
 rw[alg h0,ar6 this];have hz:=hz false;rw[alg (by omega:¬(x.natAbs:Int)=0)]at hz;simp[azi,VC,hz]
abbrev nA(l:List Int)(b:Bool):aa:=.agg (l.map u64++[.bool b])
abbrev pX(p:Int):List Int:=[p%4294967296,p/4294967296%4294967296,p/18446744073709551616%4294967296,p/79228162514264337593543950336%4294967296,p/340282366920938463463374607431768211456%4294967296,p/1461501637330902918203684832716283019655932542976%4294967296,p/6277101735386680763835789423207666416102355444464034512896%4294967296,p/26959946667150639794667015087019630673637144422540572481103610249216%4294967296]
theorem qG(p:Int)(b:Bool):rJ p b=nA (pX p) b:=rfl
def dg(p:Int)(k:Nat):Int:=p/4294967296^k%4294967296
abbrev uY(p:Int):List Int:=[dg p 0,dg p 1,dg p 2,dg p 3,dg p 4,dg p 5,dg p 6,dg p 7]
theorem qT(p:Int):pX p=uY p:=by simp[pX,uY,dg]
theorem Wj(p:Int)(k:Nat):0≤dg p k∧dg p k<4294967296:=by unfold dg;omega
theorem eE{k:Nat}(h:k<8):k=0∨k=1∨k=2∨k=3∨k=4∨k=5∨k=6∨k=7:=by omega
theorem mC(p:Int){k:Nat}(h:k<8):(uY p).getD k 0=dg p k:=by rcases eE h with rfl|rfl|rfl|rfl|rfl|rfl|rfl|rfl<;>rfl
abbrev dw(a b:List Int)(s t:Bool)(i:Int)(e6:aa):St:=⟨[nA a s,nA b t,.ptr 0 0 0 0,.ptr 1 0 0 0,.any,ac i,e6,.any],[.arr 9 0 [nA a s],.arr 9 0 [nA b t]]⟩
theorem ald(p0 p1 p2 p3 p4 p5 p6 p7 q0 q1 q2 q3 q4 q5 q6 q7:Int)(s t:Bool){k:Nat}(hk:k<8)(h:[p0,p1,p2,p3,p4,p5,p6,p7].getD k 0=[q0,q1,q2,q3,q4,q5,q6,q7].getD k 0):aM code 2 [4,6,7] mE (dw [p0,p1,p2,p3,p4,p5,p6,p7] [q0,q1,q2,q3,q4,q5,q6,q7] s t k .any)=aM code 2 [4,6,7] mE (dw [p0,p1,p2,p3,p4,p5,p6,p7] [q0,q1,q2,q3,q4,q5,q6,q7] s t (k-1) .any):=by
 rw[bj];rcases eE hk with rfl|rfl|rfl|rfl|rfl|rfl|rfl|rfl<;>(simp at h;subst h;simp[mE,aH,IntKind.wrap,IntKind.bits,IntKind.signed])
theorem akS(p0 p1 p2 p3 p4 p5 p6 p7 q0 q1 q2 q3 q4 q5 q6 q7:Int)(s t:Bool){k:Nat}(hk:k<8)(h:[p0,p1,p2,p3,p4,p5,p6,p7].getD k 0≠[q0,q1,q2,q3,q4,q5,q6,q7].getD k 0):∃st,aM code 2 [4,6,7] mE (dw [p0,p1,p2,p3,p4,p5,p6,p7] [q0,q1,q2,q3,q4,q5,q6,q7] s t k .any)=some (.ret,st)∧st.env[4]?=some (.bool (decide ([p0,p1,p2,p3,p4,p5,p6,p7].getD k 0 < [q0,q1,q2,q3,q4,q5,q6,q7].getD k 0))):=by
 rw[bj];rcases eE hk with rfl|rfl|rfl|rfl|rfl|rfl|rfl|rfl<;>(simp at h;exact⟨_,by simp[mE,aR h];rfl,rfl⟩)
theorem abh(a b:List Int)(s t:Bool):aM code 2 [4,6,7] mE (dw a b s t (-1) .any)=some (.ext 0,dw a b s t (-1) (.bool false)):=by
 rw[bj];simp[mE]
theorem adA(p:Int)(k:Nat):p/4294967296^k=p/4294967296^(k+1)*4294967296+dg p k:=by
 have h:(0:Int)≤4294967296^k:=Int.pow_nonneg (by decide);rw[Int.pow_succ,←Int.ediv_ediv_of_nonneg h];unfold dg;omega
theorem aaj{p q:Int}{k:Nat}(h:p/4294967296^k<q/4294967296^k):p<q:=by
 apply Int.not_le.1;intro hle;have:=Int.ediv_le_ediv (show (0:Int)<4294967296^k from Int.pow_pos (by decide)) hle;omega
theorem JX(p q:Int)(s t:Bool):∀k:Nat,k≤8→p/4294967296^k=q/4294967296^k →
  (∃st,aM code 2 [4,6,7] mE (dw (uY p) (uY q) s t ((k:Int)-1) .any)=some (.ret,st)∧st.env[4]?=some (.bool (decide (p<q)))) ∨
  (aM code 2 [4,6,7] mE (dw (uY p) (uY q) s t ((k:Int)-1) .any)=some (.ext 0,dw (uY p) (uY q) s t (-1) (.bool false))∧decide (p<q)=false)
 |0,_,h=>by
  simp at h;subst h;exact .inr ⟨abh _ _ s t,by simp⟩
 |k+1,hk,h=>by
  have hk':k<8:=by omega
  have e:(((k+1:Nat):Int)-1)=(k:Int):=by omega
  rw[e];have h1:=adA p k;have h2:=adA q k;by_cases hd:dg p k=dg q k
  ·have:=ald (dg p 0) (dg p 1) (dg p 2) (dg p 3) (dg p 4) (dg p 5) (dg p 6) (dg p 7) (dg q 0) (dg q 1) (dg q 2) (dg q 3) (dg q 4) (dg q 5) (dg q 6) (dg q 7) s t hk' (by rw[mC p hk',mC q hk',hd]);rw[this];exact JX p q s t k (by omega) (by rw[h1,h2,h,hd])
  obtain⟨st,g1,g2⟩:=akS (dg p 0) (dg p 1) (dg p 2) (dg p 3) (dg p 4) (dg p 5) (dg p 6) (dg p 7) (dg q 0) (dg q 1) (dg q 2) (dg q 3) (dg q 4) (dg q 5) (dg q 6) (dg q 7) s t hk' (by rw[mC p hk',mC q hk'];exact hd);refine .inl ⟨st,g1,?_⟩;rw[g2,mC p hk',mC q hk'];congr 3;rw[eq_iff_iff];constructor
  ·intro hl;exact aaj (k:=k) (by rw[h1,h2,h];omega)
  intro hl;apply avy;intro hn;have:=aaj (p:=q) (q:=p) (k:=k) (by rw[h1,h2,h];omega);omega
theorem aal(p q:Int)(hp:Dq p)(hq:Dq q)(s t:Bool):az I.qbh [rJ p s,rJ q t]=some (.bool (decide (p<q))):=by
 rw[am anS rfl,qG,qG,qT,qT];unfold Dq at hp hq;have hl:=JX p q s t 8 (aes _) (by simp only[Int.reducePow];rw[avO hp.1 (by omega),avO hq.1 (by omega)]);generalize decide (p<q)=c at *;simp only[dw,nA,af6,ajo,an7,ah5]at hl ⊢;rcases hl with⟨st,h1,h2⟩|⟨h1,rfl⟩
 ·simp at h1;simp[azI,Zh,h1,h2]
 simp at h1;simp[azI,Zh,h1]
abbrev OX(X Y:aa)(a b:List Int)(s t:Bool)(o:List Int)(u:Bool)(c:Int)(e10:aa)(i:Int)(e12:aa):St:=
 ⟨[X,Y,.ptr 0 0 0 0,.ptr 1 0 0 0,.ptr 2 0 0 0,.ptr 3 0 0 0,u64 c,.any,.any,.any,e10,ac i,e12,.any],[.arr 9 0 [nA a s],.arr 9 0 [nA b t],.arr 9 0 [nA [0,0,0,0,0,0,0,0] false],.arr 9 0 [nA o u]]⟩
theorem ajN(X Y e10:aa)(p0 p1 p2 p3 p4 p5 p6 p7 q0 q1 q2 q3 q4 q5 q6 q7 r0 r1 r2 r3 r4 r5 r6 r7 c x y:Int)(s u:Bool){k:Nat}(hk:k<8)(hx:[p0,p1,p2,p3,p4,p5,p6,p7].getD k 0=x)(hy:[q0,q1,q2,q3,q4,q5,q6,q7].getD k 0=y)(h1:0≤x∧x<4294967296)(h2:0≤y∧y<4294967296)(h3:0≤c∧c≤1) :
  aM code 4 [7,8,9,12,13] hY (OX X Y [p0,p1,p2,p3,p4,p5,p6,p7] [q0,q1,q2,q3,q4,q5,q6,q7] s s [r0,r1,r2,r3,r4,r5,r6,r7] u c e10 k .any)=aM code 4 [7,8,9,12,13] hY (OX X Y [p0,p1,p2,p3,p4,p5,p6,p7] [q0,q1,q2,q3,q4,q5,q6,q7] s s ([r0,r1,r2,r3,r4,r5,r6,r7].set k ((x+y+c)%4294967296)) u ((x+y+c)/4294967296) e10 (k+1) .any):=by
 have w1:IntKind.u64.wrap (x+y)=x+y:=by rw[bO];omega
 have w2:IntKind.u64.wrap (x+y+c)=x+y+c:=by rw[bO];omega
 have t1:=th (n:=x+y+c) (by omega);have hw:IntKind.i64.wrap ((k:Int)+1)=k+1:=by rw[da];omega
 rw[bj];rcases eE hk with rfl|rfl|rfl|rfl|rfl|rfl|rfl|rfl<;>(simp at hx hy hw;subst hx hy;cases s<;>simp[hY,aH,w1,w2,t1,DS,hw,-shift]<;>rfl)
theorem alZ(X Y e10:aa)(p0 p1 p2 p3 p4 p5 p6 p7 q0 q1 q2 q3 q4 q5 q6 q7 r0 r1 r2 r3 r4 r5 r6 r7 c x y:Int)(s t u:Bool)(hst:s≠t){k:Nat}(hk:k<8)(hx:[p0,p1,p2,p3,p4,p5,p6,p7].getD k 0=x)(hy:[q0,q1,q2,q3,q4,q5,q6,q7].getD k 0=y)(h1:0≤x∧x<4294967296)(h2:0≤y∧y<4294967296)(h3:0≤c∧c≤1) :
  aM code 4 [7,8,9,12,13] hY (OX X Y [p0,p1,p2,p3,p4,p5,p6,p7] [q0,q1,q2,q3,q4,q5,q6,q7] s t [r0,r1,r2,r3,r4,r5,r6,r7] u c e10 k .any)=aM code 4 [7,8,9,12,13] hY (OX X Y [p0,p1,p2,p3,p4,p5,p6,p7] [q0,q1,q2,q3,q4,q5,q6,q7] s t ([r0,r1,r2,r3,r4,r5,r6,r7].set k ((x+4294967296-y-c)%4294967296)) u (1-(x+4294967296-y-c)/4294967296) e10 (k+1) .any):=by
 have w1:IntKind.u64.wrap (x+4294967296)=x+4294967296:=by rw[bO];omega
 have w2:IntKind.u64.wrap (x+4294967296-y)=x+4294967296-y:=by rw[bO];omega
 have w3:IntKind.u64.wrap (x+4294967296-y-c)=x+4294967296-y-c:=by rw[bO];omega
 have w4:IntKind.u64.wrap (1-(x+4294967296-y-c)/4294967296)=1-(x+4294967296-y-c)/4294967296:=by rw[bO];omega
 have t1:=th (n:=x+4294967296-y-c) (by omega);have hw:IntKind.i64.wrap ((k:Int)+1)=k+1:=by rw[da];omega
 rw[bj];rcases eE hk with rfl|rfl|rfl|rfl|rfl|rfl|rfl|rfl<;>(simp at hx hy hw;subst hx hy;cases s<;>cases t<;>first|exact absurd rfl hst|(simp[hY,aH,w1,w2,w3,w4,t1,DS,hw,-shift];rfl))
theorem QD(X Y e10:aa)(a b o:List Int)(s t u:Bool)(c:Int):aM code 4 [7,8,9,12,13] hY (OX X Y a b s t o u c e10 8 .any)=some (.ext 0,OX X Y a b s t o u c e10 8 (.bool false)):=by
 rw[bj];simp[hY]
abbrev RZ(z:Int)(k:Nat):List Int:=[if 0<k then dg z 0 else 0,if 1<k then dg z 1 else 0,if 2<k then dg z 2 else 0,if 3<k then dg z 3 else 0,if 4<k then dg z 4 else 0,if 5<k then dg z 5 else 0,if 6<k then dg z 6 else 0,if 7<k then dg z 7 else 0]
theorem QK(z:Int){k:Nat}(h:k<8):(RZ z k).set k (dg z k)=RZ z (k+1):=by rcases eE h with rfl|rfl|rfl|rfl|rfl|rfl|rfl|rfl<;>simp[RZ]
def Zc(p q:Int)(k:Nat):Int:=(p%4294967296^k+q%4294967296^k)/4294967296^k
def Zb(p q:Int)(k:Nat):Int:=(q%4294967296^k-p%4294967296^k+(4294967296^k-1))/4294967296^k
theorem alf(p q:Int){k:Nat}(h:k<8):(dg p k+dg q k+Zc p q k)%4294967296=dg (p+q) k∧(dg p k+dg q k+Zc p q k)/4294967296=Zc p q (k+1)∧0≤Zc p q k∧Zc p q k≤1:=by
 rcases eE h with rfl|rfl|rfl|rfl|rfl|rfl|rfl|rfl<;>(simp only[dg,Zc,Int.reducePow,Nat.reduceAdd,Int.pow_zero];refine⟨?_,?_,?_,?_⟩<;>omega)
theorem alM(p q:Int){k:Nat}(h:k<8):(dg p k+4294967296-dg q k-Zb p q k)%4294967296=dg (p-q) k∧1-(dg p k+4294967296-dg q k-Zb p q k)/4294967296=Zb p q (k+1)∧0≤Zb p q k∧Zb p q k≤1:=by
 rcases eE h with rfl|rfl|rfl|rfl|rfl|rfl|rfl|rfl<;>(simp only[dg,Zb,Int.reducePow,Nat.reduceAdd,Int.pow_zero];refine⟨?_,?_,?_,?_⟩<;>omega)
theorem adm(X Y e10:aa)(p q:Int)(s u:Bool)(hp:Dq p)(hq:Dq q):∃c,aM code 4 [7,8,9,12,13] hY (OX X Y (pX p) (pX q) s s [0,0,0,0,0,0,0,0] u 0 e10 0 .any)=some (.ext 0,OX X Y (pX p) (pX q) s s (pX (p+q)) u c e10 8 (.bool false)):=by
 have key:∀k:Nat,k≤8→aM code 4 [7,8,9,12,13] hY (OX X Y (uY p) (uY q) s s (RZ (p+q) 0) u (Zc p q 0) e10 0 .any)=aM code 4 [7,8,9,12,13] hY (OX X Y (uY p) (uY q) s s (RZ (p+q) k) u (Zc p q k) e10 k .any):=by
  intro k;induction k with
  |zero=>intro _;rfl
  |succ k ih=>
   intro hk;have hk':k<8:=by omega
   rw[ih (by omega)];obtain⟨h1,h2,h3⟩:=alf p q hk';have hs:=ajN X Y e10 (dg p 0) (dg p 1) (dg p 2) (dg p 3) (dg p 4) (dg p 5) (dg p 6) (dg p 7) (dg q 0) (dg q 1) (dg q 2) (dg q 3) (dg q 4) (dg q 5) (dg q 6) (dg q 7) (if 0<k then dg (p+q) 0 else 0) (if 1<k then dg (p+q) 1 else 0) (if 2<k then dg (p+q) 2 else 0) (if 3<k then dg (p+q) 3 else 0) (if 4<k then dg (p+q) 4 else 0) (if 5<k then dg (p+q) 5 else 0) (if 6<k then dg (p+q) 6 else 0) (if 7<k then dg (p+q) 7 else 0) (Zc p q k) (dg p k) (dg q k) s u hk' (mC p hk') (mC q hk') (Wj p k) (Wj q k) h3;rw[h1,h2]at hs;rw[←QK (p+q) hk'];exact hs
 refine⟨Zc p q 8,?_⟩;rw[qT,qT,qT];have h:=(key 8 (aes _)).trans (QD X Y e10 _ _ _ s s u _);have e0:Zc p q 0=0:=by simp[Zc]
 rw[e0]at h;exact h
theorem OI(X Y e10:aa)(p q:Int)(s t u:Bool)(hst:s≠t)(hp:Dq p)(hq:Dq q):∃c,aM code 4 [7,8,9,12,13] hY (OX X Y (pX p) (pX q) s t [0,0,0,0,0,0,0,0] u 0 e10 0 .any)=some (.ext 0,OX X Y (pX p) (pX q) s t (pX (p-q)) u c e10 8 (.bool false)):=by
 have key:∀k:Nat,k≤8→aM code 4 [7,8,9,12,13] hY (OX X Y (uY p) (uY q) s t (RZ (p-q) 0) u (Zb p q 0) e10 0 .any)=aM code 4 [7,8,9,12,13] hY (OX X Y (uY p) (uY q) s t (RZ (p-q) k) u (Zb p q k) e10 k .any):=by
  intro k;induction k with
  |zero=>intro _;rfl
  |succ k ih=>
   intro hk;have hk':k<8:=by omega
   rw[ih (by omega)];obtain⟨h1,h2,h3⟩:=alM p q hk';have hs:=alZ X Y e10 (dg p 0) (dg p 1) (dg p 2) (dg p 3) (dg p 4) (dg p 5) (dg p 6) (dg p 7) (dg q 0) (dg q 1) (dg q 2) (dg q 3) (dg q 4) (dg q 5) (dg q 6) (dg q 7) (if 0<k then dg (p-q) 0 else 0) (if 1<k then dg (p-q) 1 else 0) (if 2<k then dg (p-q) 2 else 0) (if 3<k then dg (p-q) 3 else 0) (if 4<k then dg (p-q) 4 else 0) (if 5<k then dg (p-q) 5 else 0) (if 6<k then dg (p-q) 6 else 0) (if 7<k then dg (p-q) 7 else 0) (Zb p q k) (dg p k) (dg q k) s t u hst hk' (mC p hk') (mC q hk') (Wj p k) (Wj q k) h3;rw[h1,h2]at hs;rw[←QK (p-q) hk'];exact hs
 refine⟨Zb p q 8,?_⟩;rw[qT,qT,qT];have h:=(key 8 (aes _)).trans (QD X Y e10 _ _ _ s t u _);have e0:Zb p q 0=0:=by simp[Zb]
 rw[e0]at h;exact h
def Ea(x:Int):Prop:=-1569275433846670190958947355801916604025588861116008628224<x∧x<1569275433846670190958947355801916604025588861116008628224
theorem Dw(p q:Int)(s:Bool)(hp:Dq p)(hq:Dq q)(hs:Dq (p+q)):az I.qaz [rJ p s,rJ q s]=some (rJ (p+q) (s&&!decide (p+q=0))):=by
 rw[am aik rfl];obtain⟨c,hL⟩:=adm (rJ p s) (rJ q s) (.bool false) p q s s hp hq;have hz:=vQ hs s;simp only[OX,nA,pX,af6,ajo,an7,ah5]at hL
 try simp at hL
 cases s
 ·simp[ayj,IQ,hL]
 simp[ayj,IQ,hL,hz]
theorem GK(p q:Int)(s t:Bool)(hst:s≠t)(hp:Dq p)(hq:Dq q):az I.qaz [rJ p s,rJ q t]=some (if p<q then rJ (q-p) (t&&!decide (q-p=0)) else rJ (p-q) (s&&!decide (p-q=0))):=by
 rw[am aik rfl];have hl:=aal p q hp hq s t;have hpp:=hp;have hqq:=hq;unfold Dq at hpp hqq;by_cases h:p<q
 ·obtain⟨c,hL⟩:=OI (rJ p s) (rJ q t) (.bool true) q p t s t (fun h=>hst h.symm) hq hp;have hz:=vQ (p:=q-p) (by unfold Dq;omega) t;rw[ar6 h]at hl;rw[if_pos h];simp only[OX,nA,pX,af6,ajo,an7,ah5]at hL
  try simp at hL
  cases s<;>cases t<;>first|exact absurd rfl hst|simp[ayj,IQ,hl,hL,hz]|simp[ayj,IQ,hl,hL]
 obtain⟨c,hL⟩:=OI (rJ p s) (rJ q t) (.bool false) p q s t s hst hp hq;have hz:=vQ (p:=p-q) (by unfold Dq;omega) s;rw[alg h]at hl;rw[if_neg h];simp only[OX,nA,pX,af6,ajo,an7,ah5]at hL
 try simp at hL
 cases s<;>cases t<;>first|exact absurd rfl hst|simp[ayj,IQ,hl,hL,hz]|simp[ayj,IQ,hl,hL]
theorem Av(x y:Int)(hx:Ea x)(hy:Ea y):az I.qaz [kU x,kU y]=some (kU (x+y)):=by
 unfold Ea at hx hy;unfold kU;have sx:Dq x.natAbs:=by unfold Dq;omega
 have sy:Dq y.natAbs:=by unfold Dq;omega
 by_cases h1:x<0<;>by_cases h2:y<0
 ·rw[ar6 h1,ar6 h2,Dw _ _ _ sx sy (by unfold Dq;omega)];rw[show ((x+y).natAbs:Int)=x.natAbs+y.natAbs by omega,alg (by omega:¬((x.natAbs:Int)+y.natAbs=0)),ar6 (by omega:x+y<0)];rfl
 ·rw[ar6 h1,alg h2,GK _ _ _ _ (by decide) sx sy];by_cases h3:(x.natAbs:Int)<y.natAbs
  ·rw[if_pos h3,show ((x+y).natAbs:Int)=y.natAbs-x.natAbs by omega,alg (by omega:¬x+y<0)];rfl
  rw[if_neg h3,show ((x+y).natAbs:Int)=x.natAbs-y.natAbs by omega];congr 2;by_cases h4:(x.natAbs:Int)-y.natAbs=0
  ·rw[ar6 h4,alg (by omega:¬x+y<0)];rfl
  rw[alg h4,ar6 (by omega:x+y<0)];rfl
 ·rw[alg h1,ar6 h2,GK _ _ _ _ (by decide) sx sy];by_cases h3:(x.natAbs:Int)<y.natAbs
  ·rw[if_pos h3,show ((x+y).natAbs:Int)=y.natAbs-x.natAbs by omega,ar6 (by omega:x+y<0),alg (by omega:¬((y.natAbs:Int)-x.natAbs=0))];rfl
  rw[if_neg h3,show ((x+y).natAbs:Int)=x.natAbs-y.natAbs by omega,alg (by omega:¬x+y<0)];rfl
 rw[alg h1,alg h2,Dw _ _ _ sx sy (by unfold Dq;omega)];rw[show ((x+y).natAbs:Int)=x.natAbs+y.natAbs by omega,alg (by omega:¬x+y<0)];rfl
abbrev fH(X:aa)(a:List Int)(s:Bool)(e2 e3 e4 h l:aa)(i:Int)(e8 e9:aa):St:=
 ⟨[X,.ptr 0 0 0 0,e2,e3,e4,h,l,ac i,e8,e9,.any,.any],[.arr 9 0 [nA a s]]⟩
theorem aeI(X h l:aa)(d0 d1 d2 d3:Int)(s:Bool):aM code 1 [2,3,4,8,9] mF (fH X [d0,d1,d2,d3,0,0,0,0] s .any .any .any h l 4 .any .any) =
  some (.ext 0,fH X [d0,d1,d2,d3,0,0,0,0] s .any .any .any h l 8 (.bool false) .any):=by
 have hw:∀k:Int,0≤k→k<100→IntKind.i64.wrap k=k:=fun k a b=>by rw[da];split<;>omega
 have step:∀j:Int,j=4∨j=5∨j=6∨j=7→aM code 1 [2,3,4,8,9] mF (fH X [d0,d1,d2,d3,0,0,0,0] s .any .any .any h l j .any .any)=aM code 1 [2,3,4,8,9] mF (fH X [d0,d1,d2,d3,0,0,0,0] s .any .any .any h l (j+1) .any .any):=fun j hj=>by
  rw[bj];rcases hj with rfl|rfl|rfl|rfl<;>simp[mF,aH,hw]
 rw[step 4 (by omega),step _ (by omega),step _ (by omega),step _ (by omega),bj];simp[mF]
theorem aga(X h l:aa)(d0 d1 d2 d3 d4 d5 d6 d7:Int)(s:Bool)(hd:d4≠0∨d5≠0):∃st,aM code 1 [2,3,4,8,9] mF (fH X [d0,d1,d2,d3,d4,d5,d6,d7] s .any .any .any h l 4 .any .any)=some (.ret,st)∧st.env[2]?=some (ac 0)∧st.env[3]?=some (.int .u64 0)∧st.env[4]?=some (.bool false):=by
 have hw:IntKind.i64.wrap 5=5:=by rw[da];rfl
 by_cases h4:d4=0
 ·have h5:d5≠0:=hd.resolve_left (fun h=>h h4);subst h4;rw[bj];simp[mF,aH,hw];rw[bj];exact⟨_,by simp[mF,aR h5];rfl,rfl,rfl,rfl⟩
 rw[bj];exact⟨_,by simp[mF,aR h4];rfl,rfl,rfl,rfl⟩
def iJ(x:Int):Bool:=decide (-170141183460469231731687303715884105728≤x)&&decide (x≤170141183460469231731687303715884105727)
theorem R1(x:Int)(hx:Ea x)(h:¬(x.natAbs:Int)<340282366920938463463374607431768211456):az I.qav [kU x]=some (.tup [ac 0,.int .u64 0,.bool false]):=by
 rw[am ah7 rfl];unfold Ea at hx;unfold kU;obtain⟨st,hL,s2,s3,s4⟩:=aga (rJ x.natAbs (decide (x<0))) (.int .u64 (IntKind.u64.wrap (IntKind.u64.wrap ((x.natAbs:Int)/79228162514264337593543950336%4294967296*4294967296)+(x.natAbs:Int)/18446744073709551616%4294967296))) (.int .u64 (IntKind.u64.wrap (IntKind.u64.wrap ((x.natAbs:Int)/4294967296%4294967296*4294967296)+(x.natAbs:Int)%4294967296)))
  ((x.natAbs:Int)%4294967296) ((x.natAbs:Int)/4294967296%4294967296) ((x.natAbs:Int)/18446744073709551616%4294967296) ((x.natAbs:Int)/79228162514264337593543950336%4294967296) ((x.natAbs:Int)/340282366920938463463374607431768211456%4294967296) ((x.natAbs:Int)/1461501637330902918203684832716283019655932542976%4294967296) ((x.natAbs:Int)/6277101735386680763835789423207666416102355444464034512896%4294967296) ((x.natAbs:Int)/26959946667150639794667015087019630673637144422540572481103610249216%4294967296) (decide (x<0)) (by omega)
 simp only[fH,nA,af6,ajo,an7,ah5]at hL
 try simp at hL
 simp[ayI,OY,Qm,-shift,hL,s2,s3,s4]
theorem Rs(x:Int)(h:(x.natAbs:Int)<340282366920938463463374607431768211456):∃hi lo,az I.qav [kU x]=some (.tup [ac hi,.int .u64 lo,.bool (iJ x)])∧(iJ x=true→hi=x/18446744073709551616∧lo=x%18446744073709551616):=by
 rw[am ah7 rfl];unfold kU;generalize hp:(x.natAbs:Int)=p at *;have e4:p/340282366920938463463374607431768211456%4294967296=0:=by omega
 have e5:p/1461501637330902918203684832716283019655932542976%4294967296=0:=by omega
 have e6:p/6277101735386680763835789423207666416102355444464034512896%4294967296=0:=by omega
 have e7:p/26959946667150639794667015087019630673637144422540572481103610249216%4294967296=0:=by omega
 have w1:IntKind.u64.wrap (p/79228162514264337593543950336%4294967296*4294967296)=p/79228162514264337593543950336%4294967296*4294967296:=by rw[bO];omega
 have w2:IntKind.u64.wrap (p/79228162514264337593543950336%4294967296*4294967296+p/18446744073709551616%4294967296)=p/18446744073709551616:=by rw[bO];omega
 have w3:IntKind.u64.wrap (p/4294967296%4294967296*4294967296)=p/4294967296%4294967296*4294967296:=by rw[bO];omega
 have w4:IntKind.u64.wrap (p/4294967296%4294967296*4294967296+p%4294967296)=p%18446744073709551616:=by rw[bO];omega
 have hL:=aeI (rJ p (decide (x<0))) (.int .u64 (p/18446744073709551616)) (.int .u64 (p%18446744073709551616)) (p%4294967296) (p/4294967296%4294967296) (p/18446744073709551616%4294967296) (p/79228162514264337593543950336%4294967296) (decide (x<0));simp only[rJ,e4,e5,e6,e7]at hL ⊢;simp only[fH,nA,af6,ajo,an7,ah5]at hL
 try simp at hL
 have n1:=EK (n:=p/18446744073709551616) (by unfold nv;omega);have n2:=EK (n:=p%18446744073709551616) (by unfold nv;omega);unfold iJ;by_cases hx:x<0
 ·rw[ar6 hx]at hL ⊢;by_cases h0:p%18446744073709551616=0
  ·have a1:IntKind.u64.wrap (18446744073709551615-p%18446744073709551616+1)=0:=by rw[bO];omega
   have a2:IntKind.u64.wrap (18446744073709551615-p/18446744073709551616+1)=(18446744073709551616-p/18446744073709551616)%18446744073709551616:=by rw[bO];omega
   have hb:decide (IntKind.i64.wrap ((18446744073709551616-p/18446744073709551616)%18446744073709551616)<0)=(decide (-170141183460469231731687303715884105728≤x)&&decide (x≤170141183460469231731687303715884105727)):=by
    rw[arh,ad7,acz,ad7,ad7,da];split<;>omega
   refine⟨IntKind.i64.wrap ((18446744073709551616-p/18446744073709551616)%18446744073709551616),0,?_,?_⟩
   ·rw[←hb];simp[ayI,OY,Qm,-shift,-una,w1,w2,w3,w4,hL,n1,n2,a1,a2]
   rw[acz,ad7,ad7,da];intro hh;split<;>omega
  have a1:IntKind.u64.wrap (18446744073709551615-p%18446744073709551616+1)=18446744073709551616-p%18446744073709551616:=by rw[bO];omega
  have a3:¬18446744073709551616-p%18446744073709551616=0:=by omega
  have hb:decide (IntKind.i64.wrap (18446744073709551615-p/18446744073709551616)<0)=(decide (-170141183460469231731687303715884105728≤x)&&decide (x≤170141183460469231731687303715884105727)):=by
   rw[arh,ad7,acz,ad7,ad7,da];split<;>omega
  refine⟨IntKind.i64.wrap (18446744073709551615-p/18446744073709551616),18446744073709551616-p%18446744073709551616,?_,?_⟩
  ·rw[←hb];simp[ayI,OY,Qm,-shift,-una,w1,w2,w3,w4,hL,n1,n2,a1,a3,al a3]
  rw[acz,ad7,ad7,da];intro hh;split<;>omega
 rw[alg hx]at hL ⊢;have hb:(!decide (IntKind.i64.wrap (p/18446744073709551616)<0))=(decide (-170141183460469231731687303715884105728≤x)&&decide (x≤170141183460469231731687303715884105727)):=by
  rw[arh,as9,atb,acz,ad7,ad7,da];split<;>omega
 refine⟨IntKind.i64.wrap (p/18446744073709551616),p%18446744073709551616,?_,?_⟩
 ·rw[←hb];simp[ayI,OY,Qm,-shift,-una,w1,w2,w3,w4,hL]
 rw[acz,ad7,ad7,da];intro hh;split<;>omega
theorem OO(x:Int)(hx:Ea x):∃hi lo,az I.qav [kU x]=some (.tup [ac hi,.int .u64 lo,.bool (iJ x)])∧(iJ x=true→hi=x/18446744073709551616∧lo=x%18446744073709551616):=by
 by_cases h:(x.natAbs:Int)<340282366920938463463374607431768211456
 ·exact Rs x h
 have:iJ x=false:=by
  unfold iJ;rw[avb,atb,atb];omega
 rw[this];exact⟨0,0,R1 x hx h,fun h=>by cases h⟩
theorem WO(x:Int)(hx:Ea x):∃n,az I.qbb [kU x]=some (.tup [ac n,.bool (fits x)])∧(fits x=true→n=x):=by
 rw[am aqx rfl];obtain⟨hi,lo,h,hv⟩:=OO x hx;refine⟨IntKind.i64.wrap lo,?_,?_⟩
 ·have key:fits x=(iJ x&&(decide (hi=0)&&decide (0≤IntKind.i64.wrap lo) ||decide (hi=-1)&&decide (IntKind.i64.wrap lo<0))):=by
   cases hin:iJ x with
   |false=>
    rw[avF];unfold iJ at hin;unfold fits;rw[avb,atb,atb]at hin ⊢;omega
   |true=>
    obtain⟨e1,e2⟩:=hv hin;have hw:=da lo;rw[al5,arh];unfold fits;simp only[acz,arX,ad7];split at hw<;>omega
  rw[key];simp only[kU]at h ⊢;generalize hw:IntKind.i64.wrap lo=w at *;cases hin:iJ x with
  |false=>
   rw[hin]at h;simp[ayo,bE,h,hw]
  |true=>
   rw[hin]at h;by_cases c1:hi=0
   ·subst c1;by_cases c2:0≤w
    ·simp[ayo,bE,h,hw,c2]
    simp[ayo,bE,h,hw,c2]
   by_cases c3:hi=-1
   ·subst c3;by_cases c2:w<0
    ·simp[ayo,bE,h,hw,c2]
    simp[ayo,bE,h,hw,c2]
   simp[ayo,bE,h,hw,c1,c3,al c1,al c3]
 intro hf;have hin:iJ x=true:=by
  unfold fits at hf;unfold iJ;simp only[acz,ad7]at hf ⊢;omega
 obtain⟨e1,e2⟩:=hv hin;unfold fits at hf;simp only[acz,ad7]at hf;rw[da];split<;>omega
def Ci(x:Int):aE×Int:=if iJ x then (iE x,0) else (aq,140)
theorem NB(x:Int)(hx:Ea x):az I.qbi [kU x]=some (.tup [(Ci x).1.a,ac (Ci x).2]):=by
 rw[am aqK rfl];obtain⟨hi,lo,h,hv⟩:=OO x hx;unfold Ci;simp only[kU]at h ⊢;cases hin:iJ x with
 |false=>
  rw[hin]at h;simp[azL,Zx,h,aq,aE.a]
 |true=>
  rw[hin]at h;obtain⟨e1,e2⟩:=hv hin;subst e1 e2;simp[azL,Zx,h,iE,aE.a]
abbrev Xr(X Y:aa)(a b:List Int)(s t:Bool)(o:List Int)(e6:aa)(e7:aa)(i:Int)(e11 e12 e13:aa):St:=
 ⟨[X,Y,.ptr 0 0 0 0,.ptr 1 0 0 0,.ptr 2 0 0 0,.ptr 3 0 0 0,e6,e7,.any,.any,ac i,e11,e12,e13],[.arr 9 0 [nA a s],.arr 9 0 [nA b t],.arr 9 0 [nA [0,0,0,0,0,0,0,0] false],.arr 9 0 [nA o false]]⟩
theorem mU{k:Nat}(h:k<4):k=0∨k=1∨k=2∨k=3:=by omega
theorem af5(X Y:aa)(p0 p1 p2 p3 p4 p5 p6 p7 q0 q1 q2 q3 q4 q5 q6 q7 r0 r1 r2 r3 r4 r5 r6 r7 c x y z:Int)(s t:Bool){i k:Nat}(hi:i<4)(hk:k<4)(hx:[p0,p1,p2,p3,p4,p5,p6,p7].getD i 0=x)(hy:[q0,q1,q2,q3,q4,q5,q6,q7].getD k 0=y)(hz:[r0,r1,r2,r3,r4,r5,r6,r7].getD (i+k) 0=z)(h1:0≤x*y∧x*y≤18446744065119617025)(h2:0≤z∧z<4294967296)(h3:0≤c∧c<4294967296) :
  aM code 4 [8,9,13] uq (Xr X Y [p0,p1,p2,p3,p4,p5,p6,p7] [q0,q1,q2,q3,q4,q5,q6,q7] s t [r0,r1,r2,r3,r4,r5,r6,r7] (ac i) (u64 c) i (.bool true) (ac k) .any)=aM code 4 [8,9,13] uq (Xr X Y [p0,p1,p2,p3,p4,p5,p6,p7] [q0,q1,q2,q3,q4,q5,q6,q7] s t ([r0,r1,r2,r3,r4,r5,r6,r7].set (i+k) ((z+x*y+c)%4294967296)) (ac i) (u64 ((z+x*y+c)/4294967296)) i (.bool true) (ac (k+1)) .any):=by
 have w1:IntKind.u64.wrap (x*y)=x*y:=by rw[bO];omega
 have w2:IntKind.u64.wrap (z+x*y)=z+x*y:=by rw[bO];omega
 have w3:IntKind.u64.wrap (z+x*y+c)=z+x*y+c:=by rw[bO];omega
 have t1:=th (n:=z+x*y+c) (by omega);have hw:IntKind.i64.wrap ((k:Int)+1)=k+1:=by rw[da];omega
 have hj:IntKind.i64.wrap ((i:Int)+k)=i+k:=by rw[da];omega
 rw[bj];rcases mU hi with rfl|rfl|rfl|rfl<;>rcases mU hk with rfl|rfl|rfl|rfl<;>(simp at hx hy hz hw hj;subst hx hy hz;simp[uq,aH,w1,w2,w3,t1,hw,hj,DS,-shift];try rfl)
theorem Al(X Y e6 e7:aa)(a b o:List Int)(s t:Bool)(i:Int):aM code 4 [8,9,13] uq (Xr X Y a b s t o e6 e7 i (.bool true) (ac 4) .any)=some (.ext 2,Xr X Y a b s t o e6 e7 i (.bool true) (ac 4) (.bool false)):=by
 rw[bj];simp[uq]
theorem afB(X Y:aa)(p0 p1 p2 p3 p4 p5 p6 p7 q0 q1 q2 q3 q4 q5 q6 q7 r0 r1 r2 r3 r4 r5 r6 r7 w0 w1 w2 w3 w4 w5 w6 w7 c:Int)(s t:Bool){i:Nat}(hi:i<4)
  (hI:aM code 4 [8,9,13] uq (Xr X Y [p0,p1,p2,p3,p4,p5,p6,p7] [q0,q1,q2,q3,q4,q5,q6,q7] s t [r0,r1,r2,r3,r4,r5,r6,r7] (ac i) (u64 0) i (.bool true) (ac 0) .any)=some (.ext 2,Xr X Y [p0,p1,p2,p3,p4,p5,p6,p7] [q0,q1,q2,q3,q4,q5,q6,q7] s t [w0,w1,w2,w3,w4,w5,w6,w7] (ac i) (u64 c) i (.bool true) (ac 4) (.bool false))) :
  aM code 4 [6,7,8,9,11,12,13] tC (Xr X Y [p0,p1,p2,p3,p4,p5,p6,p7] [q0,q1,q2,q3,q4,q5,q6,q7] s t [r0,r1,r2,r3,r4,r5,r6,r7] .any .any i .any .any .any)=aM code 4 [6,7,8,9,11,12,13] tC (Xr X Y [p0,p1,p2,p3,p4,p5,p6,p7] [q0,q1,q2,q3,q4,q5,q6,q7] s t ([w0,w1,w2,w3,w4,w5,w6,w7].set (i+4) c) .any .any (i+1) .any .any .any):=by
 have hw:IntKind.i64.wrap ((i:Int)+1)=i+1:=by rw[da];omega
 have hj:IntKind.i64.wrap ((i:Int)+4)=i+4:=by rw[da];omega
 rw[bj];rcases mU hi with rfl|rfl|rfl|rfl<;>(simp only[Xr,nA,af6,ajo,an7,ah5]at hI ⊢;simp at hI hw hj;simp[tC,aH,hw,hj,hI])
theorem XN(X Y:aa)(a b o:List Int)(s t:Bool):aM code 4 [6,7,8,9,11,12,13] tC (Xr X Y a b s t o .any .any 4 .any .any .any)=some (.ext 0,Xr X Y a b s t o .any .any 4 (.bool false) .any .any):=by
 rw[bj];simp[tC]
theorem RV(X Y:aa)(a0 a1 b0 b1:Int)(s t:Bool)(h1:0≤a0)(h2:a0<4294967296)(h3:0≤a1)(h4:a1<4294967296)(h5:0≤b0)(h6:b0<4294967296)(h7:0≤b1)(h8:b1<4294967296) :
  aM code 4 [6,7,8,9,11,12,13] tC (Xr X Y [a0,a1,0,0,0,0,0,0] [b0,b1,0,0,0,0,0,0] s t [0,0,0,0,0,0,0,0] .any .any 0 .any .any .any) =
   some (.ext 0,Xr X Y [a0,a1,0,0,0,0,0,0] [b0,b1,0,0,0,0,0,0] s t (pX ((a1*4294967296+a0)*(b1*4294967296+b0))) .any .any 4 (.bool false) .any .any):=by
 obtain⟨m0,m1,m2,m3,m4⟩:=abe (a:=a1*4294967296+a0) (b:=b1*4294967296+b0) rfl rfl h1 h2 h3 h4 h5 h6 h7 h8;rw[m0];have T:=fun r0 r1 r2 r3 r4 r5 r6 r7 c x y z i k hi hk=>af5 X Y a0 a1 0 0 0 0 0 0 b0 b1 0 0 0 0 0 0 r0 r1 r2 r3 r4 r5 r6 r7 c x y z s t (i:=i) (k:=k) hi hk;have O:=fun r0 r1 r2 r3 r4 r5 r6 r7 w0 w1 w2 w3 w4 w5 w6 w7 c i hi=>afB X Y a0 a1 0 0 0 0 0 0 b0 b1 0 0 0 0 0 0 r0 r1 r2 r3 r4 r5 r6 r7 w0 w1 w2 w3 w4 w5 w6 w7 c s t (i:=i) hi;have s00:=T 0 0 0 0 0 0 0 0 0 a0 b0 0 0 0 (by omega) (by omega) rfl rfl rfl m1 (by omega) (by omega);obtain⟨v0,ev0⟩:∃z,(0+a0*b0+0)%4294967296=z:=⟨_,rfl⟩;obtain⟨d0,ed0⟩:∃z,(0+a0*b0+0)/4294967296=z:=⟨_,rfl⟩;rw[ev0,ed0]at s00;have s01:=T v0 0 0 0 0 0 0 0 d0 a0 b1 0 0 1 (by omega) (by omega) rfl rfl rfl m3 (by omega) (by omega);obtain⟨v1,dv⟩:∃z,(0+a0*b1+d0)%4294967296=z:=⟨_,rfl⟩;obtain⟨d1,ed1⟩:∃z,(0+a0*b1+d0)/4294967296=z:=⟨_,rfl⟩;rw[dv,ed1]at s01;have s02:=T v0 v1 0 0 0 0 0 0 d1 a0 0 0 0 2 (by omega) (by omega) rfl rfl rfl (by simp) (by omega) (by omega);obtain⟨v2,IR⟩:∃z,(0+a0*0+d1)%4294967296=z:=⟨_,rfl⟩;obtain⟨d2,ed2⟩:∃z,(0+a0*0+d1)/4294967296=z:=⟨_,rfl⟩;rw[IR,ed2]at s02;simp only[at0,at1,atS]at IR ed2;have s03:=T v0 v1 v2 0 0 0 0 0 d2 a0 0 0 0 3 (by omega) (by omega) rfl rfl rfl (by simp) (by omega) (by omega);obtain⟨v3,ev3⟩:∃z,(0+a0*0+d2)%4294967296=z:=⟨_,rfl⟩;obtain⟨d3,ed3⟩:∃z,(0+a0*0+d2)/4294967296=z:=⟨_,rfl⟩;rw[ev3,ed3]at s03;simp only[at0,at1,atS]at ev3 ed3;have hI0:=(s00.trans (s01.trans (s02.trans s03))).trans (Al X Y _ _ _ _ _ s t 0);have t0:=O 0 0 0 0 0 0 0 0 v0 v1 v2 v3 0 0 0 0 d3 0 (by omega) hI0;have s10:=T v0 v1 v2 v3 d3 0 0 0 0 a1 b0 v1 1 0 (by omega) (by omega) rfl rfl rfl m2 (by omega) (by omega);obtain⟨v4,ev4⟩:∃z,(v1+a1*b0+0)%4294967296=z:=⟨_,rfl⟩;obtain⟨d4,ed4⟩:∃z,(v1+a1*b0+0)/4294967296=z:=⟨_,rfl⟩;rw[ev4,ed4]at s10;have s11:=T v0 v4 v2 v3 d3 0 0 0 d4 a1 b1 v2 1 1 (by omega) (by omega) rfl rfl rfl m4 (by omega) (by omega);obtain⟨v5,ev5⟩:∃z,(v2+a1*b1+d4)%4294967296=z:=⟨_,rfl⟩;obtain⟨d5,ed5⟩:∃z,(v2+a1*b1+d4)/4294967296=z:=⟨_,rfl⟩;rw[ev5,ed5]at s11;have s12:=T v0 v4 v5 v3 d3 0 0 0 d5 a1 0 v3 1 2 (by omega) (by omega) rfl rfl rfl (by simp) (by omega) (by omega);obtain⟨v6,ev6⟩:∃z,(v3+a1*0+d5)%4294967296=z:=⟨_,rfl⟩;obtain⟨d6,ed6⟩:∃z,(v3+a1*0+d5)/4294967296=z:=⟨_,rfl⟩;rw[ev6,ed6]at s12;simp only[at0,at1,atS]at ev6 ed6;have s13:=T v0 v4 v5 v6 d3 0 0 0 d6 a1 0 d3 1 3 (by omega) (by omega) rfl rfl rfl (by simp) (by omega) (by omega);obtain⟨v7,ev7⟩:∃z,(d3+a1*0+d6)%4294967296=z:=⟨_,rfl⟩;obtain⟨d7,ed7⟩:∃z,(d3+a1*0+d6)/4294967296=z:=⟨_,rfl⟩;rw[ev7,ed7]at s13;simp only[at0,at1,atS]at ev7 ed7;have hI1:=(s10.trans (s11.trans (s12.trans s13))).trans (Al X Y _ _ _ _ _ s t 1);have t1:=O v0 v1 v2 v3 d3 0 0 0 v0 v4 v5 v6 v7 0 0 0 d7 1 (by omega) hI1;have s20:=T v0 v4 v5 v6 v7 d7 0 0 0 0 b0 v5 2 0 (by omega) (by omega) rfl rfl rfl (by simp) (by omega) (by omega);obtain⟨v8,ev8⟩:∃z,(v5+0*b0+0)%4294967296=z:=⟨_,rfl⟩;obtain⟨d8,ed8⟩:∃z,(v5+0*b0+0)/4294967296=z:=⟨_,rfl⟩;rw[ev8,ed8]at s20;simp only[at0,at1,atS]at ev8 ed8;have s21:=T v0 v4 v8 v6 v7 d7 0 0 d8 0 b1 v6 2 1 (by omega) (by omega) rfl rfl rfl (by simp) (by omega) (by omega);obtain⟨v9,ev9⟩:∃z,(v6+0*b1+d8)%4294967296=z:=⟨_,rfl⟩;obtain⟨d9,ed9⟩:∃z,(v6+0*b1+d8)/4294967296=z:=⟨_,rfl⟩;rw[ev9,ed9]at s21;simp only[at0,at1,atS]at ev9 ed9;have s22:=T v0 v4 v8 v9 v7 d7 0 0 d9 0 0 v7 2 2 (by omega) (by omega) rfl rfl rfl (by simp) (by omega) (by omega);obtain⟨v10,ev10⟩:∃z,(v7+0*0+d9)%4294967296=z:=⟨_,rfl⟩;obtain⟨d10,ed10⟩:∃z,(v7+0*0+d9)/4294967296=z:=⟨_,rfl⟩;rw[ev10,ed10]at s22;simp only[at0,at1,atS]at ev10 ed10;have s23:=T v0 v4 v8 v9 v10 d7 0 0 d10 0 0 d7 2 3 (by omega) (by omega) rfl rfl rfl (by simp) (by omega) (by omega);obtain⟨v11,ev11⟩:∃z,(d7+0*0+d10)%4294967296=z:=⟨_,rfl⟩;obtain⟨d11,ed11⟩:∃z,(d7+0*0+d10)/4294967296=z:=⟨_,rfl⟩;rw[ev11,ed11]at s23;simp only[at0,at1,atS]at ev11 ed11;have hI2:=(s20.trans (s21.trans (s22.trans s23))).trans (Al X Y _ _ _ _ _ s t 2);have t2:=O v0 v4 v5 v6 v7 d7 0 0 v0 v4 v8 v9 v10 v11 0 0 d11 2 (by omega) hI2;have s30:=T v0 v4 v8 v9 v10 v11 d11 0 0 0 b0 v9 3 0 (by omega) (by omega) rfl rfl rfl (by simp) (by omega) (by omega);obtain⟨v12,ev12⟩:∃z,(v9+0*b0+0)%4294967296=z:=⟨_,rfl⟩;obtain⟨d12,ed12⟩:∃z,(v9+0*b0+0)/4294967296=z:=⟨_,rfl⟩;rw[ev12,ed12]at s30;simp only[at0,at1,atS]at ev12 ed12;have s31:=T v0 v4 v8 v12 v10 v11 d11 0 d12 0 b1 v10 3 1 (by omega) (by omega) rfl rfl rfl (by simp) (by omega) (by omega);obtain⟨v13,ev13⟩:∃z,(v10+0*b1+d12)%4294967296=z:=⟨_,rfl⟩;obtain⟨d13,ed13⟩:∃z,(v10+0*b1+d12)/4294967296=z:=⟨_,rfl⟩;rw[ev13,ed13]at s31;simp only[at0,at1,atS]at ev13 ed13;have s32:=T v0 v4 v8 v12 v13 v11 d11 0 d13 0 0 v11 3 2 (by omega) (by omega) rfl rfl rfl (by simp) (by omega) (by omega);obtain⟨v14,ev14⟩:∃z,(v11+0*0+d13)%4294967296=z:=⟨_,rfl⟩;obtain⟨d14,ed14⟩:∃z,(v11+0*0+d13)/4294967296=z:=⟨_,rfl⟩;rw[ev14,ed14]at s32;simp only[at0,at1,atS]at ev14 ed14;have s33:=T v0 v4 v8 v12 v13 v14 d11 0 d14 0 0 d11 3 3 (by omega) (by omega) rfl rfl rfl (by simp) (by omega) (by omega);obtain⟨v15,ev15⟩:∃z,(d11+0*0+d14)%4294967296=z:=⟨_,rfl⟩;obtain⟨d15,ed15⟩:∃z,(d11+0*0+d14)/4294967296=z:=⟨_,rfl⟩;rw[ev15,ed15]at s33;simp only[at0,at1,atS]at ev15 ed15;have hI3:=(s30.trans (s31.trans (s32.trans s33))).trans (Al X Y _ _ _ _ _ s t 3);have t3:=O v0 v4 v8 v9 v10 v11 d11 0 v0 v4 v8 v12 v13 v14 v15 0 d15 3 (by omega) hI3;generalize a0*b0=z00 at *;generalize a0*b1=z01 at *;generalize a1*b0=z10 at *;generalize a1*b1=z11 at *;have hD:[v0,v4,v8,v12,v13,v14,v15,d15]=pX (z11*18446744073709551616+(z10+z01)*4294967296+z00):=by
  simp only[pX,au4,and_true];refine⟨?_,?_,?_,?_,?_,?_,?_,?_⟩<;>omega
 rw[←hD];exact t0.trans (t1.trans (t2.trans (t3.trans (XN X Y _ _ _ s t))))
theorem Qy{p:Int}(h0:0≤p)(h:p<18446744073709551616):pX p=[p%4294967296,p/4294967296,0,0,0,0,0,0]:=by
 simp only[pX,au4,and_true];refine⟨?_,?_,?_,?_,?_,?_,?_,?_⟩<;>first|trivial|omega
theorem Xw(x y:Int)(hx:rg x)(hy:rg y):az I.qbe [kU x,kU y]=some (kU (x*y)):=by
 unfold rg at hx hy;have ax:(x.natAbs:Int)<18446744073709551616:=by omega
 have ay:(y.natAbs:Int)<18446744073709551616:=by omega
 have hm:=Mh x y;have hn:(0:Int)≤(x.natAbs:Int)*y.natAbs:=avG (by omega) (by omega);have hz0:(x.natAbs:Int)*y.natAbs≤85070591730234615865843651857942052864:=Int.le_trans (avZ (by omega:(x.natAbs:Int)≤9223372036854775808) (by omega:(y.natAbs:Int)≤9223372036854775808) (by omega) (by omega)) (by decide);have hne:(x.natAbs:Int)*y.natAbs=0↔(x=0∨y=0):=by rw[Int.mul_eq_zero];omega
 have hab:((x*y).natAbs:Int)=(x.natAbs:Int)*y.natAbs:=by rw[Int.natAbs_mul];rfl
 unfold kU;rw[hab,qG,qG,Qy (by omega) ax,Qy (by omega) ay,am amt rfl];have hL:=RV (nA [(x.natAbs:Int)%4294967296,x.natAbs/4294967296,0,0,0,0,0,0] (decide (x<0))) (nA [(y.natAbs:Int)%4294967296,y.natAbs/4294967296,0,0,0,0,0,0] (decide (y<0)))
  ((x.natAbs:Int)%4294967296) (x.natAbs/4294967296) ((y.natAbs:Int)%4294967296) (y.natAbs/4294967296) (decide (x<0)) (decide (y<0)) (by omega) (by omega) (by omega) (by omega) (by omega) (by omega) (by omega) (by omega)
 rw[show (x.natAbs:Int)/4294967296*4294967296+(x.natAbs:Int)%4294967296=x.natAbs by omega,show (y.natAbs:Int)/4294967296*4294967296+(y.natAbs:Int)%4294967296=y.natAbs by omega]at hL;have hz:=vQ (p:=(x.natAbs:Int)*y.natAbs) (by unfold Dq;omega) false;have hbel:decide (x*y<0)=((decide (x<0) != decide (y<0))&&!decide ((x.natAbs:Int)*y.natAbs=0)):=by
  rw[hm];generalize (x.natAbs:Int)*y.natAbs=z at *;rw[arh];by_cases h1:x<0<;>by_cases h2:y<0<;>simp[h1,h2]<;>omega
 rw[hbel];rw[qG]at hz ⊢;generalize (x.natAbs:Int)*y.natAbs=z at *;generalize (x.natAbs:Int)%4294967296=x0 at *;generalize (x.natAbs:Int)/4294967296=x1 at *;generalize (y.natAbs:Int)%4294967296=y0 at *;generalize (y.natAbs:Int)/4294967296=y1 at *;simp only[pX,Xr,nA,af6,ajo,an7,ah5]at hL hz ⊢
 try simp at hL
 generalize decide (x<0)=bx at *;generalize decide (y<0)=by' at *
 cases bx<;>cases by'<;>simp[aAr,ahH,hL,hz]
theorem Uo(x y:Int)(hx:rg x)(hy:rg y)(h0:y≠0):az I.qba [kU x,kU y]=some (kU (Jj x y)):=by
 unfold rg at hx hy;have ax:(x.natAbs:Int)<18446744073709551616:=by omega
 have ay:(y.natAbs:Int)<18446744073709551616:=by omega
 have hq0:0≤(x.natAbs:Int)/y.natAbs:=avu (by omega) (by omega);have hq1:(x.natAbs:Int)/y.natAbs≤x.natAbs:=avl _ (by omega);have hab:((Jj x y).natAbs:Int)=(x.natAbs:Int)/y.natAbs:=by unfold Jj;split<;>omega
 have hbel:decide (Jj x y<0)=((decide (x<0) != decide (y<0))&&decide ((x.natAbs:Int)/y.natAbs≠0)):=by
  unfold Jj;generalize (x.natAbs:Int)/y.natAbs=z at *;rw[arh];by_cases h1:x<0<;>by_cases h2:y<0<;>simp[h1,h2]<;>omega
 unfold kU;rw[hab,hbel,qG,qG,qG,Qy (by omega) ax,Qy (by omega) ay,Qy hq0 (by omega),am apS rfl];have w1:IntKind.u64.wrap ((x.natAbs:Int)/4294967296*4294967296)=(x.natAbs:Int)/4294967296*4294967296:=by rw[bO];omega
 have w2:IntKind.u64.wrap ((x.natAbs:Int)/4294967296*4294967296+(x.natAbs:Int)%4294967296)=x.natAbs:=by rw[bO];omega
 have w3:IntKind.u64.wrap ((y.natAbs:Int)/4294967296*4294967296)=(y.natAbs:Int)/4294967296*4294967296:=by rw[bO];omega
 have w4:IntKind.u64.wrap ((y.natAbs:Int)/4294967296*4294967296+(y.natAbs:Int)%4294967296)=y.natAbs:=by rw[bO];omega
 have w5:IntKind.u64.wrap ((x.natAbs:Int).tdiv y.natAbs)=(x.natAbs:Int)/y.natAbs:=by
  rw[avn (by omega),bO];omega
 have hy0:¬((y.natAbs:Int)=0):=by omega
 generalize hz:(x.natAbs:Int)/y.natAbs=z at *;have t1:=th (n:=z) hq0;generalize (x.natAbs:Int)%4294967296=x0 at *;generalize (x.natAbs:Int)/4294967296=x1 at *;generalize (y.natAbs:Int)%4294967296=y0 at *;generalize (y.natAbs:Int)/4294967296=y1 at *;generalize (x.natAbs:Int)=N at *;generalize (y.natAbs:Int)=M at *;simp only[nA,af6,ajo,an7,ah5];cases decide (x<0)<;>cases decide (y<0)<;>by_cases c:z=0<;>simp[aA2,ai7,Qm,DS,-shift,w1,w2,w3,w4,w5,hy0,t1,c]
theorem uZ(v:aE):az I.qbd [v.a]=some (.bool (dC v&&(v.k==0 ||v.k==2))):=by
 rw[am ane rfl];have h1:=dz v;obtain⟨k,n,u,s⟩:=v;simp only[dL]at *;cases ho:dC ⟨k,n,u,s⟩ with
 |false=>rw[ho]at h1;simp[azc,U2,h1]
 |true=>
  rw[ho]at h1;by_cases c:k=0
  ·subst c;simp[azc,U2,h1]
  simp[azc,U2,h1,al c]
theorem xj(v:aE):az I.qbg [v.a]=some (.bool (dC v&&(v.k==0 ||v.k==4))):=by
 rw[am aon rfl];have h1:=dz v;obtain⟨k,n,u,s⟩:=v;simp only[dL]at *;cases ho:dC ⟨k,n,u,s⟩ with
 |false=>rw[ho]at h1;simp[azq,Xl,h1]
 |true=>
  rw[ho]at h1;by_cases c:k=0
  ·subst c;simp[azq,Xl,h1]
  simp[azq,Xl,h1,al c]
def Jh(g:aa)(F:aE→aE→aE×Int)(ok:aE→Prop):Prop:=∀a b σ,ok b→du code g [a.a,b.a] σ=some (.tup [(F a b).1.a,ac (F a b).2],σ)
theorem iC{f:Nat}(hp:aC f){F:aE→aE→aE×Int}{ok:aE→Prop}(h:∀a b,ok b→az f [a.a,b.a]=some (.tup [(F a b).1.a,ac (F a b).2])):Jh (Me f) F ok:=fun a b σ hb=>by
 have:=h a b hb;simp[hp _ _,this]
abbrev fP(_:aE):Prop:=True
theorem Qg{f:Nat}(hp:aC f){F:aE→aE×Int}(h:∀a,az f [a.a]=some (.tup [(F a).1.a,ac (F a).2])):Jh (XT I.qew (Me f)) (fun a _=>F a) fP:=fun a b σ _=>by
 have h:=h a;have:az I.qew [a.a,b.a,.cptr false (Me f) 0]=some (.tup [(F a).1.a,ac (F a).2]):=by
  rw[am apo rfl];simp only[aE.a]at *;simp[aA7,ahR,hp _ _,h]
 simp[this]
theorem Wg(is:Bool):Jh (XT I.qfb (.bool is)) (fun a _=>(bG ((a.k==0)==is),0)) fP:=fun a b σ _=>by
 have:az I.qfb [a.a,b.a,.cptr false (.bool is) 0]=some (.tup [(bG ((a.k==0)==is)).a,ac 0]):=by
  rw[am apc rfl];simp only[aE.a];simp[aBm,ahb,neg,bG,aE.a]
 simp[this]
theorem XS{f:Nat}(hp:aC f){F:aE→aE→aE×Int}(h:∀a b,az f [a.a,b.a]=some (.tup [(F a b).1.a,ac (F a b).2]))(a b:aE) :
  az I.qfi [a.a,b.a,.cptr false (Me f) 0]=some (.tup [(F b a).1.a,ac (F b a).2]):=by
 have h:=h b a;rw[am aqj rfl];simp only[aE.a]at *;simp[az6,aio,hp _ _,h]
def wq(p:aE×Int):aE×Int:=if p.2=0 then kP p.1 else p
theorem akz{g:aa}{F:aE→aE→aE×Int}(hg:Jh g F fP)(hn:aw g=1∧isAgg g=false)(hz:∀fl top base σ n,fz fl top base σ (n+4) g=g)(a b:aE) :
  az I.qez [a.a,b.a,.cptr false g 0]=some (.tup [(wq (F a b)).1.a,ac (wq (F a b)).2]):=by
 have h:=fun σ=>hg a b σ trivial;rw[am amB rfl];have h2:=aiF (F a b).1;unfold wq;generalize F a b=p at *;obtain⟨v,no⟩:=p;simp only at *;by_cases h0:no=0
 ·subst h0;simp only[aE.a,aml]at *;simp[azR,Zw,h,h2,hn]
 simp only[aE.a,if_neg h0]at *;simp[azR,Zw,h,aR h0,hn]
noncomputable def im(t:Int)(a b:aE):aE×Int:=
 if t=4 then cd (cJ I.ql) (bL 0) a else if t=5 then kP a else if t=6 then (bG ((a.k==0)==true),0) else if t=7 then (bG ((a.k==0)==false),0)
 else if t=12 then cd (cJ I.qb) a b else if t=13 then cd (cJ I.ql) a b else if t=14 then cd (cJ I.qi) a b else if t=15 then cd (cJ I.qe) a b
 else if t=16 then nR a b else if t=17 then wq (nR a b) else if t=18 then kF a b else if t=20 then kF b a else if t=19 then wq (kF b a) else if t=21 then wq (kF a b)
 else if t=22 then eS min a b else eS max a b
theorem alV(t:Int)(h:1≤aI t):∃g,lookup (ac t) Pc=some (some g)∧Jh g (im t) (fun b=>rg b.n):=by
 have ht:t=4∨t=5∨t=6∨t=7∨t=12∨t=13∨t=14∨t=15∨t=16∨t=17∨t=18∨t=19∨t=20∨t=21∨t=22∨t=23:=by
  unfold aI at h;repeat' split at h
  all_goals omega
 have w:∀{g F},Jh g F fP→Jh g F (fun b=>rg b.n):=fun h a b σ _=>h a b σ trivial;have tl:Jh (XT I.qfi (Me I.qhv)) (fun a b=>kF b a) fP:=fun a b σ _=>by
  have:=XS abI RH a b;simp[this]
 have nt:∀{g F},Jh g F fP→(aw g=1∧isAgg g=false)→(∀fl top base σ n,fz fl top base σ (n+4) g=g)→Jh (XT I.qez g) (fun a b=>wq (F a b)) fP:=fun h h1 h2 a b σ _=>by
  have:=akz h h1 h2 a b;simp[this]
 rcases ht with rfl|rfl|rfl|rfl|rfl|rfl|rfl|rfl|rfl|rfl|rfl|rfl|rfl|rfl|rfl|rfl
 ·exact⟨_,rfl,w (Qg asJ an3)⟩
 ·exact⟨_,rfl,w (Qg aop aiF)⟩
 ·exact⟨_,rfl,w (Wg true)⟩
 ·exact⟨_,rfl,w (Wg false)⟩
 ·exact⟨_,rfl,w (iC asp fun a b _=>aqF a b)⟩
 ·exact⟨_,rfl,w (iC arO fun a b _=>aiY a b)⟩
 ·exact⟨_,rfl,w (iC ar4 fun a b _=>anY a b)⟩
 ·exact⟨_,rfl,iC asj fun a b h=>aq3 a b h⟩
 ·exact⟨_,rfl,w (iC ah0 fun a b _=>U9 a b)⟩
 ·exact⟨_,rfl,w (nt (iC ah0 fun a b _=>U9 a b) ⟨rfl,rfl⟩ (fun _ _ _ _ _=>by simp))⟩
 ·exact⟨_,rfl,w (iC abI fun a b _=>RH a b)⟩
 ·exact⟨_,rfl,w (nt tl ⟨rfl,rfl⟩ (fun _ _ _ _ _=>by simp))⟩
 ·exact⟨_,rfl,w tl⟩
 ·exact⟨_,rfl,w (nt (iC abI fun a b _=>RH a b) ⟨rfl,rfl⟩ (fun _ _ _ _ _=>by simp))⟩
 ·exact⟨_,rfl,w (iC aoB fun a b _=>ano a b)⟩
 exact⟨_,rfl,w (iC aoa fun a b _=>asP a b)⟩
def jz(x:Int)(a b:aE):aE×Int:=
 if kO 2 [a,b]=0 then (if a.k=0∨b.k=0 then (aq,0) else if fits x then (bL x,0) else (aq,140)) else (aq,kO 2 [a,b])
theorem LR{to:Int→Int→Int×Bool}{a b:aE}{x:Int}(h:yM (to a.n b.n) x):cd to a b=jz x a b:=by
 unfold cd jz;obtain⟨h1,h2⟩:=h;split
 ·split
  ·rfl
  rw[h1];cases hf:fits x with
  |false=>rfl
  |true=>
   rw[hf]at h1;rw[h2 h1]
 rfl
theorem WH(a b:aE):kO 2 [a,b]=if (dC a&&dC b)=false then 120 else if ((a.k==0 ||a.k==2)&&(b.k==0 ||b.k==2))=false then 2 else 0:=by
 unfold kO;simp only[aty,avU,auq];cases (dC a&&dC b)<;>cases ((a.k==0 ||a.k==2)&&(b.k==0 ||b.k==2))<;>rfl
theorem pA(y:Int):∃d0 d1 d2 d3 d4 d5 d6 d7 b,kU y=.agg [u64 d0,u64 d1,u64 d2,u64 d3,u64 d4,u64 d5,u64 d6,u64 d7,.bool b]:=⟨_,_,_,_,_,_,_,_,_,rfl⟩
theorem af7(op:Int)(a b:aE)(x:Int)(hx:Ea x)(ha:rg a.n)(hb:rg b.n)
  (hop:op=43∧x=a.n+b.n∨op=45∧x=a.n-b.n∨op=42∧x=a.n*b.n∨(op=47∧b.n≠0∧x=Jj a.n b.n)) :
  az I.qat [.int .u8 op,a.a,b.a]=some (.tup [(jz x a b).1.a,ac (jz x a b).2]):=by
 rw[am ajg rfl];have h1:=dz a;have h2:=dz b;have t1:=uZ a;have t2:=uZ b;have i1:=Nk ha;have i2:=Nk hb;have hpl:=Av a.n b.n (by unfold rg at ha;unfold Ea;omega) (by unfold rg at hb;unfold Ea;omega);have htu:=aaS (x:=b.n) (by unfold rg at hb;unfold Dq;omega);have hmi:=Av a.n (-b.n) (by unfold rg at ha;unfold Ea;omega) (by unfold rg at hb;unfold Ea;omega);have htm:=Xw a.n b.n ha hb;have hqu:=fun h0=>Uo a.n b.n ha hb h0;obtain⟨n,hs,hsv⟩:=WO x hx;have hI:=Ez x;unfold jz;rw[WH];obtain⟨k,an,u,s⟩:=a;obtain⟨k',bn,u',s'⟩:=b;simp only[dL]at *;obtain⟨d0,d1,d2,d3,d4,d5,d6,d7,db,eD⟩:=pA an;obtain⟨f0,f1,f2,f3,f4,f5,f6,f7,fb,eF⟩:=pA bn;obtain⟨g0,g1,g2,g3,g4,g5,g6,g7,gb,eG⟩:=pA (-bn);obtain⟨x0,x1,x2,x3,x4,x5,x6,x7,xb,eX⟩:=pA x;rw[Int.sub_eq_add_neg]at hop;cases ho:dC ⟨k,an,u,s⟩ with
 |false=>
  rw[ho]at h1;simp[axU,jC,h1,aq,aE.a]
 |true=>
 rw[ho]at h1 t1;cases ho':dC ⟨k',bn,u',s'⟩ with
 |false=>
  rw[ho']at h2;simp[axU,jC,h1,h2,aq,aE.a]
 |true=>
 rw[ho']at h2 t2;rw[al5]at t1 t2;simp only[al5,asf,ali];cases hk:(k==0 ||k==2) with
 |false=>
  rw[hk]at t1;simp[axU,jC,h1,h2,t1,aq,aE.a]
 |true=>
 rw[hk]at t1;cases hk':(k' == 0 ||k' == 2) with
 |false=>
  rw[hk']at t2;simp[axU,jC,h1,h2,t1,t2,aq,aE.a]
 |true=>
 rw[hk']at t2;simp only[al5,asf,ali,↓reduceIte];by_cases c1:k=0
 ·subst c1;rw[if_pos (.inl rfl)];simp[axU,jC,h1,h2,t1,t2,aq,aE.a]
 by_cases c2:k'=0
 ·subst c2;rw[if_pos (.inr rfl)];simp[axU,jC,h1,h2,t1,t2,c1,al c1,aq,aE.a]
 rw[if_neg (fun h=>h.elim c1 c2)];have b1:=al c1;have b2:=al c2;simp only[bL,aE.a]at hI;rw[eD,eF]at hpl htm;rw[eD,eG]at hmi;rw[eF,eG]at htu;rw[eX]at hs;rw[eD]at i1;rw[eF]at i2;simp only[eD,eF]at hqu;cases hf:fits x with
 |false=>
  rw[hf]at hs;rcases hop with⟨rfl,rfl⟩|⟨rfl,rfl⟩|⟨rfl,rfl⟩|⟨rfl,h0,rfl⟩<;>simp only[eX]at hpl hmi htm hqu
  ·simp[axU,jC,h1,h2,t1,t2,c1,b1,c2,b2,i1,i2,hpl,hs,aq,aE.a]
  ·skip
   simp[axU,jC,h1,h2,t1,t2,c1,b1,c2,b2,i1,i2,htu,hmi,hs,aq,aE.a]
  ·simp[axU,jC,h1,h2,t1,t2,c1,b1,c2,b2,i1,i2,htm,hs,aq,aE.a]
  simp[axU,jC,h1,h2,t1,t2,c1,b1,c2,b2,i1,i2,h0,al h0,hqu h0,hs,aq,aE.a]
 |true=>
  rw[hf]at hs;rw[hsv hf]at hs;rcases hop with⟨rfl,rfl⟩|⟨rfl,rfl⟩|⟨rfl,rfl⟩|⟨rfl,h0,rfl⟩<;>simp only[eX]at hpl hmi htm hqu
  ·simp[axU,jC,h1,h2,t1,t2,c1,b1,c2,b2,i1,i2,hpl,hs,hI,bL,aE.a]
  ·skip
   simp[axU,jC,h1,h2,t1,t2,c1,b1,c2,b2,i1,i2,htu,hmi,hs,hI,bL,aE.a]
  ·simp[axU,jC,h1,h2,t1,t2,c1,b1,c2,b2,i1,i2,htm,hs,hI,bL,aE.a]
  simp[axU,jC,h1,h2,t1,t2,c1,b1,c2,b2,i1,i2,h0,al h0,hqu h0,hs,hI,bL,aE.a]
theorem iA{x:Int}:iJ x=true↔(-170141183460469231731687303715884105728≤x∧x≤170141183460469231731687303715884105727):=by
 unfold iJ;simp
theorem aj9{x y:Int}(hx:iJ x=true)(hy:iJ y=true):az I.qp [(iE x).a,(iE y).a]=some (.tup [(Ci (x+y)).1.a,ac (Ci (x+y)).2]):=by
 rw[am aqW rfl];rw[iA]at hx hy;have h1:=Fc (x:=x%18446744073709551616) (y:=y%18446744073709551616) (c:=0) (by unfold nv;omega) (by unfold nv;omega) (by omega);have h2:=Fc (x:=IntKind.u64.wrap (x/18446744073709551616)) (y:=IntKind.u64.wrap (y/18446744073709551616)) (c:=(x%18446744073709551616+y%18446744073709551616)/18446744073709551616)
  (by rw[bO];unfold nv;omega) (by rw[bO];unfold nv;omega) (by omega)
 have e:IntKind.i64.wrap ((IntKind.u64.wrap (x/18446744073709551616)+IntKind.u64.wrap (y/18446744073709551616)+(x%18446744073709551616+y%18446744073709551616)/18446744073709551616)%18446744073709551616)=IntKind.i64.wrap ((x+y)/18446744073709551616):=by
  rw[bO,bO,da,da];split<;>split<;>omega
 have e2:(x%18446744073709551616+y%18446744073709551616)%18446744073709551616=(x+y)%18446744073709551616:=by omega
 have hw:=da ((x+y)/18446744073709551616);have h3:FU (tx (x/18446744073709551616) (IntKind.i64.wrap ((x+y)/18446744073709551616))) (tx (y/18446744073709551616) (IntKind.i64.wrap ((x+y)/18446744073709551616)))<0↔iJ (x+y)=false:=by
  rw[T8 (by unfold rg;omega) (mz _) (by unfold rg;omega) (mz _),←Bool.not_eq_true,iA];generalize IntKind.i64.wrap ((x+y)/18446744073709551616)=c at *;by_cases a:x/18446744073709551616<0<;>by_cases b:y/18446744073709551616<0<;>by_cases cc:c<0<;>simp[a,b,cc]<;>split at hw<;>omega
 simp only[atS]at h1;unfold Ci;cases hin:iJ (x+y) with
 |true=>
  have hc:IntKind.i64.wrap ((x+y)/18446744073709551616)=(x+y)/18446744073709551616:=by
   rw[iA]at hin;rw[hw];split<;>omega
  rw[hc]at h3 e;have h3':=mt h3.1 (by simp[hin]);simp only[aml,aE.a,iE];simp[ayZ,aeB,h1,h2,e,e2,vc,we,h3']
 |false=>
  have h3':=h3.2 hin;simp only[ai1,ali,aE.a,iE,aq];simp[ayZ,aeB,h1,h2,e,e2,vc,we,h3']
def kv(v:aE):Int:=v.n*18446744073709551616+v.u
theorem wL{v:aE}(h1:rg v.n)(h2:nv v.u):iJ (kv v)=true:=by
 rw[iA];unfold rg at h1;unfold nv at h2;unfold kv;omega
theorem NW{v:aE}(h0:dC v=true)(h4:v.k=4)(h2:nv v.u):v=iE (kv v):=by
 obtain⟨k,n,u,s⟩:=v;simp only at h4;subst h4;rw[Hg]at h0;simp at h0;subst h0;unfold nv at h2;simp only at h2;unfold iE kv;simp only;congr 1<;>omega
theorem acf(x:Int):kv (iE x)=x:=by unfold kv iE;simp only;omega
def lJ(s t:aE):aE×Int:=if kO 4 [s,t]=0 then (if s.k=0 then (t,0) else if t.k=0 then (s,0) else Ci (kv s+kv t)) else (aq,kO 4 [s,t])
theorem SZ{s t:aE}(h:kO 4 [s,t]=0):dC s=true∧dC t=true∧(s.k=0∨s.k=4)∧(t.k=0∨t.k=4):=by
 unfold kO at h;simp only[aty,avU,auq]at h;cases h1:dC s<;>cases h2:dC t<;>rw[h1,h2]at h<;>simp at h;exact⟨rfl,rfl,h.1,Decidable.or_iff_not_imp_left.2 h.2⟩
theorem alx(s t:aE)(h1:rg s.n)(h2:nv s.u)(h3:rg t.n)(h4:nv t.u):az I.qg [s.a,t.a]=some (.tup [(lJ s t).1.a,ac (lJ s t).2]):=by
 rw[am ao7 rfl];have ha:=fun b=>apD 4 b s t;unfold lJ;by_cases e:kO 4 [s,t]=0
 ·rw[if_pos e];rw[e]at ha;obtain⟨o1,o2,k1,k2⟩:=SZ e;by_cases c1:s.k=0
  ·rw[if_pos c1];obtain⟨k,n,u,x⟩:=s;obtain⟨k',n',u',x'⟩:=t;simp only at c1;subst c1;simp only[dL]at ha ⊢;simp[axR,aav,ha]
  rw[if_neg c1];by_cases c2:t.k=0
  ·rw[if_pos c2];obtain⟨k,n,u,x⟩:=s;obtain⟨k',n',u',x'⟩:=t;simp only at c1 c2;subst c2;simp only[dL]at ha ⊢;simp[axR,aav,ha,c1,al c1]
  rw[if_neg c2];have hp:=aj9 (wL h1 h2) (wL h3 h4);rw[←NW o1 (k1.resolve_left c1) h2,←NW o2 (k2.resolve_left c2) h4]at hp;generalize Ci (kv s+kv t)=R at *;obtain⟨⟨rk,rn,ru,rs⟩,re⟩:=R;obtain⟨k,n,u,x⟩:=s;obtain⟨k',n',u',x'⟩:=t;simp only at c1 c2;simp only[dL]at ha hp ⊢;simp[axR,aav,ha,hp,c1,al c1,c2,al c2]
 rw[if_neg e];generalize kO 4 [s,t]=w at *;obtain⟨k,n,u,x⟩:=s;obtain⟨k',n',u',x'⟩:=t;simp only[dL,aq]at ha ⊢;simp[axR,aav,ha,e,aR e]
theorem aaq(a b:aE):kO 4 [a,b]=if (dC a&&dC b)=false then 120 else if ((a.k==0 ||a.k==4)&&(b.k==0 ||b.k==4))=false then 2 else 0:=by
 unfold kO;simp only[aty,avU,auq];cases (dC a&&dC b)<;>cases ((a.k==0 ||a.k==4)&&(b.k==0 ||b.k==4))<;>rfl
theorem ab1(s t:aE)(h1:rg s.n)(h2:nv s.u)(h3:rg t.n)(h4:nv t.u):az I.qax [s.a,t.a]=some (.tup [(lJ s t).1.a,ac (lJ s t).2]):=by
 rw[am aqT rfl];have r1:=dz s;have r2:=dz t;have u1:=xj s;have u2:=xj t;have o1:=XA h1 h2;have o2:=XA h3 h4;have g1:=wL h1 h2;have g2:=wL h3 h4;rw[iA]at g1 g2;have hp:=Av (kv s) (kv t) (by unfold Ea;omega) (by unfold Ea;omega);have hs:=NB (kv s+kv t) (by unfold Ea;omega);unfold lJ;rw[aaq];rw[show s.n*18446744073709551616+s.u=kv s from rfl]at o1;rw[show t.n*18446744073709551616+t.u=kv t from rfl]at o2;obtain⟨d0,d1,d2,d3,d4,d5,d6,d7,db,eD⟩:=pA (kv s);obtain⟨f0,f1,f2,f3,f4,f5,f6,f7,fb,eF⟩:=pA (kv t);obtain⟨x0,x1,x2,x3,x4,x5,x6,x7,xb,eX⟩:=pA (kv s+kv t);rw[eD,eF,eX]at hp;rw[eX]at hs;rw[eD]at o1;rw[eF]at o2;generalize Ci (kv s+kv t)=R at *;obtain⟨⟨rk,rn,ru,rs⟩,re⟩:=R;obtain⟨k,n,u,x⟩:=s;obtain⟨k',n',u',x'⟩:=t;simp only[dL]at *;cases ho:dC ⟨k,n,u,x⟩ with
 |false=>
  rw[ho]at r1;simp[ayf,DE,r1,aq,aE.a]
 |true=>
 rw[ho]at r1 u1;cases ho':dC ⟨k',n',u',x'⟩ with
 |false=>
  rw[ho']at r2;simp[ayf,DE,r1,r2,aq,aE.a]
 |true=>
 rw[ho']at r2 u2;rw[al5]at u1 u2;simp only[al5,asf,ali];cases hk:(k==0 ||k==4) with
 |false=>
  rw[hk]at u1;simp[ayf,DE,r1,r2,u1,aq,aE.a]
 |true=>
 rw[hk]at u1;cases hk':(k' == 0 ||k' == 4) with
 |false=>
  rw[hk']at u2;simp[ayf,DE,r1,r2,u1,u2,aq,aE.a]
 |true=>
 rw[hk']at u2;simp only[al5,asf,ali,↓reduceIte];by_cases c1:k=0
 ·subst c1;simp[ayf,DE,r1,r2,u1,u2,dL]
 by_cases c2:k'=0
 ·subst c2;rw[if_neg c1];simp[ayf,DE,r1,r2,u1,u2,c1,al c1,dL]
 rw[if_neg c1,if_neg c2];simp[ayf,DE,r1,r2,u1,u2,c1,al c1,c2,al c2,o1,o2,hp,hs,dL]
theorem Nq(s:Option Int)(v:aE)(hs:Wn s)(hv:rg v.n) :
  az I.qbc [(fQ s).a,v.a]=some (.tup [(if kM v=0 then fQ (gf s v) else aq).a,ac (kM v)]):=by
 rw[am aps rfl];have r1:=dz (fQ s);have r2:=dz v;have u1:=xj (fQ s);have t2:=uZ v;have i2:=Nk hv;rw[Rm]at r1 u1;have hk:((fQ s).k==0 ||(fQ s).k==4)=true:=by cases s<;>rfl
 rw[hk]at u1;unfold kM;unfold Wn sz at hs;have hvv:=hv;unfold rg at hvv;have hv128:iJ v.n=true:=by rw[iA];omega
 have s1:=NB v.n (by unfold Ea;omega);have hp:=fun x (h:sz x)=>Av x v.n (by unfold sz at h;unfold Ea;omega) (by unfold Ea;omega);have hsm:=fun x (h:sz x)=>NB (x+v.n) (by unfold sz at h;unfold Ea;omega);have ho':=fun x (h:sz x)=>XA (n:=x/18446744073709551616) (u:=x%18446744073709551616) (by unfold sz at h;unfold rg;omega) (by unfold nv;omega);obtain⟨f0,f1,f2,f3,f4,f5,f6,f7,fb,eF⟩:=pA v.n;by_cases ho:dC v=true
 ·rw[ho]at r2 t2 ⊢;simp only[asf,ali];rw[al5]at t2;by_cases hk0:v.k=0
  ·rw[show (if v.k=0∨v.k=2 then (0:Int) else 2)=0 from if_pos (.inl hk0),if_pos rfl];unfold gf;rw[if_pos hk0];rw[hk0]at t2;simp at t2;generalize fQ s=S at *;obtain⟨k,n,u,x⟩:=v;obtain⟨k',n',u',x'⟩:=S;simp only at hk0;subst hk0;simp only[dL]at *;simp[ayp,Kg,r1,r2,u1,t2]
  by_cases hk2:v.k=2
  ·rw[show (if v.k=0∨v.k=2 then (0:Int) else 2)=0 from if_pos (.inr hk2),if_pos rfl];rw[hk2]at t2;simp at t2;unfold gf;rw[if_neg hk0];cases s with
   |none=>
    simp only[fQ,avi,Int.zero_add]at *;unfold Ci at s1;rw[hv128,if_pos rfl]at s1;rw[eF]at i2 s1;obtain⟨k,n,u,x⟩:=v;simp only at hk0 hk2;subst hk2;simp only[dL,aq,iE]at *;simp[ayp,Kg,r1,r2,u1,t2,i2,s1]
   |some y=>
    simp only[ary]at hs;have hp1:=hp y hs;have hsm1:=hsm y hs;have ho1:=ho' y hs;have hin:iJ (y+v.n)=true:=by rw[iA];omega
    unfold Ci at hsm1;rw[hin,if_pos rfl]at hsm1;rw[show y/18446744073709551616*18446744073709551616+y%18446744073709551616=y by omega]at ho1;obtain⟨d0,d1,d2,d3,d4,d5,d6,d7,db,eD⟩:=pA y;obtain⟨x0,x1,x2,x3,x4,x5,x6,x7,xb,eX⟩:=pA (y+v.n);rw[eD,eF,eX]at hp1;rw[eX]at hsm1;rw[eD]at ho1;rw[eF]at i2;clear hp hsm ho' s1;simp only[fQ,ary]at *;obtain⟨k,n,u,x⟩:=v;simp only at hk0 hk2;subst hk2;simp only[dL,iE]at *;simp[ayp,Kg,r1,r2,u1,t2,i2,ho1,hp1,hsm1]
  have hkk:¬(v.k=0∨v.k=2):=by omega
  rw[show (if v.k=0∨v.k=2 then (0:Int) else 2)=2 from if_neg hkk,if_neg (by decide)];rw[al hk0,al hk2,Bool.or_self]at t2;generalize fQ s=S at *;obtain⟨k,n,u,x⟩:=v;obtain⟨k',n',u',x'⟩:=S;simp only[dL,aq]at *;simp[ayp,Kg,r1,r2,u1,t2]
 have ho:dC v=false:=by simpa using ho
 rw[show (if dC v=false then (120:Int) else if v.k=0∨v.k=2 then 0 else 2)=120 from if_pos ho,if_neg (by decide)];rw[ho]at r2;generalize fQ s=S at *;obtain⟨k,n,u,x⟩:=v;obtain⟨k',n',u',x'⟩:=S;simp only[dL,aq]at *;simp[ayp,Kg,r1,r2]
def vK(s:aE):aE×Int:=if kO 4 [s]=0 then (if s.k=0 then (s,0) else if fits (kv s) then (bL (kv s),0) else (aq,140)) else (aq,kO 4 [s])
theorem IJ(s:aE):kO 4 [s]=if dC s=false then 120 else if (s.k==0 ||s.k==4)=false then 2 else 0:=by
 unfold kO;simp only[aty,avU,auq];cases dC s<;>cases (s.k==0 ||s.k==4)<;>rfl
theorem KZ(s:aE)(h1:rg s.n)(h2:nv s.u):az I.qau [s.a]=some (.tup [(vK s).1.a,ac (vK s).2]):=by
 rw[am anU rfl];have r1:=dz s;have u1:=xj s;have o1:=XA h1 h2;have g1:=wL h1 h2;rw[iA]at g1;obtain⟨n',hs,hsv⟩:=WO (kv s) (by unfold Ea;omega);have hI:=Ez (kv s);rw[show s.n*18446744073709551616+s.u=kv s from rfl]at o1;obtain⟨d0,d1,d2,d3,d4,d5,d6,d7,db,eD⟩:=pA (kv s);rw[eD]at o1 hs;unfold vK;rw[IJ];generalize kv s=N at *;obtain⟨k,n,u,x⟩:=s;simp only[dL]at *;cases ho:dC ⟨k,n,u,x⟩ with
 |false=>
  rw[ho]at r1;simp[ayv,KJ,r1,aq,aE.a]
 |true=>
 rw[ho]at r1 u1;rw[al5]at u1;simp only[asf,ali];cases hk:(k==0 ||k==4) with
 |false=>
  rw[hk]at u1;simp[ayv,KJ,r1,u1,aq,aE.a]
 |true=>
 rw[hk]at u1;simp only[asf,ali,↓reduceIte];by_cases c1:k=0
 ·subst c1;simp[ayv,KJ,r1,u1,dL]
 rw[if_neg c1];cases hf:fits N with
 |false=>
  rw[hf]at hs;simp[ayv,KJ,r1,u1,c1,al c1,o1,hs,aq,aE.a]
 |true=>
  rw[hf]at hs;rw[hsv hf]at hs;simp only[bL,aE.a]at hI;simp[ayv,KJ,r1,u1,c1,al c1,o1,hs,hI,bL,aE.a]
theorem amy(s:aE)(h1:rg s.n)(h2:nv s.u):az I.qf [s.a]=some (.tup [(vK s).1.a,ac (vK s).2]):=by
 rw[am apr rfl];have ha:=fun b=>agA 4 b s;unfold vK;by_cases e:kO 4 [s]=0
 ·rw[if_pos e];rw[e]at ha;have e':=e;rw[IJ]at e';by_cases c1:s.k=0
  ·rw[if_pos c1];obtain⟨k,n,u,x⟩:=s;simp only at c1;subst c1;simp only[dL]at ha ⊢;simp[axN,Jf,ha]
  rw[if_neg c1];have o1:dC s=true:=by cases h:dC s<;>rw[h]at e'<;>simp at e' ⊢
  have k4:s.k=4:=by
   rw[o1]at e';simp[c1]at e';exact e'
  have hs0:=NW o1 k4 h2;have h128:=wL h1 h2;rw[iA]at h128;generalize kv s=N at *;subst hs0;have hr:rg (IntKind.i64.wrap (iE N).u):=mz _;have h3:=Rh (bL (IntKind.i64.wrap (iE N).u)) hr;have ew:(iE N).u=N%18446744073709551616:=rfl;rw[ew]at hr h3;have hwd:=da (N%18446744073709551616);cases hf:fits N with
  |true=>
   unfold fits at hf;simp only[acz,ad7]at hf;have hw:IntKind.i64.wrap (N%18446744073709551616)=N:=by rw[hwd];split<;>omega
   rw[hw]at h3;simp only[aml,bL,aE.a,iE]at *;simp[axN,Jf,ha,h3,hw,bL,aE.a]
  |false=>
   have hxw:N≠IntKind.i64.wrap (N%18446744073709551616):=fun h=>by
    have:=afm hr;rw[←h,hf]at this;cases this
   generalize hg:IntKind.i64.wrap (N%18446744073709551616)=w at *;simp only[ai1,ali,bL,aE.a,iE,aq]at *;by_cases hq:w/18446744073709551616=N/18446744073709551616
   ·have hq2:w%18446744073709551616≠N%18446744073709551616:=by omega
    simp[axN,Jf,ha,h3,hg,bL,aE.a,hq,al hq2]
   simp[axN,Jf,ha,h3,hg,bL,aE.a,al hq]
 rw[if_neg e];generalize kO 4 [s]=w at *;obtain⟨k,n,u,x⟩:=s;simp only[dL,aq]at ha ⊢;simp[axN,Jf,ha,e,aR e]
def Iv(v:aE):Prop:=dd v=true∧rg v.n
theorem mG:Iv aq:=⟨by decide,by simp[aq,rg]⟩
theorem Eo(b:Bool):Iv (bG b):=by cases b<;>exact⟨by decide,by simp[bG,rg]⟩
theorem alu{n:Int}(h:rg n):Iv (bL n):=⟨by simp[bL,dd,dC,pu],h⟩
theorem Ow(n:Int):Iv (ku n):=by
 unfold ku;repeat' split
 all_goals first|exact Eo _|exact mG
theorem QG{to:Int→Int→Int×Bool}{a b:aE}(h:rg (to a.n b.n).1):Iv (cd to a b).1:=by
 unfold cd;repeat' split
 all_goals first|exact mG|exact alu h
theorem aaB(a:aE):Iv (kP a).1:=by
 unfold kP;repeat' split
 all_goals first|exact mG|exact Ow _
theorem wW(is:Int→Bool)(a b:aE):Iv (mR is a b).1:=by
 unfold mR;repeat' split
 all_goals first|exact mG|exact Eo _
theorem Pm(to:Int→Int→Int)(a b:aE):Iv (eS to a b).1:=by
 unfold eS;repeat' split
 all_goals first|exact mG|exact Ow _
theorem K1{p:aE×Int}(h:Iv p.1):Iv (wq p).1:=by
 unfold wq;split
 ·exact aaB _
 exact h
theorem kq{c:Prop}[Decidable c]{p q:aE×Int}(h1:Iv p.1)(h2:Iv q.1):Iv (if c then p else q).1:=by split;exact h1;exact h2
theorem ajO(t:Int)(a b:aE)(hb:rg b.n):Iv (im t a b).1:=by
 unfold im;exact kq (QG (Pf _ _)) (kq (aaB _) (kq (Eo _) (kq (Eo _) (kq (QG (aa7 _ _)) (kq (QG (Pf _ _)) (kq (QG (adH _ _)) (kq (QG (abO _ _ hb)) (kq (wW _ _ _) (kq (K1 (wW _ _ _)) (kq (wW _ _ _) (kq (wW _ _ _) (kq (K1 (wW _ _ _)) (kq (K1 (wW _ _ _)) (kq (Pm _ _ _) (Pm _ _ _)))))))))))))))
noncomputable def fa(r:aJ)(n:EN)(l:aJ):aE×Int:=
 if n.tag=1 then (n.v,0) else if n.tag=2 then (r.getD n.col.toNat aq,0) else
 let p:=im n.tag (l.getD 0 aq) (l.getD (l.length-1) aq)
 (p.1,if p.2≠0∧p.2≠140 then 201 else p.2)
theorem agi(n:EN)(b:Bool)(l:aJ)(br:Bool)(r:aJ)(hl:l.length=(aI n.tag).toNat)(hI:∀v∈l,Iv v)(h0:0≤aI n.tag)(hc:n.tag=2→0≤n.col∧n.col<r.length) :
  az I.qep [n.a,.wh b (l.map aE.a),.cptr true (.wh br (r.map aE.a)) 0,.cptr true (.imap false Pc) 0]=some (.tup [(fa r n l).1.a,ac (fa r n l).2]):=by
 rw[am anF rfl];unfold fa;by_cases h1:n.tag=1
 ·rw[if_pos h1];simp only[EN.a,h1,aE.a];simp[ayw,KK]
 rw[if_neg h1];by_cases h2:n.tag=2
 ·rw[if_pos h2];obtain⟨c1,c2⟩:=hc h2;have c3:n.col.toNat < r.length:=by omega
  have c4:r.getD n.col.toNat aq=r[n.col.toNat]:=by simp[List.getD,c3]
  rw[c4];simp only[EN.a,h2];simp[ayw,KK,c1,c2,c3]
 rw[if_neg h2];have hp:1≤aI n.tag:=by
  unfold aI at h0 ⊢;rw[if_neg (by omega)]at h0 ⊢
  repeat' split
  all_goals first|omega|(exfalso;repeat' split at h0;all_goals omega)
 obtain⟨g,hg1,hg2⟩:=alV n.tag hp;have hle:=iB n.tag;have hl1:1≤l.length:=by omega
 have hlast:l.length-1<l.length:=by omega
 have hA:l.getD 0 aq=l[0]:=by rw[ad4,ad3 hl1];rfl
 have hB:l.getD (l.length-1) aq=l[l.length-1]:=by rw[ad4,ad3 hlast];rfl
 have hi:=hI l[l.length-1] (agL _);have hg3:=fun σ=>hg2 l[0] l[l.length-1] σ hi.2;have hw:IntKind.i64.wrap ((l.length:Int)-1)=((l.length-1:Nat):Int):=by rw[bl (by omega)];omega
 have hw2:((l.length:Int)-1).toNat=l.length-1:=by omega
 have e0:l[0]?=some l[0]:=ad3 hl1;have e1:l[l.length-1]?=some l[l.length-1]:=ad3 hlast;rw[hA,hB];generalize l[0]=x at *;generalize l[l.length-1]=y at *;generalize im n.tag x y=p at *;obtain⟨w,no⟩:=p;simp only at *;simp only[aE.a]at hg3;by_cases n0:no=0
 ·subst n0;simp only[EN.a];simp[ayw,KK,al h1,al h2,hg1,hg3,e0,e1,hw,hw2,ng,aE.a]
 by_cases n1:no=140
 ·subst n1;simp only[EN.a];simp[ayw,KK,al h1,al h2,hg1,hg3,e0,e1,hw,hw2,ng,aE.a]
 simp only[EN.a];simp[ayw,KK,al h1,al h2,hg1,hg3,e0,e1,hw,hw2,ng,aE.a,aR n0,aR n1,n0,n1]
noncomputable def aY(e:List EN)(r:aJ):aE×Int:=
 if si e=false then (aq,200) else if (fu e).any (fun c=>decide ((r.length:Int)≤c) || !dd (r.getD c.toNat aq)) then (aq,2) else jg aq (fa r) e
def Sr(r:aJ):Prop:=∀v∈r,rg v.n
def xO(e:List EN):Prop:=∀n∈e,rg n.v.n
theorem vq{e:List EN}{r:aJ}(hr:Sr r)(hE:xO e)(hany:∀c∈fu e,c<r.length∧dd (r.getD c.toNat aq)=true)(n:EN)(hn:n∈e)(l:aJ)(hl:l.length=(aI n.tag).toNat)(hc:cq n=true)(hI:∀y∈l,Iv y):Iv (fa r n l).1:=by
 unfold fa;by_cases h1:n.tag=1
 ·rw[if_pos h1];unfold cq at hc;rw[if_pos h1]at hc;simp at hc;exact⟨hc.1,hE n hn⟩
 rw[if_neg h1];by_cases h2:n.tag=2
 ·rw[if_pos h2];obtain⟨c1,c2⟩:=ij hc h2;obtain⟨d1,d2⟩:=hany _ (oR hn h2);refine⟨d2,?_⟩;have yB:n.col.toNat < r.length:=by omega
  rw[ad4,ad3 yB];exact hr _ (agL _)
 rw[if_neg h2];refine ajO _ _ _ ?_;rw[ad4];cases hq:l[l.length-1]? with
 |none=>exact mG.2
 |some y=>exact (hI y (aeb hq)).2
theorem Ih{e:List EN}(ho:si e=true){n:EN}(h:n∈e):cq n=true:=by
 obtain⟨k,hk⟩:=List.getElem?_of_mem h;obtain⟨yB,_⟩:=aaN.1 hk;obtain⟨a,o,h1⟩:=Ru ho (k:=k) (by omega);obtain⟨a',o',_,_,_,_,hc,_⟩:=jX ho hk h1;exact hc
theorem ady(b:Bool)(e:List EN)(br:Bool)(r:aJ)(hn:e.length≤most)(hr:Sr r)(hE:xO e) :
  az I.qeo [.agg [.wh b (e.map EN.a)],.wh br (r.map aE.a)]=some (.tup [(aY e r).1.a,ac (aY e r).2]):=by
 rw[am aql rfl];have hc:=fun b=>qV b e hn;simp only[nV,vx]at hc;unfold aY;cases ho:si e with
 |false=>
  rw[ho]at hc;simp[ayT,VV,hc,aq,aE.a]
 |true=>
  rw[ho]at hc;have hC:=fun b=>KC b e hn ho;have hcl:=Pw e;have h2:=fM (base:=3) (clr:=[5,7,13,14]) (b:=wV) (fu e)
   (fun k=>⟨[.agg [.wh b (e.map EN.a)],.wh br (r.map aE.a),.ptr 0 0 0 0,.ptr 1 0 0 0,.ptr 2 0 0 0,.any,ac 0,.any,.any,.bool false,.wh false (bd (fu e)),ac (fu e).length,ac k,.any,.any],[.arr 1 0 [.agg [.wh b (e.map EN.a)]],.arr 1 0 [.wh br (r.map aE.a)],.arr 4 0 [.agg [ac 0,ac 0,.int .u64 0,.str []]]]⟩)
   (fun c=>decide ((r.length:Int)≤c) || !dd (r.getD c.toNat aq))
   (.ext 0,⟨[.agg [.wh b (e.map EN.a)],.wh br (r.map aE.a),.ptr 0 0 0 0,.ptr 1 0 0 0,.ptr 2 0 0 0,.any,ac 0,.any,.any,.bool false,.wh false (bd (fu e)),ac (fu e).length,ac (fu e).length,.bool false,.any],[.arr 1 0 [.agg [.wh b (e.map EN.a)]],.arr 1 0 [.wh br (r.map aE.a)],.arr 4 0 [.agg [ac 0,ac 0,.int .u64 0,.str []]]]⟩)
   (fun o=>∃s,o=(.ret,s)∧bF .pure [.cell true 4 4,.env 5] (some (.ret,s))=some (.tup [aq.a,ac 2]))
   (fun k y hk' hy hp=>by
    have yB:((k:Int)<((fu e).length:Int)):=by omega
    obtain⟨n,hne,ht,rfl⟩:=xD (aeb hy);obtain⟨c1,c2⟩:=ij (Ih ho hne) ht;simp only[Bool.or_eq_false_iff,atb,auk]at hp;obtain⟨hp1,hp2⟩:=hp;have hlt2:n.col.toNat < r.length:=by omega
    rw[ad4,ad3 hlt2]at hp2;simp only[ary]at hp2;simp[wV,yB,hy,hp1,c1,hlt2,s9,hp2,aA hk' (als hcl hn),aH])
   (fun k y hk' hy hp=>by
    have yB:((k:Int)<((fu e).length:Int)):=by omega
    obtain⟨n,hne,ht,rfl⟩:=xD (aeb hy);obtain⟨c1,c2⟩:=ij (Ih ho hne) ht;by_cases hp1:(r.length:Int)≤n.col
    ·exact⟨_,by simp[wV,yB,hy,hp1];rfl,_,rfl,by simp[aq,aE.a]⟩
    have hp2:dd (r.getD n.col.toNat aq)=false:=by simpa [hp1] using hp
    have hlt2:n.col.toNat < r.length:=by omega
    rw[ad4,ad3 hlt2]at hp2;simp only[ary]at hp2;exact⟨_,by simp[wV,yB,hy,hp1,c1,hlt2,s9,hp2];rfl,_,rfl,by simp[aq,aE.a]⟩)
   (by simp[wV])
  rcases h2 with⟨hb,h2⟩|⟨hb,o,h2,s,rfl,h3⟩
  ·rw[hb];have hany:∀c∈fu e,c<r.length∧dd (r.getD c.toNat aq)=true:=fun c hc=>by
    have:=arG.1 hb c hc;simp only[arX,ad7,as9,not_or,avK]at this;exact⟨by omega,this.2⟩
   have hover:=fun b=>abG b e hn ho (.fn I.qep [] [.cptr true (.wh br (r.map aE.a)) 0,.cptr true (.imap false Pc) 0]) (fun fl top base σ h=>by cases fl<;>cases top<;>simp at h ⊢) (fa r) Iv
    (fun n hne l hl hcn hI _=>vq hr hE hany n hne l hl hcn hI)
    (fun n hne l hl hcn hI σ x hx=>by
     obtain⟨k,hk⟩:=List.getElem?_of_mem hne;obtain⟨yB,_⟩:=aaN.1 hk;obtain⟨a,o,h1⟩:=Ru ho (k:=k) (by omega);obtain⟨a',o',_,_,h0,_,_,_⟩:=jX ho hk h1;have hk1:=agi n true l br r hl hI h0 (fun ht=>by
      obtain⟨h1,h2⟩:=ij hcn ht;exact⟨h1,(hany _ (oR hne ht)).1⟩)
     have hna:fz true false 0 σ 20 n.a=n.a:=Fx.fx true false 0 σ 17 n;simp only[Ma]at hx;simp[hx,hna,hk1])
   simp at h2;simp[ayT,VV,hc,hC,h2,alC,hover,aE.a]
  rw[hb];simp at h2;simp[ayT,VV,hc,hC,h2,-bP];exact h3
theorem Cy{α σ ρ:Type}{g:Nat→α→σ→σ⊕ρ}{l:List α}(qZ:Nat→σ→Prop)(hstep:∀k y s s',l[k]?=some y→qZ k s→g k y s=.inl s'→qZ (k+1) s'){s s':σ}(h0:qZ 0 s)(h:aV g l 0 s=.inl s'):qZ l.length s':=by
 have key:∀(m:List α) k s,l.drop k=m→k≤l.length→qZ k s→aV g m k s=.inl s'→qZ l.length s':=by
  intro m;induction m with
  |nil=>
   intro k s hd hk hi hf;have:k=l.length:=by
    have:=congrArg List.length hd;simp at this;omega
   subst this;cases hf;exact hi
  |cons y m ih=>
   intro k s hd hk hi hf;have yB:k<l.length:=by
    have:=congrArg List.length hd;simp at this;omega
   have hy:l[k]?=some y:=by
    have:=congrArg (·[0]?) hd;simpa using this
   have hm:l.drop (k+1)=m:=by
    have:=congrArg List.tail hd;simpa [avB] using this
   simp only[aV]at hf;cases hg:g k y s with
   |inl t=>
    rw[hg]at hf;exact ih (k+1) t hm (by omega) (hstep k y s t hy hi hg) hf
   |inr r=>rw[hg]at hf;cases hf
 exact key l 0 s (by simp) (amn _) h0 h
theorem ZG{β:Type}{z:β}{cd:EN→List β→β×Int}{e:List EN}(ho:si e=true)(Iv:β→Prop)(hIv:∀n∈e,∀l:List β,l.length=(aI n.tag).toNat→cq n=true→(∀y∈l,Iv y)→(cd n l).2=0→Iv (cd n l).1)(h:(jg z cd e).2=0) :
  Iv (jg z cd e).1∨∃no,no≠0∧jg z cd e=(z,no):=by
 unfold jg at *;cases hf:aV (fI cd) e 0 [] with
 |inr no=>
  rw[hf]at h;simp only at h;subst h;exfalso;have key:∀(m:List EN) k st,aV (fI cd) m k st≠.inr 0:=by
   intro m;induction m with
   |nil=>intro k st h;cases h
   |cons n m ih=>
    intro k st h;simp only[aV]at h;unfold fI at h;split at h
    ·rename_i hg;exact ih _ _ h
    rename_i r hg;split at hg
    ·cases hg
    rename_i h0;injection hg with hg;subst hg;injection h with h;exact h0 h
  exact key _ _ _ hf
 |inl st=>
  left;have:=Cy (l:=e) (fun k st=>(∀y∈st,Iv y)∧∃a o,cG (e.take k) 0 [] []=some (a,o)∧st.length=o.length) (fun k n st st' hy hi hg=>by
   obtain⟨hiv,a,o,hf,hlo⟩:=hi;obtain⟨a',o',hf',hs,h1,h2,h3,h4⟩:=jX ho hy hf;have hd:(st.drop (st.length-(aI n.tag).toNat)).length=(aI n.tag).toNat:=by rw[atj];omega
   have htl:(st.take (st.length-(aI n.tag).toNat)).length=st.length-(aI n.tag).toNat:=by rw[al4];omega
   unfold fI at hg;split at hg
   ·rename_i h0;cases hg;have hx:=hIv n (aeb hy) _ hd h3 (fun y hy'=>hiv y (asW hy')) h0;exact⟨fun y hy'=>(aoS.1 hy').elim (fun h=>hiv y (akt h)) (fun h=>by rw[arq.1 h];exact hx),a',o',hf',by simp[htl,h4,hlo]⟩
   cases hg) ⟨by simp,[],[],by simp[cG],rfl⟩ hf
  obtain⟨hiv,a,o,h1,h2⟩:=this;rw[atd]at h1;rw[xg ho h1]at h2
  match st,h2 with
  |[x],_=>exact hiv x (arq.2 rfl)
theorem wT{e:List EN}{r:aJ}(hr:Sr r)(hE:xO e)(h:(aY e r).2=0):Iv (aY e r).1:=by
 unfold aY at *;cases ho:si e with
 |false=>exact mG
 |true=>
  rw[ho]at h;simp only[asf,ali]at h ⊢;split
  ·exact mG
  rename_i hb;rw[if_neg hb]at h;have hany:∀c∈fu e,c<r.length∧dd (r.getD c.toNat aq)=true:=fun c hc=>by
   have:=arG.1 (atN.2 hb) c hc;simp only[arX,ad7,as9,not_or,avK]at this;exact⟨by omega,this.2⟩
  rcases ZG (z:=aq) ho Iv (fun n hne l hl hcn hI _=>vq hr hE hany n hne l hl hcn hI) h with h1|⟨no,h0,h1⟩
  ·exact h1
  rw[h1];exact mG

end Go.AM
namespace Go.AM
open P
set_option maxHeartbeats 2000000
set_option maxRecDepth 4000
end Go.AM
namespace Go.AM
open P
set_option maxHeartbeats 64000000
set_option maxRecDepth 40000
attribute [local simp] aB aP
def aG(r:aJ):aa:=.wh false (r.map aE.a)
instance:Nc aG 1 false:=⟨fun _=>rfl,fun _=>rfl⟩
instance:Fx aG:=⟨fun fl top base σ n y=>by simp[aG]⟩
@[simp] theorem aru(r:aJ):aw (aG r)=1:=rfl
@[simp] theorem anM(r:aJ):isAgg (aG r)=false:=rfl
@[simp] theorem arB(r:aJ)(fl top:Bool)(base:Nat)(σ:ah)(n:Nat):fz fl top base σ (n+3) (aG r)=aG r:=Fx.fx fl top base σ n r
instance:Nc (eJ.c aG) 1 false:=⟨fun _=>rfl,fun _=>rfl⟩
theorem M1(rs:av):ce false rs=rs.map aG:=rfl
theorem agt(r:aJ):az I.qgl [aG r]=some (.bool (nW r)):=pg false r
theorem Qk(c:Bool)(Ls:List (eJ aJ))(m:Int)(j:Nat)(s:eJ aJ)(hn:s.l.length≤8000)(hr:∀r∈s.l,nW r=true) :
  aM code 0 [1,4,12,13] zS ⟨[.wh c (Ls.map (eJ.c aG)),.any,ac m,.wh s.b (s.l.map aG),.any,.wh c (Ls.map (eJ.c aG)),ac Ls.length,ac j,.bool true,.wh s.b (s.l.map aG),ac s.l.length,ac 0,.any,.any,.any],[]⟩ =
  some (.ext 2,⟨[.wh c (Ls.map (eJ.c aG)),.any,ac m,.wh s.b (s.l.map aG),.any,.wh c (Ls.map (eJ.c aG)),ac Ls.length,ac j,.bool true,.wh s.b (s.l.map aG),ac s.l.length,ac s.l.length,.bool false,.any,.any],[]⟩):=by
 have hm:s.l.length≤most:=by unfold most;omega
 have h:=bB (base:=0) (clr:=[1,4,12,13]) (b:=zS) s.l (fun k (_:Unit)=>⟨[.wh c (Ls.map (eJ.c aG)),.any,ac m,.wh s.b (s.l.map aG),.any,.wh c (Ls.map (eJ.c aG)),ac Ls.length,ac j,.bool true,.wh s.b (s.l.map aG),ac s.l.length,ac k,.any,.any,.any],[]⟩)
  (fun _ _=>True) (fun _ _=>()) (fun _=>(.ext 2,⟨[.wh c (Ls.map (eJ.c aG)),.any,ac m,.wh s.b (s.l.map aG),.any,.wh c (Ls.map (eJ.c aG)),ac Ls.length,ac j,.bool true,.wh s.b (s.l.map aG),ac s.l.length,ac s.l.length,.bool false,.any,.any],[]⟩))
  (fun k y _ hk hy _=>by
   have yB:((k:Int)<(s.l.length:Int)):=by omega
   have h2:=agt y;rw[hr y (aeb hy)]at h2;simp[zS,yB,hy,h2,aA hk hm,aH])
  (fun _ _=>by simp[zS]) () trivial
 simpa using h.1
theorem QX(c:Bool)(Ls:List (eJ aJ))(hl:Ls.length≤most)(hn:∀s∈Ls,s.l.length≤8000)(hr:∀s∈Ls,∀r∈s.l,nW r=true) :
  az I.qgj [.wh c (Ls.map (eJ.c aG))]=some (ac 0):=by
 rw[am ao2 rfl];have h:=bB (base:=0) (clr:=[1,3,4,8,9,10,11,12,13]) (b:=FF) Ls (fun k (m:Int)=>⟨[.wh c (Ls.map (eJ.c aG)),.any,ac m,.any,.any,.wh c (Ls.map (eJ.c aG)),ac Ls.length,ac k,.any,.any,.any,.any,.any,.any,.any],[]⟩)
  (fun _ m=>m≤8000) (fun m s=>if m<(s.l.length:Int) then (s.l.length:Int) else m) (fun m=>(.ext 0,⟨[.wh c (Ls.map (eJ.c aG)),.any,ac m,.any,.any,.wh c (Ls.map (eJ.c aG)),ac Ls.length,ac Ls.length,.bool false,.any,.any,.any,.any,.any,.any],[]⟩))
  (fun k s m hk hy hm=>by
   have yB:((k:Int)<(Ls.length:Int)):=by omega
   have hs:=hn s (aeb hy);have hi:=Qk c Ls m k s hs (hr s (aeb hy));refine⟨?_,by split<;>omega⟩;simp[FF,yB,hy,hi,aA hk hl,ar])
  (fun m _=>by simp[FF]) 0 (by omega)
 obtain⟨h1,h2⟩:=h;generalize Ls.foldl (fun m s=>if m<(s.l.length:Int) then (s.l.length:Int) else m) 0=m at h1 h2;simp at h1;have h3:¬((8000:Int)<m):=by omega
 simp[aAA,aiJ,h1,h3]
theorem aef{r:aJ}(h:nW r=true):Pv (bZ r):=by
 have hl:r.length≤16:=by unfold nW at h;simp at h;exact h.1
 refine⟨fun v hv=>?_,TN false r (by unfold most;omega),?_⟩
 ·obtain⟨x,_,rfl⟩:=afJ.1 hv;exact⟨rfl,rfl,fun fl top base σ n=>akj x fl top base σ n⟩
 rw[pg,h]
theorem Qw(b:Bool)(rs:av)(hn:rs.length≤most)(hr:∀r∈rs,nW r=true):az I.qgf [.wh b (rs.map aG)]=some (.frs 1 (rs.map aG)):=by
 have h:=P0 (b:=b) (rs:=rs.map bZ) (by simpa using hn) (fun r hr'=>by
  obtain⟨x,hx,rfl⟩:=afJ.1 hr';exact aef (hr x hx))
 have e:ed (rs.map bZ)=rs.map aG:=by unfold ed;rw[aqS];rfl
 rw[e]at h;exact h
theorem MH(r q:aJ)(hr:r.length≤most):bK code 140 [.wh false (bZ r),.wh false (bZ q)] []=some (ac (cf r q),[]):=by
 have:=bW (f:=I.qgk) ahh rfl [.wh false (bZ r),.wh false (bZ q)] [];simp only[af6,ajo,Ma,afA]at this;rw[yO false false r q hr]at this;exact this
theorem TY{rs:av}(hn:rs.length≤most)(hok:∀r∈rs,r.length≤most){σ:ah}{id ep:Nat}(h:σ[id]?=some (.arr 1 ep (rs.map aG))) :
  bK code 67 [.sl id ep 0 rs.length,.fn 140 [] []] σ=some (.any,σ.set id (.arr 1 ep ((df cf rs).map aG))):=by
 rw[←M1]at h ⊢;have hk:∀x∈ce false rs,∃r,r∈rs∧x=.wh false (bZ r):=fun x hx=>by
  obtain⟨r,h1,h2⟩:=afJ.1 hx;exact⟨r,h1,h2.symm⟩
 obtain⟨n,hf⟩:=wv (F:=fun n (x:aa)=>∀y∈ce false rs,bJ code n 140 [x,y] []=some (ac (cf (sq x) (sq y)),[]))
  (fun n m x hnm h y hy=>(ez good _ _ _).le hnm (h y hy)) (ce false rs) (fun x hx=>by
   obtain⟨n,hn⟩:=wv (F:=fun n (y:aa)=>bJ code n 140 [x,y] []=some (ac (cf (sq x) (sq y)),[]))
    (fun n m y hnm h=>(ez good _ _ _).le hnm h) (ce false rs) (fun y hy=>by
     obtain⟨r,hr,rfl⟩:=hk x hx;obtain⟨q,hq,rfl⟩:=hk y hy;rw[N3,N3];exact (kW (ez good _ _ _) _).1 (MH r q (hok r hr)))
   exact⟨n,fun y hy=>hn y hy⟩)
 have hc:∀r q,r∈rs→q∈rs→gD (bJ code n) (.fn 140 [] []) (.wh false (bZ r)) (.wh false (bZ q))=some (cf r q):=fun r q hr hq=>by
  have:=hf (.wh false (bZ r)) (afJ.2 ⟨r,hr,rfl⟩) (.wh false (bZ q)) (afJ.2 ⟨q,hq,rfl⟩);unfold gD qK;simp at this;simp[this]
 have hO:vw (gD (bJ code n) (.fn 140 [] [])) (ce false rs)=true:=by
  rw[lq];refine⟨fun x hx y hy=>?_,fun x hx y hy a b e1 e2=>?_,fun x hx y hy e=>?_,fun x hx=>?_,fun x hx y hy z hz a b c e1 e2 e3 h1 h2=>?_⟩
  ·obtain⟨r,hr,rfl⟩:=hk x hx;obtain⟨q,hq,rfl⟩:=hk y hy;have:=ut r q;exact⟨_,hc r q hr hq,by omega,by omega⟩
  ·obtain⟨r,hr,rfl⟩:=hk x hx;obtain⟨q,hq,rfl⟩:=hk y hy;rw[hc r q hr hq]at e1;rw[hc q r hq hr]at e2;cases e1;cases e2;exact dS.anti r q
  ·obtain⟨r,hr,rfl⟩:=hk x hx;obtain⟨q,hq,rfl⟩:=hk y hy;rw[hc r q hr hq]at e;rw[gM (as7 e)]
  ·obtain⟨r,hr,rfl⟩:=hk x hx;rw[hc r r hr hr,dS.self]
  obtain⟨r,hr,rfl⟩:=hk x hx;obtain⟨q,hq,rfl⟩:=hk y hy;obtain⟨s,hs,rfl⟩:=hk z hz;rw[hc r q hr hq]at e1;rw[hc q s hq hs]at e2;rw[hc r s hr hs]at e3;cases e1;cases e2;cases e3;exact dS.lt_le h1 (Int.le_of_lt h2)
 refine pk good (k:=1) (n:=n) rfl ?_;have hp:code.prims 1 (bJ code n)=nl (bJ code n):=rfl;rw[hp];have h9:(ce false rs).take rs.length=ce false rs:=aea (by simp);have h10:((ce false rs).all fun x=>same (dW (σ.set id .dead) x) x&&aw x==1&&!isAgg x&&!iw x)=true:=by
  rw[afz];intro x hx;obtain⟨r,hr,rfl⟩:=hk x hx;simp[iw]
 simp only[nl,h,auu,h9];have h11:dW (σ.set id .dead) (.fn 140 [] [])=.fn 140 [] []:=by simp
 have h13:dt (kS (gD (bJ code n) (.fn 140 [] []))) (ce false rs)=ce false (df cf rs):=by
  unfold ce;refine ze fun r hr q hq=>?_;unfold kS;rw[hc r q hr hq]
 rw[if_pos ⟨by trivial,by simp,hn,h10,by rw[h11];exact hO,by rw[h11];rfl⟩,h11,h13];have h12:(ce false rs).drop (0+rs.length)=[]:=au7 (by simp);rw[h12,M1];simp
theorem aco(b:Bool)(rs:av)(hn:rs.length≤most)(hr:∀r∈rs,nW r=true):az I.qgp [.wh b (rs.map aG)]=some (.frs 1 ((df cf rs).map aG)):=by
 rw[am amq rfl];have h1:=fun b=>Qw b rs hn hr;have e3:=TY hn (fun r h=>by have:=hr r h;unfold nW at this;simp at this;unfold most;omega) (σ:=[.arr 1 0 (rs.map aG)]) (id:=0) (ep:=0) rfl;simp at e3;have hf:=fun σ h=>kG (f:=aG) (m:=1) (df cf rs) 0 0 σ h;rw[il]at hf;simp[aAv,air,h1,e3,hf]
theorem abu(b:Bool)(rs:av)(hn:rs.length≤8000)(hr:∀r∈rs,nW r=true):az I.qgc [.wh b (rs.map aG)]=some (.tup [.wh false ((df cf rs).map aG),ac 0]):=by
 rw[am aqc rfl];have hm:rs.length≤most:=by unfold most;omega
 have h1:=fun c=>QX c [⟨b,rs⟩] (by simp[most]) (by simpa using hn) (by simpa using hr);have h2:=fun b=>aco b rs hm hr;simp at h1;simp[aAT,aie,h1,h2]
def Eb(v:aE)(k:Int):Bool:=dC v&&(v.k==0 ||v.k==k)
def qD(xX:List Int)(r:aJ):Bool:=r.length==xX.length&&(r.zip xX).all fun p=>Eb p.1 p.2
theorem Ip(v:aE)(k:Int):az I.qec [v.a,ac k]=some (.bool (Eb v k)):=by
 rw[am aoZ rfl];have h:=sY v;obtain⟨vk,vn,vu,vs⟩:=v;unfold Eb;cases hv:dC ⟨vk,vn,vu,vs⟩<;>rw[hv]at h<;>simp[aE.a]at h<;>simp[aAR,ag4,aE.a,h]
 repeat' (split<;>(try simp_all))
theorem adU(b bk:Bool)(r:aJ)(xX:List Int)(hn:r.length≤most) :
  az I.qhd [.wh b (r.map aE.a),.wh bk (xX.map (.int .i64)),.fn 254 [] []]=some (.bool (qD xX r)):=by
 rw[am anl rfl];unfold qD;by_cases hl:r.length=xX.length
 ·have hzl:(r.zip xX).length=r.length:=by simp[hl]
  have h:=fM (base:=0) (clr:=[3,4,5,6,11,12]) (b:=Bu) (r.zip xX) (fun k=>⟨[.wh b (r.map aE.a),.wh bk (xX.map (.int .i64)),.fn 254 [] [],.any,.any,.any,.any,.bool false,.wh b (r.map aE.a),ac r.length,ac k,.any,.any],[]⟩)
   (fun p=>!Eb p.1 p.2)
   (.ext 0,⟨[.wh b (r.map aE.a),.wh bk (xX.map (.int .i64)),.fn 254 [] [],.any,.any,.any,.any,.bool false,.wh b (r.map aE.a),ac r.length,ac r.length,.bool false,.any],[]⟩)
   (fun o=>∃s,o=(.ret,s)∧bF .pure [.env 3] (some (.ret,s))=some (.bool false))
   (fun k p hk hy hp=>by
    obtain⟨v,kd⟩:=p;rw[atV]at hy;have yB:((k:Int)<(r.length:Int)):=by omega
    have hf:=Ip v kd;simp only[auk]at hp;rw[hp]at hf;simp[Bu,yB,hy.1,hy.2,hf,aA (by omega:k<r.length) hn,ar])
   (fun k p hk hy hp=>by
    obtain⟨v,kd⟩:=p;rw[atV]at hy;have yB:((k:Int)<(r.length:Int)):=by omega
    have hf:=Ip v kd;simp only[as9]at hp;rw[hp]at hf;exact⟨_,by simp[Bu,yB,hy.1,hy.2,hf];rfl,_,rfl,by simp⟩)
   (by rw[hzl];simp[Bu])
  have hne:((r.length:Int) != (xX.length:Int))=false:=by simp[hl]
  have hb:(r.length==xX.length)=true:=by simp[hl]
  have hall:((r.zip xX).all fun p=>Eb p.1 p.2)=!((r.zip xX).any fun p=>!Eb p.1 p.2):=by
   rw[at2];simp
  rw[hall];rcases h with⟨h1,h2⟩|⟨h1,o,h2,s,rfl,h3⟩
  ·rw[h1];simp at h2;simp[azj,VA,hne,h2,hb]
  rw[h1];simp at h2;simp[azj,VA,hne,h2,hb,-bP];exact h3
 have hne:((r.length:Int) != (xX.length:Int))=true:=by simp;omega
 simp[azj,VA,hne,hl]
theorem TT(b bk t:Bool)(r:aJ)(xX:List Int)(hn:r.length≤most):az I.qeb [.wh b (r.map aE.a),.cptr t (.wh bk (xX.map (.int .i64))) 0]=some (.bool (!qD xX r)):=by
 rw[am aqv rfl];have h:=fun b bk=>adU b bk r xX hn;cases hv:qD xX r<;>rw[hv]at h<;>cases t<;>simp[aAN,aim,h]
def Ji(xX:List Int)(rs:av):Bool:=decide (rs.length≤8000)&&rs.all (qD xX)
theorem Y0(b bk:Bool)(rs:av)(xX:List Int)(hn:∀r∈rs,r.length≤most):az I.qea [.wh b (rs.map aG),.wh bk (xX.map (.int .i64))]=some (.bool (Ji xX rs)):=by
 rw[am aoP rfl];unfold Ji;by_cases hl:rs.length≤8000
 ·have hl':¬((8000:Int)<(rs.length:Int)):=by omega
  have hm:rs.length≤most:=by unfold most;omega
  have hC:=rC (enc:=aG) (b:=b) (l:=rs) (f:=dW [.arr 1 0 [.wh bk (xX.map (.int .i64))]] (.fn 161 [] [.ptr 0 0 0 0])) (p:=fun r=>!qD xX r) hm (fun _=>⟨rfl,rfl⟩) (fun σ=>wN _ _ _) (fun r hr=>by
   have:=TT false bk true r xX (hn r hr);simp[aG,this])
  simp at hC;have hall:rs.all (qD xX)=!(rs.any fun r=>!qD xX r):=by rw[at2];simp
  rw[hall];cases hA:(rs.any fun r=>!qD xX r)<;>rw[hA]at hC<;>simp[azv,aaV,hl,hl',hC]
 have hl':((8000:Int)<(rs.length:Int)):=by omega
 simp[azv,aaV,hl,hl']
instance:Nc (aa.int .u8) 1 false:=⟨fun _=>rfl,fun _=>rfl⟩
instance:Fx (aa.int .u8):=⟨fun _ _ _ _ _ _=>rfl⟩
instance:Nc (fun (c:UInt8)=>aa.int .u8 (c.toNat:Int)) 1 false:=⟨fun _=>rfl,fun _=>rfl⟩
instance:Fx (fun (c:UInt8)=>aa.int .u8 (c.toNat:Int)):=⟨fun _ _ _ _ _ _=>rfl⟩
abbrev gB(l:List Int):List aa:=l.map (.int .i64)
def dF(r:aJ)(c:Int):Bool:=decide (0≤c)&&decide (c<r.length)
def yF(r:aJ)(ym:List Int):Bool:=decide (ym.length≤16)&&ym.all (dF r)
def bu(r:aJ)(ym:List Int):aJ:=ym.map (sf r)
theorem S4(t b:Bool)(c:Int)(r:aJ):az I.qgi [ac c,.cptr t (.wh b (r.map aE.a)) 0]=some (.bool (!dF r c)):=by
 rw[am apV rfl];unfold dF;by_cases h1:c<0
 ·have h2:¬(0≤c):=by omega
  cases t<;>simp[azk,VQ,h1,h2]
 have h2:0≤c:=by omega
 by_cases h3:c<r.length
 ·have h4:¬((r.length:Int)≤c):=by omega
  cases t<;>simp[azk,VQ,h1,h2,h3,h4]
 have h4:((r.length:Int)≤c):=by omega
 cases t<;>simp[azk,VQ,h1,h2,h3,h4]
theorem Yu(bc:Bool)(r:aJ)(ym:List Int):az I.qgh [aG r,.wh bc (gB ym)]=some (.bool (yF r ym)):=by
 rw[am aoD rfl];unfold yF;by_cases hl:ym.length≤16
 ·have hl':((ym.length:Int)≤16):=by omega
  have hC:=lZ (enc:=.int .i64) (b:=bc) (l:=ym) (f:=dW [.arr 1 0 [aG r]] (.fn 230 [] [.ptr 0 0 0 0])) (p:=fun c=>!dF r c) (by unfold most;omega) (fun _=>⟨rfl,rfl⟩) (fun σ=>wN _ _ _) (fun c _=>by
   have:=S4 true false c r;simp[aG,this])
  simp at hC;have hall:ym.all (dF r)=!(ym.any fun c=>!dF r c):=by rw[at2];simp
  rw[hall];cases hA:(ym.any fun c=>!dF r c)<;>rw[hA]at hC<;>simp[azP,abc,hl,hl',hC]
 have hl':¬((ym.length:Int)≤16):=by omega
 simp[azP,abc,hl,hl']
theorem P2(c:Int):az I.qge [ac c]=some (.bool (decide (c<0))):=by
 rw[am apy rfl];simp[azY,ahj]
theorem ZU(b bc:Bool)(rs:av)(ym:List Int)(hn:rs.length≤8000)(hr:∀r∈rs,nW r=true)(hc:ym.length≤16)(h0:∀c∈ym,0≤c)(hh:∀r∈rs,yF r ym=true) :
  az I.qgd [.wh b (rs.map aG),.wh bc (gB ym)]=some (ac 0):=by
 rw[am apL rfl];have hm:rs.length≤most:=by unfold most;omega
 have h1:=fun c=>QX c [⟨b,rs⟩] (by simp[most]) (by simpa using hn) (by simpa using hr);simp at h1;have hC:=fun bc=>lZ (enc:=.int .i64) (b:=bc) (l:=ym) (f:=.fn 139 [] []) (p:=fun c=>decide (c<0)) (by unfold most;omega) (fun _=>⟨rfl,rfl⟩) (fun σ=>by simp) (fun c _=>by simp[P2]);rw[show (ym.any fun c=>decide (c<0))=false by
  rw[arG];intro c hc';have:=h0 c hc';simp;omega]at hC
 have hl':¬((16:Int)<(ym.length:Int)):=by omega
 have hl:=bB (base:=0) (clr:=[2,5,11,12]) (b:=EU) rs (fun k (_:Unit)=>⟨[.wh b (rs.map aG),.wh bc (gB ym),.any,ac 0,.fn 139 [] [],.any,.bool false,.bool false,.wh b (rs.map aG),ac rs.length,ac k,.any,.any],[]⟩)
  (fun _ _=>True) (fun _ _=>()) (fun _=>(.ext 0,⟨[.wh b (rs.map aG),.wh bc (gB ym),.any,ac 0,.fn 139 [] [],.any,.bool false,.bool false,.wh b (rs.map aG),ac rs.length,ac rs.length,.bool false,.any],[]⟩))
  (fun k y _ hk hy _=>by
   have yB:((k:Int)<(rs.length:Int)):=by omega
   have h2:=fun bc=>Yu bc y ym;rw[hh y (aeb hy)]at h2;simp[EU,yB,hy,h2,aA hk hm,ar])
  (fun _ _=>by simp[EU]) () trivial
 have hl:=hl.1;simp at hl;simp[aAB,ajG,h1,hC,hl',hl]
theorem sg(bc:Bool)(r:aJ)(ym:List Int)(hc:ym.length≤16)(hh:∀c∈ym,0≤c∧c<r.length) :
  az I.qgq [aG r,.wh bc (gB ym)]=some (aG (bu r ym)):=by
 rw[am aqd rfl];have hm:ym.length≤most:=by unfold most;omega
 have hl:=bB (base:=1) (clr:=[4,8]) (b:=FH) ym (fun k (s:aJ)=>⟨[aG r,.wh bc (gB ym),.yz,.sl 0 k 0 s.length,.any,.wh bc (gB ym),ac ym.length,ac k,.any],[.arr 4 k (s.map aE.a)]⟩)
  (fun k s=>s.length=k) (fun s c=>s++[sf r c]) (fun s=>(.ext 0,⟨[aG r,.wh bc (gB ym),.yz,.sl 0 ym.length 0 s.length,.any,.wh bc (gB ym),ac ym.length,ac ym.length,.bool false],[.arr 4 ym.length (s.map aE.a)]⟩))
  (fun k c s hk hy hs=>by
   have yB:((k:Int)<(ym.length:Int)):=by omega
   obtain⟨c0,c1⟩:=hh c (aeb hy);have hcv:(r.map aE.a)[c.toNat]?=some (sf r c).a:=UU ⟨c0,c1⟩;have hct:c.toNat < r.length:=by omega
   have hkm:k+1≤most:=by omega
   subst hs;refine⟨?_,by simp⟩;have hcv':r[c.toNat]=sf r c:=by simp[sf,ad4,hct]
   simp[FH,yB,hy,aG,c0,hct,hcv',append,hkm,ar,aA hk hm])
  (fun s _=>by simp[FH]) [] rfl
 have hf:∀(l:List Int) (s:aJ),l.foldl (fun s c=>s++[sf r c]) s=s++l.map (sf r):=by
  intro l;induction l with
  |nil=>intro s;simp
  |cons a l ih=>intro s;rw[ahw,ih];simp
 rw[hf]at hl;have hl:=hl.1;unfold bu;have hlen:(ym.map (sf r)).length=ym.length:=by simp
 rw[ah5]at hl;generalize ym.map (sf r)=t at hl hlen ⊢;simp at hl;simp[aAl,ahV,hl];rfl
theorem ED{r:aJ}{ym:List Int}(h:yF r ym=true):ym.length≤16∧∀c∈ym,0≤c∧c<r.length:=by
 unfold yF at h;simp only[acz,ad7]at h;refine⟨h.1,fun c hc=>?_⟩;have:=afz.1 h.2 c hc;unfold dF at this;simpa using this
theorem agP{v:aE}(h:dC v=true):v.s.length≤1000:=by
 unfold dC at h;simp only[afE]at h;have hs:=congrArg aE.s h;unfold pu at hs
 repeat' split at hs
 all_goals (simp at hs)
 all_goals (first|(rw[hs];simp)|omega)
theorem ae4{r:aJ}(h:nW r=true):r.length≤16∧∀v∈r,v.s.length≤1000:=by
 unfold nW at h;simp only[acz,ad7]at h;exact⟨h.1,fun v hv=>agP (afz.1 h.2 v hv)⟩
theorem Yc{r:aJ}{ym:List Int}(h:∀c∈ym,0≤c∧c<r.length):∀v∈bu r ym,v∈r:=by
 intro v hv;obtain⟨c,hc,rfl⟩:=afJ.1 hv;have:=h c hc;have yB:c.toNat < r.length:=by omega
 unfold sf;rw[ad4,ad3 yB];exact agL yB
def FT(rs:av):Prop:=∀r∈rs,Sr r
noncomputable def II(e:List EN)(_:Nat)(r:aJ)(s:Nat×Int×aJ):(Nat×Int×aJ)⊕Unit:=
 if (aY e r).2=140 then .inl (s.1,140,s.2.2) else if (aY e r).2=0 then .inl (if (aY e r).1.k=0 then s else (s.1+1,s.2.1,s.2.2++[(aY e r).1])) else .inr ()
noncomputable def Em(e:List EN)(r:aJ):Bool:=(aY e r).2 != 0&&(aY e r).2 != 140
noncomputable def nS(e:List EN)(r:aJ):Bool:=(aY e r).2==140
noncomputable def mq(e:List EN)(r:aJ):aJ:=if (aY e r).2=0∧(aY e r).1.k≠0 then [(aY e r).1] else []
noncomputable def mO(e:List EN)(rs:av):aJ×Int:=
 if rs.any (Em e) then ([],2) else (rs.flatMap (mq e),if rs.any (nS e) then 140 else 0)
theorem xE(e:List EN):∀(m:av) k ep f acc,∃ep',aV (II e) m k (ep,f,acc)=if m.any (Em e) then .inr () else .inl (ep',if m.any (nS e) then 140 else f,acc++m.flatMap (mq e))
 |[],k,ep,f,acc=>⟨ep,by simp[aV]⟩
 |r::m,k,ep,f,acc=>by
  by_cases h1:(aY e r).2=140
  ·obtain⟨ep',h⟩:=xE e m (k+1) ep 140 acc;refine⟨ep',?_⟩;simp only[aV,II,if_pos h1,h];simp[Em,nS,mq,h1]
  by_cases h2:(aY e r).2=0
  ·by_cases h3:(aY e r).1.k=0
   ·obtain⟨ep',h⟩:=xE e m (k+1) ep f acc;refine⟨ep',?_⟩;simp only[aV,II,if_neg h1,if_pos h2,if_pos h3,h];simp[Em,nS,mq,h2,h3]
   obtain⟨ep',h⟩:=xE e m (k+1) (ep+1) f (acc++[(aY e r).1]);refine⟨ep',?_⟩;simp only[aV,II,if_neg h1,if_pos h2,if_neg h3,h];simp[Em,nS,mq,h2,h3]
  refine⟨0,?_⟩;simp only[aV,II,if_neg h1,if_neg h2];simp[Em,h1,h2]
theorem aj4(a:aT)(b:Bool)(rs:av)(hn:rs.length≤most)(ha:a.arg.length≤most)(hr:FT rs)(hE:xO a.arg) :
  az I.qdn [a.a,.wh b (rs.map aG)]=some (.tup [.wh false ((mO a.arg rs).1.map aE.a),ac (mO a.arg rs).2]):=by
 rw[am aoR rfl];have hev:∀c,∀r∈rs,az I.qeo [.agg [.wh c (a.arg.map EN.a)],aG r]=some (.tup [(aY a.arg r).1.a,ac (aY a.arg r).2]):=fun c r h=>ady c a.arg false r ha (hr r h) hE;have h:=cD (base:=2) (clr:=[3,4,7,8,9,13,14,15,16]) (b:=ul) rs
  (fun k (s:Nat×Int×aJ)=>⟨[a.a,.wh b (rs.map aG),.ptr 0 0 0 0,.any,.any,.sl 1 s.1 0 s.2.2.length,ac s.2.1,.any,.any,.any,.wh b (rs.map aG),ac rs.length,ac k,.any,.any,.any,.any],[.arr 2 0 [a.a],.arr 4 s.1 (s.2.2.map aE.a)]⟩)
  (fun k s=>s.2.2.length≤k) (II a.arg)
  (fun s=>(.ext 0,⟨[a.a,.wh b (rs.map aG),.ptr 0 0 0 0,.any,.any,.sl 1 s.1 0 s.2.2.length,ac s.2.1,.any,.any,.any,.wh b (rs.map aG),ac rs.length,ac rs.length,.bool false,.any,.any,.any],[.arr 2 0 [a.a],.arr 4 s.1 (s.2.2.map aE.a)]⟩))
  (fun (_:Unit) o=>∃s,o=(.ret,s)∧bF .pure [.env 3,.env 4] (some (.ret,s))=some (.tup [.wh false [],ac 2]))
  (fun k r s hk hy hi=>by
   obtain⟨ep,f,acc⟩:=s;simp only at hi;have yB:((k:Int)<(rs.length:Int)):=by omega
   have h2:=fun c=>hev c r (aeb hy);have hl1:acc.length+1≤most:=by omega
   unfold II;generalize aY a.arg r=p at *;obtain⟨⟨vk,vn,vu,vs⟩,no⟩:=p;simp only[dL,aT.a]at *;by_cases c1:no=140
   ·subst c1;exact⟨by simp[ul,yB,hy,h2,aA hk hn,ar,ap],by simp only;omega⟩
   by_cases c2:no=0
   ·subst c2;by_cases c3:vk=0
    ·subst c3;exact⟨by simp[ul,yB,hy,h2,aA hk hn,ar,ap],by simp only;simp;omega⟩
    simp only[if_neg c3];exact⟨by simp[ul,yB,hy,h2,c3,aR c3,append,hl1,aA hk hn,ar,ap,aE.a],by simp;omega⟩
   simp only[if_neg c1,if_neg c2];exact⟨_,by simp[ul,yB,hy,h2,al c1,aR c2];rfl,_,rfl,by simp⟩)
  (fun s _=>by simp[ul]) (0,0,[]) (aes _)
 obtain⟨ep',hf⟩:=xE a.arg rs 0 0 0 [];rw[hf]at h;unfold mO;cases ho:rs.any (Em a.arg) with
 |true=>
  rw[ho]at h;simp only[aml]at h ⊢;obtain⟨o,h1,s,rfl,h2⟩:=h;simp only[aT.a]at *;simp at h1;simp[azQ,acL,h1,-bP];exact h2
 |false=>
  rw[ho]at h;simp only[ai1,ali,ah5]at h ⊢;have h1:=h.2;generalize rs.flatMap (mq a.arg)=acc at *;generalize (if rs.any (nS a.arg)=true then (140:Int) else 0)=f at *;simp only[aT.a]at *;simp at h1;simp[azQ,acL,h1]
def It(c:aE→aE→Int)(m:aE)(l:aJ):aE:=l.foldl (fun m v=>if c v m<0 then v else m) m
theorem Pu(c:aE→aE→Int):∀(l:aJ) (m:aE),It c m l=m∨It c m l∈l
 |[],m=>.inl rfl
 |v::l,m=>by
  rcases Pu c l (if c v m<0 then v else m) with h|h
  ·have e:It c m (v::l)=It c (if c v m<0 then v else m) l:=rfl;rw[e,h];split<;>simp
  exact .inr (aer _ h)
theorem Ky(b:Bool)(v:aE)(l:aJ)(f:aa)(c:aE→aE→Int)(hs:Dy f)(hn:l.length+1≤most)(hf:∀x∈v::l,∀y∈v::l,∀σ,du code f [x.a,y.a] σ=some (ac (c x y),σ)) :
  az I.qhl [.wh b ((v::l).map aE.a),f]=some (It c v l).a:=by
 rw[am aqi rfl];have hs0:=hs [];have h:=bB (base:=2) (clr:=[6,7]) (b:=A1) l
  (fun k (m:aE)=>⟨[.wh b ((v::l).map aE.a),f,.ptr 0 0 0 0,.ptr 1 0 0 0,ac ((k:Int)+1),.bool false,.any,.any],[.arr 4 0 [aq.a],.arr 4 0 [m.a]]⟩)
  (fun _ m=>m∈v::l) (fun m x=>if c x m<0 then x else m)
  (fun m=>(.ext 0,⟨[.wh b ((v::l).map aE.a),f,.ptr 0 0 0 0,.ptr 1 0 0 0,ac ((l.length:Int)+1),.bool false,.bool false,.any],[.arr 4 0 [aq.a],.arr 4 0 [m.a]]⟩))
  (fun k x m hk hy hm=>by
   have hx:x∈v::l:=aer _ (aeb hy);have h2:=hf x hx m hm;have yB:((k:Int)+1<(l.length:Int)+1):=by omega
   have hnn:¬((k:Int)+1<0):=by omega
   have hw:IntKind.i64.wrap ((k:Int)+1+1)=(k:Int)+1+1:=bl (by unfold most at hn;omega);have ht:((k:Int)+1).toNat=k+1:=by omega
   have h0:(0:Int)≤(k:Int)+1:=by omega
   by_cases hc:c x m<0
   ·refine⟨?_,by simp only[if_pos hc];exact hx⟩;simp[A1,yB,hy,h2,hc,hw,ht,h0,ar,ap]
   refine⟨?_,by simp only[if_neg hc];exact hm⟩;simp[A1,yB,hy,h2,hc,hw,ht,h0,ar,ap])
  (fun m _=>by simp[A1]) v (by simp)
 have h:=h.1;unfold It;generalize l.foldl (fun m x=>if c x m<0 then x else m) v=m at *;have hlen:¬((l.length:Int)+1<1):=by omega
 simp[aq,aE.a]at h;simp only[aE.a];simp[aAd,ah3,hs0,hlen,h,aE.a]
def GJ(c:aE→aE→Int)(m:aE)(l:aJ):aE:=l.foldl (fun m v=>if 0<c v m then v else m) m
theorem P4(c:aE→aE→Int):∀(l:aJ) (m:aE),GJ c m l=m∨GJ c m l∈l
 |[],m=>.inl rfl
 |v::l,m=>by
  rcases P4 c l (if 0<c v m then v else m) with h|h
  ·have e:GJ c m (v::l)=GJ c (if 0<c v m then v else m) l:=rfl;rw[e,h];split<;>simp
  exact .inr (aer _ h)
theorem J1(b:Bool)(v:aE)(l:aJ)(f:aa)(c:aE→aE→Int)(hs:Dy f)(hn:l.length+1≤most)(hf:∀x∈v::l,∀y∈v::l,∀σ,du code f [x.a,y.a] σ=some (ac (c x y),σ)) :
  az I.qhk [.wh b ((v::l).map aE.a),f]=some (GJ c v l).a:=by
 rw[am aqD rfl];have hs0:=hs [];have h:=bB (base:=2) (clr:=[6,7]) (b:=Bd) l
  (fun k (m:aE)=>⟨[.wh b ((v::l).map aE.a),f,.ptr 0 0 0 0,.ptr 1 0 0 0,ac ((k:Int)+1),.bool false,.any,.any],[.arr 4 0 [aq.a],.arr 4 0 [m.a]]⟩)
  (fun _ m=>m∈v::l) (fun m x=>if 0<c x m then x else m)
  (fun m=>(.ext 0,⟨[.wh b ((v::l).map aE.a),f,.ptr 0 0 0 0,.ptr 1 0 0 0,ac ((l.length:Int)+1),.bool false,.bool false,.any],[.arr 4 0 [aq.a],.arr 4 0 [m.a]]⟩))
  (fun k x m hk hy hm=>by
   have hx:x∈v::l:=aer _ (aeb hy);have h2:=hf x hx m hm;have yB:((k:Int)+1<(l.length:Int)+1):=by omega
   have hnn:¬((k:Int)+1<0):=by omega
   have hw:IntKind.i64.wrap ((k:Int)+1+1)=(k:Int)+1+1:=bl (by unfold most at hn;omega);have ht:((k:Int)+1).toNat=k+1:=by omega
   have h0:(0:Int)≤(k:Int)+1:=by omega
   by_cases hc:0<c x m
   ·refine⟨?_,by simp only[if_pos hc];exact hx⟩;simp[Bd,yB,hy,h2,hc,hw,ht,h0,ar,ap]
   refine⟨?_,by simp only[if_neg hc];exact hm⟩;simp[Bd,yB,hy,h2,hc,hw,ht,h0,ar,ap])
  (fun m _=>by simp[Bd]) v (by simp)
 have h:=h.1;unfold GJ;generalize l.foldl (fun m x=>if 0<c x m then x else m) v=m at *;have hlen:¬((l.length:Int)+1<1):=by omega
 simp[aq,aE.a]at h;simp only[aE.a];simp[aAQ,ai0,hs0,hlen,h,aE.a]
def I8(l:aJ):Option Int:=l.foldl gf none
theorem w8{k:Nat}{s:Option Int}{v:aE}(hs:-(9223372036854775808*(k:Int))≤s.getD 0∧s.getD 0≤9223372036854775808*(k:Int))(hv:rg v.n) :
  -(9223372036854775808*((k+1:Nat):Int))≤(gf s v).getD 0∧(gf s v).getD 0≤9223372036854775808*((k+1:Nat):Int):=by
 unfold rg at hv;unfold gf;split
 ·omega
 simp only[ary];omega
theorem tn{k:Nat}{s:Option Int}(hk:k≤most)(hs:-(9223372036854775808*(k:Int))≤s.getD 0∧s.getD 0≤9223372036854775808*(k:Int)):Wn s:=by
 unfold most at hk;unfold Wn sz;omega
theorem aoy(b:Bool)(l:aJ)(hn:l.length≤1048576)(hv:∀v∈l,kM v=0∧rg v.n):az I.qc [.wh b (l.map aE.a)]=some (.tup [(kL (I8 l)).1.a,ac (kL (I8 l)).2]):=by
 rw[am arY rfl];have hm:l.length≤most:=by unfold most;omega
 have h:=bB (base:=2) (clr:=[2,4,5,6,11,12]) (b:=Ob) l
  (fun k (s:Option Int)=>⟨[.wh b (l.map aE.a),.ptr 0 0 0 0,.any,.ptr 1 0 0 0,.any,.any,.any,.bool false,.wh b (l.map aE.a),ac l.length,ac k,.any,.any],[.arr 4 0 [aq.a],.arr 4 0 [(fQ s).a]]⟩)
  (fun k s=>-(9223372036854775808*(k:Int))≤s.getD 0∧s.getD 0≤9223372036854775808*(k:Int)) gf
  (fun s=>(.ext 0,⟨[.wh b (l.map aE.a),.ptr 0 0 0 0,.any,.ptr 1 0 0 0,.any,.any,.any,.bool false,.wh b (l.map aE.a),ac l.length,ac l.length,.bool false,.any],[.arr 4 0 [aq.a],.arr 4 0 [(fQ s).a]]⟩))
  (fun k v s hk hy hs=>by
   have yB:((k:Int)<(l.length:Int)):=by omega
   obtain⟨h1,h2⟩:=hv v (aeb hy);refine⟨?_,w8 hs h2⟩;have h3:=adL s v (tn (by omega) hs) h2;rw[h1]at h3;simp only[aml]at h3;generalize fQ s=S at *;generalize fQ (gf s v)=S' at *;simp only[aE.a]at h3;simp[Ob,yB,hy,h3,aA hk hm,ar,ap,aE.a])
  (fun s _=>by simp[Ob]) none (by simp)
 obtain⟨h1,h2⟩:=h;have h3:=aiZ (I8 l) (tn hm h2);unfold I8 at *;generalize l.foldl gf none=s at *;have hgt:¬((1048576:Int)<l.length):=by omega
 generalize fQ s=S at *;simp only[fQ]at *;simp only[aE.a,aq]at *;simp at h1;simp[axK,aqO,hgt,h1,h3,aE.a,aq]
@[simp] theorem arP(k n u:Int)(s:List UInt8):az I.qdm [.agg [ac k,ac n,.int .u64 u,.str s]]=some (.bool (!(k==2))):=by
 rw[am aoN rfl];simp[aA4,ai3,bne]
def tu(l:aJ):aE:=match l with
 |[]=>aq
 |v::r=>It dP v r
def jl(l:aJ):aE:=match l with
 |[]=>aq
 |v::r=>GJ dP v r
noncomputable def Eg(tag:Int)(e:List EN)(rs:av):aE×Int:=
 if tag=1 then (bL rs.length,0) else if (mO e rs).2=2 then (aq,2) else if tag=3∧(mO e rs).1.any (fun v=>!(v.k==2))=true then (aq,2)
 else if (mO e rs).2≠0 then (aq,(mO e rs).2) else if tag=2 then (bL (mO e rs).1.length,0) else if tag=3 then kL (I8 (mO e rs).1)
 else if tag=4 then (tu (mO e rs).1,0) else (jl (mO e rs).1,0)
theorem Q3{e:List EN}{rs:av}(hr:FT rs)(hE:xO e):∀v∈(mO e rs).1,Iv v:=by
 intro v hv;unfold mO at hv;split at hv
 ·cases hv
 obtain⟨r,hr',hv⟩:=auS.1 hv;unfold mq at hv;split at hv
 ·rename_i h;rw[arq.1 hv];exact wT (hr r hr') hE h.1
 cases hv
theorem Yl(e:List EN)(rs:av):(mO e rs).1.length≤rs.length:=by
 unfold mO;split
 ·simp
 simp only;rename_i h;clear h;induction rs with
 |nil=>simp
 |cons r rs ih=>
  rw[atE,aog,aiG];have:(mq e r).length≤1:=by unfold mq;split<;>simp
  omega
theorem HU{v:aE}(h:Iv v):dC v=true:=by
 have:=h.1;unfold dd at this;simp at this;exact this.1
theorem Qn(a:aT)(b:Bool)(rs:av)(hn:rs.length≤8000)(ha:a.arg.length≤most)(hr:FT rs)(hE:xO a.arg) :
  az I.qdl [a.a,.wh b (rs.map aG)]=some (.tup [(Eg a.tag a.arg rs).1.a,ac (Eg a.tag a.arg rs).2]):=by
 rw[am amU rfl];have hm:rs.length≤most:=by unfold most;omega
 have h1:=fun b=>aj4 a b rs hm ha hr hE;have hI:=Q3 (e:=a.arg) (rs:=rs) hr hE;have hl:=Yl a.arg rs;unfold Eg;generalize mO a.arg rs=q at *;obtain⟨l,f⟩:=q;simp only at *
 have hC:=fun b=>nO (enc:=aE.a) (b:=b) (l:=l) (f:=.fn I.qdm [] []) (p:=fun v=>!(v.k==2)) (by omega) (fun _=>⟨rfl,rfl⟩) (fun σ=>by simp) (fun v _=>by
  obtain⟨k,n,u,s⟩:=v;simp[dL])
 by_cases t1:a.tag=1
 ·rw[if_pos t1];simp only[aT.a,t1,bL,aE.a];simp[ax7,vV,bL,aE.a]
 rw[if_neg t1];by_cases f2:f=2
 ·rw[if_pos f2];subst f2;simp only[aT.a,aE.a,aq]at *;simp[ax7,vV,al t1,h1]
 rw[if_neg f2];by_cases t3:a.tag=3
 ·by_cases ho:l.any (fun v=>!(v.k==2))=true
  ·rw[if_pos ⟨t3,ho⟩];simp only[ho]at hC;simp only[aT.a,t3]at *;simp[ax7,vV,h1,al f2,hC,aq,aE.a]
  rw[if_neg (fun h=>ho h.2)];have ho':=atN.2 ho;simp only[ho']at hC;by_cases f0:f=0
  ·subst f0
   have hA:=fun b=>aoy b l (by omega) (fun v hv=>by
    have h2:=hI v hv;have h3:=arG.1 ho' v hv;simp at h3;refine⟨?_,h2.2⟩;unfold kM;rw[HU h2];simp[h3])
   simp only[aT.a,t3]at *;simp[ax7,vV,h1,hC,hA,aE.a]
  rw[if_pos f0];simp only[aT.a,t3]at *;simp[ax7,vV,h1,hC,al f2,aR f0,aq,aE.a]
 rw[if_neg (fun h=>t3 h.1)];by_cases f0:f=0
 ·subst f0;rw[if_neg (by simp)];by_cases t2:a.tag=2
  ·rw[if_pos t2];simp only[aT.a,t2]at *;simp[ax7,vV,h1,bL,aE.a]
  rw[if_neg t2,if_neg t3];cases l with
  |nil=>
   simp only[aT.a,tu,jl]at *;simp[ax7,vV,al t1,al t2,al t3,h1,aq,aE.a]
  |cons v l=>
   have hlen:((l.length:Int)+1==0)=false:=by rw[atv];omega
   have hlen2:¬((l.length:Int)+1=0):=by omega
   have hcmp:∀x∈v::l,∀y∈v::l,∀σ,du code (.fn I.qdq [] []) [x.a,y.a] σ=some (ac (dP x y),σ):=fun x hx y hy σ=>by
    have:=N8 x y (HU (hI x hx)) (HU (hI y hy));simp[this]
   simp only[aiG]at hl;have hMin:=fun b=>Ky b v l (.fn I.qdq [] []) dP (fun σ=>by simp) (by omega) hcmp;have hMax:=fun b=>J1 b v l (.fn I.qdq [] []) dP (fun σ=>by simp) (by omega) hcmp;simp only[tu,jl];generalize It dP v l=vm at *;generalize GJ dP v l=vM at *;simp only[af6,aE.a]at hMin hMax;by_cases t4:a.tag=4
   ·rw[if_pos t4];simp only[aT.a,t4]at *;simp[ax7,vV,h1,hMin,hlen,hlen2,aE.a]
   rw[if_neg t4];simp only[aT.a]at *;simp[ax7,vV,al t1,al t2,al t3,al t4,h1,hMax,hlen,hlen2,aE.a]
 rw[if_pos f0];simp only[aT.a]at *;simp[ax7,vV,al t1,al t3,al f2,aR f0,h1,aq,aE.a]
def W7(tag:Int)(e:List EN)(rs:av):Bool:=decide (1≤tag)&&decide (tag≤5)&&rs.all nW&&(if tag=1 then e.length==0 else si e)
noncomputable def Y1(tag:Int)(e:List EN)(rs:av):aE×Int:=if W7 tag e rs=true then Eg tag e rs else (aq,2)
theorem O5(a:aT)(b:Bool)(rs:av)(hn:rs.length≤8000)(ha:a.arg.length≤most)(hr:FT rs)(hE:xO a.arg) :
  az I.qdk [a.a,.wh b (rs.map aG)]=some (.tup [(Y1 a.tag a.arg rs).1.a,ac (Y1 a.tag a.arg rs).2]):=by
 rw[am am5 rfl];have h1:=fun b=>Qn a b rs hn ha hr hE;have h2:=fun b=>Pb b false rs hn;simp only[M1]at h2;have h3:=fun b=>qV b a.arg ha;simp only[nV,vx]at h3;unfold Y1 W7;by_cases t1:1≤a.tag
 ·by_cases t5:a.tag≤5
  ·cases hR:rs.all nW with
   |false=>
    rw[hR]at h2;by_cases e1:a.tag=1
    ·simp only[aT.a,e1]at *;simp[ayc,Ac,h2,aq,aE.a]
    simp only[aT.a]at *;simp[ayc,Ac,t1,t5,al e1,h2,aq,aE.a]
   |true=>
    rw[hR]at h2;by_cases e1:a.tag=1
    ·obtain⟨tag,ab,arg⟩:=a;simp only at *;subst e1;cases arg with
     |nil=>
      simp only[aT.a,ajo]at *;simp[ayc,Ac,h2,h1,aE.a]
     |cons n r=>
      have e3:((r.length:Int)+1==0)=false:=by rw[atv];omega
      simp only[aT.a]at *;simp[ayc,Ac,h2,aq,aE.a,e3]
    cases ho:si a.arg with
    |false=>
     rw[ho]at h3;simp only[aT.a]at *;simp[ayc,Ac,t1,t5,al e1,e1,h2,h3,aq,aE.a]
    |true=>
     rw[ho]at h3;simp only[aT.a]at *;simp[ayc,Ac,t1,t5,al e1,e1,h2,h3,h1,aE.a]
  have e1:¬a.tag=1:=by omega
  simp only[aT.a]at *;simp[ayc,Ac,t1,t5,al e1,aq,aE.a]
 have e1:¬a.tag=1:=by omega
 simp only[aT.a]at *;simp[ayc,Ac,t1,al e1,aq,aE.a]
theorem aln(v w:aE)(hv:dC v=true)(hw:dC w=true):az I.qdz [v.a,w.a]=some (ac (dP v w)):=by
 rw[am anE rfl];have h:=fun b b'=>AL b b' [v] [w] (by simp[nW,hv]) (by simp[nW,hw]);have e:cf [v] [w]=dP v w:=by
  simp only[cf];unfold lex;split
  ·rfl
  omega
 rw[e]at h;simp only[bZ,af6,ajo]at h;simp[aAE,aiv,h]
noncomputable def pF(e:List EN)(_:Nat)(r:aJ)(s:Option Int):Option Int⊕(aE×Int):=
 if (aY e r).2≠0 then .inr (fQ s,(aY e r).2) else if kM (aY e r).1≠0 then .inr (aq,kM (aY e r).1) else .inl (gf s (aY e r).1)
noncomputable def U3(e:List EN)(rs:av):aE×Int:=
 match aV (pF e) rs 0 none with
 |.inl s=>(fQ s,0)
 |.inr p=>p
noncomputable def jD(tag:Int)(e:List EN)(rs:av):aE×Int:=if tag=3 then U3 e rs else Y1 tag e rs
theorem TI(i:Int)(a:aT)(b:Bool)(rs:av)(hn:rs.length≤8000)(ha:a.arg.length≤most)(hr:FT rs)(hE:xO a.arg) :
  az I.qeh [ac i,a.a,.wh b (rs.map aG)]=some (.tup [(jD a.tag a.arg rs).1.a,ac (jD a.tag a.arg rs).2]):=by
 rw[am ap0 rfl];have hm:rs.length≤most:=by unfold most;omega
 unfold jD;by_cases t3:a.tag=3
 ·rw[if_pos t3];have hev:∀c,∀r∈rs,az I.qeo [.agg [.wh c (a.arg.map EN.a)],aG r]=some (.tup [(aY a.arg r).1.a,ac (aY a.arg r).2]):=fun c r h=>ady c a.arg false r ha (hr r h) hE;have h:=cD (base:=3) (clr:=[5,7,8,9,14,15,16]) (b:=xI) rs
   (fun k (s:Option Int)=>⟨[ac i,a.a,.wh b (rs.map aG),.ptr 0 0 0 0,.ptr 1 0 0 0,.any,.ptr 2 0 0 0,.any,.any,.any,.bool false,.wh b (rs.map aG),ac rs.length,ac k,.any,.any,.any],[.arr 2 0 [a.a],.arr 4 0 [aq.a],.arr 4 0 [(fQ s).a]]⟩)
   (fun k s=>-(9223372036854775808*(k:Int))≤s.getD 0∧s.getD 0≤9223372036854775808*(k:Int)) (pF a.arg)
   (fun s=>(.ext 0,⟨[ac i,a.a,.wh b (rs.map aG),.ptr 0 0 0 0,.ptr 1 0 0 0,.any,.ptr 2 0 0 0,.any,.any,.any,.bool false,.wh b (rs.map aG),ac rs.length,ac rs.length,.bool false,.any,.any],[.arr 2 0 [a.a],.arr 4 0 [aq.a],.arr 4 0 [(fQ s).a]]⟩))
   (fun (p:aE×Int) o=>∃s,o=(.ret,s)∧bF .pure [.cell true 4 4,.env 5] (some (.ret,s))=some (.tup [p.1.a,ac p.2]))
   (fun k r s hk hy hs=>by
    have yB:((k:Int)<(rs.length:Int)):=by omega
    have h2:=fun c=>hev c r (aeb hy);have hI:=wT (hr r (aeb hy)) hE;unfold pF;generalize aY a.arg r=p at *;obtain⟨v,no⟩:=p;simp only at *;by_cases c1:no=0
    ·rw[if_neg (by simp[c1])];have hI:=hI c1;have h3:=adL s v (tn (by omega) hs) hI.2;have h4:=w8 hs hI.2;subst c1;by_cases c2:kM v=0
     ·rw[if_neg (by simp[c2])];rw[c2]at h3;simp only[aml]at h3;refine⟨?_,h4⟩;generalize fQ s=S at *;generalize fQ (gf s v)=S' at *;simp only[aT.a,aE.a]at *;simp[xI,yB,hy,h2,h3,aA hk hm,ar,ap,aE.a]
     rw[if_pos c2];rw[if_neg c2]at h3;generalize fQ s=S at *;simp only[aT.a,aE.a,aq]at *;exact⟨_,by simp[xI,yB,hy,h2,h3,aR c2,c2];rfl,_,rfl,by simp⟩
    rw[if_pos c1];generalize fQ s=S at *;simp only[aT.a,aE.a,aq]at *;exact⟨_,by simp[xI,yB,hy,h2,aR c1,al c1,c1];rfl,_,rfl,by simp⟩)
   (fun s _=>by simp[xI]) none (by simp)
  unfold U3;cases hf:aV (pF a.arg) rs 0 none with
  |inl s=>
   rw[hf]at h;have h:=h.2;simp only at h ⊢;generalize fQ s=S at *;simp only[fQ]at *;simp only[aT.a,aE.a,aq,t3]at *;simp at h;simp[azg,Vv,h,aq,aE.a]
  |inr p=>
   rw[hf]at h;obtain⟨o,h1,s,rfl,h2⟩:=h;simp only at h2 ⊢;simp only[fQ]at *;simp only[aT.a,aE.a,aq,t3]at *;simp at h1;simp[azg,Vv,h1,aq,aE.a,-bP];exact h2
 rw[if_neg t3];have h1:=fun b=>O5 a b rs hn ha hr hE;simp only[aT.a,aE.a]at *;simp[azg,Vv,h1,aR t3]
end Go.AM
