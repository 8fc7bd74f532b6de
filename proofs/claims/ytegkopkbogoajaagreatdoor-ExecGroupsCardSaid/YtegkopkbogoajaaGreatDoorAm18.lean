/- Part of the proof. -/
import Derived.Test.YtegkopkbogoajaaGreatDoorAm17
set_option linter.unusedVariables false
set_option linter.unusedSimpArgs false
namespace Go.AM
theorem pI{α σ ρ:Type}(g:Nat→α→σ→σ⊕ρ)(y:α):∀(l:List α) (k:Nat) (s:σ),aV g (l++[y]) k s=match aV g l k s with
  |.inl s'=>g (k+l.length) y s'
  |.inr r=>.inr r
 |[],k,s=>by
  simp only[ah5,aV,ak3,at9];cases g k y s<;>rfl
 |x::l,k,s=>by
  simp only[an7,aV,aiG];cases g k x s with
  |inl s'=>
   simp only;rw[pI g y l (k+1) s',show k+1+l.length=k+(l.length+1) by omega]
  |inr r=>rfl
def Fk(k:Int):Prop:=0≤k∧k≤3
theorem afS{v:aE}(h:dd v=true):Fk v.k:=by
 obtain⟨k,n,u,s⟩:=v;unfold dd at h;simp only[acz,atU,ne_eq]at h;obtain⟨h1,h2⟩:=h;rw[Hg]at h1;unfold Fk;simp only;split at h1
 ·omega
 split at h1
 ·omega
 split at h1
 ·omega
 split at h1
 ·omega
 simp at h1;omega
theorem abg{xX:List Int}{n:EN}(h:aI n.tag=1){x:Int}(hx:Fk x):gq xX n [x]=if (gh n.tag x 0).2=true then ((gh n.tag x 0).1,0) else (0,201):=by
 unfold aI at h;have ht:4≤n.tag∧n.tag≤7:=by
  split at h
  ·omega
  split at h
  ·assumption
  split at h<;>omega
 unfold Fk at hx;unfold gq gh rF nL I1;rcases (by omega:n.tag=4∨n.tag=5∨n.tag=6∨n.tag=7) with h|h|h|h<;>rcases (by omega:x=0∨x=1∨x=2∨x=3) with h'|h'|h'|h'<;>rw[h,h']<;>rfl
theorem acY{xX:List Int}{n:EN}(h:aI n.tag=2){x y:Int}(hx:Fk x)(hy:Fk y):gq xX n [x,y]=if (gh n.tag x y).2=true then ((gh n.tag x y).1,0) else (0,201):=by
 unfold aI at h;have ht:12≤n.tag∧n.tag≤23:=by
  split at h
  ·omega
  split at h
  ·omega
  split at h
  ·assumption
  omega
 unfold Fk at hx hy;unfold gq gh rF nL I1;rcases (by omega:(n.tag=12∨n.tag=13∨n.tag=14∨n.tag=15)∨(n.tag=22∨n.tag=23)∨(n.tag=16∨n.tag=17∨n.tag=18∨n.tag=19∨n.tag=20∨n.tag=21)) with h|h|h
 all_goals
  rcases (by omega:x=0∨x=1∨x=2∨x=3) with h'|h'|h'|h'<;>rcases (by omega:y=0∨y=1∨y=2∨y=3) with h''|h''|h''|h''<;>rw[h',h'']<;>clear h' h''
 all_goals
  first
   |(rcases h with h|h|h|h<;>rw[h]<;>rfl)
   |(rcases h with h|h|h|h|h|h<;>rw[h]<;>rfl)
   |(rcases h with h|h<;>rw[h]<;>rfl)
theorem Px{t l r:Int}:Fk (gh t l r).1:=by
 unfold gh Fk
 repeat' split
 all_goals (simp only;omega)
end Go.AM
namespace Go.AM
theorem Gk{k:Nat}{n:EN}{a o a' o':List Nat}(ho:∀p∈o,p<k)(hs:gX k n a o=some (a',o')) :
  cq n=true∧((aI n.tag=0∧o'=o++[k])∨(∃(o0:List Nat) (p:Nat),aI n.tag=1∧o=o0++[p]∧n.l=(p:Int)∧n.r=-1∧p<k∧o'=o0++[k]) ∨
   (∃(o0:List Nat) (p q:Nat),aI n.tag=2∧o=o0++[p,q]∧n.l=(p:Int)∧n.r=(q:Int)∧p<k∧q<k∧o'=o0++[k])):=by
 unfold gX at hs;split at hs
 ·cases hs
 rename_i hc;have hcn:cq n=true:=by
  cases hq:cq n
  ·exact absurd (.inr (.inr hq)) hc
  rfl
 have hpl:=iB n.tag;have hp0:0≤aI n.tag:=by
  have:¬(aI n.tag<0):=fun h=>hc (.inl h);omega
 have hc2:aI n.tag≤o.length:=by
  have:¬((o.length:Int)<aI n.tag):=fun h=>hc (.inr (.inl h));omega
 clear hc;refine⟨hcn,?_⟩;rcases (by omega:aI n.tag=0∨aI n.tag=1∨aI n.tag=2) with hp|hp|hp
 ·left;rw[hp]at hs;simp only[aus,auy,atZ]at hs;split at hs
  ·cases hs;exact⟨hp,rfl⟩
  cases hs
 ·right;left;rw[hp]at hs hc2;obtain⟨o0,p,rfl⟩:∃o0 p,o=o0++[p]:=by
   rcases ar0 o with h|⟨o0,p,h⟩
   ·subst h;simp at hc2
   exact⟨o0,p,by simpa using h⟩
  have e1:(o0++[p]).drop ((o0++[p]).length-(1:Int).toNat)=[p]:=by
   have:(o0++[p]).length-(1:Int).toNat=o0.length:=by simp
   rw[this,atD]
  have e2:(o0++[p]).take ((o0++[p]).length-1)=o0:=by
   have:(o0++[p]).length-1=o0.length:=by simp
   rw[this,atF]
  rw[e1]at hs;simp only at hs;split at hs
  ·rename_i hlr;cases hs;exact⟨o0,p,hp,rfl,hlr.1,hlr.2,ho p (by simp),by rw[e2]⟩
  cases hs
 right;right;rw[hp]at hs hc2;obtain⟨o0,p,q,rfl⟩:∃o0 p q,o=o0++[p,q]:=by
  rcases ar0 o with h|⟨o1,q,h⟩
  ·subst h;simp at hc2
  rcases ar0 o1 with h'|⟨o0,p,h'⟩
  ·subst h' h;simp at hc2
  exact⟨o0,p,q,by rw[h,h'];simp⟩
 have e1:(o0++[p,q]).drop ((o0++[p,q]).length-(2:Int).toNat)=[p,q]:=by
  have:(o0++[p,q]).length-(2:Int).toNat=o0.length:=by simp
  rw[this,atD]
 have e2:(o0++[p,q]).take ((o0++[p,q]).length-2)=o0:=by
  have:(o0++[p,q]).length-2=o0.length:=by simp
  rw[this,atF]
 rw[e1]at hs;simp only at hs;split at hs
 ·rename_i hlr;cases hs;exact⟨o0,p,q,hp,rfl,hlr.1,hlr.2,ho p (by simp),ho q (by simp),by rw[e2]⟩
 cases hs
def sO{β:Type}(z:β)(n:EN)(own:List β):List β:=
 if aI n.tag=0 then [] else if 0≤n.r then [own.getD n.l.toNat z,own.getD n.r.toNat z] else [own.getD n.l.toNat z]
def Ee{β:Type}(z:β)(cd:EN→List β→β×Int)(_:Nat)(n:EN)(own:List β):List β⊕Int:=
 if (cd n (sO z n own)).2=0 then .inl (own++[(cd n (sO z n own)).1]) else .inr (cd n (sO z n own)).2
def Ak{β:Type}(z:β)(cd:EN→List β→β×Int)(e:List EN)(k:Nat)(o:List Nat):Prop:=
 (∃own,aV (Ee z cd) (e.take k) 0 []=.inl own∧own.length=k∧aV (fI cd) (e.take k) 0 []=.inl (o.map fun p=>own.getD p z)) ∨
 (∃no,aV (Ee z cd) (e.take k) 0 []=.inr no∧aV (fI cd) (e.take k) 0 []=.inr no)
theorem ZP{β:Type}{z:β}{own:List β}{k:Nat}(hl:own.length=k)(x:β){o:List Nat}(ho:∀p∈o,p<k):(o.map fun p=>(own++[x]).getD p z)=o.map fun p=>own.getD p z:=
 aj6 fun p hp=>by
  have:=ho p hp;simp only[ad4];rw[arw (by omega)]
theorem X5{β:Type}{z:β}{own:List β}{k:Nat}(hl:own.length=k)(x:β):(own++[x]).getD k z=x:=by
 rw[ad4,arD (by omega),hl,avT];rfl
theorem Ya{β:Type}{z:β}{cd:EN→List β→β×Int}{e:List EN}{k:Nat}{n:EN}(hn:e[k]?=some n){a o a' o':List Nat}(ho:∀p∈o,p<k)(hs:gX k n a o=some (a',o'))(h:Ak z cd e k o):Ak z cd e (k+1) o':=by
 obtain⟨hk,he⟩:=aaN.1 hn;have htk:e.take (k+1)=e.take k++[n]:=by rw[am3 hk,he]
 unfold Ak;rw[htk,pI,pI];rcases h with⟨own,h1,h2,h4⟩|⟨no,h1,h2⟩
 ·rw[h1,h4];simp only;have key:∀(o0:List Nat) (ps:List Nat),o=o0++ps→ps.length=(aI n.tag).toNat→sO z n own=ps.map (fun p=>own.getD p z)→o'=o0++[k] →
    (∃own',Ee z cd (0+(List.take k e).length) n own=.inl own'∧own'.length=k+1∧fI cd (0+(List.take k e).length) n (o.map fun p=>own.getD p z)=.inl (o'.map fun p=>own'.getD p z)) ∨
    (∃no,Ee z cd (0+(List.take k e).length) n own=.inr no∧fI cd (0+(List.take k e).length) n (o.map fun p=>own.getD p z)=.inr no):=by
   intro o0 ps hoo hpl hpb ho';have hlen:(o.map fun p=>own.getD p z).length-(aI n.tag).toNat=(o0.map fun p=>own.getD p z).length:=by
    rw[hoo];simp[hpl]
   have f1:(o.map fun p=>own.getD p z).drop ((o.map fun p=>own.getD p z).length-(aI n.tag).toNat)=ps.map fun p=>own.getD p z:=by
    rw[hlen,hoo,arz,atD]
   have f2:(o.map fun p=>own.getD p z).take ((o.map fun p=>own.getD p z).length-(aI n.tag).toNat)=o0.map fun p=>own.getD p z:=by
    rw[hlen,hoo,arz,atF]
   unfold Ee fI;rw[f1,f2,hpb];by_cases hd:(cd n (ps.map fun p=>own.getD p z)).2=0
   ·left;rw[if_pos hd,if_pos hd];refine⟨_,rfl,by simp[h2],?_⟩;rw[ho',arz,ZP h2 _ (fun p hp=>ho p (by rw[hoo];simp[hp]))];simp only[af6,ajo,X5 h2]
   right;rw[if_neg hd,if_neg hd];exact⟨_,rfl,rfl⟩
  obtain⟨_,hp⟩:=Gk ho hs;rcases hp with⟨hp,ho'⟩|⟨o0,p,hp,hoo,hl,hr,hpk,ho'⟩|⟨o0,p,q,hp,hoo,hl,hr,hpk,hqk,ho'⟩
  ·exact key o [] (by simp) (by rw[hp];rfl) (by unfold sO;rw[if_pos hp];rfl) ho'
  ·exact key o0 [p] hoo (by rw[hp];rfl) (by
    unfold sO;rw[if_neg (by omega),if_neg (by omega),hl];simp) ho'
  exact key o0 [p,q] hoo (by rw[hp];rfl) (by
   unfold sO;rw[if_neg (by omega),if_pos (by omega),hl,hr];simp) ho'
 rw[h1,h2];exact .inr ⟨no,rfl,rfl⟩
theorem Ql{β:Type}{z:β}{cd:EN→List β→β×Int}{e:List EN}(ho:si e=true):∀k,k≤e.length→∃a o,cG (e.take k) 0 [] []=some (a,o)∧a.length=k∧o.length≤k∧(∀p∈o,p<k)∧Ak z cd e k o:=by
 intro k;induction k with
 |zero=>intro _;exact⟨[],[],rfl,rfl,by simp,by simp,.inl ⟨[],rfl,rfl,rfl⟩⟩
 |succ k ih=>
  intro hk;obtain⟨a,o,i1,i2,i3,i4,i5⟩:=ih (by omega);have hn:e[k]?=some e[k]:=ad3 (by omega);obtain⟨a',o',s1,s2,_⟩:=jX ho hn i1;obtain⟨v1,v2,v3⟩:=BQ i2 i4 i3 s2;exact⟨a',o',s1,v1,v3,v2,Ya hn i4 s2 i5⟩
theorem JR{β:Type}{z:β}{cd:EN→List β→β×Int}{e:List EN}(ho:si e=true) :
  (∃own,aV (Ee z cd) e 0 []=.inl own∧own.length=e.length∧jg z cd e=(own.getD (e.length-1) z,0))∨(∃no,aV (Ee z cd) e 0 []=.inr no∧jg z cd e=(z,no)):=by
 obtain⟨a,o,h1,h2,_,_,h3⟩:=Ql (z:=z) (cd:=cd) ho e.length (aes _);have ht:=(qS e e.length (aes _) a o h1).1;unfold Ak at h3;rw[atd]at h1 h3;have hl:=xg ho h1
 match o,hl with
 |[p],_=>
  obtain⟨t1,_,_⟩:=ht;unfold jg;rcases h3 with⟨own,g1,g2,g4⟩|⟨no,g1,g2⟩
  ·left;rw[g4];exact⟨own,g1,g2,by simp[show e.length-1=p by omega]⟩
  right;rw[g2];exact⟨no,g1,rfl⟩
theorem zK{e:List EN}(ho:si e=true){k:Nat}{n:EN}(hn:e[k]?=some n):cq n=true∧(aI n.tag=0∨(∃p:Nat,aI n.tag=1∧n.l=p∧n.r=-1∧p<k)∨(∃p q:Nat,aI n.tag=2∧n.l=p∧n.r=q∧p<k∧q<k)):=by
 have hk:=(aaN.1 hn).1;obtain⟨a,o,i1,i2,i3,i4,_⟩:=Ql (z:=()) (cd:=fun _ _=>((),0)) ho k (by omega);obtain⟨a',o',s1,s2,_⟩:=jX ho hn i1;obtain⟨hc,hp⟩:=Gk i4 s2;refine⟨hc,?_⟩;rcases hp with⟨hp,_⟩|⟨o0,p,hp,_,hl,hr,hpk,_⟩|⟨o0,p,q,hp,_,hl,hr,hpk,hqk,_⟩
 ·exact .inl hp
 ·exact .inr (.inl ⟨p,hp,hl,hr,hpk⟩)
 exact .inr (.inr ⟨p,q,hp,hl,hr,hpk,hqk⟩)
end Go.AM
namespace Go.AM
open P
set_option maxHeartbeats 64000000
set_option maxRecDepth 40000
attribute [local simp] aB aP
theorem Ys(a b:aE)(h0:b.n=0):az I.qat [.int .u8 47,a.a,b.a]=some (.tup [(cd (cJ I.qe) a b).1.a,ac (cd (cJ I.qe) a b).2]):=by
 rw[am ajg rfl];have h1:=dz a;have h2:=dz b;have t1:=uZ a;have t2:=uZ b;unfold cd;rw[WH,h0,abs];obtain⟨k,an,u,s⟩:=a;obtain⟨k',bn,u',s'⟩:=b;simp only[dL]at *;subst h0;cases ho:dC ⟨k,an,u,s⟩ with
 |false=>
  rw[ho]at h1;simp[axU,jC,h1,aq,aE.a]
 |true=>
 rw[ho]at h1 t1;cases ho':dC ⟨k',0,u',s'⟩ with
 |false=>
  rw[ho']at h2;simp[axU,jC,h1,h2,aq,aE.a]
 |true=>
 rw[ho']at h2 t2;rw[al5]at t1 t2;simp only[al5,asf,ali];cases hk:(k==0 ||k==2) with
 |false=>
  rw[hk]at t1;simp[axU,jC,h1,h2,t1,aq,aE.a]
 |true=>
 rw[hk]at t1;cases hk':(k' == 0 ||k' == 2) with
 |false=>
  rw[hk']at t2;simp[axU,jC,h1,h2,t1,t2,aq,aE.a]
 |true=>
 rw[hk']at t2;simp only[al5,asf,ali,↓reduceIte];by_cases c1:k=0
 ·subst c1;simp[axU,jC,h1,h2,t1,t2,aq,aE.a]
 by_cases c2:k'=0
 ·subst c2;simp[axU,jC,h1,h2,t1,t2,c1,al c1,aq,aE.a]
 simp[axU,jC,h1,h2,t1,t2,c1,al c1,c2,al c2,aq,aE.a]
theorem xp{x:Int}(h:-170141183460469231731687303715884105728≤x∧x≤170141183460469231731687303715884105728):Ea x:=by unfold Ea;omega
theorem alR{n m:Int}(hn:rg n)(hm:rg m):Ea (n*m):=by
 unfold rg at hn hm;have hz0:(n.natAbs:Int)*m.natAbs≤85070591730234615865843651857942052864:=Int.le_trans (avZ (by omega:(n.natAbs:Int)≤9223372036854775808) (by omega:(m.natAbs:Int)≤9223372036854775808) (by omega) (by omega)) (by decide);have h0:(0:Int)≤(n.natAbs:Int)*m.natAbs:=avG (by omega) (by omega);refine xp ?_;rw[Mh];split<;>omega
theorem alh{n m:Int}(hn:rg n):Ea (Jj n m):=by
 unfold rg at hn;have a:0≤(n.natAbs:Int)/m.natAbs:=avu (by omega) (by omega);have b:(n.natAbs:Int)/m.natAbs≤n.natAbs:=avl _ (by omega);refine xp ?_;unfold Jj;split<;>omega
theorem adJ{a b:aE}(ha:rg a.n)(hb:rg b.n):az I.qat [.int .u8 43,a.a,b.a]=some (.tup [(cd (cJ I.qb) a b).1.a,ac (cd (cJ I.qb) a b).2]):=by
 rw[LR (alF ha hb)];exact af7 43 a b _ (xp (by unfold rg at ha hb;omega)) ha hb (.inl ⟨rfl,rfl⟩)
theorem PS{a b:aE}(ha:rg a.n)(hb:rg b.n):az I.qat [.int .u8 45,a.a,b.a]=some (.tup [(cd (cJ I.ql) a b).1.a,ac (cd (cJ I.ql) a b).2]):=by
 rw[LR (alU ha hb)];exact af7 45 a b _ (xp (by unfold rg at ha hb;omega)) ha hb (.inr (.inl ⟨rfl,rfl⟩))
theorem aas{a b:aE}(ha:rg a.n)(hb:rg b.n):az I.qat [.int .u8 42,a.a,b.a]=some (.tup [(cd (cJ I.qi) a b).1.a,ac (cd (cJ I.qi) a b).2]):=by
 rw[LR (akX ha hb)];exact af7 42 a b _ (alR ha hb) ha hb (.inr (.inr (.inl ⟨rfl,rfl⟩)))
theorem ad2{a b:aE}(ha:rg a.n)(hb:rg b.n):az I.qat [.int .u8 47,a.a,b.a]=some (.tup [(cd (cJ I.qe) a b).1.a,ac (cd (cJ I.qe) a b).2]):=by
 by_cases h0:b.n=0
 ·exact Ys a b h0
 rw[LR (akx ha hb h0)];exact af7 47 a b _ (alh ha) ha hb (.inr (.inr (.inr ⟨rfl,h0,rfl⟩)))
theorem YB(is:Int→Bool)(v w:aE):(mR is v w).2≠0→(mR is v w).1=aq:=by
 rw[Bi];split
 ·intro _;rfl
 intro h;exact absurd rfl h
theorem M6(is:Int→Bool)(v w:aE):wq (mR is v w)=((kP (mR is v w).1).1,(mR is v w).2):=by
 unfold wq;split
 ·rename_i h;rw[Bi]at h ⊢;split
  ·rename_i h';rw[if_pos h']at h;simp only at h;rw[h];rfl
  cases is (xZ v w)<;>rfl
 rename_i h;have:=YB is v w h;rw[this];have e:(kP aq).1=aq:=by decide
 rw[e,←this]
theorem gS(v:aE):∃k n u s,v.a=.agg [ac k,ac n,.int .u64 u,.str s]:=⟨_,_,_,_,rfl⟩
theorem R8(t:Int)(a b:aE)(h:16≤t∧t≤21):az I.qby [ac t,a.a,b.a]=some (.tup [(im t a b).1.a,ac (im t a b).2]):=by
 rw[am amR rfl];have e1:=Y6 a b;have l1:=O7 a b;have l2:=O7 b a;have n1:=Ax (nR a b).1;have n2:=Ax (kF a b).1;have n3:=Ax (kF b a).1;have t1:wq (nR a b)=((kP (nR a b).1).1,(nR a b).2):=M6 _ a b;have t2:wq (kF a b)=((kP (kF a b).1).1,(kF a b).2):=M6 _ a b;have t3:wq (kF b a)=((kP (kF b a).1).1,(kF b a).2):=M6 _ b a;have ht:t=16∨t=17∨t=18∨t=19∨t=20∨t=21:=by omega
 unfold im;rw[t1,t2,t3];generalize nR a b=E at *;generalize kF a b=L at *;generalize kF b a=M at *;obtain⟨ev,ee⟩:=E;obtain⟨lv,le⟩:=L;obtain⟨mv,me⟩:=M;simp only at *;generalize (kP ev).1=nev at *;generalize (kP lv).1=nlv at *;generalize (kP mv).1=nmv at *;obtain⟨k1,m1,u1,s1,x1⟩:=gS a;obtain⟨k2,m2,u2,s2,x2⟩:=gS b;obtain⟨k3,m3,u3,s3,x3⟩:=gS ev;obtain⟨k4,m4,u4,s4,x4⟩:=gS lv;obtain⟨k5,m5,u5,s5,x5⟩:=gS mv;obtain⟨k6,m6,u6,s6,x6⟩:=gS nev;obtain⟨k7,m7,u7,s7,x7⟩:=gS nlv;obtain⟨k8,m8,u8,s8,x8⟩:=gS nmv;rw[x1,x2]at e1 l1 ⊢;rw[x2,x1]at l2;rw[x3]at e1 n1;rw[x4]at l1 n2;rw[x5]at l2 n3;rw[x6]at n1;rw[x7]at n2;rw[x8]at n3;rcases ht with rfl|rfl|rfl|rfl|rfl|rfl<;>simp[aBi,ais,e1,l1,l2,n1,n2,n3,x3,x4,x5,x6,x7,x8]
theorem OJ(t:Int)(a b:aE)(h:1≤aI t)(ha:rg a.n)(hb:rg b.n):az I.qca [ac t,a.a,b.a]=some (.tup [(im t a b).1.a,ac (im t a b).2]):=by
 rw[am aqm rfl];have ht:t=4∨t=5∨t=6∨t=7∨t=12∨t=13∨t=14∨t=15∨t=22∨t=23∨(16≤t∧t≤21):=by
  unfold aI at h;repeat' split at h
  all_goals omega
 have i0:=Ez 0;have d4:=PS (a:=bL 0) (b:=a) (by simp[bL,rg]) ha;have d12:=adJ ha hb;have d13:=PS ha hb;have d14:=aas ha hb;have d15:=ad2 ha hb;have n5:=Ax a;have a22:=Xf a b;have o23:=aj0 a b;have hB:=vU;have hc:=fun hh=>R8 t a b hh;obtain⟨k1,m1,u1,s1,x1⟩:=gS a;obtain⟨k2,m2,u2,s2,x2⟩:=gS b;have hak:∃k n u s,a=⟨k,n,u,s⟩:=⟨_,_,_,_,rfl⟩;rcases ht with rfl|rfl|rfl|rfl|rfl|rfl|rfl|rfl|rfl|rfl|ht
 ·rw[show im 4 a b=cd (cJ I.ql) (bL 0) a from rfl];generalize cd (cJ I.ql) (bL 0) a=E at *;obtain⟨v,e⟩:=E;obtain⟨k3,m3,u3,s3,x3⟩:=gS v;simp only[x1,x2,x3]at d4 ⊢;obtain⟨k4,m4,u4,s4,x4⟩:=gS (bL 0);rw[x4]at i0 d4;simp[ax1,ro,i0,d4]
 ·rw[show im 5 a b=kP a from rfl];generalize kP a=E at *;obtain⟨v,e⟩:=E;obtain⟨k3,m3,u3,s3,x3⟩:=gS v;simp only[x1,x2,x3]at n5 ⊢;simp[ax1,ro,n5]
 ·rw[show im 6 a b=(bG ((a.k==0)==true),0) from rfl];obtain⟨k,n,u,s,rfl⟩:=hak;simp only[dL]at x1 ⊢;by_cases c:k=0
  ·subst c;simp only[bG,aE.a]at hB;simp at hB;simp[ax1,ro,x2,hB.1,hB.2,bG,aE.a]
  simp only[bG,aE.a]at hB;simp at hB;simp[ax1,ro,x2,hB.1,hB.2,c,al c,aR c,bG,aE.a]
 ·rw[show im 7 a b=(bG ((a.k==0)==false),0) from rfl];obtain⟨k,n,u,s,rfl⟩:=hak;simp only[dL]at x1 ⊢;by_cases c:k=0
  ·subst c;simp only[bG,aE.a]at hB;simp at hB;simp[ax1,ro,x2,hB.1,hB.2,bG,aE.a]
  simp only[bG,aE.a]at hB;simp at hB;simp[ax1,ro,x2,hB.1,hB.2,c,al c,aR c,bG,aE.a]
 ·rw[show im 12 a b=cd (cJ I.qb) a b from rfl];generalize cd (cJ I.qb) a b=E at *;obtain⟨v,e⟩:=E;obtain⟨k3,m3,u3,s3,x3⟩:=gS v;simp only[x1,x2,x3]at d12 ⊢;simp[ax1,ro,d12]
 ·rw[show im 13 a b=cd (cJ I.ql) a b from rfl];generalize cd (cJ I.ql) a b=E at *;obtain⟨v,e⟩:=E;obtain⟨k3,m3,u3,s3,x3⟩:=gS v;simp only[x1,x2,x3]at d13 ⊢;simp[ax1,ro,d13]
 ·rw[show im 14 a b=cd (cJ I.qi) a b from rfl];generalize cd (cJ I.qi) a b=E at *;obtain⟨v,e⟩:=E;obtain⟨k3,m3,u3,s3,x3⟩:=gS v;simp only[x1,x2,x3]at d14 ⊢;simp[ax1,ro,d14]
 ·rw[show im 15 a b=cd (cJ I.qe) a b from rfl];generalize cd (cJ I.qe) a b=E at *;obtain⟨v,e⟩:=E;obtain⟨k3,m3,u3,s3,x3⟩:=gS v;simp only[x1,x2,x3]at d15 ⊢;simp[ax1,ro,d15]
 ·rw[show im 22 a b=eS min a b from rfl];generalize eS min a b=E at *;obtain⟨v,e⟩:=E;obtain⟨k3,m3,u3,s3,x3⟩:=gS v;simp only[x1,x2,x3]at a22 ⊢;simp[ax1,ro,a22]
 ·rw[show im 23 a b=eS max a b from rfl];generalize eS max a b=E at *;obtain⟨v,e⟩:=E;obtain⟨k3,m3,u3,s3,x3⟩:=gS v;simp only[x1,x2,x3]at o23 ⊢;simp[ax1,ro,o23]
 have hc:=hc ht;generalize im t a b=E at *;obtain⟨v,e⟩:=E;obtain⟨k3,m3,u3,s3,x3⟩:=gS v;simp only[x1,x2,x3]at hc ⊢;have q1:(t==4)=false:=al (by omega);have q2:(t==5)=false:=al (by omega);have q3:(t==6)=false:=al (by omega);have q4:(t==7)=false:=al (by omega);have q5:(t==12)=false:=al (by omega);have q6:(t==13)=false:=al (by omega);have q7:(t==14)=false:=al (by omega);have q8:(t==15)=false:=al (by omega);have q9:(t==22)=false:=al (by omega);have q10:(t==23)=false:=al (by omega);simp[ax1,ro,q1,q2,q3,q4,q5,q6,q7,q8,q9,q10,hc]
def Cg(xX:List Int)(e:List EN)(k:Nat)(o:List Nat):Prop:=
 (∃own,aV (Eh xX) (e.take k) 0 []=.inl own∧own.length=k∧(∀x∈own,Fk x)∧aV (fI (gq xX)) (e.take k) 0 []=.inl (o.map fun p=>own.getD p 0)) ∨
 (aV (Eh xX) (e.take k) 0 []=.inr ()∧aV (fI (gq xX)) (e.take k) 0 []=.inr 201)
theorem wE{own:List Int}(h:∀x∈own,Fk x)(p:Nat):Fk (own.getD p 0):=by
 rw[ad4];cases hp:own[p]? with
 |none=>exact⟨by decide,by decide⟩
 |some x=>exact h x (aeb hp)
theorem AU{own:List Int}{k:Nat}(hl:own.length=k)(x:Int){o:List Nat}(ho:∀p∈o,p<k):(o.map fun p=>(own++[x]).getD p 0)=o.map fun p=>own.getD p 0:=
 aj6 fun p hp=>by
  have:=ho p hp;simp only[ad4];rw[arw (by omega)]
theorem xx{own:List Int}{k:Nat}(hl:own.length=k)(x:Int):(own++[x]).getD k 0=x:=by
 rw[ad4,arD (by omega),hl,avT];rfl
theorem AR{own:List Int}{x:Int}(h:∀x∈own,Fk x)(hx:Fk x):∀y∈own++[x],Fk y:=fun y hy=>by
 rcases aoS.1 hy with h'|h'
 ·exact h y h'
 rw[arq.1 h'];exact hx
theorem aaA{xX:List Int}{e:List EN}{k:Nat}{n:EN}(hn:e[k]?=some n)(hks:∀x∈xX,Fk x){a o a' o':List Nat}(ho:∀p∈o,p<k)(hs:gX k n a o=some (a',o'))(h:Cg xX e k o):Cg xX e (k+1) o':=by
 obtain⟨hk,he⟩:=aaN.1 hn;have htk:e.take (k+1)=e.take k++[n]:=by rw[am3 hk,he]
 have hlk:(e.take k).length=k:=by rw[al4];omega
 unfold Cg;rw[htk,pI,pI];rcases h with⟨own,h1,h2,h3,h4⟩|⟨h1,h2⟩
 ·rw[h1,h4];simp only;unfold gX at hs;split at hs
  ·cases hs
  rename_i hc;have hcn:cq n=true:=by
   cases hq:cq n
   ·exact absurd (.inr (.inr hq)) hc
   rfl
  have hpl:=iB n.tag;have hp0:0≤aI n.tag:=by
   have:¬(aI n.tag<0):=fun h=>hc (.inl h);omega
  have hc2:aI n.tag≤o.length:=by
   have:¬((o.length:Int)<aI n.tag):=fun h=>hc (.inr (.inl h));omega
  clear hc;rcases (by omega:aI n.tag=0∨aI n.tag=1∨aI n.tag=2) with hp|hp|hp
  ·rw[hp]at hs;simp only[aus,auy,atZ]at hs;split at hs
   ·cases hs;have ht:n.tag=1∨n.tag=2:=by
     unfold aI at hp;split at hp
     ·assumption
     split at hp
     ·omega
     split at hp<;>omega
    left;unfold Eh fI;rw[hp];simp only[aus,auy,atZ,ajk,aea,aes];have e0:(o.map fun p=>own.getD p 0).drop o.length=[]:=au7 (by simp);have e1:(o.map fun p=>own.getD p 0).take o.length=o.map fun p=>own.getD p 0:=aea (by simp)
    first|rw[e0,e1]|rw[e0]
    rcases ht with ht|ht
    ·have hv:=afS (v:=n.v) (by
      unfold cq at hcn;rw[if_pos ht]at hcn;exact (acz _ _▸hcn).1)
     rw[if_pos ht];refine⟨_,rfl,by simp[h2],AR h3 hv,?_⟩;unfold gq;simp only[List.foldl_nil,if_pos ht,arz,af6,ajo];rw[if_pos trivial,AU h2 _ ho,xx h2]
    have ht1:¬n.tag=1:=by omega
    rw[if_neg ht1,if_pos ht];refine⟨_,rfl,by simp[h2],AR h3 (wE hks _),?_⟩;unfold gq;simp only[List.foldl_nil,if_neg ht1,if_pos ht,arz,af6,ajo];rw[if_pos trivial,AU h2 _ ho,xx h2]
   cases hs
  ·have ht:¬n.tag=1∧¬n.tag=2:=by
    unfold aI at hp;split at hp
    ·omega
    omega
   rw[hp]at hs hc2;obtain⟨o0,p,rfl⟩:∃o0 p,o=o0++[p]:=by
    rcases ar0 o with h|⟨o0,p,h⟩
    ·subst h;simp at hc2
    exact⟨o0,p,by simpa using h⟩
   have e1:(o0++[p]).drop ((o0++[p]).length-(1:Int).toNat)=[p]:=by
    have:(o0++[p]).length-(1:Int).toNat=o0.length:=by simp
    rw[this,atD]
   have e2:(o0++[p]).take ((o0++[p]).length-1)=o0:=by
    have:(o0++[p]).length-1=o0.length:=by simp
    rw[this,atF]
   rw[e1]at hs;simp only at hs;split at hs
   ·rename_i hlr;cases hs;rw[e2];have hx:=wE h3 p;have hpk:=ho p (by simp);have ho0:∀q∈o0,q<k:=fun q hq=>ho q (by simp[hq]);unfold Eh fI;rw[if_neg ht.1,if_neg ht.2,hlr.1,hlr.2,if_neg (show ¬(0:Int)≤-1 by decide),hp];simp only[atL];have f1:((o0++[p]).map fun p=>own.getD p 0).drop (((o0++[p]).map fun p=>own.getD p 0).length-(1:Int).toNat)=[own.getD p 0]:=by
     rw[arz];have:(o0.map (fun p=>own.getD p 0)++[p].map fun p=>own.getD p 0).length-(1:Int).toNat=(o0.map fun p=>own.getD p 0).length:=by simp
     rw[this,atD];rfl
    have f2:((o0++[p]).map fun p=>own.getD p 0).take (((o0++[p]).map fun p=>own.getD p 0).length-(1:Int).toNat)=o0.map fun p=>own.getD p 0:=by
     rw[arz];have:(o0.map (fun p=>own.getD p 0)++[p].map fun p=>own.getD p 0).length-(1:Int).toNat=(o0.map fun p=>own.getD p 0).length:=by simp
     rw[this,atF]
    rw[f1,f2,abg hp hx];by_cases hok:(gh n.tag (own.getD p 0) 0).2=true
    ·left;rw[if_pos hok];refine⟨_,rfl,by simp[h2],AR h3 Px,?_⟩
     first|rw[if_pos hok]|skip
     simp only[aml];rw[arz,AU h2 _ ho0];simp only[af6,ajo,xx h2]
    right;rw[if_neg hok]
    first|exact⟨rfl,rfl⟩|(refine⟨rfl,?_⟩;rw[if_neg hok];rfl)|exact⟨rfl,by simp[hok]⟩
   cases hs
  have ht:¬n.tag=1∧¬n.tag=2:=by
   unfold aI at hp;split at hp
   ·omega
   omega
  rw[hp]at hs hc2;obtain⟨o0,p,q,rfl⟩:∃o0 p q,o=o0++[p,q]:=by
   rcases ar0 o with h|⟨o1,q,h⟩
   ·subst h;simp at hc2
   rcases ar0 o1 with h'|⟨o0,p,h'⟩
   ·subst h' h;simp at hc2
   exact⟨o0,p,q,by rw[h,h'];simp⟩
  have e1:(o0++[p,q]).drop ((o0++[p,q]).length-(2:Int).toNat)=[p,q]:=by
   have:(o0++[p,q]).length-(2:Int).toNat=o0.length:=by simp
   rw[this,atD]
  have e2:(o0++[p,q]).take ((o0++[p,q]).length-2)=o0:=by
   have:(o0++[p,q]).length-2=o0.length:=by simp
   rw[this,atF]
  rw[e1]at hs;simp only at hs;split at hs
  ·rename_i hlr;cases hs;rw[e2];have hx:=wE h3 p;have hy:=wE h3 q;have ho0:∀q∈o0,q<k:=fun q hq=>ho q (by simp[hq]);unfold Eh fI;rw[if_neg ht.1,if_neg ht.2,hlr.1,hlr.2,if_pos (show (0:Int)≤((q:Nat):Int) by omega),hp];simp only[atL];have f1:((o0++[p,q]).map fun p=>own.getD p 0).drop (((o0++[p,q]).map fun p=>own.getD p 0).length-(2:Int).toNat)=[own.getD p 0,own.getD q 0]:=by
    rw[arz];have:(o0.map (fun p=>own.getD p 0)++[p,q].map fun p=>own.getD p 0).length-(2:Int).toNat=(o0.map fun p=>own.getD p 0).length:=by simp
    rw[this,atD];rfl
   have f2:((o0++[p,q]).map fun p=>own.getD p 0).take (((o0++[p,q]).map fun p=>own.getD p 0).length-(2:Int).toNat)=o0.map fun p=>own.getD p 0:=by
    rw[arz];have:(o0.map (fun p=>own.getD p 0)++[p,q].map fun p=>own.getD p 0).length-(2:Int).toNat=(o0.map fun p=>own.getD p 0).length:=by simp
    rw[this,atF]
   rw[f1,f2,acY hp hx hy];by_cases hok:(gh n.tag (own.getD p 0) (own.getD q 0)).2=true
   ·left;rw[if_pos hok];refine⟨_,rfl,by simp[h2],AR h3 Px,?_⟩
    first|rw[if_pos hok]|skip
    simp only[aml];rw[arz,AU h2 _ ho0];simp only[af6,ajo,xx h2]
   right;rw[if_neg hok]
   first|exact⟨rfl,rfl⟩|(refine⟨rfl,?_⟩;rw[if_neg hok];rfl)|exact⟨rfl,by simp[hok]⟩
  cases hs
 rw[h1,h2];exact .inr ⟨rfl,rfl⟩
theorem ME{xX:List Int}{e:List EN}(hks:∀x∈xX,Fk x)(ho:si e=true):∀k,k≤e.length→∃a o,cG (e.take k) 0 [] []=some (a,o)∧a.length=k∧o.length≤k∧(∀p∈o,p<k)∧Cg xX e k o:=by
 intro k;induction k with
 |zero=>intro _;exact⟨[],[],rfl,rfl,by simp,by simp,.inl ⟨[],rfl,rfl,by simp,rfl⟩⟩
 |succ k ih=>
  intro hk;obtain⟨a,o,i1,i2,i3,i4,i5⟩:=ih (by omega);have hn:e[k]?=some e[k]:=ad3 (by omega);obtain⟨a',o',s1,s2,_⟩:=jX ho hn i1;obtain⟨v1,v2,v3⟩:=BQ i2 i4 i3 s2;exact⟨a',o',s1,v1,v3,v2,aaA hn hks i4 s2 i5⟩
theorem QE{xX:List Int}{e:List EN}(hks:∀x∈xX,Fk x)(ho:si e=true) :
  (∃own,aV (Eh xX) e 0 []=.inl own∧own.length=e.length∧jg 0 (gq xX) e=(own.getD (e.length-1) 0,0))∨(aV (Eh xX) e 0 []=.inr ()∧jg 0 (gq xX) e=(0,201)):=by
 obtain⟨a,o,h1,h2,_,_,h3⟩:=ME (xX:=xX) hks ho e.length (aes _);have ht:=(qS e e.length (aes _) a o h1).1;unfold Cg at h3;rw[atd]at h1 h3;have hl:=xg ho h1
 match o,hl with
 |[p],_=>
  obtain⟨t1,_,_⟩:=ht;unfold jg;rcases h3 with⟨own,g1,g2,_,g4⟩|⟨g1,g2⟩
  ·left;rw[g4];exact⟨own,g1,g2,by simp[show e.length-1=p by omega]⟩
  right;rw[g2];exact⟨g1,rfl⟩
theorem Pr(e:List EN)(m:Int):((fu e).any fun c=>decide (m≤c))=e.any fun n=>n.tag==2&&decide (m≤n.col):=by
 rw[arh,arL,arL];constructor
 ·rintro⟨c,hc,h⟩;obtain⟨n,hn,ht,rfl⟩:=xD hc;exact⟨n,hn,by simp[ht];simpa using h⟩
 rintro⟨n,hn,h⟩;simp only[acz,afE]at h;exact⟨n.col,oR hn h.1,h.2⟩
abbrev Gr(b:Bool)(e:List EN)(bk:Bool)(xX:List Int)(d:List aa):List aa:=[.agg [.wh b (e.map EN.a)],.wh bk (xX.map (.int .i64)),.ptr 0 0 0 0]++d
theorem afl(b:Bool)(e:List EN)(bk:Bool)(xX:List Int)(hk:xX.length≤most) :
  (xX.any zm=false∧aM code 1 [3,4,5,17,18] rc ⟨Gr b e bk xX [.any,.any,.any,.any,.any,.any,.any,.any,.any,.any,.bool false,.wh bk (xX.map (.int .i64)),ac xX.length,ac 0,.any,.any,.any,.any,.any,.any,.any,.any,.any,.any,.any,.any,.any,.any,.any],[.arr 1 0 [.agg [.wh b (e.map EN.a)]]]⟩ =
   some (.ext 0,⟨Gr b e bk xX [.any,.any,.any,.any,.any,.any,.any,.any,.any,.any,.bool false,.wh bk (xX.map (.int .i64)),ac xX.length,ac xX.length,.bool false,.any,.any,.any,.any,.any,.any,.any,.any,.any,.any,.any,.any,.any,.any],[.arr 1 0 [.agg [.wh b (e.map EN.a)]]]⟩)) ∨
  (xX.any zm=true∧∃s,aM code 1 [3,4,5,17,18] rc ⟨Gr b e bk xX [.any,.any,.any,.any,.any,.any,.any,.any,.any,.any,.bool false,.wh bk (xX.map (.int .i64)),ac xX.length,ac 0,.any,.any,.any,.any,.any,.any,.any,.any,.any,.any,.any,.any,.any,.any,.any],[.arr 1 0 [.agg [.wh b (e.map EN.a)]]]⟩=some (.ret,s) ∧
   bF .pure [.env 3,.env 4] (some (.ret,s))=some (.tup [ac 0,ac 2])):=by
 have h1:=fM (base:=1) (clr:=[3,4,5,17,18]) (b:=rc) xX
  (fun k=>⟨Gr b e bk xX [.any,.any,.any,.any,.any,.any,.any,.any,.any,.any,.bool false,.wh bk (xX.map (.int .i64)),ac xX.length,ac k,.any,.any,.any,.any,.any,.any,.any,.any,.any,.any,.any,.any,.any,.any,.any],[.arr 1 0 [.agg [.wh b (e.map EN.a)]]]⟩) zm
  (.ext 0,⟨Gr b e bk xX [.any,.any,.any,.any,.any,.any,.any,.any,.any,.any,.bool false,.wh bk (xX.map (.int .i64)),ac xX.length,ac xX.length,.bool false,.any,.any,.any,.any,.any,.any,.any,.any,.any,.any,.any,.any,.any,.any],[.arr 1 0 [.agg [.wh b (e.map EN.a)]]]⟩)
  (fun o=>∃s,o=(.ret,s)∧bF .pure [.env 3,.env 4] (some (.ret,s))=some (.tup [ac 0,ac 2]))
  (fun k y hk' hy hp=>by
   have yB:((k:Int)<(xX.length:Int)):=by omega
   unfold zm at hp;simp at hp;have e1:¬(y<0):=by omega
   have e2:¬(3<y):=by omega
   simp[rc,yB,hy,e1,e2,aA hk' hk,aH])
  (fun k y hk' hy hp=>by
   have yB:((k:Int)<(xX.length:Int)):=by omega
   unfold zm at hp;simp at hp;by_cases e1:y<0
   ·exact⟨_,by simp[rc,yB,hy,e1];rfl,_,rfl,by simp⟩
   have e2:3<y:=by omega
   exact⟨_,by simp[rc,yB,hy,e1,e2];rfl,_,rfl,by simp⟩)
  (by simp[rc])
 rcases h1 with⟨ha,h1⟩|⟨ha,o,h1,s,rfl,h2⟩
 ·exact .inl ⟨ha,by simpa using h1⟩
 exact .inr ⟨ha,s,by simpa using h1,h2⟩
abbrev dK(bk:Bool)(xX:List Int):List aa:=[.bool false,.wh bk (xX.map (.int .i64)),ac xX.length,ac xX.length,.bool false,.any]
theorem afW(b:Bool)(e:List EN)(bk:Bool)(xX:List Int)(hn:e.length≤most)(hk:xX.length≤most) :
  ((e.any fun n=>n.tag==2&&decide ((xX.length:Int)≤n.col))=false∧aM code 1 [3,4,6,22,23] qJ ⟨Gr b e bk xX ([.any,.any,.any,.any,.any,.any,.any,.any,.any,.any]++dK bk xX++[.wh b (e.map EN.a),ac e.length,ac 0,.any,.any,.any,.any,.any,.any,.any,.any,.any,.any]),[.arr 1 0 [.agg [.wh b (e.map EN.a)]]]⟩ =
   some (.ext 2,⟨Gr b e bk xX ([.any,.any,.any,.any,.any,.any,.any,.any,.any,.any]++dK bk xX++[.wh b (e.map EN.a),ac e.length,ac e.length,.bool false,.any,.any,.any,.any,.any,.any,.any,.any,.any]),[.arr 1 0 [.agg [.wh b (e.map EN.a)]]]⟩)) ∨
  ((e.any fun n=>n.tag==2&&decide ((xX.length:Int)≤n.col))=true∧∃s,aM code 1 [3,4,6,22,23] qJ ⟨Gr b e bk xX ([.any,.any,.any,.any,.any,.any,.any,.any,.any,.any]++dK bk xX++[.wh b (e.map EN.a),ac e.length,ac 0,.any,.any,.any,.any,.any,.any,.any,.any,.any,.any]),[.arr 1 0 [.agg [.wh b (e.map EN.a)]]]⟩=some (.ret,s) ∧
   bF .pure [.env 3,.env 4] (some (.ret,s))=some (.tup [ac 0,ac 2])):=by
 have h1:=fM (base:=1) (clr:=[3,4,6,22,23]) (b:=qJ) e
  (fun k=>⟨Gr b e bk xX ([.any,.any,.any,.any,.any,.any,.any,.any,.any,.any]++dK bk xX++[.wh b (e.map EN.a),ac e.length,ac k,.any,.any,.any,.any,.any,.any,.any,.any,.any,.any]),[.arr 1 0 [.agg [.wh b (e.map EN.a)]]]⟩)
  (fun n=>n.tag==2&&decide ((xX.length:Int)≤n.col))
  (.ext 2,⟨Gr b e bk xX ([.any,.any,.any,.any,.any,.any,.any,.any,.any,.any]++dK bk xX++[.wh b (e.map EN.a),ac e.length,ac e.length,.bool false,.any,.any,.any,.any,.any,.any,.any,.any,.any]),[.arr 1 0 [.agg [.wh b (e.map EN.a)]]]⟩)
  (fun o=>∃s,o=(.ret,s)∧bF .pure [.env 3,.env 4] (some (.ret,s))=some (.tup [ac 0,ac 2]))
  (fun k y hk' hy hp=>by
   have yB:((k:Int)<(e.length:Int)):=by omega
   by_cases ht:y.tag=2
   ·have hc:¬((xX.length:Int)≤y.col):=by simpa [ht] using hp
    simp[qJ,yB,hy,EN.a,ht,hc,aA hk' hn,ar,ap]
   simp[qJ,yB,hy,EN.a,al ht,aA hk' hn,ar,ap])
  (fun k y hk' hy hp=>by
   have yB:((k:Int)<(e.length:Int)):=by omega
   simp only[acz,afE,ad7]at hp;exact⟨_,by simp[qJ,yB,hy,EN.a,hp.1,hp.2];rfl,_,rfl,by simp⟩)
  (by simp[qJ])
 rcases h1 with⟨ha,h1⟩|⟨ha,o,h1,s,rfl,h2⟩
 ·exact .inl ⟨ha,by simpa using h1⟩
 exact .inr ⟨ha,s,by simpa using h1,h2⟩
theorem Kd(e:List EN)(P:Int→Bool):(fu e).any P=e.any fun n=>n.tag==2&&P n.col:=by
 rw[arh,arL,arL];constructor
 ·rintro⟨c,hc,h⟩;obtain⟨n,hn,ht,rfl⟩:=xD hc;exact⟨n,hn,by simp[ht,h]⟩
 rintro⟨n,hn,h⟩;simp only[acz,afE]at h;exact⟨n.col,oR hn h.1,h.2⟩
abbrev TB(r:aJ)(n:EN):Bool:=n.tag==2&&(decide ((r.length:Int)≤n.col) || !dd (r.getD n.col.toNat aq))
abbrev dv(b:Bool)(e:List EN)(br:Bool)(r:aJ)(k e16:aa):List aa:=
 [.agg [.wh b (e.map EN.a)],.wh br (r.map aE.a),.ptr 0 0 0 0,.ptr 1 0 0 0,.any,.any,.any,.any,.any,.any,.any,.any,.bool false,.wh b (e.map EN.a),ac e.length,k,e16,.any,.any,.any,.any,.any,.any,.any,.any,.any,.any,.any]
abbrev cQ(b:Bool)(e:List EN):ah:=[.arr 1 0 [.agg [.wh b (e.map EN.a)]],.arr 4 0 [.agg [ac 0,ac 0,.int .u64 0,.str []]]]
theorem abV(b:Bool)(e:List EN)(br:Bool)(r:aJ)(hn:e.length≤most)(ho:si e=true) :
  (e.any (TB r)=false∧aM code 2 [4,5,16,17] ou ⟨dv b e br r (ac 0) .any,cQ b e⟩=some (.ext 0,⟨dv b e br r (ac e.length) (.bool false),cQ b e⟩)) ∨
  (e.any (TB r)=true∧∃o,aM code 2 [4,5,16,17] ou ⟨dv b e br r (ac 0) .any,cQ b e⟩=some o∧∃s,o=(.ret,s)∧bF .pure [.cell true 4 3,.env 4] (some (.ret,s))=some (.tup [aq.a,ac 2])):=by
 have hP:=oQ;refine fM (base:=2) (clr:=[4,5,16,17]) (b:=ou) e
  (fun k=>⟨dv b e br r (ac k) .any,cQ b e⟩) (TB r) _ _ ?_ ?_ ?_
 ·intro k n hk hy hp;have yB:((k:Int)<(e.length:Int)):=by omega
  have hyl:∀hh:k<e.length,e[k]'hh=n:=fun hh=>(aaN.1 hy).2;obtain⟨hcn,_⟩:=zK ho hy;by_cases t2:n.tag=2
  ·have hc0:=ij hcn t2;obtain⟨c,hc⟩:∃c:Nat,n.col=c:=⟨n.col.toNat,by omega⟩;unfold TB at hp;rw[t2,hc,atL]at hp;simp only[atT,al5,Bool.or_eq_false_iff,atb,auk]at hp;have hcl:c<r.length:=by omega
   have hcr:r[c]?=some (r.getD c aq):=by rw[ad4,ad3 hcl];rfl
   obtain⟨hcl',hcg⟩:=aaN.1 hcr;have hpl:=hP (r.getD c aq);rw[hp.2]at hpl;generalize r.getD c aq=x at *;obtain⟨xk,xn,xu,xs⟩:=x;simp only[dL]at hpl;have hnle:¬((r.length:Int)≤(c:Int)):=by omega
   simp[ou,yB,hy,hyl,EN.a,t2,hc,hcr,hcg,hcl',hnle,hpl,dL,aA hk hn,ar,ap,aZ,bQ]
  simp[ou,yB,hy,hyl,EN.a,t2,al t2,aA hk hn,ar,ap,aZ,bQ]
 ·intro k n hk hy hp;have yB:((k:Int)<(e.length:Int)):=by omega
  have hyl:∀hh:k<e.length,e[k]'hh=n:=fun hh=>(aaN.1 hy).2;obtain⟨hcn,_⟩:=zK ho hy;unfold TB at hp;simp only[acz,afE]at hp;obtain⟨t2,hp⟩:=hp;have hc0:=ij hcn t2;obtain⟨c,hc⟩:∃c:Nat,n.col=c:=⟨n.col.toNat,by omega⟩;rw[hc,atL]at hp;by_cases hcl:c<r.length
  ·have hnle:¬((r.length:Int)≤(c:Int)):=by omega
   have hcr:r[c]?=some (r.getD c aq):=by rw[ad4,ad3 hcl];rfl
   obtain⟨hcl',hcg⟩:=aaN.1 hcr;have hpl:=hP (r.getD c aq);rw[alg hnle,avm,as9]at hp;rw[hp]at hpl;generalize r.getD c aq=x at *;obtain⟨xk,xn,xu,xs⟩:=x;simp only[dL]at hpl;exact⟨_,by simp[ou,yB,hy,hyl,EN.a,t2,hc,hcr,hcg,hcl',hnle,hpl,dL];rfl,_,rfl,by simp[aq,aE.a]⟩
  have hle:((r.length:Int)≤(c:Int)):=by omega
  exact⟨_,by simp[ou,yB,hy,hyl,EN.a,t2,hc,hle];rfl,_,rfl,by simp[aq,aE.a]⟩
 simp[ou]
abbrev IR(b:Bool)(e:List EN)(br:Bool)(r:aJ)(ep:Nat)(own:aJ)(k e21:aa):List aa:=
 [.agg [.wh b (e.map EN.a)],.wh br (r.map aE.a),.ptr 0 0 0 0,.ptr 1 0 0 0,.any,.any,.sl 2 ep 0 own.length,.any,.any,.any,.any,.any,.bool false,.wh b (e.map EN.a),ac e.length,ac e.length,.bool false,.any,.wh b (e.map EN.a),ac e.length,k,e21,.any,.any,.any,.any,.any,.any]
abbrev LJ(b:Bool)(e:List EN)(ep:Nat)(own:aJ):ah:=[.arr 1 0 [.agg [.wh b (e.map EN.a)]],.arr 4 0 [.agg [ac 0,ac 0,.int .u64 0,.str []]],.arr 4 ep (own.map aE.a)]
theorem ae1{t:Int}(h:aI t=1)(a x y:aE):im t a x=im t a y:=by
 have ht:t=4∨t=5∨t=6∨t=7:=by
  unfold aI at h;repeat' split at h
  all_goals omega
 rcases ht with rfl|rfl|rfl|rfl<;>rfl
theorem adD(b:Bool)(e:List EN)(br:Bool)(r:aJ)(hn:e.length≤8000)(ho:si e=true)(hr:Sr r)(hE:xO e)(hodd:e.any (TB r)=false) :
  (∃own,aV (Ee aq (fa r)) e 0 []=.inl own∧∃ep,aM code 3 [4,7,8,9,10,11,21,22,23,24,25,26,27] jm ⟨IR b e br r 0 [] (ac 0) .any,LJ b e 0 []⟩ =
   some (.ext 2,⟨IR b e br r ep own (ac e.length) (.bool false),LJ b e ep own⟩)) ∨
  (∃no,aV (Ee aq (fa r)) e 0 []=.inr no∧∃s,aM code 3 [4,7,8,9,10,11,21,22,23,24,25,26,27] jm ⟨IR b e br r 0 [] (ac 0) .any,LJ b e 0 []⟩=some (.ret,s) ∧
   bF .pure [.cell true 4 3,.env 4] (some (.ret,s))=some (.tup [aq.a,ac no])):=by
 have hm:e.length≤most:=by unfold most;omega
 have hany:∀c∈fu e,c<r.length∧dd (r.getD c.toNat aq)=true:=fun c hc=>by
  have h1:=Kd e (fun c=>decide ((r.length:Int)≤c) || !dd (r.getD c.toNat aq));rw[show (e.any fun n=>n.tag==2&&(decide ((r.length:Int)≤n.col) || !dd (r.getD n.col.toNat aq)))=false from hodd]at h1;have:=arG.1 h1 c hc;simp at this;exact this
 have key:=eI (base:=3) (clr:=[4,7,8,9,10,11,21,22,23,24,25,26,27]) (b:=jm) e
  (fun k (own:aJ) t=>own.length=k∧(∀y∈own,Iv y)∧∃ep,t=⟨IR b e br r ep own (ac k) .any,LJ b e ep own⟩)
  (Ee aq (fa r))
  (fun own o=>∃ep,o=(.ext 2,⟨IR b e br r ep own (ac e.length) (.bool false),LJ b e ep own⟩))
  (fun (no:Int) o=>∃s,o=(.ret,s)∧bF .pure [.cell true 4 3,.env 4] (some (.ret,s))=some (.tup [aq.a,ac no]))
  (fun k n own t hk hy ht=>by
   obtain⟨hl,hI,ep,rfl⟩:=ht;have yB:((k:Int)<(e.length:Int)):=by omega
   have hyl:∀hh:k<e.length,e[k]'hh=n:=fun hh=>(aaN.1 hy).2;have hne:n∈e:=aeb hy;have hl1:own.length+1≤most:=by omega
   obtain⟨hcn,hpos⟩:=zK ho hy;have hcol':=arG.1 hodd n hne;have hgI:∀p,Iv (own.getD p aq):=fun p=>by
    rw[ad4];cases hp:own[p]? with
    |none=>exact mG
    |some x=>exact hI x (aeb hp)
   have hnext:∀v:aE,Iv v→∀y∈own++[v],Iv y:=fun v hv y hy=>by
    rcases aoS.1 hy with h|h
    ·exact hI y h
    rw[arq.1 h];exact hv
   unfold Ee;rcases hpos with hp0|⟨p,hp1,hnl,hnr,hpk⟩|⟨p,q,hp2,hnl,hnr,hpk,hqk⟩
   ·have hpb:sO aq n own=[]:=by unfold sO;rw[if_pos hp0]
    rw[hpb];have hv:=vq hr hE hany n hne [] (by rw[hp0];rfl) hcn (by simp);have ht:n.tag=1∨n.tag=2:=by
     unfold aI at hp0;repeat' split at hp0
     all_goals omega
    rcases ht with t1|t2
    ·have he1:fa r n []=(n.v,0):=by unfold fa;rw[if_pos t1]
     rw[he1]at hv ⊢;simp only[aml];refine⟨⟨IR b e br r (ep+1) (own++[n.v]) (ac (k+1:Nat)) .any,LJ b e (ep+1) (own++[n.v])⟩,?_,by simp[hl],hnext _ hv,ep+1,rfl⟩;simp[IR,LJ,jm,yB,hy,hyl,EN.a,aE.a,t1,append,hl1,aA hk hm,ar,ap,aZ,bQ]
    have hc0:=ij hcn t2;obtain⟨c,hc⟩:∃c:Nat,n.col=c:=⟨n.col.toNat,by omega⟩;have he1:fa r n []=(r.getD c aq,0):=by unfold fa;rw[if_neg (by omega),if_pos t2,hc,atL]
    rw[he1]at hv ⊢;simp only[aml];unfold TB at hcol';rw[t2,hc]at hcol';simp at hcol';have hcl:c<r.length:=by omega
    have hcr:r[c]?=some (r.getD c aq):=by rw[ad4,ad3 hcl];rfl
    obtain⟨hcl',hcg⟩:=aaN.1 hcr;generalize r.getD c aq=x at *;refine⟨⟨IR b e br r (ep+1) (own++[x]) (ac (k+1:Nat)) .any,LJ b e (ep+1) (own++[x])⟩,?_,by simp[hl],hnext _ hv,ep+1,rfl⟩;obtain⟨xk,xn,xu,xs⟩:=x;simp[IR,LJ,jm,yB,hy,hyl,EN.a,aE.a,t2,hc,hcr,hcg,hcl',append,hl1,aA hk hm,ar,ap,aZ,bQ]
   ·have hpb:sO aq n own=[own.getD p aq]:=by
     unfold sO;rw[if_neg (by omega),if_neg (by omega),hnl,atL]
    rw[hpb];have t1:n.tag≠1:=fun h=>by rw[h]at hp1;exact absurd hp1 (by decide)
    have t2:n.tag≠2:=fun h=>by rw[h]at hp1;exact absurd hp1 (by decide)
    have hpo:own[p]?=some (own.getD p aq):=by rw[ad4,ad3 (by omega)];rfl
    obtain⟨hpl,hpg⟩:=aaN.1 hpo;have hx:=hgI p;generalize own.getD p aq=x at *;have hv:=vq hr hE hany n hne [x] (by rw[hp1];rfl) hcn (by simpa using hx);have hd:=OJ n.tag x aq (by omega) hx.2 (by simp[aq,rg]);have he1:fa r n [x]=((im n.tag x aq).1,if (im n.tag x aq).2≠0∧(im n.tag x aq).2≠140 then 201 else (im n.tag x aq).2):=by
     unfold fa;rw[if_neg t1,if_neg t2];simp only[List.length_singleton,List.getD_cons_zero,avT];rw[ae1 hp1 x x aq]
    rw[he1]at hv ⊢;generalize im n.tag x aq=w at *;obtain⟨w1,w2⟩:=w;obtain⟨xk,xn,xu,xs⟩:=x;obtain⟨wk,wn,wu,ws⟩:=w1;simp only[dL,aq]at hd;by_cases h0:w2=0
    ·subst h0;simp only[ne_eq,av1,false_and,ali,aml];refine⟨⟨IR b e br r (ep+1) (own++[⟨wk,wn,wu,ws⟩]) (ac (k+1:Nat)) .any,LJ b e (ep+1) (own++[⟨wk,wn,wu,ws⟩])⟩,?_,by simp[hl],hnext _ hv,ep+1,rfl⟩;simp[IR,LJ,jm,yB,hy,hyl,EN.a,dL,al t1,al t2,hnl,hnr,hpo,hpl,hpg,hd,append,hl1,aA hk hm,ar,ap,aZ,bQ]
    by_cases h140:w2=140
    ·subst h140;exact⟨_,by simp[IR,LJ,jm,yB,hy,hyl,EN.a,dL,al t1,al t2,hnl,hnr,hpo,hpl,hpg,hd];rfl,_,rfl,by simp[aq,aE.a]⟩
    have hi:(if w2≠0∧w2≠140 then (201:Int) else w2)=201:=if_pos ⟨h0,h140⟩;simp only[hi];rw[if_neg (show ¬(201:Int)=0 by decide)];exact⟨_,by simp[IR,LJ,jm,yB,hy,hyl,EN.a,dL,al t1,al t2,hnl,hnr,hpo,hpl,hpg,hd,h0,h140,al h140,aR h0];rfl,_,rfl,by simp[aq,aE.a]⟩
   have hpb:sO aq n own=[own.getD p aq,own.getD q aq]:=by
    unfold sO;rw[if_neg (by omega),if_pos (by omega),hnl,hnr,atL,atL]
   rw[hpb];have t1:n.tag≠1:=fun h=>by rw[h]at hp2;exact absurd hp2 (by decide)
   have t2:n.tag≠2:=fun h=>by rw[h]at hp2;exact absurd hp2 (by decide)
   have hpo:own[p]?=some (own.getD p aq):=by rw[ad4,ad3 (by omega)];rfl
   have hqo:own[q]?=some (own.getD q aq):=by rw[ad4,ad3 (by omega)];rfl
   obtain⟨hpl,hpg⟩:=aaN.1 hpo;obtain⟨hql,hqg⟩:=aaN.1 hqo;have hx:=hgI p;have hz:=hgI q;generalize own.getD p aq=x at *;generalize own.getD q aq=z at *;have hv:=vq hr hE hany n hne [x,z] (by rw[hp2];rfl) hcn (by simp[hx,hz]);have hd:=OJ n.tag x z (by omega) hx.2 hz.2;have he1:fa r n [x,z]=((im n.tag x z).1,if (im n.tag x z).2≠0∧(im n.tag x z).2≠140 then 201 else (im n.tag x z).2):=by
    unfold fa;rw[if_neg t1,if_neg t2];rfl
   have hq0:(0:Int)≤(q:Nat):=by omega
   rw[he1]at hv ⊢;generalize im n.tag x z=w at *;obtain⟨w1,w2⟩:=w;obtain⟨xk,xn,xu,xs⟩:=x;obtain⟨zk,zn,zu,zs⟩:=z;obtain⟨wk,wn,wu,ws⟩:=w1;simp only[dL]at hd;by_cases h0:w2=0
   ·subst h0;simp only[ne_eq,av1,false_and,ali,aml];refine⟨⟨IR b e br r (ep+1) (own++[⟨wk,wn,wu,ws⟩]) (ac (k+1:Nat)) .any,LJ b e (ep+1) (own++[⟨wk,wn,wu,ws⟩])⟩,?_,by simp[hl],hnext _ hv,ep+1,rfl⟩;simp[IR,LJ,jm,yB,hy,hyl,EN.a,dL,al t1,al t2,hnl,hnr,hpo,hpl,hpg,hqo,hql,hqg,hq0,hd,append,hl1,aA hk hm,ar,ap,aZ,bQ]
   by_cases h140:w2=140
   ·subst h140;exact⟨_,by simp[IR,LJ,jm,yB,hy,hyl,EN.a,dL,al t1,al t2,hnl,hnr,hpo,hpl,hpg,hqo,hql,hqg,hq0,hd];rfl,_,rfl,by simp[aq,aE.a]⟩
   have hi:(if w2≠0∧w2≠140 then (201:Int) else w2)=201:=if_pos ⟨h0,h140⟩;simp only[hi];rw[if_neg (show ¬(201:Int)=0 by decide)];exact⟨_,by simp[IR,LJ,jm,yB,hy,hyl,EN.a,dL,al t1,al t2,hnl,hnr,hpo,hpl,hpg,hqo,hql,hqg,hq0,hd,h0,h140,al h140,aR h0];rfl,_,rfl,by simp[aq,aE.a]⟩)
  (fun own t ht=>by
   obtain⟨_,_,ep,rfl⟩:=ht;exact⟨_,by simp[jm],ep,rfl⟩) [] _ ⟨rfl,by simp,0,rfl⟩
 rcases hf:aV (Ee aq (fa r)) e 0 [] with own|no
 ·rw[hf]at key;obtain⟨o,h1,ep,rfl⟩:=key;exact .inl ⟨own,rfl,ep,h1⟩
 rw[hf]at key;obtain⟨o,h1,s,rfl,h2⟩:=key;exact .inr ⟨no,rfl,s,h1,h2⟩
theorem lh(b:Bool)(e:List EN)(br:Bool)(r:aJ)(hn:e.length≤most)(hr:Sr r)(hE:xO e) :
  az I.qbt [.agg [.wh b (e.map EN.a)],.wh br (r.map aE.a)]=some (.tup [(aY e r).1.a,ac (aY e r).2]):=by
 rw[am am0 rfl];have hR:=fun b=>G9 b e hn;simp only[nV,vx]at hR;unfold aY;cases ho:si e with
 |false=>
  rw[ho]at hR;simp[ayO,OL,hR,aq,aE.a]
 |true=>
  rw[ho]at hR;have h8:1≤e.length∧e.length≤1000:=by
   rw[←Hz]at ho;unfold Cs at ho;simp only[acz,ad7]at ho;exact ho.1
  simp only[asf,ali];rw[Kd];rcases abV b e br r hn ho with⟨a1,l1⟩|⟨a1,o,l1,s,rfl,v1⟩
  ·rw[show (e.any fun n=>n.tag==2&&(decide ((r.length:Int)≤n.col) || !dd (r.getD n.col.toNat aq)))=false from a1];simp only[ai1,ali];rcases adD b e br r (by omega) ho hr hE a1 with⟨own,f0,ep,l0⟩|⟨no,f0,s,l0,v0⟩
   ·rcases JR (z:=aq) (cd:=fa r) ho with⟨own',g1,g2,g3⟩|⟨no,g1,_⟩
    ·rw[f0]at g1;cases g1;rw[g3];have hw:IntKind.i64.wrap ((own.length:Int)-1)=(own.length:Int)-1:=bl (by omega);have hi:own[own.length-1]?=some (own.getD (e.length-1) aq):=by
      rw[←g2,ad4,ad3 (by omega)];rfl
     obtain⟨hil,hig⟩:=aaN.1 hi;have hc:(own.length:Int)-1=((own.length-1:Nat):Int):=by omega
     generalize own.getD (e.length-1) aq=z at *;rw[hc]at hw;obtain⟨zk,zn,zu,zs⟩:=z;simp only[dv,cQ]at l1;simp only[IR,LJ]at l0
     try simp at l1
     try simp at l0
     simp[ayO,OL,hR,l1,l0,hc,hw,hi,hil,hig,dL]
    rw[f0]at g1;cases g1
   rcases JR (z:=aq) (cd:=fa r) ho with⟨own',g1,_⟩|⟨no',g1,g3⟩
   ·rw[f0]at g1;cases g1
   rw[f0]at g1;cases g1;rw[g3];simp only[dv,cQ]at l1;simp only[IR,LJ]at l0
   try simp at l1
   try simp at l0
   simp[ayO,OL,hR,l1,l0,-bP];exact v0
  rw[show (e.any fun n=>n.tag==2&&(decide ((r.length:Int)≤n.col) || !dd (r.getD n.col.toNat aq)))=true from a1];simp only[aml];simp only[dv,cQ]at l1
  try simp at l1
  simp[ayO,OL,hR,l1,-bP];exact v1
def NZ(b:Bool):Int:=if b then -1 else 1
theorem P6(b:Bool):az I.qbr [.bool b]=some (ac (NZ b)):=by
 rw[am aoF rfl];cases b<;>simp[aAI,ag5,NZ]
theorem LF{a b:Int}(h:¬a=b):fc a b=NZ (decide (a<b))∧fc a b≠0:=by
 unfold fc NZ;by_cases h1:a<b
 ·rw[if_pos h1,ar6 h1];exact⟨rfl,by decide⟩
 rw[if_neg h1,if_pos (by omega),alg h1];exact⟨rfl,by decide⟩
theorem aeU{a b:List UInt8}(h:¬a=b):qA a b=NZ (Op.bytesLess a b)∧qA a b≠0:=by
 unfold qA NZ;cases hb:Op.bytesLess a b with
 |true=>simp
 |false=>
  have:(a==b)=false:=by simp[h]
  simp[this]
theorem vO{a b:Int}(h:a=0):lex a b=b:=by unfold lex;rw[if_neg (by simp[h])]
theorem xc{a b:Int}(h:a≠0):lex a b=a:=by unfold lex;rw[if_pos h]
theorem xG(a:Int):fc a a=0:=by simp[fc]
theorem XP(s:List UInt8):qA s s=0:=by
 rw[PB];have:Ek s s=none:=by
  induction s with
  |nil=>rfl
  |cons a s ih=>simp[Ek,ih]
 rw[this];exact xG _
theorem wY(v w:aE):az I.qbq [v.a,w.a]=some (ac (dP v w)):=by
 rw[am apb rfl];have hs:=P6;unfold dP;obtain⟨k,n,u,s⟩:=v;obtain⟨k',n',u',s'⟩:=w;simp only[aE.a];by_cases h1:k=k'
 rotate_left
 ·obtain⟨e,e0⟩:=LF h1;rw[xc e0,e];simp[ayB,JS,aR h1,h1,hs]
 subst h1;rw[vO (xG k)];by_cases h2:n=n'
 rotate_left
 ·obtain⟨e,e0⟩:=LF h2;rw[xc e0,e];simp[ayB,JS,aR h2,h2,hs]
 subst h2;rw[vO (xG n)];by_cases h3:u=u'
 rotate_left
 ·obtain⟨e,e0⟩:=LF h3;rw[xc e0,e];simp[ayB,JS,aR h3,h3,hs]
 subst h3;rw[vO (xG u)];by_cases h4:s=s'
 rotate_left
 ·obtain⟨e,e0⟩:=aeU h4;have hb:(s==s')=false:=by simp[h4]
  rw[e];simp[ayB,JS,h4,eY,hs,hb]
 subst h4;rw[XP];simp[ayB,JS,eY]
theorem Rn(b b':Bool)(r q:aJ)(hr:r.length≤most):∀(x y p:aJ),r=p++x→q=p++y →
  match x,y with
  |_,_=>(∃s,aM code 0 [2,4,5,6] oI ⟨[.wh b (r.map aE.a),.wh b' (q.map aE.a),.any,.int .i64 p.length,.any,.any,.any,.any],[]⟩=some (.ret,s)∧s.env[2]?=some (.int .i64 (cf x y))) ∨
   (∃k:Nat,aM code 0 [2,4,5,6] oI ⟨[.wh b (r.map aE.a),.wh b' (q.map aE.a),.any,ac p.length,.any,.any,.any,.any],[]⟩=some (.ext 0,⟨[.wh b (r.map aE.a),.wh b' (q.map aE.a),.any,ac k,.any,.bool false,.any,.any],[]⟩)∧cf x y=if r.length=q.length then 0 else NZ (decide (r.length<q.length))):=by
 intro x;induction x with
 |nil=>
  intro y p h1 h2;refine .inr ⟨p.length,?_,?_⟩
  ·rw[bj];have:¬((p.length:Int)<(r.length:Int)):=by rw[h1];simp
   simp[oI,this]
  subst h1 h2;cases y with
  |nil=>simp[cf]
  |cons c y=>simp[cf,NZ]
 |cons a x ih=>
  intro y p h1 h2;have hlx:((p.length:Int)<(r.length:Int)):=by rw[h1];simp;omega
  cases y with
  |nil=>
   refine .inr ⟨p.length,?_,?_⟩
   ·rw[bj];have:¬((p.length:Int)<(q.length:Int)):=by rw[h2];simp
    simp[oI,hlx,this]
   subst h1 h2;simp[cf,NZ]
  |cons c y=>
   have hly:((p.length:Int)<(q.length:Int)):=by rw[h2];simp;omega
   have hx:r[p.length]?=some a:=by rw[h1];simp
   have hy:q[p.length]?=some c:=by rw[h2];simp
   have hxl:∀hh:p.length<r.length,r[p.length]'hh=a:=fun hh=>(aaN.1 hx).2;have hyl:∀hh:p.length<q.length,q[p.length]'hh=c:=fun hh=>(aaN.1 hy).2;have hV:=wY a c;have hkl:p.length<r.length:=by omega
   simp only[cf];by_cases h0:dP a c=0
   ·rw[vO h0];rw[h0]at hV;have:=ih y (p++[a]) (by simp[h1]) (by rw[h2,Jv h0];simp);have step:aM code 0 [2,4,5,6] oI ⟨[.wh b (r.map aE.a),.wh b' (q.map aE.a),.any,ac p.length,.any,.any,.any,.any],[]⟩ =
      aM code 0 [2,4,5,6] oI ⟨[.wh b (r.map aE.a),.wh b' (q.map aE.a),.any,ac (p++[a]).length,.any,.any,.any,.any],[]⟩:=by
     rw[bj];obtain⟨ak,an,au,as'⟩:=a;obtain⟨ck,cn,cu,cs⟩:=c;simp only[dL]at hV;simp[oI,hlx,hly,hx,hy,hxl,hyl,dL,hV,aA hkl hr,aH]
    rw[step];exact this
   rw[xc h0];left;rw[bj];generalize dP a c=d at *;obtain⟨ak,an,au,as'⟩:=a;obtain⟨ck,cn,cu,cs⟩:=c;simp only[dL]at hV;exact⟨_,by simp[oI,hlx,hly,hx,hy,hxl,hyl,dL,hV,h0,aR h0];rfl,rfl⟩
theorem qN(b b':Bool)(r q:aJ)(hr:r.length≤most):az I.qbk [.wh b (r.map aE.a),.wh b' (q.map aE.a)]=some (ac (cf r q)):=by
 rw[am aoT rfl];have hs:=P6;rcases Rn b b' r q hr r q [] rfl rfl with⟨s,h1,h2⟩|⟨k,h1,h2⟩
 ·simp only[ak3,show ((0:Nat):Int)=0 from rfl]at h1
  try simp at h1
  simp[azb,WB,h1,h2]
 simp only[ak3,show ((0:Nat):Int)=0 from rfl]at h1
 try simp at h1
 rw[h2];by_cases hl:r.length=q.length
 ·rw[if_pos hl];simp[azb,WB,h1,hl]
 rw[if_neg hl];have e:decide ((r.length:Int)<(q.length:Int))=decide (r.length<q.length):=by rw[arh];simp
 have hl':¬((r.length:Int)=(q.length:Int)):=by omega
 simp[azb,WB,h1,hl,hl',al hl',hs,e]
theorem O0(bc:Bool)(r:aJ)(ym:List Int)(hc:ym.length≤16)(hh:∀c∈ym,0≤c∧c<r.length) :
  az I.qbp [aG r,.wh bc (gB ym)]=some (aG (bu r ym)):=by
 rw[am anI rfl];have hm:ym.length≤most:=by unfold most;omega
 have hl:=bB (base:=1) (clr:=[5]) (b:=EM) ym (fun k (s:aJ)=>⟨[aG r,.wh bc (gB ym),.yz,.sl 0 k 0 s.length,ac k,.any],[.arr 4 k (s.map aE.a)]⟩)
  (fun k s=>s.length=k) (fun s c=>s++[sf r c]) (fun s=>(.ext 0,⟨[aG r,.wh bc (gB ym),.yz,.sl 0 ym.length 0 s.length,ac ym.length,.bool false],[.arr 4 ym.length (s.map aE.a)]⟩))
  (fun k c s hk hy hs=>by
   have yB:((k:Int)<(ym.length:Int)):=by omega
   obtain⟨c0,c1⟩:=hh c (aeb hy);have hcv:(r.map aE.a)[c.toNat]?=some (sf r c).a:=UU ⟨c0,c1⟩;have hct:c.toNat < r.length:=by omega
   have hkm:k+1≤most:=by omega
   subst hs;refine⟨?_,by simp⟩;have hcv':r[c.toNat]=sf r c:=by simp[sf,ad4,hct]
   simp[EM,yB,hy,aG,c0,hct,hcv',append,hkm,ar,aA hk hm])
  (fun s _=>by simp[EM]) [] rfl
 have hf:∀(l:List Int) (s:aJ),l.foldl (fun s c=>s++[sf r c]) s=s++l.map (sf r):=by
  intro l;induction l with
  |nil=>intro s;simp
  |cons a l ih=>intro s;rw[ahw,ih];simp
 rw[hf]at hl;have hl:=hl.1;unfold bu;have hlen:(ym.map (sf r)).length=ym.length:=by simp
 rw[ah5]at hl;generalize ym.map (sf r)=t at hl hlen ⊢;simp at hl;simp[aAn,ahG,hl];rfl
def jY(r:aJ)(s:av×Bool)(y:aJ):av×Bool:=if !s.2&&decide (cf r y<0) then (s.1++[r,y],true) else (s.1++[y],s.2)
def En(r:aJ)(out:av):av:=if (out.foldl (jY r) ([],false)).2 then (out.foldl (jY r) ([],false)).1 else (out.foldl (jY r) ([],false)).1++[r]
theorem GL(r:aJ):∀(l:av) (s:av×Bool),s.1.length+l.length≤(l.foldl (jY r) s).1.length∧(l.foldl (jY r) s).1.length≤s.1.length+l.length+1∧(s.2=true→(l.foldl (jY r) s).1.length=s.1.length+l.length∧(l.foldl (jY r) s).2=true)∧((l.foldl (jY r) s).2=false→(l.foldl (jY r) s).1.length=s.1.length+l.length)
 |[],s=>by simp
 |y::l,s=>by
  rw[ahw];obtain⟨h1,h2,h3,h4⟩:=GL r l (jY r s y);have hi:jY r s y=(s.1++[r,y],true)∧s.2=false∨jY r s y=(s.1++[y],s.2):=by
   unfold jY;cases hs:s.2 with
   |true=>right;simp
   |false=>
    by_cases hc:cf r y<0
    ·left;simp[hc]
    right;simp[hc]
  rcases hi with⟨hi,hs⟩|hi
  ·rw[hi]at h1 h2 h3 h4 ⊢;simp only[aog,aiG,ak3]at *;obtain⟨h3,h5⟩:=h3 trivial;exact⟨by omega,by omega,(fun h=>absurd h (by simp[hs])),(fun h=>absurd h (by simp[h5]))⟩
  rw[hi]at h1 h2 h3 h4 ⊢;simp only[aog,aiG,ak3]at *;exact⟨by omega,by omega,(fun h=>⟨by have:=(h3 h).1;omega,(h3 h).2⟩),(fun h=>by have:=h4 h;omega)⟩
theorem abU(r:aJ)(out:av):(En r out).length≤out.length+1:=by
 unfold En;obtain⟨_,h2,_,h4⟩:=GL r out ([],false);cases h:(out.foldl (jY r) ([],false)).2 with
 |true=>simp at h2 ⊢;omega
 |false=>
  have:=h4 h;simp at this ⊢;omega
abbrev Rb(b:Bool)(rs:av)(O:aa)(k:Nat)(e4 e5 e6 e7 e8 e9 e10:aa):List aa:=[.wh b (rs.map aG),.yz,O,ac k,e4,e5,e6,e7,e8,e9,e10]
theorem XJ(b:Bool)(rs:av)(k:Nat)(r:aJ)(hk:rs[k]?=some r)(hr:r.length≤most)(O:aa)(out:av)(hO:O=.yz∧out=[]∨O=.wh false (out.map aG))(hn:out.length≤8000) :
  ∃ep,aM code 1 [8,9] tY ⟨Rb b rs O k (.sl 0 0 0 0) (.bool false) (ac 0) (.bool true) .any .any .any,[.arr 1 0 []]⟩ =
   some (.ext 2,⟨Rb b rs O k (.sl 0 ep 0 (out.foldl (jY r) ([],false)).1.length) (.bool (out.foldl (jY r) ([],false)).2) (ac out.length) (.bool true) (.bool false) .any .any,[.arr 1 ep ((out.foldl (jY r) ([],false)).1.map aG)]⟩):=by
 have hm:out.length≤most:=by unfold most;omega
 have hkl:=(aaN.1 hk).1;have hkg:∀hh:k<rs.length,rs[k]'hh=r:=fun hh=>(aaN.1 hk).2;have hkk:((k:Int)<(rs.length:Int)):=by omega
 have key:=eI (base:=1) (clr:=[8,9]) (b:=tY) out
  (fun j (s:av×Bool) t=>s.1.length≤j+(if s.2 then 1 else 0)∧∃ep,t=⟨Rb b rs O k (.sl 0 ep 0 s.1.length) (.bool s.2) (ac j) (.bool true) .any .any .any,[.arr 1 ep (s.1.map aG)]⟩)
  (fun _ y s=>(.inl (jY r s y):(av×Bool)⊕Empty))
  (fun s o=>∃ep,o=(.ext 2,⟨Rb b rs O k (.sl 0 ep 0 s.1.length) (.bool s.2) (ac out.length) (.bool true) (.bool false) .any .any,[.arr 1 ep (s.1.map aG)]⟩))
  (fun x _=>x.elim)
  (fun j y s t hj hy ht=>by
   obtain⟨hl,ep,rfl⟩:=ht;have yB:((j:Int)<(out.length:Int)):=by omega
   have hyl:∀hh:j<out.length,out[j]'hh=y:=fun hh=>(aaN.1 hy).2;have hl2:s.1.length≤j+1:=by split at hl<;>omega
   have h5:s.1.length+1≤most:=by unfold most;omega
   have h6:s.1.length+1+1≤most:=by unfold most;omega
   have hC:=qN false false r y hr;have hO':O=.wh false (out.map aG):=hO.resolve_left (fun h=>by rw[h.2]at hj;simp at hj);subst hO';obtain⟨acc,done⟩:=s;simp only at hl h5 h6;unfold jY;cases done with
   |true=>
    simp only[avL,avF,ai1,ali];refine⟨⟨Rb b rs (.wh false (out.map aG)) k (.sl 0 (ep+1) 0 (acc++[y]).length) (.bool true) (ac (j+1:Nat)) (.bool true) .any .any .any,[.arr 1 (ep+1) ((acc++[y]).map aG)]⟩,?_,by simp at hl ⊢;omega,ep+1,rfl⟩;simp[Rb,tY,yB,hy,hyl,append,h5,aA hj hm,aH]
   |false=>
    by_cases hc:cf r y<0
    ·rw[if_pos (by simp[hc])];refine⟨⟨Rb b rs (.wh false (out.map aG)) k (.sl 0 (ep+1+1) 0 (acc++[r,y]).length) (.bool true) (ac (j+1:Nat)) (.bool true) .any .any .any,[.arr 1 (ep+1+1) ((acc++[r,y]).map aG)]⟩,?_,?_,ep+1+1,rfl⟩
     ·have htk:List.take (acc.length+1) (List.map aG acc++[aa.wh false (List.map aE.a r)])=List.map aG acc++[aa.wh false (List.map aE.a r)]:=aea (by simp);have hrx:aG r=.wh false (r.map aE.a):=rfl;have hyx:aG y=.wh false (y.map aE.a):=rfl;simp[Rb,tY,yB,hy,hyl,hk,hkg,hkk,hkl,hrx,hyx,hC,hc,append,h5,h6,htk,show acc.length+1+1=acc.length+2 from rfl,aA hj hm,aH]
     simp at hl ⊢;omega
    rw[if_neg (by simp[hc])];refine⟨⟨Rb b rs (.wh false (out.map aG)) k (.sl 0 (ep+1) 0 (acc++[y]).length) (.bool false) (ac (j+1:Nat)) (.bool true) .any .any .any,[.arr 1 (ep+1) ((acc++[y]).map aG)]⟩,?_,by simp at hl ⊢;omega,ep+1,rfl⟩;have hrx:aG r=.wh false (r.map aE.a):=rfl;have hyx:aG y=.wh false (y.map aE.a):=rfl;simp[Rb,tY,yB,hy,hyl,hk,hkg,hkk,hkl,hrx,hyx,hC,hc,append,h5,aA hj hm,aH])
  (fun s t ht=>by
   obtain⟨_,ep,rfl⟩:=ht;refine⟨_,?_,ep,rfl⟩;rcases hO with⟨rfl,rfl⟩|rfl<;>simp[Rb,tY]) ([],false) _ ⟨by simp,0,rfl⟩
 have hf:∀(l:av) (i:Nat) (s:av×Bool),aV (fun _ y s=>(.inl (jY r s y):(av×Bool)⊕Empty)) l i s=.inl (l.foldl (jY r) s):=by
  intro l;induction l with
  |nil=>intro i s;rfl
  |cons y l ih=>intro i s;simp only[aV,ih,ahw]
 rw[hf]at key;obtain⟨o,h1,ep,rfl⟩:=key;exact⟨ep,h1⟩
def CR:Nat→av→aa
 |0,_=>.yz
 |_+1,l=>.wh false (l.map aG)
theorem agT(k:Nat)(out:av)(h:k=0→out=[]):CR k out=.yz∧out=[]∨CR k out=.wh false (out.map aG):=by
 cases k with
 |zero=>exact .inl ⟨rfl,h rfl⟩
 |succ k=>exact .inr rfl
theorem afu(k:Nat)(out:av)(base:Nat)(σ:ah):aZ base σ (CR k out)=CR k out:=by
 cases k<;>simp[CR,aZ,bQ]
theorem Rf(b:Bool)(rs:av)(hn:rs.length≤8000)(hr:∀r∈rs,r.length≤most) :
  az I.qbo [.wh b (rs.map aG)]=some (.wh false ((rs.foldl (fun out r=>En r out) []).map aG)):=by
 rw[am aou rfl];have hm:rs.length≤most:=by unfold most;omega
 have key:=bB (base:=0) (clr:=[4,5,6,7,8,9,10]) (b:=AJ) rs
  (fun k (out:av)=>⟨Rb b rs (CR k out) k .any .any .any .any .any .any .any,[]⟩)
  (fun k out=>out.length≤k) (fun out r=>En r out)
  (fun out=>(.ext 0,⟨Rb b rs (CR rs.length out) rs.length .any .any .any (.bool false) .any .any .any,[]⟩))
  (fun k r out hk hy hl=>by
   have yB:((k:Int)<(rs.length:Int)):=by omega
   have hyl:∀hh:k<rs.length,rs[k]'hh=r:=fun hh=>(aaN.1 hy).2;have hO:=agT k out (fun h=>by rw[h]at hl;exact ahc (by omega));obtain⟨ep,hI⟩:=XJ b rs k r hy (hr r (aeb hy)) (CR k out) out hO (by omega);have hD:=abU r out;refine⟨?_,by omega⟩;obtain⟨_,h2,_,h4⟩:=GL r out ([],false);have hfz:=afu k out;simp only[aZ,bQ]at hfz;have hnext:CR (k+1) (En r out)=.wh false ((En r out).map aG):=rfl;rw[hnext];unfold En at hD ⊢;generalize out.foldl (jY r) ([],false)=q at *;obtain⟨acc,done⟩:=q;simp only[Rb]at hI ⊢
   try simp at hI
   generalize CR k out=O at *;cases done with
   |true=>
    simp only[aml];simp[AJ,yB,hI,aA hk hm,ar,ap,aZ,bQ]
   |false=>
    have h5:acc.length+1≤most:=by
     have:=h4 rfl;simp at this;unfold most;omega
    have htk:List.take (acc.length+1) (List.map aG acc++[aG r])=List.map aG (acc++[r]):=by rw[aea (by simp)];simp
    have hap:List.map aG acc++[aG r]=List.map aG (acc++[r]):=by simp
    have hra:isAgg (aG r)=false:=rfl;have hall:∀σ:ah,(∀a,a∈List.map aG acc++[aG r]→aw (fz false false 0 σ 19 a)=aw a)=True:=fun σ=>eq_true fun a ha=>by
     rw[hap]at ha;obtain⟨x,_,rfl⟩:=afJ.1 ha;rw[Fx.fx false false 0 σ 16 x]
    simp only[ai1,ali];simp[AJ,yB,hy,hyl,hra,hI,htk,append,h5,aA hk hm,ar,ap,aZ,bQ];rw[if_pos (of_eq_true (hall _))])
  (fun out _=>by simp[Rb,AJ]) [] (aes _)
 have h1:=key.1;generalize rs.foldl (fun out r=>En r out) []=out at *;have hl:=key.2;simp only[Rb,show CR 0 []=.yz from rfl,show ((0:Nat):Int)=0 from rfl]at h1
 try simp at h1
 cases hL:rs.length with
 |zero=>
  rw[hL]at hl h1;have:out=[]:=ahc (by omega);subst this;simp[azT,ada,h1,CR]
 |succ n=>
  rw[hL]at h1;simp[azT,ada,h1,CR]
def Ej(r:aJ):av→av
 |[]=>[r]
 |y::l=>if cf r y<0 then r::y::l else y::Ej r l
theorem JI(r:aJ):∀(l acc:av),l.foldl (jY r) (acc,true)=(acc++l,true)
 |[],acc=>by simp
 |y::l,acc=>by
  rw[ahw];have:jY r (acc,true) y=(acc++[y],true):=by unfold jY;simp
  rw[this,JI r l];simp
theorem VX(r:aJ):∀(l acc:av),(if (l.foldl (jY r) (acc,false)).2 then (l.foldl (jY r) (acc,false)).1 else (l.foldl (jY r) (acc,false)).1++[r])=acc++Ej r l
 |[],acc=>by simp[Ej]
 |y::l,acc=>by
  rw[ahw];by_cases hc:cf r y<0
  ·have:jY r (acc,false) y=(acc++[r,y],true):=by unfold jY;simp[hc]
   rw[this,JI];simp[Ej,hc]
  have:jY r (acc,false) y=(acc++[y],false):=by unfold jY;simp[hc]
  rw[this,VX r l];simp[Ej,hc]
theorem agY(r:aJ)(out:av):En r out=Ej r out:=by
 have:=VX r out [];rw[ah5]at this;exact this
theorem CG(r:aJ):∀l,(Ej r l).Perm (r::l)
 |[]=>auM _
 |y::l=>by
  unfold Ej;split
  ·exact auM _
  exact ((CG r l).cons y).trans (List.Perm.swap r y l)
theorem D2(r:aJ):∀l,l.Pairwise (fun a b=>cf a b≤0)→(Ej r l).Pairwise fun a b=>cf a b≤0
 |[],_=>by simp[Ej]
 |y::l,hl=>by
  have hp:=asS.1 hl;unfold Ej;split
  ·rename_i yB;exact asS.2 ⟨fun z hz=>by
    rcases arm.1 hz with rfl|hz
    ·omega
    exact dS.tr _ _ _ (by omega) (hp.1 z hz),hl⟩
  rename_i hle;refine asS.2 ⟨fun z hz=>?_,D2 r l hp.2⟩;rcases arm.1 ((CG r l).mem_iff.1 hz) with rfl|hz
  ·have:=dS.anti y z;have:=dS.anti z y;omega
  exact hp.1 z hz
theorem akr(rs:av):∀out,out.Pairwise (fun a b=>cf a b≤0)→(rs.foldl (fun out r=>En r out) out).Pairwise (fun a b=>cf a b≤0)∧(rs.foldl (fun out r=>En r out) out).Perm (rs++out):=by
 induction rs with
 |nil=>intro out h;exact⟨h,auM _⟩
 |cons r rs ih=>
  intro out h;rw[ahw,agY];obtain⟨h1,h2⟩:=ih (Ej r out) (D2 r out h);refine⟨h1,h2.trans ?_⟩;exact (((CG r out).append_left rs).trans List.perm_middle)
theorem Yi(rs:av):rs.foldl (fun out r=>En r out) []=df cf rs:=by
 obtain⟨h1,h2⟩:=akr rs [] (by simp);rw[auE]at h2;exact mB (fun a b=>gM) dS h1 (jq dS rs) (h2.trans (dX rs).symm)
theorem ph(b:Bool)(rs:av)(hn:rs.length≤8000)(hr:∀r∈rs,r.length≤most):az I.qbo [.wh b (rs.map aG)]=some (.wh false ((df cf rs).map aG)):=by
 rw[Rf b rs hn hr,Yi]
def gQ{α:Type}[DecidableEq α]:List α→List α
 |[]=>[]
 |a::l=>a::gQ (l.dropWhile fun x=>decide (a=x))
termination_by l=>l.length
decreasing_by
 have:=(at8 (l:=l) fun x=>decide (a=x)).length_le
 simp only[aiG];omega
def ZE(ym:List Int)(rs:av):List (aJ×av):=
 (gQ (df cf (rs.map fun r=>bu r ym))).map fun k=>(k,df cf (rs.filter fun r=>decide (bu r ym=k)))
theorem CQ{ym:List Int}{r q:aJ}(h:jp ym r q≤0):cf (bu r ym) (bu q ym)≤0:=by
 unfold jp lex at h;split at h<;>omega
theorem aaC{α:Type}{p:α→Bool}:∀{l:List α} {x:α},x∈l.takeWhile p→p x=true
 |[],_,h=>by simp at h
 |y::l,x,h=>by
  rw[atW]at h;split at h
  ·rename_i hy;rcases arm.1 h with rfl|h
   ·exact hy
   exact aaC h
  simp at h
theorem Qi(ym:List Int):∀(n:Nat) (S:av),S.length≤n→S.Pairwise (fun a b=>jp ym a b≤0) →
  gN ym n S=(gQ (S.map fun r=>bu r ym)).map fun k=>(k,S.filter fun r=>decide (bu r ym=k))
 |0,S,hn,_=>by
  have:S=[]:=ahc (by omega);subst this;simp[gN,gQ]
 |n+1,[],_,_=>by simp[gN,gQ]
 |n+1,a::t,hn,hs=>by
  have hp:=asS.1 hs;have htw:∀x∈t.takeWhile (bA ym a),bu x ym=bu a ym:=fun x hx=>by
   have:=aaC hx;unfold bA at this;simp at this;exact this.symm
  have hsplit:=auo (p:=bA ym a) (l:=t);have hdl:(t.dropWhile (bA ym a)).length≤n:=by
   have:=(at8 (l:=t) (bA ym a)).length_le;simp at hn;omega
  have hds:(t.dropWhile (bA ym a)).Pairwise (fun a b=>jp ym a b≤0):=hp.2.sublist (at8 _)
  have hdn:∀x∈t.dropWhile (bA ym a),bu x ym≠bu a ym:=by
   intro x hx;cases hD:t.dropWhile (bA ym a) with
   |nil=>rw[hD]at hx;simp at hx
   |cons y D=>
    have hy:bA ym a y=false:=by
     have:=List.head?_dropWhile_not (bA ym a) t;rw[hD]at this;simpa using this
    have hyt:y∈t:=(at8 (bA ym a)).mem (by rw[hD];simp);have hay:=CQ (hp.1 y hyt);have hne:bu a ym≠bu y ym:=by unfold bA at hy;simpa using hy
    have yB:cf (bu a ym) (bu y ym)<0:=by
     have:cf (bu a ym) (bu y ym)≠0:=fun h=>hne (gM h);omega
    have hyx:cf (bu y ym) (bu x ym)≤0:=by
     rw[hD]at hx hds;rcases arm.1 hx with rfl|hx
     ·rw[dS.self];omega
     exact CQ ((asS.1 hds).1 x hx)
    have:=dS.lt_le yB hyx;intro he;rw[he,dS.self]at this;omega
  rw[show gN ym (n+1) (a::t)=(bu a ym,a::t.takeWhile (bA ym a))::gN ym n (t.dropWhile (bA ym a)) from rfl,Qi ym n _ hdl hds];have hmd:(t.map fun r=>bu r ym).dropWhile (fun x=>decide (bu a ym=x))=(t.dropWhile (bA ym a)).map fun r=>bu r ym:=by
   rw[List.dropWhile_map];rfl
  rw[af6,gQ,hmd,af6];congr 1
  ·congr 1;rw[aui,if_pos (by simp)];congr 1;rw[←hsplit,auC];have e1:(t.takeWhile (bA ym a)).filter (fun r=>decide (bu r ym=bu a ym))=t.takeWhile (bA ym a):=avr.2 fun x hx=>by simp[htw x hx]
   have e2:(t.dropWhile (bA ym a)).filter (fun r=>decide (bu r ym=bu a ym))=[]:=aug.2 fun x hx=>by simp[hdn x hx]
   rw[e1,e2,auE,hsplit]
  refine aj6 fun k hk=>?_;have hkm:∃x∈t.dropWhile (bA ym a),bu x ym=k:=by
   have key:∀(n:Nat) (l:av),l.length≤n→∀k∈gQ l,k∈l:=by
    intro n;induction n with
    |zero=>intro l hl k hk;have:l=[]:=ahc (by omega);subst this;simp[gQ]at hk
    |succ n ih=>
     intro l hl k hk;cases l with
     |nil=>simp[gQ]at hk
     |cons y l=>
      rw[gQ]at hk;rcases arm.1 hk with rfl|hk
      ·simp
      have hsl:=at8 (l:=l) fun x=>decide (y=x);have:=ih _ (by have:=hsl.length_le;simp at hl;omega) k hk;exact aer _ (hsl.mem this)
   have:=key _ _ (aes _) k hk;obtain⟨x,hx,rfl⟩:=afJ.1 this;exact⟨x,hx,rfl⟩
  obtain⟨x,hx,rfl⟩:=hkm;have hxa:=hdn x hx;congr 1;rw[aui,if_neg (by simp;exact fun h=>hxa h.symm),←hsplit,auC];have e1:(t.takeWhile (bA ym a)).filter (fun r=>decide (bu r ym=bu x ym))=[]:=aug.2 fun y hy=>by
   simp[htw y hy];exact fun h=>hxa h.symm
  rw[e1,ah5,hsplit]
theorem RD(ym:List Int)(rs:av):bC ym rs=ZE ym rs:=by
 have hS:=jq (LI ym) rs;have hP:=dX (c:=jp ym) rs;unfold bC ZE;rw[Qi ym _ _ (by rw[hP.length_eq];exact aes _) hS];have h1:(df (jp ym) rs).map (fun r=>bu r ym)=df cf (rs.map fun r=>bu r ym):=
  mB (fun a b=>gM) dS (avJ.2 (hS.imp fun h=>CQ h)) (jq dS _) ((hP.map _).trans (dX _).symm)
 rw[h1];refine aj6 fun k _=>?_;congr 1;refine mB (fun a b=>gM) dS ?_ (jq dS _) ((hP.filter _).trans (dX _).symm);refine List.Pairwise.imp_of_mem (fun {a b} ha hb h=>?_) (hS.filter _);have ea:bu a ym=k:=by simpa using (atX.1 ha).2
 have eb:bu b ym=k:=by simpa using (atX.1 hb).2
 unfold jp at h;rw[ea,eb,dS.self,vO rfl]at h;exact h
def zg(s:av×Option aJ)(y:aJ):av×Option aJ:=(if s.2=some y then s.1 else s.1++[y],some y)
theorem C5:∀(n:Nat) (l acc:av) (a:aJ),l.length≤n→(l.foldl zg (acc,some a)).1=acc++gQ (l.dropWhile fun x=>decide (a=x))
 |0,l,acc,a,hn=>by
  have:l=[]:=ahc (by omega);subst this;simp[gQ]
 |n+1,[],acc,a,_=>by simp[gQ]
 |n+1,y::l,acc,a,hn=>by
  rw[ahw];unfold zg;by_cases h:a=y
  ·subst h;rw[if_pos rfl];show (l.foldl zg (acc,some a)).1=_;rw[C5 n l acc a (by simp at hn;omega),auW,if_pos (by simp)]
  rw[if_neg (by simp[h])];show (l.foldl zg (acc++[y],some y)).1=_;rw[C5 n l _ y (by simp at hn;omega),auW,if_neg (by simp[h]),gQ];simp
theorem alS(l:av):(l.foldl zg ([],none)).1=gQ l:=by
 cases l with
 |nil=>simp[gQ]
 |cons y l=>
  rw[ahw];show (l.foldl zg ([y],some y)).1=_;rw[C5 l.length l [y] y (aes _),gQ];rfl
theorem MS(b:Bool)(rs:av)(hn:rs.length≤8000)(hr:∀r∈rs,r.length≤most):az I.qbl [.wh b (rs.map aG)]=some (.wh false ((gQ (df cf rs)).map aG)):=by
 rw[am ao1 rfl];have hS:=fun b=>ph b rs hn hr;have hSl:(df cf rs).length=rs.length:=(dX rs).length_eq;have hSr:∀r∈df cf rs,r.length≤most:=fun r h=>hr r ((dX rs).mem_iff.1 h);generalize df cf rs=S at *;have hm:S.length≤most:=by unfold most;omega
 have key:=eI (base:=1) (clr:=[5,6]) (b:=xt) S
  (fun k (s:av×Option aJ) t=>s.1.length≤k∧(s.2=if k=0 then none else S[k-1]?)∧∃ep,t=⟨[.wh b (rs.map aG),.yz,.sl 0 ep 0 s.1.length,.wh false (S.map aG),ac k,.any,.any],[.arr 1 ep (s.1.map aG)]⟩)
  (fun _ y s=>(.inl (zg s y):(av×Option aJ)⊕Empty))
  (fun s o=>∃ep,o=(.ext 0,⟨[.wh b (rs.map aG),.yz,.sl 0 ep 0 s.1.length,.wh false (S.map aG),ac S.length,.bool false,.any],[.arr 1 ep (s.1.map aG)]⟩))
  (fun x _=>x.elim)
  (fun k y s t hk hy ht=>by
   obtain⟨hl,hp,ep,rfl⟩:=ht;have yB:((k:Int)<(S.length:Int)):=by omega
   have hyl:∀hh:k<S.length,S[k]'hh=y:=fun hh=>(aaN.1 hy).2;have h5:s.1.length+1≤most:=by omega
   obtain⟨acc,prev⟩:=s;simp only at hl hp h5;have hnew:(some y:Option aJ)=if k+1=0 then none else S[k+1-1]?:=by rw[if_neg (by omega),Nat.add_sub_cancel,hy]
   by_cases h0:k=0
   ·subst h0;rw[if_pos rfl]at hp;subst hp;have ha:acc=[]:=ahc (by omega);subst ha;refine⟨⟨[.wh b (rs.map aG),.yz,.sl 0 (ep+1) 0 ([]++[y]).length,.wh false (S.map aG),ac (0+1:Nat),.any,.any],[.arr 1 (ep+1) (([]++[y]).map aG)]⟩,?_,by simp[zg],hnew,ep+1,by simp[zg]⟩;have hw:IntKind.i64.wrap 1=1:=rfl;have hlt':(0:Int)<(S.length:Int):=by omega
    have h1m:1≤most:=by unfold most;omega
    simp[xt,hlt',hk,hy,hyl,append,h1m,hw,aH]
   rw[if_neg h0]at hp;obtain⟨x,hx⟩:∃x,S[k-1]?=some x:=⟨_,ad3 (by omega)⟩;rw[hx]at hp;subst hp;have hxl:∀hh:k-1<S.length,S[k-1]'hh=x:=fun hh=>(aaN.1 hx).2;have hC:=qN false false x y (hSr x (aeb hx));have hrx:aG x=.wh false (x.map aE.a):=rfl;have hry:aG y=.wh false (y.map aE.a):=rfl;have hkz:¬((k:Int)=0):=by omega
   have hw:IntKind.i64.wrap ((k:Int)-1)=(k:Int)-1:=bl (by unfold most at hm;omega);have hc:(k:Int)-1=((k-1:Nat):Int):=by omega
   have hk1:k-1<S.length:=by omega
   rw[hc]at hw;by_cases hxy:x=y
   ·subst hxy;have:zg (acc,some x) x=(acc,some x):=by unfold zg;simp
    rw[this];rw[dS.self]at hC;refine⟨⟨[.wh b (rs.map aG),.yz,.sl 0 ep 0 acc.length,.wh false (S.map aG),ac (k+1:Nat),.any,.any],[.arr 1 ep (acc.map aG)]⟩,?_,by simp;omega,hnew,ep,rfl⟩;simp[xt,yB,hk,hy,hyl,hkz,h0,hc,hw,hk1,hxl,hrx,hC,aA hk hm,aH]
   have:zg (acc,some x) y=(acc++[y],some y):=by unfold zg;simp[hxy]
   rw[this];have hcz:¬cf x y=0:=fun h=>hxy (gM h);refine⟨⟨[.wh b (rs.map aG),.yz,.sl 0 (ep+1) 0 (acc++[y]).length,.wh false (S.map aG),ac (k+1:Nat),.any,.any],[.arr 1 (ep+1) ((acc++[y]).map aG)]⟩,?_,by simp;omega,hnew,ep+1,rfl⟩;simp[xt,yB,hk,hy,hyl,hkz,h0,hc,hw,hk1,hxl,hrx,hry,hC,aR hcz,append,h5,aA hk hm,aH])
  (fun s t ht=>by
   obtain⟨_,_,ep,rfl⟩:=ht;exact⟨_,by simp[xt],ep,rfl⟩) ([],none) _ ⟨by simp,rfl,0,rfl⟩
 have hf:∀(l:av) (i:Nat) (s:av×Option aJ),aV (fun _ y s=>(.inl (zg s y):(av×Option aJ)⊕Empty)) l i s=.inl (l.foldl zg s):=by
  intro l;induction l with
  |nil=>intro i s;rfl
  |cons y l ih=>intro i s;simp only[aV,ih,ahw]
 rw[hf]at key;obtain⟨o,h1,ep,rfl⟩:=key;have hd:=alS S;rw[hd]at h1;generalize gQ S=H at *;simp only[show ((0:Nat):Int)=0 from rfl]at h1
 try simp at h1
 simp[aAJ,ajH,hS,h1]
abbrev Ju(b bc:Bool)(rs:av)(ym:List Int)(r3 r4 r5 r6 r7 r8 r9 r10 r11 r12:aa):List aa:=[.wh b (rs.map aG),.wh bc (gB ym),.yz,r3,r4,r5,r6,r7,r8,r9,r10,r11,r12]
theorem IB(b bc:Bool)(rs:av)(ym:List Int)(hm:rs.length≤most)(hc:ym.length≤16)(hh:∀r∈rs,∀c∈ym,0≤c∧c<r.length) :
  aM code 1 [9] AW ⟨Ju b bc rs ym (.sl 0 0 0 0) (ac 0) .any .any .any .any .any .any .any .any,[.arr 1 0 []]⟩ =
   some (.ext 0,⟨Ju b bc rs ym (.sl 0 rs.length 0 rs.length) (ac rs.length) .any .any .any .any (.bool false) .any .any .any,[.arr 1 rs.length ((rs.map fun r=>bu r ym).map aG)]⟩):=by
 have hl:=bB (base:=1) (clr:=[9]) (b:=AW) rs
  (fun k (s:av)=>⟨Ju b bc rs ym (.sl 0 k 0 s.length) (ac k) .any .any .any .any .any .any .any .any,[.arr 1 k (s.map aG)]⟩)
  (fun k s=>s.length=k) (fun s r=>s++[bu r ym])
  (fun s=>(.ext 0,⟨Ju b bc rs ym (.sl 0 rs.length 0 s.length) (ac rs.length) .any .any .any .any (.bool false) .any .any .any,[.arr 1 rs.length (s.map aG)]⟩))
  (fun k r s hk hy hs=>by
   have yB:((k:Int)<(rs.length:Int)):=by omega
   have hyl:∀hh:k<rs.length,rs[k]'hh=r:=fun hh=>(aaN.1 hy).2;have hT:=O0 bc r ym hc (hh r (aeb hy));have hkm:k+1≤most:=by omega
   subst hs;refine⟨?_,by simp⟩;generalize bu r ym=t at *;have hrt:aG t=.wh false (t.map aE.a):=rfl;simp[Ju,AW,yB,hk,hy,hyl,hT,hrt,append,hkm,aH,aA hk hm])
  (fun s _=>by simp[Ju,AW]) [] rfl
 have hf:∀(l:av) (s:av),l.foldl (fun s r=>s++[bu r ym]) s=s++l.map (fun r=>bu r ym):=by
  intro l;induction l with
  |nil=>intro s;simp
  |cons a l ih=>intro s;rw[ahw,ih];simp
 rw[hf]at hl;have hl:=hl.1;rw[ah5,ajk]at hl;exact hl
theorem I3(b bc:Bool)(rs:av)(ym:List Int)(hm:rs.length≤most)(hc:ym.length≤16)(hh:∀r∈rs,∀c∈ym,0≤c∧c<r.length)
  (K:av) (j:Nat) (x:aJ) (hj:K[j]?=some x) (r4 r5 r9 r10:aa) (o0 o1:Obj) :
  ∃n,n=(rs.filter fun r=>decide (bu r ym=x)).length∧aM code 3 [11,12] xd ⟨Ju b bc rs ym (.wh false (K.map aG)) r4 r5 (ac j) (.sl 2 0 0 0) (ac 0) r9 r10 .any .any,[o0,o1,.arr 1 0 []]⟩ =
   some (.ext 4,⟨Ju b bc rs ym (.wh false (K.map aG)) r4 r5 (ac j) (.sl 2 n 0 n) (ac rs.length) r9 r10 (.bool false) .any,[o0,o1,.arr 1 n ((rs.filter fun r=>decide (bu r ym=x)).map aG)]⟩):=by
 have hjl:=(aaN.1 hj).1;have hjg:∀hh:j<K.length,K[j]'hh=x:=fun hh=>(aaN.1 hj).2;have hjj:((j:Int)<(K.length:Int)):=by omega
 have hl:=bB (base:=3) (clr:=[11,12]) (b:=xd) rs
  (fun k (s:av)=>⟨Ju b bc rs ym (.wh false (K.map aG)) r4 r5 (ac j) (.sl 2 s.length 0 s.length) (ac k) r9 r10 .any .any,[o0,o1,.arr 1 s.length (s.map aG)]⟩)
  (fun k s=>s.length≤k) (fun s r=>if bu r ym=x then s++[r] else s)
  (fun s=>(.ext 4,⟨Ju b bc rs ym (.wh false (K.map aG)) r4 r5 (ac j) (.sl 2 s.length 0 s.length) (ac rs.length) r9 r10 (.bool false) .any,[o0,o1,.arr 1 s.length (s.map aG)]⟩))
  (fun k r s hk hy hs=>by
   have yB:((k:Int)<(rs.length:Int)):=by omega
   have hyl:∀hh:k<rs.length,rs[k]'hh=r:=fun hh=>(aaN.1 hy).2;have hT:=O0 bc r ym hc (hh r (aeb hy));have hTl:=gL r ym;have hC:=qN false false (bu r ym) x (by rw[hTl];unfold most;omega);have h5:s.length+1≤most:=by omega
   have hrx:aG r=.wh false (r.map aE.a):=rfl;have hrt:aG (bu r ym)=.wh false ((bu r ym).map aE.a):=rfl;have hxx:aG x=.wh false (x.map aE.a):=rfl;by_cases hxy:bu r ym=x
   ·rw[if_pos hxy];rw[hxy,dS.self]at hC;rw[hxy]at hT;refine⟨?_,by simp;omega⟩;simp[Ju,xd,yB,hk,hy,hyl,hT,hj,hjl,hjg,hjj,hxx,hC,append,h5,aH,aA hk hm]
   rw[if_neg hxy];have hcz:¬cf (bu r ym) x=0:=fun h=>hxy (gM h);refine⟨?_,by omega⟩;generalize bu r ym=t at *;simp[Ju,xd,yB,hk,hy,hyl,hT,hj,hjl,hjg,hjj,hxx,hrt,hC,hcz,aH,aA hk hm])
  (fun s _=>by simp[Ju,xd]) [] (aes _)
 have hf:∀(l:av) (s:av),l.foldl (fun s r=>if bu r ym=x then s++[r] else s) s=s++l.filter (fun r=>decide (bu r ym=x)):=by
  intro l;induction l with
  |nil=>intro s;simp
  |cons a l ih=>intro s;rw[ahw,ih];by_cases h:bu a ym=x<;>simp[h]
 rw[hf]at hl;have hl:=hl.1;rw[ah5]at hl;exact⟨_,rfl,hl⟩
def Qe(ym:List Int)(rs:av)(k:aJ):aJ×av:=(k,df cf (rs.filter fun r=>decide (bu r ym=k)))
theorem I2(b bc:Bool)(rs:av)(ym:List Int)(hn:rs.length≤8000)(hr:∀r∈rs,r.length≤most)(hc:ym.length≤16)(hh:∀r∈rs,∀c∈ym,0≤c∧c<r.length)
  (K:av) (hK:K.length≤8000) (r4 r9:aa) (h4:r4=ac rs.length) (h9:r9=.bool false) (o0:av) :
  aM code 2 [7,8,10,11,12] AO ⟨Ju b bc rs ym (.wh false (K.map aG)) r4 (.sl 1 0 0 0) (ac 0) .any .any r9 .any .any .any,[.arr 1 rs.length (o0.map aG),.arr 2 0 []]⟩ =
   some (.ext 2,⟨Ju b bc rs ym (.wh false (K.map aG)) r4 (.sl 1 K.length 0 K.length) (ac K.length) .any .any r9 (.bool false) .any .any,[.arr 1 rs.length (o0.map aG),.arr 2 K.length ((K.map (Qe ym rs)).map cC)]⟩):=by
 have hm:rs.length≤most:=by unfold most;omega
 have hKm:K.length≤most:=by unfold most;omega
 have hl:=bB (base:=2) (clr:=[7,8,10,11,12]) (b:=AO) K
  (fun k (s:List (aJ×av))=>⟨Ju b bc rs ym (.wh false (K.map aG)) r4 (.sl 1 k 0 s.length) (ac k) .any .any r9 .any .any .any,[.arr 1 rs.length (o0.map aG),.arr 2 k (s.map cC)]⟩)
  (fun k s=>s.length=k) (fun s x=>s++[Qe ym rs x])
  (fun s=>(.ext 2,⟨Ju b bc rs ym (.wh false (K.map aG)) r4 (.sl 1 K.length 0 s.length) (ac K.length) .any .any r9 (.bool false) .any .any,[.arr 1 rs.length (o0.map aG),.arr 2 K.length (s.map cC)]⟩))
  (fun k x s hk hy hs=>by
   have yB:((k:Int)<(K.length:Int)):=by omega
   have hyl:∀hh:k<K.length,K[k]'hh=x:=fun hh=>(aaN.1 hy).2;have hkm:k+1≤most:=by omega
   subst hs;obtain⟨n,hnn,hI⟩:=I3 b bc rs ym hm hc hh K s.length x hy r4 (.sl 1 s.length 0 s.length) r9 (.bool true) (.arr 1 rs.length (o0.map aG)) (.arr 2 s.length (s.map cC));have hfl:(rs.filter fun r=>decide (bu r ym=x)).length≤rs.length:=List.length_filter_le ..;have hS:=fun b=>ph b (rs.filter fun r=>decide (bu r ym=x)) (by omega) (fun r h=>hr r (atX.1 h).1);refine⟨?_,by simp⟩;subst h4 h9;unfold Qe;generalize (rs.filter fun r=>decide (bu r ym=x))=F at *;generalize df cf F=Q at *;subst hnn;have hxx:aG x=.wh false (x.map aE.a):=rfl;simp only[Ju]at hI ⊢
   try simp at hI
   simp[AO,yB,hk,hy,hyl,hI,hS,hxx,cC,append,hkm,ar,ap,aZ,bQ,aA hk hKm])
  (fun s _=>by subst h4 h9;simp[Ju,AO]) [] rfl
 have hf:∀(l:av) (s:List (aJ×av)),l.foldl (fun s x=>s++[Qe ym rs x]) s=s++l.map (Qe ym rs):=by
  intro l;induction l with
  |nil=>intro s;simp
  |cons a l ih=>intro s;rw[ahw,ih];simp
 rw[hf]at hl;have hl:=hl.1;rw[ah5,ajk]at hl;exact hl
theorem Y3{α:Type}[DecidableEq α]:∀(n:Nat) (l:List α),l.length≤n→(gQ l).length≤l.length:=by
 intro n;induction n with
 |zero=>intro l hl;have:l=[]:=ahc (by omega);subst this;simp[gQ]
 |succ n ih=>
  intro l hl;cases l with
  |nil=>simp[gQ]
  |cons y l=>
   rw[gQ];have hsl:=(at8 (l:=l) fun x=>decide (y=x)).length_le;simp only[aiG]at hl ⊢;have:=ih (l.dropWhile fun x=>decide (y=x)) (by omega);omega
theorem Gx(b bc:Bool)(rs:av)(ym:List Int)(hn:rs.length≤8000)(hr:∀r∈rs,r.length≤most)(hc:ym.length≤16)(hh:∀r∈rs,∀c∈ym,0≤c∧c<r.length) :
  az I.qbm [.wh b (rs.map aG),.wh bc (gB ym)]=some (.wh false ((bC ym rs).map cC)):=by
 rw[RD,am aor rfl];have hm:rs.length≤most:=by unfold most;omega
 have h2:=IB b bc rs ym hm hc hh;have hTl:(rs.map fun r=>bu r ym).length=rs.length:=ajk ..
 have hD:=fun b=>MS b (rs.map fun r=>bu r ym) (by omega) (fun r h=>by
  obtain⟨q,_,rfl⟩:=afJ.1 h;rw[gL];unfold most;omega)
 have hKl:=Y3 _ (df cf (rs.map fun r=>bu r ym)) (aes _);rw[(dX _).length_eq,hTl]at hKl;have h1:=I2 b bc rs ym hn hr hc hh (gQ (df cf (rs.map fun r=>bu r ym))) (by omega) (ac rs.length) (.bool false) rfl rfl (rs.map fun r=>bu r ym);unfold ZE;have hg:(fun k=>(k,df cf (rs.filter fun r=>decide (bu r ym=k))))=Qe ym rs:=rfl;rw[hg];have hGl:((gQ (df cf (rs.map fun r=>bu r ym))).map (Qe ym rs)).length=(gQ (df cf (rs.map fun r=>bu r ym))).length:=ajk ..;generalize gQ (df cf (rs.map fun r=>bu r ym))=K at *;generalize K.map (Qe ym rs)=G at *;generalize (rs.map fun r=>bu r ym)=T at *;simp only[Ju,←hGl]at h1 h2 ⊢;rw[←hTl]at h2 h1
 try simp at h1 h2
 simp[az2,ajs,h1,h2,hD];rintro _ x y _ rfl;simp[cC]
def J0(ys:av)(k:Nat)(x:aJ)(_:Unit):Unit⊕Unit:=if ys[k]?=some x then .inl () else .inr ()
theorem Qd(ys:av):∀(l:av) (k:Nat),k+l.length=ys.length→aV (J0 ys) l k ()=if l=ys.drop k then .inl () else .inr ()
 |[],k,h=>by
  have:ys.drop k=[]:=List.drop_eq_nil_of_le (by simp at h;omega);simp[aV,this]
 |x::l,k,h=>by
  have hk:k<ys.length:=by simp at h;omega
  have hd:=atG hk;have ih:=Qd ys l (k+1) (by simp at h;omega);rw[aV,hd];unfold J0;rw[ad3 hk];by_cases hx:ys[k]=x
  ·simp only[hx,aml];have:aV (J0 ys) l (k+1) ()=_:=ih;unfold J0 at this;rw[this];by_cases hl:l=ys.drop (k+1)<;>simp[hl]
  have h1:¬some ys[k]=some x:=fun h=>hx (as7 h);have h2:¬x=ys[k]:=fun h=>hx h.symm;have h3:¬x::l=ys.drop k:=by rw[hd];intro h;exact h2 (List.cons.inj h).1
  rw[←hd];simp[h1,h3]
theorem Bh(b b':Bool)(xs ys:av)(hn:xs.length≤8000)(hr:∀r∈xs,r.length≤most) :
  az I.qbn [.wh b (xs.map aG),.wh b' (ys.map aG)]=some (.bool (decide (xs=ys))):=by
 rw[am aoL rfl];have hm:xs.length≤most:=by unfold most;omega
 by_cases hl:xs.length=ys.length
 ·have key:=eI (base:=0) (clr:=[2,5,6]) (b:=Bn) xs
   (fun k (_:Unit) t=>t=⟨[.wh b (xs.map aG),.wh b' (ys.map aG),.any,ac k,.bool false,.any,.any],[]⟩) (J0 ys)
   (fun _ o=>o=(.ext 0,⟨[.wh b (xs.map aG),.wh b' (ys.map aG),.any,ac xs.length,.bool false,.bool false,.any],[]⟩))
   (fun _ o=>∃s,o=(.ret,s)∧bF .pure [.env 2] (some (.ret,s))=some (.bool false))
   (fun k x s t hk hy ht=>by
    subst ht;have yB:((k:Int)<(xs.length:Int)):=by omega
    have hky:k<ys.length:=by omega
    have hxl:∀hh:k<xs.length,xs[k]'hh=x:=fun hh=>(aaN.1 hy).2;obtain⟨y,hyy⟩:∃y,ys[k]?=some y:=⟨_,ad3 hky⟩;have hyl:∀hh:k<ys.length,ys[k]'hh=y:=fun hh=>(aaN.1 hyy).2;have hC:=qN false false x y (hr x (aeb hy));have hrx:aG x=.wh false (x.map aE.a):=rfl;have hry:aG y=.wh false (y.map aE.a):=rfl;unfold J0;rw[hyy];by_cases hxy:y=x
    ·subst hxy;rw[if_pos rfl];rw[dS.self]at hC;refine⟨_,?_,rfl⟩;simp[Bn,yB,hk,hy,hxl,hky,hyy,hyl,hrx,hC,aA hk hm,ar]
    rw[if_neg (fun h=>hxy (as7 h))];have hcz:¬cf x y=0:=fun h=>hxy (gM h).symm;refine⟨(.ret,⟨[.wh b (xs.map aG),.wh b' (ys.map aG),.bool false,ac k,.bool false,.bool true,.bool true],[]⟩),?_,_,rfl,by simp⟩;simp[Bn,yB,hk,hy,hxl,hky,hyy,hyl,hrx,hry,hC,aR hcz])
   (fun _ t ht=>by subst ht;exact⟨_,by simp[Bn],rfl⟩) () _ rfl
  rw[Qd ys xs 0 (by omega),auu]at key;have hll:((xs.length:Int)=(ys.length:Int)):=by omega
  by_cases h:xs=ys
  ·rw[if_pos h]at key;obtain⟨o,h1,rfl⟩:=key;simp only[show ((0:Nat):Int)=0 from rfl]at h1
   try simp at h1
   subst h;simp[ay9,VM,h1]
  rw[if_neg h]at key;obtain⟨o,h1,s,rfl,h2⟩:=key;simp only[show ((0:Nat):Int)=0 from rfl]at h1
  try simp at h1
  simp[ay9,VM,hl,h1,h,h2]
  try (simp at h2;simp[h2])
 have h:¬xs=ys:=fun h=>hl (by rw[h]);have hll:¬((xs.length:Int)=(ys.length:Int)):=by omega
 simp[ay9,VM,hll,hl,aR hll,h]
def cM(k:Nat)(s:Int)(r:aJ):Int:=if s=0∧k<r.length then (r.getD k aq).k else s
theorem OD(k:Nat):∀(l:av) (s:Int),s≠0→l.foldl (cM k) s=s
 |[],_,_=>rfl
 |r::l,s,h=>by
  rw[ahw];have:cM k s r=s:=by unfold cM;rw[if_neg (fun h'=>h h'.1)]
  rw[this,OD k l s h]
theorem acW(k:Nat):∀l:av,l.foldl (cM k) 0=gx l k
 |[]=>by simp[gx]
 |r::l=>by
  rw[ahw];have ih:=acW k l;unfold gx at *;rw[aub,List.findIdx_cons];cases hp:pK k r with
  |true=>
   unfold pK at hp;simp only[acz,ad7,atU]at hp;have:cM k 0 r=(r.getD k aq).k:=by unfold cM;rw[if_pos ⟨rfl,hp.1⟩]
   rw[this,OD k l _ hp.2];simp
  |false=>
   have:cM k 0 r=0:=by
    unfold cM;by_cases h:k<r.length
    ·rw[if_pos ⟨rfl,h⟩];unfold pK at hp;simpa [h] using hp
    rw[if_neg (fun h'=>h h'.2)]
   rw[this,ih];simp
abbrev eK(b:Bool)(rs:av)(O:aa)(n k:Nat)(r4 r5 r9 r10 r11 r12 r13 r14:aa):List aa:=[.wh b (rs.map aG),.yz,O,ac k,r4,r5,.bool false,ac n,ac k,r9,r10,r11,r12,r13,r14]
theorem aam(b:Bool)(rs:av)(hm:rs.length≤most)(O:aa)(n k:Nat)(o0:Obj) :
  aM code 1 [5,13,14] td ⟨eK b rs O n k (ac 0) .any (.bool true) (.wh b (rs.map aG)) (ac rs.length) (ac 0) .any .any,[o0]⟩ =
   some (.ext 2,⟨eK b rs O n k (ac (gx rs k)) .any (.bool true) (.wh b (rs.map aG)) (ac rs.length) (ac rs.length) (.bool false) .any,[o0]⟩):=by
 have hl:=bB (base:=1) (clr:=[5,13,14]) (b:=td) rs
  (fun j (s:Int)=>⟨eK b rs O n k (ac s) .any (.bool true) (.wh b (rs.map aG)) (ac rs.length) (ac j) .any .any,[o0]⟩)
  (fun _ _=>True) (cM k)
  (fun s=>(.ext 2,⟨eK b rs O n k (ac s) .any (.bool true) (.wh b (rs.map aG)) (ac rs.length) (ac rs.length) (.bool false) .any,[o0]⟩))
  (fun j r s hj hy _=>by
   refine⟨?_,trivial⟩;have yB:((j:Int)<(rs.length:Int)):=by omega
   have hyl:∀hh:j<rs.length,rs[j]'hh=r:=fun hh=>(aaN.1 hy).2;have hrx:aG r=.wh false (r.map aE.a):=rfl;unfold cM;by_cases hs:s=0
   ·subst hs;by_cases hk:k<r.length
    ·rw[if_pos ⟨rfl,hk⟩];have hkk:((k:Int)<(r.length:Int)):=by omega
     have hg:r[k]?=some r[k]:=ad3 hk;have hd:r.getD k aq=r[k]:=by rw[ad4,hg];rfl
     rw[hd];generalize hv:r[k]=v at *;have hvl:∀hh:k<r.length,r[k]'hh=v:=fun _=>hv;simp[eK,td,yB,hj,hy,hyl,hrx,hk,hkk,hg,hvl,aE.a,aA hj hm,aH]
    rw[if_neg (fun h'=>hk h'.2)];have hkk:¬((k:Int)<(r.length:Int)):=by omega
    simp[eK,td,yB,hj,hy,hyl,hrx,hk,hkk,aA hj hm,aH]
   rw[if_neg (fun h'=>hs h'.1)];simp[eK,td,yB,hj,hy,hyl,hrx,hs,aA hj hm,aH])
  (fun s _=>by simp[eK,td]) 0 trivial
 rw[acW]at hl;exact hl.1
theorem Q7(b:Bool)(rs:av)(hne:rs≠[])(hn:rs.length≤8000)(hr:∀r∈rs,r.length≤most) :
  az I.qcx [.wh b (rs.map aG)]=some (.wh false (gB (cZ rs))):=by
 rw[am aiX rfl];have hm:rs.length≤most:=by unfold most;omega
 obtain⟨r0,hr0⟩:∃r0,rs[0]?=some r0:=by
  cases rs with
  |nil=>exact absurd rfl hne
  |cons r l=>exact⟨r,rfl⟩
 have h0:0<rs.length:=(aaN.1 hr0).1;have h0g:∀hh:0<rs.length,rs[0]'hh=r0:=fun hh=>(aaN.1 hr0).2;have hhd:rs.headD []=r0:=by
  cases rs with
  |nil=>exact absurd rfl hne
  |cons r l=>simpa using hr0
 have hrl:r0.length≤most:=hr r0 (aeb hr0);have hl:=bU (base:=1) (clr:=[3,4,5,9,10,11,12,13,14]) (b:=Fu)
  (fun k=>⟨[.wh b (rs.map aG),.yz,.sl 0 k 0 k,.any,.any,.any,.bool false,ac r0.length,ac k,.any,.any,.any,.any,.any,.any],[.arr 1 k (((List.range k).map (gx rs)).map (.int .i64))]⟩) r0.length
  (.ext 0,⟨[.wh b (rs.map aG),.yz,.sl 0 r0.length 0 r0.length,.any,.any,.any,.bool false,ac r0.length,ac r0.length,.bool false,.any,.any,.any,.any,.any],[.arr 1 r0.length (((List.range r0.length).map (gx rs)).map (.int .i64))]⟩)
  (fun k hk=>by
   have yB:((k:Int)<(r0.length:Int)):=by omega
   have hI:=aam b rs hm (.sl 0 k 0 k) r0.length k (.arr 1 k (((List.range k).map (gx rs)).map (.int .i64)));have hkm:k+1≤most:=by omega
   rw[List.range_succ,arz];have hL:((List.range k).map (gx rs)).length=k:=by simp
   generalize (List.range k).map (gx rs)=L at *;simp only[af6,ajo];generalize gx rs k=K at *;simp only[eK]at hI;subst hL
   try simp at hI
   simp[Fu,yB,hI,append,hkm,aA hk hrl,aH])
  (by simp[Fu])
 have hk:cZ rs=(List.range r0.length).map (gx rs):=by unfold cZ;rw[hhd]
 rw[hk];have hL:((List.range r0.length).map (gx rs)).length=r0.length:=by simp
 generalize (List.range r0.length).map (gx rs)=L at *;have h0':¬((rs.length:Int)=0):=by omega
 have h0n:¬rs.length=0:=by omega
 rw[List.range_zero]at hl;simp only[show ((0:Nat):Int)=0 from rfl,ajo]at hl;rw[←hL]at hl;have h0b:((rs.length:Int)==0)=false:=by rw[atv];omega
 have hLi:(r0.length:Int)=(L.length:Int):=by omega
 try simp at hl
 simp[azB,abA,h0',h0b,h0n,hne,hr0,h0,h0g,aG,hLi,hl,gB]
abbrev eF(b bk:Bool)(rs:av)(xX:List Int)(k:Nat)(r2 r3 r4 r5 r10 r11 r12 r13 r14 r15 r16:aa):List aa:=[.wh b (rs.map aG),.wh bk (gB xX),r2,r3,r4,r5,.bool false,.wh b (rs.map aG),ac rs.length,ac k,r10,r11,r12,r13,r14,r15,r16]
theorem Q1(b bk:Bool)(rs:av)(xX:List Int)(k:Nat)(r:aJ)(hl:r.length=xX.length)(hm:r.length≤most) :
  (qD xX r=true∧aM code 0 [2,4,5,15,16] oD ⟨eF b bk rs xX k .any (aG r) .any .any (.bool true) (.bool false) (aG r) (ac r.length) (ac 0) .any .any,[]⟩ =
   some (.ext 2,⟨eF b bk rs xX k .any (aG r) .any .any (.bool true) (.bool false) (aG r) (ac r.length) (ac r.length) (.bool false) .any,[]⟩)) ∨
  (qD xX r=false∧∃s,aM code 0 [2,4,5,15,16] oD ⟨eF b bk rs xX k .any (aG r) .any .any (.bool true) (.bool false) (aG r) (ac r.length) (ac 0) .any .any,[]⟩ =
   some (.ret,s)∧bF .pure [.env 2] (some (.ret,s))=some (.bool false)):=by
 have hzl:(r.zip xX).length=r.length:=by simp[hl]
 have h:=fM (base:=0) (clr:=[2,4,5,15,16]) (b:=oD) (r.zip xX)
  (fun j=>⟨eF b bk rs xX k .any (aG r) .any .any (.bool true) (.bool false) (aG r) (ac r.length) (ac j) .any .any,[]⟩)
  (fun p=>!Eb p.1 p.2)
  (.ext 2,⟨eF b bk rs xX k .any (aG r) .any .any (.bool true) (.bool false) (aG r) (ac r.length) (ac r.length) (.bool false) .any,[]⟩)
  (fun o=>∃s,o=(.ret,s)∧bF .pure [.env 2] (some (.ret,s))=some (.bool false))
  (fun j p hj hy hp=>by
   obtain⟨v,kd⟩:=p;rw[atV]at hy;obtain⟨hy,hz⟩:=hy;have hjr:j<r.length:=by omega
   have hjk:j<xX.length:=by omega
   have yB:((j:Int)<(r.length:Int)):=by omega
   have hvl:∀hh:j<r.length,r[j]'hh=v:=fun hh=>(aaN.1 hy).2;have hzl:∀hh:j<xX.length,xX[j]'hh=kd:=fun hh=>(aaN.1 hz).2;have hR:=dz v;simp only[auk]at hp;unfold Eb at hp;simp only[acz,arX,afE]at hp;obtain⟨h1,h2⟩:=hp;rw[h1]at hR;have hrx:aG r=.wh false (r.map aE.a):=rfl;obtain⟨vk,vn,vu,vs⟩:=v;simp only[aE.a]at hR;simp only at h2;by_cases h0:vk=0
   ·subst h0;simp[eF,oD,yB,hrx,hy,hjr,hvl,aE.a,hR,aA hjr hm,ar,ap,aZ,bQ]
   have h3:vk=kd:=h2.resolve_left h0;subst h3;simp[eF,oD,yB,hrx,hy,hz,hjr,hjk,hvl,hzl,gB,aE.a,hR,h0,aR h0,aA hjr hm,ar,ap,aZ,bQ])
  (fun j p hj hy hp=>by
   obtain⟨v,kd⟩:=p;rw[atV]at hy;obtain⟨hy,hz⟩:=hy;have hjr:j<r.length:=by omega
   have hjk:j<xX.length:=by omega
   have yB:((j:Int)<(r.length:Int)):=by omega
   have hvl:∀hh:j<r.length,r[j]'hh=v:=fun hh=>(aaN.1 hy).2;have hzl:∀hh:j<xX.length,xX[j]'hh=kd:=fun hh=>(aaN.1 hz).2;have hR:=dz v;simp only[as9]at hp;unfold Eb at hp;have hrx:aG r=.wh false (r.map aE.a):=rfl;cases hq:dC v with
   |false=>
    rw[hq]at hR;obtain⟨vk,vn,vu,vs⟩:=v;simp only[aE.a]at hR;exact⟨_,by simp[eF,oD,yB,hrx,hy,hjr,hvl,aE.a,hR];rfl,_,rfl,by simp⟩
   |true=>
    rw[hq]at hR hp;simp at hp;obtain⟨vk,vn,vu,vs⟩:=v;simp only[aE.a]at hR;simp only at hp;obtain⟨h0,h3⟩:=hp;exact⟨_,by simp[eF,oD,yB,hrx,hy,hz,hjr,hjk,hvl,hzl,gB,aE.a,hR,h0,h3,aR h0,aR h3];rfl,_,rfl,by simp⟩)
  (by rw[hzl];simp[eF,oD])
 have hall:qD xX r=!((r.zip xX).any fun p=>!Eb p.1 p.2):=by
  unfold qD;rw[at2];simp[hl]
 rw[hall];rcases h with⟨h1,h2⟩|⟨h1,o,h2,s,rfl,h3⟩
 ·left;rw[h1];exact⟨rfl,h2⟩
 right;rw[h1];exact⟨rfl,s,h2,h3⟩
theorem afi(b bk:Bool)(rs:av)(xX:List Int)(hr:∀r∈rs,r.length≤most) :
  az I.qcw [.wh b (rs.map aG),.wh bk (gB xX)]=some (.bool (Ji xX rs)):=by
 rw[am anX rfl];unfold Ji;by_cases h8:rs.length≤8000
 ·have h8':¬((8000:Int)<rs.length):=by omega
  have hm:rs.length≤most:=by unfold most;omega
  have h:=fM (base:=0) (clr:=[2,3,4,5,10,11,12,13,14,15,16]) (b:=wK) rs
   (fun k=>⟨eF b bk rs xX k .any .any .any .any .any .any .any .any .any .any .any,[]⟩)
   (fun r=>!qD xX r)
   (.ext 0,⟨eF b bk rs xX rs.length .any .any .any .any (.bool false) .any .any .any .any .any .any,[]⟩)
   (fun o=>∃s,o=(.ret,s)∧bF .pure [.env 2] (some (.ret,s))=some (.bool false))
   (fun k r hk hy hp=>by
    have yB:((k:Int)<(rs.length:Int)):=by omega
    have hyl:∀hh:k<rs.length,rs[k]'hh=r:=fun hh=>(aaN.1 hy).2;simp only[auk]at hp;have hl:r.length=xX.length:=by
     unfold qD at hp;simp at hp;exact hp.1
    have hll:((r.length:Int)=(xX.length:Int)):=by omega
    rcases Q1 b bk rs xX k r hl (hr r (aeb hy)) with⟨_,h2⟩|⟨h1,_⟩
    ·have hrx:aG r=.wh false (r.map aE.a):=rfl;simp only[eF,show ((0:Nat):Int)=0 from rfl,hrx,hl]at h2
     try simp at h2
     simp[eF,wK,yB,hk,hy,hyl,hrx,hl,gB,aA hk hm,aH]
     try (simp[gB]at h2;simp[h2,aH,aA hk hm])
    rw[hp]at h1;exact absurd h1 (by simp))
   (fun k r hk hy hp=>by
    have yB:((k:Int)<(rs.length:Int)):=by omega
    have hyl:∀hh:k<rs.length,rs[k]'hh=r:=fun hh=>(aaN.1 hy).2;have hrx:aG r=.wh false (r.map aE.a):=rfl;simp only[as9]at hp;by_cases hl:r.length=xX.length
    ·rcases Q1 b bk rs xX k r hl (hr r (aeb hy)) with⟨h1,_⟩|⟨_,s,h2,h3⟩
     ·rw[hp]at h1;exact absurd h1 (by simp)
     refine⟨(.ret,s),?_,s,rfl,h3⟩;simp only[eF,show ((0:Nat):Int)=0 from rfl,hrx,hl]at h2
     try simp[gB]at h2
     simp[eF,wK,yB,hk,hy,hyl,hrx,hl,gB,h2]
    have hll:¬((r.length:Int)=(xX.length:Int)):=by omega
    exact⟨_,by simp[eF,wK,yB,hk,hy,hyl,hrx,hl,hll,aR hll,gB];rfl,_,rfl,by simp⟩)
   (by simp[eF,wK])
  have hall:rs.all (qD xX)=!(rs.any fun r=>!qD xX r):=by rw[at2];simp
  rw[hall];rcases h with⟨h1,h2⟩|⟨h1,o,h2,s,rfl,h3⟩
  ·rw[h1];simp only[eF,show ((0:Nat):Int)=0 from rfl]at h2
   try simp at h2
   simp[ayY,Vl,h8',h8,h2]
  rw[h1];simp only[eF,show ((0:Nat):Int)=0 from rfl]at h2
  try simp at h2
  simp[ayY,Vl,h8',h8,h2,-bP];exact h3
 have h8':((8000:Int)<rs.length):=by omega
 simp[ayY,Vl,h8',h8]
theorem PM(b:Bool):az I.qcx [.wh b []]=some (.wh false []):=by
 rw[am aiX rfl];simp[azB,abA]
def zG(xX:List Int):aO:={ iK xX with bk:=false }
theorem S1(n:aO)(op:Int)(b:Bool)(rs:av)(hn:rs.length≤8000)(hm:∀r∈rs,r.length≤kV)(Q:Int)(hQ:cF (fZ [iK (cZ rs),fA n])=decide (Q<0))
  (hK:n.op=op→∀bn,∃X,az I.qcl [.wh bn ([zG (cZ rs),fA n].map aO.a)]=some (.tup [X,ac Q])) :
  az I.qcu [n.a,ac op,.wh b (rs.map aG)]=some (.bool (fR n op rs)):=by
 rw[am aob rfl];have hnz:∀m,fz true false 0 [] (m+3) n.a=n.a:=fun m=>Ft.ft true false 0 [] m n rfl;have hop:(cellsOf n.a)[0]?=some (ac n.op):=rfl;have hnn:aw n.a=12∧isAgg n.a=true:=⟨rfl,rfl⟩;have hmm:∀r∈rs,r.length≤most:=fun r h=>als (hm r h) (by decide);by_cases he:rs=[]
 ·subst he;have hK:=PM b;have:fR n op []=false:=by unfold fR;simp
  rw[this];by_cases h1:n.op=op
  ·simp[ayC,KF,hnz,hop,hnn,hK,h1]
  simp[ayC,KF,hnz,hop,hnn,hK,h1,aR h1]
 have hKs:=fun b=>Q7 b rs he hn hmm;have hFt:=fun b bk=>afi b bk rs (cZ rs) hmm;have hpos:0<rs.length:=auU.2 he;have hne:¬((rs.length:Int)=0):=by omega
 have hneb:((rs.length:Int)==0)=false:=by rw[atv];omega
 have hne':¬rs.length=0:=by omega
 unfold fR;rw[hQ];by_cases h1:n.op=op
 ·obtain⟨X1,hK1⟩:=hK h1 true;obtain⟨X2,hK2⟩:=hK h1 false;clear hK;subst h1;cases hf:Ji (cZ rs) rs with
  |false=>
   simp only[hf]at hFt;simp[ayC,KF,hnz,hop,hnn,hKs,hFt,hne,hneb,hne',he]
  |true=>
   simp only[hf]at hFt;clear hQ;simp only[af6,ajo,zG,iK,fA,aO.a]at hK1 hK2;simp only[aO.a]at *;generalize cZ rs=K at *;simp only[gB]at hFt hKs;simp[ayC,KF,hKs,hFt,hne,hneb,hne',he,hn,hK1,hK2]
 simp[ayC,KF,hnz,hop,hnn,hKs,h1,aR h1,al h1]
theorem apR(xQ nodes':List aO)(n:aO)(hN:∀j:Nat,(xQ[j]?).map (·.op)=(nodes'[j]?).map (·.op))(asl bs:List (eJ Int))(h:asl.map (·.l)=bs.map (·.l)) :
  (ya xQ n asl).map (·.l)=(ya nodes' n bs).map (·.l):=by
 match asl,bs,h with
 |[],[],_=>rfl
 |[],b::bs,h=>simp at h
 |a::asl,[],h=>simp at h
 |[⟨b1,l1⟩],[⟨b2,l2⟩],h=>
  simp at h;subst h;have hn:=hN n.l.toNat;simp only[ya];by_cases h3:n.op=3
  ·simp only[h3,aml];split<;>rfl
  by_cases h4:n.op=4
  ·simp[h4]
  by_cases h5:n.op=5
  ·simp[h5]
  by_cases h6:n.op=6
  ·simp[h6]
  by_cases h8:n.op=8
  ·simp only[h3,h4,h5,h6,h8,aml,ali];split<;>simp
  by_cases h10:n.op=10
  ·simp[h10]
  by_cases h11:n.op=11
  ·simp only[h11];cases h1:xQ[n.l.toNat]?<;>cases h2:nodes'[n.l.toNat]?<;>rw[h1,h2]at hn<;>simp at hn ⊢;unfold jr;rw[hn]
  simp[h3,h4,h5,h6,h8,h10,h11]
 |[⟨b1,l1⟩],b::c::bs,h=>simp at h
 |a::c::asl,[b],h=>simp at h
 |[⟨a1,l1⟩,⟨a2,l2⟩],[⟨b1,m1⟩,⟨b2,m2⟩],h=>
  simp at h;obtain⟨rfl,rfl⟩:=h;rfl
 |[_,_],_::_::_::_,h=>simp at h
 |_::_::_::_,[_,_],h=>simp at h
 |_::_::_::_,_::_::_::_,_=>rfl
theorem aeR(ks ks':List (eJ Int))(hk:ks.map (·.l)=ks'.map (·.l))(p:Nat):(ks.getD p sn).l=(ks'.getD p sn).l:=by
 have:=congrArg (fun l=>l[p]?) hk;simp only[ate]at this;rw[ad4,ad4];cases h1:ks[p]?<;>cases h2:ks'[p]?<;>rw[h1,h2]at this<;>simp at this ⊢;exact this
theorem WU(xQ nodes':List aO)(hN:∀j:Nat,(xQ[j]?).map (·.op)=(nodes'[j]?).map (·.op))(hL:xQ.length=nodes'.length)(i:Nat)(n:aO)(ks ks':List (eJ Int))(hk:ks.map (·.l)=ks'.map (·.l))(opn:List Nat) :
  (fV xQ i n ks opn).map (fun q=>(q.1.l,q.2))=(fV nodes' i n ks' opn).map (fun q=>(q.1.l,q.2)):=by
 have hg:=aeR ks ks' hk;unfold fV;cases je n opn with
 |none=>rfl
 |some ps=>
  simp only[hg,hL];split
  ·rfl
  have ho:=apR xQ nodes' n hN (ps.map fun p=>ks.getD p sn) (ps.map fun p=>ks'.getD p sn) (by rw[aqS,aqS];exact aj6 fun p _=>hg p);cases h1:ya xQ n (ps.map fun p=>ks.getD p sn)<;>cases h2:ya nodes' n (ps.map fun p=>ks'.getD p sn)<;>rw[h1,h2]at ho<;>simp at ho ⊢;rw[ho];split<;>simp[ho]
theorem Te(k:List Int)(n:aO):fZ [zG k,n]=fZ [iK k,n]:=by
 have hN:∀j:Nat,([zG k,n][j]?).map (·.op)=([iK k,n][j]?).map (·.op):=fun j=>by
  match j with
  |0=>rfl
  |1=>rfl
  |j+2=>rfl
 have h0:(fV [zG k,n] 0 (zG k) [] []).map (fun q=>(q.1.l,q.2))=(fV [iK k,n] 0 (iK k) [] []).map (fun q=>(q.1.l,q.2)):=by
  have a1:=WU [zG k,n] [iK k,n] hN rfl 0 (zG k) [] [] rfl [];rw[a1];unfold fV;have hp:je (zG k) []=je (iK k) []:=rfl;have hp2:je (iK k) []=some []:=by simp[je,iK,bD,iM]
  rw[hp,hp2];have hr:mu (zG k) 0 ([iK k,n]).length=mu (iK k) 0 ([iK k,n]).length:=rfl;rw[hr];simp only[auR,ajo];have ho:ya [iK k,n] (zG k) []=(ya [iK k,n] (iK k) []).map fun s=>⟨false,s.l⟩:=by
   have hi:gg (zG k)=gg (iK k):=rfl;have e1:ya [iK k,n] (zG k) []=if gg (zG k) then some ⟨false,k⟩ else none:=rfl
   have e2:ya [iK k,n] (iK k) []=if gg (iK k) then some ⟨true,k⟩ else none:=rfl
   rw[e1,e2,hi];cases gg (iK k)<;>rfl
  rw[ho];split
  ·rfl
  cases ya [iK k,n] (iK k) [] with
  |none=>rfl
  |some s=>
   simp only[atH];split<;>rfl
 unfold fZ;simp only[YH,aiG,ak3,ah5,an7];cases h1:fV [zG k,n] 0 (zG k) [] []<;>cases h2:fV [iK k,n] 0 (iK k) [] []<;>rw[h1,h2]at h0<;>simp at h0 ⊢;rename_i p q;obtain⟨p1,p2⟩:=p;obtain⟨q1,q2⟩:=q;obtain⟨h0,h3⟩:=h0;simp only at h0 h3;subst h3;have a2:=WU [zG k,n] [iK k,n] hN rfl 1 n [p1] [q1] (by simp[h0]) p2;simp only;cases h4:fV [zG k,n] 1 n [p1] p2<;>cases h5:fV [iK k,n] 1 n [q1] p2<;>rw[h4,h5]at a2<;>simp at a2 ⊢;obtain⟨a3,a4⟩:=a2;simp[a3,a4,h0]
structure YY where
 c:Nat
 no:Int
 sum:Option Int
 best:aE
noncomputable def nC(tag:Int)(e:List EN)(_:Nat)(r:aJ)(s:YY):YY⊕Unit:=
 if (aY e r).2=140 then .inl { s with no:=140 }
 else if (aY e r).2≠0∨(tag=3∧(aY e r).1.k≠0∧(aY e r).1.k≠2) then .inr ()
 else if (aY e r).1.k=0 then .inl s
 else .inl ⟨s.c+1,s.no,if tag=3 then gf s.sum (aY e r).1 else s.sum,
  if s.c=0∨(tag=4∧dP (aY e r).1 s.best<0)∨(tag=5∧0<dP (aY e r).1 s.best) then (aY e r).1 else s.best⟩
noncomputable def acR(tag:Int)(e:List EN)(rs:av):aE×Int:=
 if tag=1 then (bL rs.length,0) else
 match aV (nC tag e) rs 0 ⟨0,0,none,aq⟩ with
 |.inr ()=>(aq,2)
 |.inl s=>if s.no≠0 then (aq,s.no) else if tag=2 then (bL s.c,0) else if tag=3 then kL s.sum else (s.best,0)
noncomputable def Aa(tag:Int)(e:List EN)(r:aJ):Bool:=decide ((aY e r).2≠140∧((aY e r).2≠0∨(tag=3∧(aY e r).1.k≠0∧(aY e r).1.k≠2)))
noncomputable def ri(tag:Int)(s:Nat×aE)(v:aE):Nat×aE:=(s.1+1,if s.1=0∨(tag=4∧dP v s.2<0)∨(tag=5∧0<dP v s.2) then v else s.2)
theorem Fq(tag:Int)(e:List EN):∀(m:av) (k:Nat) (s:YY),aV (nC tag e) m k s=if m.any (Aa tag e) then .inr () else
  .inl ⟨((m.flatMap (mq e)).foldl (ri tag) (s.c,s.best)).1,if m.any (nS e) then 140 else s.no,if tag=3 then (m.flatMap (mq e)).foldl gf s.sum else s.sum,((m.flatMap (mq e)).foldl (ri tag) (s.c,s.best)).2⟩
 |[],k,s=>by simp[aV]
 |r::m,k,s=>by
  rw[aV];by_cases h1:(aY e r).2=140
  ·have:nC tag e k r s=.inl { s with no:=140 }:=by unfold nC;rw[if_pos h1]
   simp only[this,Fq tag e m];simp[Aa,nS,mq,h1]
  by_cases h2:(aY e r).2≠0∨(tag=3∧(aY e r).1.k≠0∧(aY e r).1.k≠2)
  ·have:nC tag e k r s=.inr ():=by unfold nC;rw[if_neg h1,if_pos h2]
   have ho:Aa tag e r=true:=by unfold Aa;rw[ad7];exact⟨h1,h2⟩
   simp[this,ho]
  have ho:Aa tag e r=false:=by unfold Aa;rw[atb];exact fun h=>h2 h.2
  have hz:(aY e r).2=0:=avy fun h=>h2 (.inl h);have hf:nS e r=false:=by simp[nS,h1]
  by_cases h3:(aY e r).1.k=0
  ·have:nC tag e k r s=.inl s:=by unfold nC;rw[if_neg h1,if_neg h2,if_pos h3]
   have hv:mq e r=[]:=by unfold mq;rw[if_neg (fun h=>h.2 h3)]
   simp only[this,Fq tag e m];simp[ho,hf,hv]
  have hv:mq e r=[(aY e r).1]:=by unfold mq;rw[if_pos ⟨hz,h3⟩]
  simp only[nC,if_neg h1,if_neg h2,if_neg h3,Fq tag e m];by_cases h4:tag=3
  ·subst h4;simp[ho,hf,hv,ri]
  simp[ho,hf,hv,h4,ri]
theorem VW(tag:Int):∀(l:aJ) (s:Nat×aE),(l.foldl (ri tag) s).1=s.1+l.length
 |[],s=>rfl
 |v::l,s=>by rw[ahw,VW tag l];simp only[ri,aiG];omega
theorem ak9(tag:Int)(e:List EN)(rs:av):rs.any (Aa tag e)=(rs.any (Em e) ||(decide (tag=3)&&rs.any fun r=>(mq e r).any fun v=>!(v.k==2))):=by
 induction rs with
 |nil=>simp
 |cons r rs ih=>
  simp only[aub,ih];have:Aa tag e r=(Em e r ||(decide (tag=3)&&(mq e r).any fun v=>!(v.k==2))):=by
   unfold Aa Em mq;by_cases h1:(aY e r).2=140
   ·simp[h1]
   by_cases h2:(aY e r).2=0
   ·by_cases h3:(aY e r).1.k=0
    ·simp[h2,h3]
    by_cases h4:tag=3<;>by_cases h5:(aY e r).1.k=2<;>simp[h2,h3,h4,h5]
   simp[h1,h2]
  rw[this];cases Em e r<;>cases (decide (tag=3))<;>simp[Bool.or_left_comm]
theorem UT:∀(l:aJ) (n:Nat) (m:aE),(l.foldl (ri 4) (n+1,m)).2=It dP m l
 |[],_,_=>rfl
 |v::l,n,m=>by
  rw[ahw];have:ri 4 (n+1,m) v=(n+1+1,if dP v m<0 then v else m):=by simp[ri]
  rw[this,UT l];rfl
theorem Vi:∀(l:aJ) (n:Nat) (m:aE),(l.foldl (ri 5) (n+1,m)).2=GJ dP m l
 |[],_,_=>rfl
 |v::l,n,m=>by
  rw[ahw];have:ri 5 (n+1,m) v=(n+1+1,if 0<dP v m then v else m):=by simp[ri]
  rw[this,Vi l];rfl
theorem WN(tag:Int)(v:aE):ri tag (0,aq) v=(0+1,v):=by simp[ri]
theorem acg(tag:Int)(e:List EN)(rs:av)(h1:1≤tag)(h5:tag≤5):acR tag e rs=Eg tag e rs:=by
 unfold acR Eg;by_cases t1:tag=1
 ·rw[if_pos t1,if_pos t1]
 rw[if_neg t1,if_neg t1,Fq,ak9];unfold mO;cases ho:rs.any (Em e) with
 |true=>simp
 |false=>
  have hfm:(rs.any fun r=>(mq e r).any fun v=>!(v.k==2))=(rs.flatMap (mq e)).any (fun v=>!(v.k==2)):=by rw[List.any_flatMap]
  rw[hfm];generalize rs.flatMap (mq e)=L;have hf:(if rs.any (nS e)=true then (140:Int) else 0)≠2:=by split<;>decide
  simp only[avm,ai1,ali,acz,ad7,if_neg hf];by_cases h3:tag=3∧(L.any fun v=>!(v.k==2))=true
  ·simp only[if_pos h3]
  simp only[if_neg h3];by_cases hq:(if rs.any (nS e)=true then (140:Int) else 0)≠0
  ·simp only[if_pos hq]
  simp only[if_neg hq,VW,apx];by_cases t2:tag=2
  ·simp only[if_pos t2]
  simp only[if_neg t2];by_cases t3:tag=3
  ·simp only[if_pos t3];rfl
  simp only[if_neg t3];by_cases t4:tag=4
  ·subst t4;rw[if_pos rfl];cases L with
   |nil=>rfl
   |cons v l=>rw[ahw,WN,UT];rfl
  have t5:tag=5:=by omega
  subst t5;rw[if_neg t4];cases L with
  |nil=>rfl
  |cons v l=>rw[ahw,WN,Vi];rfl
abbrev eA(a:aT)(b:Bool)(rs:av)(k c:Nat)(no:Int)(r13:aa):List aa:=
 [a.a,.wh b (rs.map aG),.ptr 0 0 0 0,.ptr 1 0 0 0,.any,ac c,ac no,.ptr 2 0 0 0,.ptr 3 0 0 0,ac k,.any,.any,.bool false,r13,.any,.any,.any,.any,.any,.any,.any,.any,.any]
abbrev oA(a:aT)(s:YY):ah:=[.arr 2 0 [a.a],.arr 4 0 [aq.a],.arr 4 0 [(fQ s.sum).a],.arr 4 0 [s.best.a]]
theorem acD(a:aT)(b:Bool)(rs:av)(k:Nat)(r:aJ)(s:YY)(hk:k<rs.length)(hy:rs[k]?=some r)(hn:rs.length≤8000)(ha:a.arg.length≤most)(hr:Sr r)(hE:xO a.arg)(h:(aY a.arg r).2=140) :
  bM 4 [4,10,11,13,14,15,16,17,18] cz (run code cz ⟨eA a b rs k s.c s.no .any,oA a s⟩)=aM code 4 [4,10,11,13,14,15,16,17,18] cz ⟨eA a b rs (k+1) s.c 140 .any,oA a s⟩:=by
 have hm:rs.length≤most:=by unfold most;omega
 have yB:((k:Int)<(rs.length:Int)):=by omega
 have hyl:∀hh:k<rs.length,rs[k]'hh=r:=fun hh=>(aaN.1 hy).2;have hrx:aG r=.wh false (r.map aE.a):=rfl;have hV:=fun b=>lh b a.arg false r ha hr hE;rw[h]at hV;generalize (aY a.arg r).1=w at *;generalize fQ s.sum=S at *;obtain⟨c,no,sum,best⟩:=s;simp only[aE.a]at hV;simp[eA,oA,cz,yB,hk,hy,hyl,hrx,aT.a,aE.a,aq,hV,aA hk hm,ar,ap,aZ,bQ]
theorem afc(a:aT)(b:Bool)(rs:av)(k:Nat)(r:aJ)(s:YY)(hk:k<rs.length)(hy:rs[k]?=some r)(hn:rs.length≤8000)(ha:a.arg.length≤most)(hr:Sr r)(hE:xO a.arg)(h:(aY a.arg r).2=0)(h0:(aY a.arg r).1.k=0) :
  bM 4 [4,10,11,13,14,15,16,17,18] cz (run code cz ⟨eA a b rs k s.c s.no .any,oA a s⟩)=aM code 4 [4,10,11,13,14,15,16,17,18] cz ⟨eA a b rs (k+1) s.c s.no .any,oA a s⟩:=by
 have hm:rs.length≤most:=by unfold most;omega
 have yB:((k:Int)<(rs.length:Int)):=by omega
 have hyl:∀hh:k<rs.length,rs[k]'hh=r:=fun hh=>(aaN.1 hy).2;have hrx:aG r=.wh false (r.map aE.a):=rfl;have hV:=fun b=>lh b a.arg false r ha hr hE;rw[h]at hV;generalize (aY a.arg r).1=w at *;obtain⟨wk,wn,wu,ws⟩:=w;simp only at h0;subst h0;generalize fQ s.sum=S at *;obtain⟨c,no,sum,best⟩:=s;simp only[aE.a]at hV;by_cases t3:a.tag=3<;>simp[t3,al,eA,oA,cz,yB,hk,hy,hyl,hrx,aT.a,aE.a,aq,hV,aA hk hm,ar,ap,aZ,bQ]
theorem afT(a:aT)(b:Bool)(rs:av)(k:Nat)(r:aJ)(s:YY)(hk:k<rs.length)(hy:rs[k]?=some r)(hn:rs.length≤8000)(ha:a.arg.length≤most)(hr:Sr r)(hE:xO a.arg)(h:(aY a.arg r).2≠0)(h0:(aY a.arg r).2≠140) :
  ∃o,bM 4 [4,10,11,13,14,15,16,17,18] cz (run code cz ⟨eA a b rs k s.c s.no .any,oA a s⟩)=some o∧∃t,o=(.ret,t)∧bF .pure [.cell true 4 3,.env 4] (some (.ret,t))=some (.tup [aq.a,ac 2]):=by
 have hm:rs.length≤most:=by unfold most;omega
 have yB:((k:Int)<(rs.length:Int)):=by omega
 have hyl:∀hh:k<rs.length,rs[k]'hh=r:=fun hh=>(aaN.1 hy).2;have hrx:aG r=.wh false (r.map aE.a):=rfl;have hV:=fun b=>lh b a.arg false r ha hr hE;generalize (aY a.arg r).2=no' at *;generalize (aY a.arg r).1=w at *;obtain⟨wk,wn,wu,ws⟩:=w;generalize fQ s.sum=S at *;obtain⟨c,no,sum,best⟩:=s;simp only[aE.a]at hV;refine⟨_,by simp[h,h0,al,aR h,eA,oA,cz,yB,hk,hy,hyl,hrx,aT.a,aE.a,aq,hV];rfl,_,rfl,by simp[aq,aE.a]⟩
theorem agm(a:aT)(b:Bool)(rs:av)(k:Nat)(r:aJ)(s:YY)(hk:k<rs.length)(hy:rs[k]?=some r)(hn:rs.length≤8000)(ha:a.arg.length≤most)(hr:Sr r)(hE:xO a.arg)(h:(aY a.arg r).2=0)(h3:a.tag=3)(h0:(aY a.arg r).1.k≠0)(h2:(aY a.arg r).1.k≠2) :
  ∃o,bM 4 [4,10,11,13,14,15,16,17,18] cz (run code cz ⟨eA a b rs k s.c s.no .any,oA a s⟩)=some o∧∃t,o=(.ret,t)∧bF .pure [.cell true 4 3,.env 4] (some (.ret,t))=some (.tup [aq.a,ac 2]):=by
 have hm:rs.length≤most:=by unfold most;omega
 have yB:((k:Int)<(rs.length:Int)):=by omega
 have hyl:∀hh:k<rs.length,rs[k]'hh=r:=fun hh=>(aaN.1 hy).2;have hrx:aG r=.wh false (r.map aE.a):=rfl;have hV:=fun b=>lh b a.arg false r ha hr hE;rw[h]at hV;generalize (aY a.arg r).1=w at *;obtain⟨wk,wn,wu,ws⟩:=w;simp only at h0 h2;generalize fQ s.sum=S at *;obtain⟨c,no,sum,best⟩:=s;simp only[aE.a]at hV;refine⟨_,by simp[h3,h0,h2,al,aR h0,aR h2,eA,oA,cz,yB,hk,hy,hyl,hrx,aT.a,aE.a,aq,hV];rfl,_,rfl,by simp[aq,aE.a]⟩
theorem ajP(a:aT)(b:Bool)(rs:av)(k:Nat)(r:aJ)(s:YY)(hk:k<rs.length)(hy:rs[k]?=some r)(hn:rs.length≤8000)(ha:a.arg.length≤most)(hr:Sr r)(hE:xO a.arg)(h:(aY a.arg r).2=0)(h0:(aY a.arg r).1.k≠0)(t2:a.tag=2)(hc:s.c≤k) :
  bM 4 [4,10,11,13,14,15,16,17,18] cz (run code cz ⟨eA a b rs k s.c s.no .any,oA a s⟩)=aM code 4 [4,10,11,13,14,15,16,17,18] cz ⟨eA a b rs (k+1) (s.c+1) s.no .any,oA a { s with best:=if s.c=0 then (aY a.arg r).1 else s.best }⟩:=by
 have hm:rs.length≤most:=by unfold most;omega
 have yB:((k:Int)<(rs.length:Int)):=by omega
 have hyl:∀hh:k<rs.length,rs[k]'hh=r:=fun hh=>(aaN.1 hy).2;have hrx:aG r=.wh false (r.map aE.a):=rfl;have hV:=fun b=>lh b a.arg false r ha hr hE;rw[h]at hV;generalize (aY a.arg r).1=w at *;obtain⟨wk,wn,wu,ws⟩:=w;simp only at h0;have hw1:IntKind.i64.wrap ((s.c:Int)+1)=(s.c:Int)+1:=bl (by omega);generalize fQ s.sum=S at *;obtain⟨c,no,sum,best⟩:=s;simp only[aE.a]at hV;simp only at hw1;by_cases c0:c=0
 ·subst c0;simp[t2,h0,al,aR h0,eA,oA,cz,yB,hk,hy,hyl,hrx,aT.a,aE.a,aq,hV,aA hk hm,show IntKind.i64.wrap 1=1 from rfl,ar,ap,aZ,bQ]
 have c1:¬((c:Int)+1=1):=by omega
 simp[t2,h0,c0,c1,al,aR h0,eA,oA,cz,yB,hk,hy,hyl,hrx,aT.a,aE.a,aq,hV,hw1,aA hk hm,ar,ap,aZ,bQ]
theorem agB(a:aT)(b:Bool)(rs:av)(k:Nat)(r:aJ)(s:YY)(hk:k<rs.length)(hy:rs[k]?=some r)(hn:rs.length≤8000)(ha:a.arg.length≤most)(hr:Sr r)(hE:xO a.arg)(h:(aY a.arg r).2=0)(h0:(aY a.arg r).1.k≠0)(t2:a.tag=4)(hc:s.c≤k) :
  bM 4 [4,10,11,13,14,15,16,17,18] cz (run code cz ⟨eA a b rs k s.c s.no .any,oA a s⟩)=aM code 4 [4,10,11,13,14,15,16,17,18] cz ⟨eA a b rs (k+1) (s.c+1) s.no .any,oA a { s with best:=if s.c=0∨dP (aY a.arg r).1 s.best<0 then (aY a.arg r).1 else s.best }⟩:=by
 have hm:rs.length≤most:=by unfold most;omega
 have yB:((k:Int)<(rs.length:Int)):=by omega
 have hyl:∀hh:k<rs.length,rs[k]'hh=r:=fun hh=>(aaN.1 hy).2;have hrx:aG r=.wh false (r.map aE.a):=rfl;have hV:=fun b=>lh b a.arg false r ha hr hE;rw[h]at hV;have hW:=wY (aY a.arg r).1 s.best;generalize (aY a.arg r).1=w at *;generalize dP w s.best=q at *;obtain⟨wk,wn,wu,ws⟩:=w;simp only at h0;have hw1:IntKind.i64.wrap ((s.c:Int)+1)=(s.c:Int)+1:=bl (by omega);generalize fQ s.sum=S at *;obtain⟨c,no,sum,best⟩:=s;simp only[aE.a]at hV hW;simp only at hw1;by_cases c0:c=0
 ·subst c0;simp[t2,h0,al,aR h0,eA,oA,cz,yB,hk,hy,hyl,hrx,aT.a,aE.a,aq,hV,aA hk hm,show IntKind.i64.wrap 1=1 from rfl,ar,ap,aZ,bQ]
 have c1:¬((c:Int)+1=1):=by omega
 by_cases hq:q<0<;>simp[t2,h0,c0,c1,hW,hq,al,aR h0,eA,oA,cz,yB,hk,hy,hyl,hrx,aT.a,aE.a,aq,hV,hw1,aA hk hm,ar,ap,aZ,bQ]
theorem agw(a:aT)(b:Bool)(rs:av)(k:Nat)(r:aJ)(s:YY)(hk:k<rs.length)(hy:rs[k]?=some r)(hn:rs.length≤8000)(ha:a.arg.length≤most)(hr:Sr r)(hE:xO a.arg)(h:(aY a.arg r).2=0)(h0:(aY a.arg r).1.k≠0)(t2:a.tag=5)(hc:s.c≤k) :
  bM 4 [4,10,11,13,14,15,16,17,18] cz (run code cz ⟨eA a b rs k s.c s.no .any,oA a s⟩)=aM code 4 [4,10,11,13,14,15,16,17,18] cz ⟨eA a b rs (k+1) (s.c+1) s.no .any,oA a { s with best:=if s.c=0∨0<dP (aY a.arg r).1 s.best then (aY a.arg r).1 else s.best }⟩:=by
 have hm:rs.length≤most:=by unfold most;omega
 have yB:((k:Int)<(rs.length:Int)):=by omega
 have hyl:∀hh:k<rs.length,rs[k]'hh=r:=fun hh=>(aaN.1 hy).2;have hrx:aG r=.wh false (r.map aE.a):=rfl;have hV:=fun b=>lh b a.arg false r ha hr hE;rw[h]at hV;have hW:=wY (aY a.arg r).1 s.best;generalize (aY a.arg r).1=w at *;generalize dP w s.best=q at *;obtain⟨wk,wn,wu,ws⟩:=w;simp only at h0;have hw1:IntKind.i64.wrap ((s.c:Int)+1)=(s.c:Int)+1:=bl (by omega);generalize fQ s.sum=S at *;obtain⟨c,no,sum,best⟩:=s;simp only[aE.a]at hV hW;simp only at hw1;by_cases c0:c=0
 ·subst c0;simp[t2,h0,al,aR h0,eA,oA,cz,yB,hk,hy,hyl,hrx,aT.a,aE.a,aq,hV,aA hk hm,show IntKind.i64.wrap 1=1 from rfl,ar,ap,aZ,bQ]
 have c1:¬((c:Int)+1=1):=by omega
 by_cases hq:0<q<;>simp[t2,h0,c0,c1,hW,hq,al,aR h0,eA,oA,cz,yB,hk,hy,hyl,hrx,aT.a,aE.a,aq,hV,hw1,aA hk hm,ar,ap,aZ,bQ]
theorem adY(a:aT)(b:Bool)(rs:av)(k:Nat)(r:aJ)(s:YY)(hk:k<rs.length)(hy:rs[k]?=some r)(hn:rs.length≤8000)(ha:a.arg.length≤most)(hr:Sr r)(hE:xO a.arg)(h:(aY a.arg r).2=0)(h0:(aY a.arg r).1.k≠0)(t2:a.tag=3)(h2:(aY a.arg r).1.k=2)(hc:s.c≤k)(hs:Wn s.sum) :
  bM 4 [4,10,11,13,14,15,16,17,18] cz (run code cz ⟨eA a b rs k s.c s.no .any,oA a s⟩)=aM code 4 [4,10,11,13,14,15,16,17,18] cz ⟨eA a b rs (k+1) (s.c+1) s.no .any,oA a { s with sum:=gf s.sum (aY a.arg r).1,best:=if s.c=0 then (aY a.arg r).1 else s.best }⟩:=by
 have hm:rs.length≤most:=by unfold most;omega
 have yB:((k:Int)<(rs.length:Int)):=by omega
 have hyl:∀hh:k<rs.length,rs[k]'hh=r:=fun hh=>(aaN.1 hy).2;have hrx:aG r=.wh false (r.map aE.a):=rfl;have hI:=wT hr hE h;have hV:=fun b=>lh b a.arg false r ha hr hE;rw[h]at hV;have hS:=Nq s.sum (aY a.arg r).1 hs hI.2;have hb:kM (aY a.arg r).1=0:=by unfold kM;rw[HU hI];simp[h2]
 rw[hb]at hS;simp only[aml]at hS;generalize (aY a.arg r).1=w at *;have hw1:IntKind.i64.wrap ((s.c:Int)+1)=(s.c:Int)+1:=bl (by omega);obtain⟨c,no,sum,best⟩:=s;simp only[eA,oA]at hS hw1 ⊢;generalize fQ (gf sum w)=S' at *;generalize fQ sum=S at *;obtain⟨wk,wn,wu,ws⟩:=w;simp only at h0 h2;subst h2;simp only[aE.a]at hV hS;by_cases c0:c=0
 ·subst c0;simp[t2,eA,oA,cz,yB,hk,hy,hyl,hrx,aT.a,aE.a,aq,hV,hS,aA hk hm,show IntKind.i64.wrap 1=1 from rfl,ar,ap,aZ,bQ]
 have c1:¬((c:Int)+1=1):=by omega
 simp[t2,c0,c1,eA,oA,cz,yB,hk,hy,hyl,hrx,aT.a,aE.a,aq,hV,hS,hw1,aA hk hm,ar,ap,aZ,bQ]
theorem VH(s:Option Int):vK (fQ s)=kL s:=by
 unfold vK;rw[Tx];cases s with
 |none=>rfl
 |some x=>
  have:(fQ (some x)).k=4:=rfl;rw[if_pos rfl,if_neg (by rw[this];decide)];rw[show kv (fQ (some x))=x from acf x];unfold kL fits;simp only;by_cases h:-9223372036854775808≤x∧x<9223372036854775808
  ·rw[if_pos h,if_pos (by simp;omega)]
  rw[if_neg h,if_neg (by simp;omega)]
theorem ahl{s:Option Int}(hs:Wn s):rg (fQ s).n∧nv (fQ s).u:=by
 unfold Wn sz at hs;unfold rg nv;cases s with
 |none=>simp[fQ,aq]
 |some x=>simp only[fQ,iE,ary]at *;omega
theorem EL(n:Int):az I.qal [ac n]=some (.agg [ac 2,ac n,.int .u64 0,.str []]):=Ez n
theorem IY(a:aT)(b:Bool)(rs:av)(hn:rs.length≤8000)(ha:a.arg.length≤most)(hr:FT rs)(hE:xO a.arg)(h1:1≤a.tag)(h5:a.tag≤5) :
  az I.qck [a.a,.wh b (rs.map aG)]=some (.tup [(Eg a.tag a.arg rs).1.a,ac (Eg a.tag a.arg rs).2]):=by
 rw[←acg _ _ _ h1 h5,am an8 rfl];unfold acR;by_cases t1:a.tag=1
 ·rw[if_pos t1];simp only[aT.a,t1];simp[ayk,Ir,bL,aE.a,EL]
 rw[if_neg t1];have hl:=cD (base:=4) (clr:=[4,10,11,13,14,15,16,17,18]) (b:=cz) rs
  (fun k (s:YY)=>⟨eA a b rs k s.c s.no .any,oA a s⟩)
  (fun k s=>s.c≤k∧(-(9223372036854775808*(k:Int))≤s.sum.getD 0∧s.sum.getD 0≤9223372036854775808*(k:Int))) (nC a.tag a.arg)
  (fun s=>(.ext 0,⟨eA a b rs rs.length s.c s.no (.bool false),oA a s⟩))
  (fun (_:Unit) o=>∃t,o=(.ret,t)∧bF .pure [.cell true 4 3,.env 4] (some (.ret,t))=some (.tup [aq.a,ac 2]))
  (fun k r s hk hy hs=>by
   obtain⟨hc,hsz⟩:=hs;have hrr:=hr r (aeb hy);have hszO:=tn (k:=k) (by unfold most;omega) hsz;have hsz':-(9223372036854775808*((k+1:Nat):Int))≤s.sum.getD 0∧s.sum.getD 0≤9223372036854775808*((k+1:Nat):Int):=by omega
   unfold nC;by_cases c1:(aY a.arg r).2=140
   ·rw[if_pos c1];exact⟨acD a b rs k r s hk hy hn ha hrr hE c1,by simp only;omega,hsz'⟩
   rw[if_neg c1];by_cases c2:(aY a.arg r).2=0
   ·by_cases c3:(aY a.arg r).1.k=0
    ·rw[if_neg (by rintro (h|h);exact h c2;exact h.2.1 c3),if_pos c3];exact⟨afc a b rs k r s hk hy hn ha hrr hE c2 c3,by omega,hsz'⟩
    by_cases t3:a.tag=3
    ·by_cases c4:(aY a.arg r).1.k=2
     ·rw[if_neg (by rintro (h|h);exact h c2;exact h.2.2 c4),if_neg c3];have e:(if s.c=0∨(a.tag=4∧dP (aY a.arg r).1 s.best<0)∨(a.tag=5∧0<dP (aY a.arg r).1 s.best) then (aY a.arg r).1 else s.best)=if s.c=0 then (aY a.arg r).1 else s.best:=by
       simp[t3]
      rw[e,if_pos t3];refine⟨adY a b rs k r s hk hy hn ha hrr hE c2 c3 t3 c4 hc hszO,by simp only;omega,?_⟩;exact w8 hsz (wT hrr hE c2).2
     rw[if_pos (.inr ⟨t3,c3,c4⟩)];exact agm a b rs k r s hk hy hn ha hrr hE c2 t3 c3 c4
    rw[if_neg (by rintro (h|h);exact h c2;exact t3 h.1),if_neg c3,if_neg t3];by_cases t2:a.tag=2
    ·have e:(if s.c=0∨(a.tag=4∧dP (aY a.arg r).1 s.best<0)∨(a.tag=5∧0<dP (aY a.arg r).1 s.best) then (aY a.arg r).1 else s.best)=if s.c=0 then (aY a.arg r).1 else s.best:=by
      simp[t2]
     rw[e];exact⟨ajP a b rs k r s hk hy hn ha hrr hE c2 c3 t2 hc,by simp only;omega,hsz'⟩
    by_cases t4:a.tag=4
    ·have e:(if s.c=0∨(a.tag=4∧dP (aY a.arg r).1 s.best<0)∨(a.tag=5∧0<dP (aY a.arg r).1 s.best) then (aY a.arg r).1 else s.best)=if s.c=0∨dP (aY a.arg r).1 s.best<0 then (aY a.arg r).1 else s.best:=by
      simp[t4]
     rw[e];exact⟨agB a b rs k r s hk hy hn ha hrr hE c2 c3 t4 hc,by simp only;omega,hsz'⟩
    have t5:a.tag=5:=by omega
    have e:(if s.c=0∨(a.tag=4∧dP (aY a.arg r).1 s.best<0)∨(a.tag=5∧0<dP (aY a.arg r).1 s.best) then (aY a.arg r).1 else s.best)=if s.c=0∨0<dP (aY a.arg r).1 s.best then (aY a.arg r).1 else s.best:=by
     simp[t5]
    rw[e];exact⟨agw a b rs k r s hk hy hn ha hrr hE c2 c3 t5 hc,by simp only;omega,hsz'⟩
   rw[if_pos (.inl c2)];exact afT a b rs k r s hk hy hn ha hrr hE c2 c1)
  (fun s _=>by simp[eA,oA,cz]) ⟨0,0,none,aq⟩ (by simp)
 cases hf:aV (nC a.tag a.arg) rs 0 ⟨0,0,none,aq⟩ with
 |inr u=>
  rw[hf]at hl;obtain⟨o,h3,t,rfl,h4⟩:=hl;simp only[eA,oA,fQ]at h3;simp only[aT.a,aE.a,aq]at h3 h4 ⊢;simp at h3;simp[ayk,Ir,h3,al t1,-bP];exact h4
 |inl s=>
  rw[hf]at hl;obtain⟨⟨hc,hsz⟩,h3⟩:=hl;have hszO:=tn (k:=rs.length) (by unfold most;omega) hsz;obtain⟨g1,g2⟩:=ahl hszO;have hE:=KZ (fQ s.sum) g1 g2;rw[VH]at hE;obtain⟨c,no,sum,best⟩:=s;simp only at hE ⊢;have hst0:fQ none=aq:=rfl;simp only[eA,oA,hst0]at h3;generalize fQ sum=S at *;generalize kL sum=R at *;simp only[aT.a,aE.a,aq]at h3 hE ⊢
  try simp at h3
  by_cases n0:no=0
  ·rw[if_neg (by simp[n0])];subst n0;by_cases t2:a.tag=2
   ·rw[if_pos t2];simp only[t2]at h3 ⊢;simp[ayk,Ir,h3,bL,aE.a,EL]
   by_cases t3:a.tag=3
   ·rw[if_neg t2,if_pos t3];simp only[t3]at h3 ⊢;simp[ayk,Ir,h3,hE]
   rw[if_neg t2,if_neg t3];simp[ayk,Ir,h3,al t1,al t2,al t3]
  rw[if_pos n0];simp[ayk,Ir,h3,al t1,aR n0,aq,aE.a]
def agy(l:aJ):aE×Int:=kL (some ((l.foldl gf none).getD 0))
def ue(_:Nat)(v s:aE):aE⊕Unit:=if v.k=0 then .inl s else if (lJ s v).2=0 then .inl (lJ s v).1 else .inr ()
def Zp(l:aJ):aE×Int:=match aV ue l 0 aq with
 |.inl s=>vK s
 |.inr _=>(aq,140)
def ip(tag:Int)(s v:aE):aE:=if v.k=0 then s else if s.k=0∨(if tag=4 then dP v s<0 else 0<dP v s) then v else s
def vb(tag:Int)(l:aJ):aE×Int:=if tag=3 then Zp l else if tag=1∨tag=2 then agy l else (l.foldl (ip tag) aq,0)
abbrev eU(tag:Int)(b:Bool)(l:aJ)(k:Nat)(e14:aa):List aa:=[ac tag,.wh b (l.map aE.a),.ptr 0 0 0 0,.any,.ptr 1 0 0 0,.ptr 2 0 0 0,.any,.any,.any,.any,.any,.wh b (l.map aE.a),ac l.length,ac k,e14,.any,.any,.any,.any,.any,.any,.any,.any,.any,.any]
abbrev oU(s t:aE):ah:=[.arr 4 0 [aq.a],.arr 4 0 [s.a],.arr 4 0 [t.a]]
theorem agU(tag:Int)(b:Bool)(l:aJ)(hn:l.length≤8000)(ht:tag=1∨tag=2)(hv:∀v∈l,v.k=0∨(kM v=0∧rg v.n)) :
  aM code 3 [3,6,7,8,14,15,16,17,18,19,20,21,22] dD ⟨eU tag b l 0 .any,oU aq aq⟩=some (.ext 0,⟨eU tag b l l.length (.bool false),oU (fQ (l.foldl gf none)) aq⟩)∧Wn (l.foldl gf none):=by
 have hm:l.length≤most:=by unfold most;omega
 have h:=bB (base:=3) (clr:=[3,6,7,8,14,15,16,17,18,19,20,21,22]) (b:=dD) l
  (fun k (s:Option Int)=>⟨eU tag b l k .any,oU (fQ s) aq⟩)
  (fun k s=>-(9223372036854775808*(k:Int))≤s.getD 0∧s.getD 0≤9223372036854775808*(k:Int)) gf
  (fun s=>(.ext 0,⟨eU tag b l l.length (.bool false),oU (fQ s) aq⟩))
  (fun k v s hk hy hs=>by
   have yB:((k:Int)<(l.length:Int)):=by omega
   rcases hv v (aeb hy) with h0|⟨hb,hrg⟩
   ·have e:gf s v=s:=by unfold gf;rw[if_pos h0]
    rw[e];refine⟨?_,by omega⟩;generalize fQ s=S at *;obtain⟨vk,vn,vu,vs⟩:=v;simp only at h0;subst h0;simp only[aE.a,aq];simp[dD,eU,oU,yB,hy,aE.a,aA hk hm,ar,ap,aZ,bQ]
   have hS:=Nq s v (tn (by omega) hs) hrg;rw[hb]at hS;simp only[aml]at hS;refine⟨?_,w8 hs hrg⟩;by_cases h0:v.k=0
   ·have e:gf s v=s:=by unfold gf;rw[if_pos h0]
    rw[e];generalize fQ s=S at *;obtain⟨vk,vn,vu,vs⟩:=v;simp only at h0;subst h0;simp only[aE.a,aq];simp[dD,eU,oU,yB,hy,aE.a,aA hk hm,ar,ap,aZ,bQ]
   generalize fQ (gf s v)=S' at *;generalize fQ s=S at *;simp only[aE.a,aq]at *;rcases ht with rfl|rfl
   ·simp[dD,eU,oU,yB,hy,al h0,aE.a,hS,aA hk hm,ar,ap,aZ,bQ]
   simp[dD,eU,oU,yB,hy,al h0,aE.a,hS,aA hk hm,ar,ap,aZ,bQ])
  (fun s _=>by simp[dD,eU,oU]) none (by simp)
 exact⟨h.1,tn (by omega) h.2⟩
theorem abY(tag:Int)(b:Bool)(l:aJ)(hn:l.length≤8000)(ht:tag=4∨tag=5) :
  aM code 3 [3,6,7,8,14,15,16,17,18,19,20,21,22] dD ⟨eU tag b l 0 .any,oU aq aq⟩=some (.ext 0,⟨eU tag b l l.length (.bool false),oU aq (l.foldl (ip tag) aq)⟩):=by
 have hm:l.length≤most:=by unfold most;omega
 have h:=bB (base:=3) (clr:=[3,6,7,8,14,15,16,17,18,19,20,21,22]) (b:=dD) l
  (fun k (s:aE)=>⟨eU tag b l k .any,oU aq s⟩) (fun _ _=>True) (ip tag)
  (fun s=>(.ext 0,⟨eU tag b l l.length (.bool false),oU aq s⟩))
  (fun k v s hk hy _=>by
   refine⟨?_,trivial⟩;have yB:((k:Int)<(l.length:Int)):=by omega
   have hW:=wY v s;unfold ip;by_cases h0:v.k=0
   ·rw[if_pos h0];obtain⟨vk,vn,vu,vs⟩:=v;simp only at h0;subst h0;simp only[aE.a,aq];simp[dD,eU,oU,yB,hy,aE.a,aA hk hm,ar,ap,aZ,bQ]
   rw[if_neg h0];generalize dP v s=q at *;simp only[aE.a,aq]at *;rcases ht with rfl|rfl
   ·by_cases s0:s.k=0
    ·rw[if_pos (.inl s0)];rw[s0]at hW;simp[dD,eU,oU,yB,hy,al h0,aE.a,hW,s0,aA hk hm,ar,ap,aZ,bQ]
    by_cases hq:q<0
    ·rw[if_pos (.inr (by simpa using hq))];simp[dD,eU,oU,yB,hy,al h0,aE.a,hW,al s0,hq,aA hk hm,ar,ap,aZ,bQ]
    rw[if_neg (by rintro (h|h);exact s0 h;exact hq (by simpa using h))];simp[dD,eU,oU,yB,hy,al h0,aE.a,hW,al s0,hq,aA hk hm,ar,ap,aZ,bQ]
   by_cases s0:s.k=0
   ·rw[if_pos (.inl s0)];rw[s0]at hW;simp[dD,eU,oU,yB,hy,al h0,aE.a,hW,s0,aA hk hm,ar,ap,aZ,bQ]
   by_cases hq:0<q
   ·rw[if_pos (.inr (by simpa using hq))];simp[dD,eU,oU,yB,hy,al h0,aE.a,hW,al s0,hq,aA hk hm,ar,ap,aZ,bQ]
   rw[if_neg (by rintro (h|h);exact s0 h;exact hq (by simpa using h))];simp[dD,eU,oU,yB,hy,al h0,aE.a,hW,al s0,hq,aA hk hm,ar,ap,aZ,bQ])
  (fun s _=>by simp[dD,eU,oU]) aq trivial
 exact h.1
theorem Zu(b:Bool)(l:aJ)(hn:l.length≤8000)(hv:∀v∈l,v.k=0∨jd v) :
  (∃s,aV ue l 0 aq=.inl s∧jd s∧aM code 3 [3,6,7,8,14,15,16,17,18,19,20,21,22] dD ⟨eU 3 b l 0 .any,oU aq aq⟩=some (.ext 0,⟨eU 3 b l l.length (.bool false),oU s aq⟩)) ∨
  (aV ue l 0 aq=.inr ()∧∃t,aM code 3 [3,6,7,8,14,15,16,17,18,19,20,21,22] dD ⟨eU 3 b l 0 .any,oU aq aq⟩=some (.ret,t)∧bF .pure [.cell true 4 2,.env 3] (some (.ret,t))=some (.tup [aq.a,ac 140])):=by
 have hm:l.length≤most:=by unfold most;omega
 have h:=cD (base:=3) (clr:=[3,6,7,8,14,15,16,17,18,19,20,21,22]) (b:=dD) l
  (fun k (s:aE)=>⟨eU 3 b l k .any,oU s aq⟩) (fun _ s=>jd s) ue
  (fun s=>(.ext 0,⟨eU 3 b l l.length (.bool false),oU s aq⟩))
  (fun (_:Unit) o=>∃t,o=(.ret,t)∧bF .pure [.cell true 4 2,.env 3] (some (.ret,t))=some (.tup [aq.a,ac 140]))
  (fun k v s hk hy hi=>by
   have yB:((k:Int)<(l.length:Int)):=by omega
   unfold ue;by_cases h0:v.k=0
   ·rw[if_pos h0];refine⟨?_,hi⟩;obtain⟨vk,vn,vu,vs⟩:=v;simp only at h0;subst h0;simp only[aE.a,aq];simp[dD,eU,oU,yB,hy,aE.a,aA hk hm,ar,ap,aZ,bQ]
   rw[if_neg h0];have hv:=(hv v (aeb hy)).resolve_left h0;have hJ:=ab1 s v hi.n hi.u hv.n hv.u;have hjo:=fun h=>Ig (s:=s) (t:=v) h hi hv;generalize lJ s v=p at *;obtain⟨w,no⟩:=p;simp only at *;by_cases c:no=0
   ·rw[if_pos c];refine⟨?_,hjo c⟩;subst c;simp only[aE.a,aq]at *;simp[dD,eU,oU,yB,hy,al h0,aE.a,hJ,aA hk hm,ar,ap,aZ,bQ]
   rw[if_neg c];simp only[aE.a,aq]at *;exact⟨_,by simp[dD,eU,oU,yB,hy,al h0,aE.a,hJ,aR c];rfl,_,rfl,by simp⟩)
  (fun s _=>by simp[dD,eU,oU]) aq jd.zero
 cases hf:aV ue l 0 aq with
 |inl s=>
  rw[hf]at h;exact .inl ⟨s,rfl,h.1,h.2⟩
 |inr u=>
  rw[hf]at h;obtain⟨o,h1,t,rfl,h2⟩:=h;exact .inr ⟨rfl,t,h1,h2⟩
theorem afD(tag:Int)(b:Bool)(l:aJ)(hn:l.length≤8000)(h1:1≤tag)(h5:tag≤5)(hs:tag=3→∀v∈l,v.k=0∨jd v)(hc:tag=1∨tag=2→∀v∈l,v.k=0∨(kM v=0∧rg v.n)) :
  az I.qcz [ac tag,.wh b (l.map aE.a)]=some (.tup [(vb tag l).1.a,ac (vb tag l).2]):=by
 rw[am amD rfl];unfold vb;by_cases t3:tag=3
 ·subst t3;rw[if_pos rfl];unfold Zp;rcases Zu b l hn (hs rfl) with⟨s,hf,hso,h⟩|⟨hf,t,h,h2⟩
  ·rw[hf];have hE:=KZ s hso.n hso.u;simp only at hE ⊢;generalize vK s=R at *;simp only[eU,oU,aE.a,aq]at *
   try simp at h
   by_cases c:R.2=0
   ·rw[c]at hE ⊢;by_cases c0:R.1.k=0
    ·rw[c0]at hE ⊢;simp[ax3,so,h,hE,aE.a,aq]
    simp[ax3,so,h,hE,al c0,aE.a,aq]
   simp[ax3,so,h,hE,al c,aE.a,aq]
  rw[hf];simp only[eU,oU,aE.a,aq]at h h2 ⊢
  try simp at h
  simp[ax3,so,h,aE.a,aq,-bP];exact h2
 rw[if_neg t3];by_cases t12:tag=1∨tag=2
 ·rw[if_pos t12];obtain⟨h,hsz⟩:=agU tag b l hn t12 (hc t12);obtain⟨g1,g2⟩:=ahl hsz;have hE:=KZ (fQ (l.foldl gf none)) g1 g2;rw[VH]at hE;unfold agy;generalize l.foldl gf none=s at *;have hk:(kL s).2=0∧(kL s).1.k=0↔s=none:=by
   cases s with
   |none=>simp[kL,aq]
   |some x=>
    simp only[kL];split<;>simp[bL]
  cases s with
  |none=>
   simp only[kL,avi]at hE ⊢;have hst0:fQ none=aq:=rfl;rw[hst0]at h hE;simp only[eU,oU,aE.a,aq]at h hE ⊢
   try simp at h
   rcases t12 with rfl|rfl
   ·simp[ax3,so,h,hE,aE.a,aq,bL,EL]
   simp[ax3,so,h,hE,aE.a,aq,bL,EL]
  |some x=>
   simp only[ary];have hk:=fun h1 h2=>Option.some_ne_none x (hk.1 ⟨h1,h2⟩);generalize kL (some x)=R at *;generalize fQ (some x)=S at *;simp only[eU,oU,aE.a,aq]at h hE ⊢
   try simp at h
   rcases t12 with rfl|rfl
   ·by_cases c:R.2=0
    ·have c0:¬R.1.k=0:=fun h=>hk c h;rw[c]at hE ⊢;simp[ax3,so,h,hE,al c0,aE.a,aq]
    simp[ax3,so,h,hE,al c,aE.a,aq]
   by_cases c:R.2=0
   ·have c0:¬R.1.k=0:=fun h=>hk c h;rw[c]at hE ⊢;simp[ax3,so,h,hE,al c0,aE.a,aq]
   simp[ax3,so,h,hE,al c,aE.a,aq]
 rw[if_neg t12];have t45:tag=4∨tag=5:=by omega
 have h:=abY tag b l hn t45;generalize l.foldl (ip tag) aq=w at *;simp only[eU,oU,aE.a,aq]at h ⊢
 try simp at h
 rcases t45 with rfl|rfl
 ·simp[ax3,so,h,aE.a,aq]
 simp[ax3,so,h,aE.a,aq]
abbrev ug(j:Nat)(rs:av):aJ:=rs.map fun r=>r.getD j aq
structure UW (tag:Int) (l:aJ):Prop where
 t1:1≤tag
 t5:tag≤5
 sum:tag=3→∀v∈l,v.k=0∨jd v
 num:tag=1∨tag=2→∀v∈l,v.k=0∨(kM v=0∧rg v.n)
theorem Ke{α σ:Type}(f:Nat→α→σ→σ):∀(l:List α) (k:Nat) (s:σ),aV (ρ:=Empty) (fun k a s=>.inl (f k a s)) l k s=.inl ((l.zipIdx k).foldl (fun s p=>f p.2 p.1 s) s)
 |[],_,_=>rfl
 |a::l,k,s=>by
  simp only[aV,avh,ahw];exact Ke f l (k+1) (f k a s)
abbrev IU(b:Bool)(rs:av)(n:aO)(G:List (aJ×av))(m k:Nat)(e:Int)(e8 e9 e10 e11 e12 e13 e14 e15 e20 e21 e22 e23 e24 e25 e26 e27 e28 e29:aa):List aa:=
 [n.a,.wh b (rs.map aG),.ptr 0 0 0 0,.yz,ac 0,.wh false (G.map cC),.sl 1 m 0 m,ac e,e8,e9,e10,e11,e12,e13,e14,e15,.bool false,.wh false (G.map cC),ac G.length,ac k,e20,e21,e22,e23,e24,e25,e26,e27,e28,e29,.any]
theorem Pe(b:Bool)(rs:av)(n:aO)(G:List (aJ×av))(m k:Nat)(e:Int)(g:aJ×av)(O:av)(a:aT)(i ep:Nat)(V:aJ)(hg:g.2.length≤8000)(hi:n.keys.length+i≤100)(hr:∀r∈g.2,n.keys.length+i<r.length) :
  aM code 6 [13,28] AQ ⟨IU b rs n G m k e (.ptr 2 0 0 0) (.sl 3 ep 0 V.length) (ac i) (.ptr 4 0 0 0) (.sl 5 0 0 0) .any .any .any (.bool true) (.wh n.bg (n.yo.map aT.a)) (ac n.yo.length) (ac i) (.bool true) (.wh false (g.2.map aG)) (ac g.2.length) (ac 0) .any .any,[.arr 12 0 [n.a],.arr 1 m (O.map aG),.arr 2 0 [cC g],.arr 4 ep (V.map aE.a),.arr 2 0 [a.a],.arr 4 0 []]⟩ =
   some (.ext 4,⟨IU b rs n G m k e (.ptr 2 0 0 0) (.sl 3 ep 0 V.length) (ac i) (.ptr 4 0 0 0) (.sl 5 g.2.length 0 g.2.length) .any .any .any (.bool true) (.wh n.bg (n.yo.map aT.a)) (ac n.yo.length) (ac i) (.bool true) (.wh false (g.2.map aG)) (ac g.2.length) (ac g.2.length) (.bool false) .any,[.arr 12 0 [n.a],.arr 1 m (O.map aG),.arr 2 0 [cC g],.arr 4 ep (V.map aE.a),.arr 2 0 [a.a],.arr 4 g.2.length ((ug (n.keys.length+i) g.2).map aE.a)]⟩):=by
 have hm:g.2.length≤most:=by unfold most;omega
 have hkey:(cellsOf n.a)[7]?=some (.wh n.by' (gB n.keys)):=rfl;have hnc:aw n.a=12∧isAgg n.a=true:=⟨rfl,rfl⟩;have hnz:∀base σ m,fz false true base σ (m+3) n.a=n.a:=fun base σ m=>Ft.ft false true base σ m n rfl;have hw:IntKind.i64.wrap ((n.keys.length:Int)+(i:Int))=((n.keys.length+i:Nat):Int):=by rw[bl (by omega)];omega
 have hga:cC g=.agg [.wh false (g.1.map aE.a),.wh false (g.2.map aG)]:=rfl;have hav:a.a=.agg [ac a.tag,.wh a.b (a.arg.map EN.a)]:=rfl;have hl:=bB (base:=6) (clr:=[13,28]) (b:=AQ) g.2
  (fun j (s:aJ)=>⟨IU b rs n G m k e (.ptr 2 0 0 0) (.sl 3 ep 0 V.length) (ac i) (.ptr 4 0 0 0) (.sl 5 j 0 s.length) .any .any .any (.bool true) (.wh n.bg (n.yo.map aT.a)) (ac n.yo.length) (ac i) (.bool true) (.wh false (g.2.map aG)) (ac g.2.length) (ac j) .any .any,[.arr 12 0 [n.a],.arr 1 m (O.map aG),.arr 2 0 [cC g],.arr 4 ep (V.map aE.a),.arr 2 0 [a.a],.arr 4 j (s.map aE.a)]⟩)
  (fun j s=>s.length=j) (fun s r=>s++[r.getD (n.keys.length+i) aq])
  (fun s=>(.ext 4,⟨IU b rs n G m k e (.ptr 2 0 0 0) (.sl 3 ep 0 V.length) (ac i) (.ptr 4 0 0 0) (.sl 5 g.2.length 0 s.length) .any .any .any (.bool true) (.wh n.bg (n.yo.map aT.a)) (ac n.yo.length) (ac i) (.bool true) (.wh false (g.2.map aG)) (ac g.2.length) (ac g.2.length) (.bool false) .any,[.arr 12 0 [n.a],.arr 1 m (O.map aG),.arr 2 0 [cC g],.arr 4 ep (V.map aE.a),.arr 2 0 [a.a],.arr 4 g.2.length (s.map aE.a)]⟩))
  (fun j r s hj hy hs=>by
   have yB:((j:Int)<(g.2.length:Int)):=by omega
   have hl:=hr r (aeb hy);have hg':r[n.keys.length+i]?=some r[n.keys.length+i]:=ad3 hl;have hd:r.getD (n.keys.length+i) aq=r[n.keys.length+i]:=by rw[ad4,hg'];rfl
   rw[hd];generalize r[n.keys.length+i]=w at *;have h0:(0:Int)≤(n.keys.length:Int)+(i:Int):=by omega
   have ht:((n.keys.length:Int)+(i:Int)).toNat=n.keys.length+i:=by omega
   have hjm:j+1≤most:=by omega
   subst hs;refine⟨?_,by simp⟩;have hrx:aG r=.wh false (r.map aE.a):=rfl;simp[AQ,IU,yB,hy,hrx,hkey,hnc,hnz,hga,hav,hw,hg',h0,ht,append,hjm,aA hj hm,ar,ap,aZ,bQ])
  (fun s _=>by simp[AQ,IU]) [] rfl
 have hf:∀(l:av) (s:aJ),l.foldl (fun s r=>s++[r.getD (n.keys.length+i) aq]) s=s++ug (n.keys.length+i) l:=by
  intro l;induction l with
  |nil=>intro s;simp
  |cons a l ih=>intro s;rw[ahw,ih];simp
 rw[hf]at hl;have hl:=hl.1;rw[ah5]at hl;have hlen:(ug (n.keys.length+i) g.2).length=g.2.length:=ajk ..;rw[hlen]at hl;exact hl
def aa6(nk:Nat)(rows:av)(k:Nat)(a:aT)(s:aJ×Int):aJ×Int:=(s.1++[(vb a.tag (ug (nk+k) rows)).1],if (vb a.tag (ug (nk+k) rows)).2≠0 then (vb a.tag (ug (nk+k) rows)).2 else s.2)
def xP(n:aO)(g:aJ×av)(e:Int):aJ×Int:=(n.yo.zipIdx 0).foldl (fun s p=>aa6 n.keys.length g.2 p.2 p.1 s) (g.1,e)
theorem LQ(b:Bool)(rs:av)(n:aO)(G:List (aJ×av))(m k:Nat)(e:Int)(g:aJ×av)(O:av)(ep:Nat)(hn:n.yo.length≤50)(hk:g.1.length≤8000)(hg:g.2.length≤8000)(hkk:n.keys.length≤50)
  (hr:∀r∈g.2,n.keys.length+n.yo.length≤r.length) (hp:∀(i:Nat) a,n.yo[i]?=some a→UW a.tag (ug (n.keys.length+i) g.2)) :
  aM code 4 [10,11,12,13,14,15,24,25,26,27,28,29] xe ⟨IU b rs n G m k e (.ptr 2 0 0 0) (.sl 3 ep 0 g.1.length) .any .any .any .any .any .any (.bool true) (.wh n.bg (n.yo.map aT.a)) (ac n.yo.length) (ac 0) .any .any .any .any .any .any,[.arr 12 0 [n.a],.arr 1 m (O.map aG),.arr 2 0 [cC g],.arr 4 ep (g.1.map aE.a)]⟩ =
   some (.ext 2,⟨IU b rs n G m k (xP n g e).2 (.ptr 2 0 0 0) (.sl 3 (ep+n.yo.length) 0 (xP n g e).1.length) .any .any .any .any .any .any (.bool true) (.wh n.bg (n.yo.map aT.a)) (ac n.yo.length) (ac n.yo.length) (.bool false) .any .any .any .any .any,[.arr 12 0 [n.a],.arr 1 m (O.map aG),.arr 2 0 [cC g],.arr 4 (ep+n.yo.length) ((xP n g e).1.map aE.a)]⟩)∧(xP n g e).1.length=g.1.length+n.yo.length:=by
 have hm:n.yo.length≤most:=by unfold most;omega
 have hkey:(cellsOf n.a)[7]?=some (.wh n.by' (gB n.keys)):=rfl;have hnc:aw n.a=12∧isAgg n.a=true:=⟨rfl,rfl⟩;have hnz:∀base σ m,fz false true base σ (m+3) n.a=n.a:=fun base σ m=>Ft.ft false true base σ m n rfl;have hga:cC g=.agg [.wh false (g.1.map aE.a),.wh false (g.2.map aG)]:=rfl;have hl:=cD (ρ:=Empty) (base:=4) (clr:=[10,11,12,13,14,15,24,25,26,27,28,29]) (b:=xe) n.yo
  (fun j (s:aJ×Int)=>⟨IU b rs n G m k s.2 (.ptr 2 0 0 0) (.sl 3 (ep+j) 0 s.1.length) .any .any .any .any .any .any (.bool true) (.wh n.bg (n.yo.map aT.a)) (ac n.yo.length) (ac j) .any .any .any .any .any .any,[.arr 12 0 [n.a],.arr 1 m (O.map aG),.arr 2 0 [cC g],.arr 4 (ep+j) (s.1.map aE.a)]⟩)
  (fun j s=>s.1.length=g.1.length+j) (fun j a s=>.inl (aa6 n.keys.length g.2 j a s))
  (fun s=>(.ext 2,⟨IU b rs n G m k s.2 (.ptr 2 0 0 0) (.sl 3 (ep+n.yo.length) 0 s.1.length) .any .any .any .any .any .any (.bool true) (.wh n.bg (n.yo.map aT.a)) (ac n.yo.length) (ac n.yo.length) (.bool false) .any .any .any .any .any,[.arr 12 0 [n.a],.arr 1 m (O.map aG),.arr 2 0 [cC g],.arr 4 (ep+n.yo.length) (s.1.map aE.a)]⟩))
  (fun r _=>r.elim)
  (fun j a s hj hy hs=>by
   have yB:((j:Int)<(n.yo.length:Int)):=by omega
   have hC:=Pe b rs n G m k s.2 g O a j (ep+j) s.1 hg (by omega) (fun r hr'=>by have:=hr r hr';omega);have hpo:=hp j a hy;have hP:=fun b=>afD a.tag b (ug (n.keys.length+j) g.2) (by simp;omega) hpo.t1 hpo.t5 hpo.sum hpo.num;have hl1:s.1.length+1≤most:=by unfold most;omega
   unfold aa6;refine⟨?_,by simp;omega⟩;have hcl:(ug (n.keys.length+j) g.2).length=g.2.length:=ajk ..;generalize vb a.tag (ug (n.keys.length+j) g.2)=p at *;generalize ug (n.keys.length+j) g.2=C at *;have htk:(C.map aE.a).take g.2.length=C.map aE.a:=aea (by simp[hcl]);obtain⟨v,no⟩:=p;obtain⟨vals,e⟩:=s;simp only at *;have hav:a.a=.agg [ac a.tag,.wh a.b (a.arg.map EN.a)]:=rfl;simp only[IU,hav,hga,aE.a]at hC hP
   try simp at hC
   by_cases c1:no=0
   ·subst c1;simp[xe,IU,yB,hy,hav,hga,hnz,hC,hP,htk,hcl,append,hl1,aA hj hm,ar,ap,aZ,bQ,aE.a,arJ]
   simp[xe,IU,yB,hy,hav,hga,hnz,hC,hP,htk,hcl,aR c1,c1,append,hl1,aA hj hm,ar,ap,aZ,bQ,aE.a,arJ])
  (fun s _=>by simp[xe,IU]) (g.1,e) (by simp)
 rw[Ke]at hl;exact⟨hl.2,hl.1⟩
def GS(n:aO)(s:av×Int)(g:aJ×av):av×Int:=(s.1++[(xP n g s.2).1],(xP n g s.2).2)
noncomputable def tQ(n:aO)(rs:av):av×Int:=
 if ((bC n.keys rs).foldl (GS n) ([],0)).2≠0 then ([],((bC n.keys rs).foldl (GS n) ([],0)).2) else (df cf ((bC n.keys rs).foldl (GS n) ([],0)).1,0)
theorem Y7(n:aO)(g:aJ×av)(e:Int):(xP n g e).1.length=g.1.length+n.yo.length:=by
 have key:∀(l:List (aT×Nat)) (s:aJ×Int),(l.foldl (fun s p=>aa6 n.keys.length g.2 p.2 p.1 s) s).1.length=s.1.length+l.length:=by
  intro l;induction l with
  |nil=>intro s;rfl
  |cons a l ih=>intro s;rw[ahw,ih];simp[aa6];omega
 unfold xP;rw[key,List.length_zipIdx]
theorem YU(n:aO)(b:Bool)(rs:av)(hn:rs.length≤8000)(hm:∀r∈rs,r.length≤most)(hc:n.keys.length≤16)(hh:∀r∈rs,∀c∈n.keys,0≤c∧c<r.length)(hna:n.yo.length≤50)
  (hs:∀g∈bC n.keys rs,g.2.length≤8000∧g.1.length≤16∧(∀r∈g.2,n.keys.length+n.yo.length≤r.length)∧∀(i:Nat) a,n.yo[i]?=some a→UW a.tag (ug (n.keys.length+i) g.2)) (hG:(bC n.keys rs).length≤8000) (hG0:bC n.keys rs≠[]) :
  az I.qcv [n.a,.wh b (rs.map aG)]=some (.tup [.wh false ((tQ n rs).1.map aG),ac (tQ n rs).2]):=by
 rw[am ao4 rfl];have hGr:=fun b bc=>Gx b bc rs n.keys hn hm hc hh;unfold tQ;generalize bC n.keys rs=G at *;have hGm:G.length≤most:=by unfold most;omega
 have hGl:0<G.length:=auU.2 hG0;have hGl0:((G.length:Int)==0)=false:=by rw[atv];omega
 have hkey:(cellsOf n.a)[7]?=some (.wh n.by' (gB n.keys)):=rfl;have hag:(cellsOf n.a)[8]?=some (.wh n.bg (n.yo.map aT.a)):=rfl;have hnc:aw n.a=12∧isAgg n.a=true:=⟨rfl,rfl⟩;have hnz:∀fl base σ m,fz fl true base σ (m+3) n.a=n.a:=fun fl base σ m=>Ft.ft fl true base σ m n (by simp);have hnt:∀base σ m,fz true false base σ (m+3) n.a=n.a:=fun base σ m=>Ft.ft true false base σ m n rfl;have hl:=bB (base:=2) (clr:=[8,9,10,11,12,13,14,15,20,21,22,23,24,25,26,27,28,29]) (b:=Bo) G
  (fun k (s:av×Int)=>⟨IU b rs n G k k s.2 .any .any .any .any .any .any .any .any .any .any .any .any .any .any .any .any .any .any,[.arr 12 0 [n.a],.arr 1 k (s.1.map aG)]⟩)
  (fun k s=>s.1.length=k) (GS n)
  (fun s=>(.ext 0,⟨IU b rs n G G.length G.length s.2 .any .any .any .any .any .any .any .any (.bool false) .any .any .any .any .any .any .any .any .any,[.arr 12 0 [n.a],.arr 1 G.length (s.1.map aG)]⟩))
  (fun k g s hk hy hsl=>by
   have yB:((k:Int)<(G.length:Int)):=by omega
   obtain⟨h1,h3,h4,h5⟩:=hs g (aeb hy);have hkm:k+1≤most:=by omega
   obtain⟨hI,hlen⟩:=LQ b rs n G k k s.2 g s.1 (if g.1=[] then 0 else 1) hna (by omega) h1 (by omega) h4 h5;unfold GS;refine⟨?_,by simp[hsl]⟩;generalize xP n g s.2=p at *;obtain⟨vals,e'⟩:=p;obtain⟨O,e⟩:=s;obtain⟨key,rows⟩:=g;simp only at *;subst hsl;have htk:(vals.map aE.a).take vals.length=vals.map aE.a:=aea (by simp);have hga:cC (key,rows)=.agg [.wh false (key.map aE.a),.wh false (rows.map aG)]:=rfl;simp only[hga]at hI;cases key with
   |nil=>
    simp only[IU,ajo,ak3,aml]at hI
    try simp at hI
    simp[Bo,IU,yB,hy,hga,hag,hI,append,hkm,aA hk hGm,ar,ap,aZ,bQ,hnz,htk,aG]
   |cons v key=>
    have hk1:key.length+1≤most:=by simp at h3;unfold most;omega
    have hne:¬(v::key=[]):=by simp
    rw[if_neg hne]at hI;simp only[IU,af6,aiG]at hI
    try simp at hI
    simp[Bo,IU,yB,hy,hga,hag,hI,append,hkm,hk1,aA hk hGm,ar,ap,aZ,bQ,hnz,htk,aG])
  (fun s _=>by simp[Bo,IU]) ([],0) rfl
 obtain⟨h1,h2⟩:=hl;have hO:∀r∈(G.foldl (GS n) ([],0)).1,r.length≤most:=by
  have key:∀(l:List (aJ×av)) (s:av×Int),(∀g∈l,g.1.length≤16)→(∀r∈s.1,r.length≤most)→∀r∈(l.foldl (GS n) s).1,r.length≤most:=by
   intro l;induction l with
   |nil=>intro s _ h;exact h
   |cons g l ih=>
    intro s hg h;rw[ahw];refine ih _ (fun q hq=>hg q (aer _ hq)) fun r hr=>?_;unfold GS at hr;rcases aoS.1 hr with hr|hr
    ·exact h r hr
    rw[arq.1 hr,Y7];have:=hg g (by simp);unfold most;omega
  exact key G ([],0) (fun g hg=>(hs g hg).2.1) (by simp)
 generalize G.foldl (GS n) ([],0)=R at *;obtain⟨O,e⟩:=R;simp only at *;have hS:=fun b=>ph b O (by omega) hO;rw[←h2]at h1;simp only[IU]at h1
 try simp at h1
 have hG1:¬G=[]:=hG0;by_cases c:e=0
 ·subst c;rw[if_neg (by simp)];simp[azW,adq,hkey,hnc,hnt,hGr,hGl0,hG1,h1,hS]
 rw[if_pos c];simp[azW,adq,hkey,hnc,hnt,hGr,hGl0,hG1,h1,aR c]
theorem JM{β:Type}{z:β}{cd:EN→List β→β×Int}{e:List EN}(ho:si e=true)(h0:(jg z cd e).2=0) :
  ∃n,e.getLast?=some n∧∃l,l.length=(aI n.tag).toNat∧(cd n l).2=0∧(jg z cd e).1=(cd n l).1:=by
 unfold jg at h0 ⊢;cases hf:aV (fI cd) e 0 [] with
 |inr no=>
  rw[hf]at h0;simp only at h0;have key:∀(m:List EN) (k:Nat) (st:List β),aV (fI cd) m k st=.inr no→no≠0:=by
   intro m;induction m with
   |nil=>intro k st h;cases h
   |cons x m ih=>
    intro k st h;simp only[aV]at h;cases hg:fI cd k x st with
    |inl st'=>rw[hg]at h;exact ih _ _ h
    |inr p=>
     rw[hg]at h;cases h;unfold fI at hg;split at hg
     ·cases hg
     rename_i hne;cases hg;exact hne
  exact absurd h0 (key _ _ _ hf)
 |inl st=>
  have:=Cy (l:=e) (fun k st=>(∃a o,cG (e.take k) 0 [] []=some (a,o)∧st.length=o.length)∧(k=0∨∃n,e[k-1]?=some n∧∃l,l.length=(aI n.tag).toNat∧(cd n l).2=0∧st.getLast?=some (cd n l).1)) (fun k n st st' hy hi hg=>by
   obtain⟨⟨a,o,hf,hlo⟩,_⟩:=hi;obtain⟨a',o',hf',hs,h1,h2,h3,h4⟩:=jX ho hy hf;have hd:(st.drop (st.length-(aI n.tag).toNat)).length=(aI n.tag).toNat:=by rw[atj];omega
   have htl:(st.take (st.length-(aI n.tag).toNat)).length=st.length-(aI n.tag).toNat:=by rw[al4];omega
   unfold fI at hg;split at hg
   ·rename_i h0;cases hg;exact⟨⟨a',o',hf',by simp[htl,h4,hlo]⟩,.inr ⟨n,by simpa using hy,_,hd,h0,by simp⟩⟩
   cases hg) ⟨⟨[],[],by simp[cG],rfl⟩,.inl rfl⟩ hf
  obtain⟨⟨a,o,h1,h2⟩,h3⟩:=this;rw[atd]at h1;rw[xg ho h1]at h2;obtain⟨x,rfl⟩:=avN.1 h2
  ·rcases h3 with h3|⟨n,h3,l,h4,h5,h6⟩
   ·have:e=[]:=ahc h3;subst this;exact absurd ho (by decide)
   refine⟨n,by rw[avx];exact h3,l,h4,h5,?_⟩;simpa using h6
theorem Zn{to:Int→Int→Int×Bool}{a b:aE}:(cd to a b).1.k=0∨(cd to a b).1.k=2:=by
 unfold cd;repeat' split
 all_goals simp[aq,bL]
theorem Wz(n:Int):(ku n).k=0∨(ku n).k=1:=by
 unfold ku;repeat' split
 all_goals simp[aq,bG]
theorem aiq(a:aE):(kP a).1.k=0∨(kP a).1.k=1:=by
 unfold kP;repeat' split
 all_goals first|exact .inl rfl|exact Wz _
theorem aa4(is:Int→Bool)(a b:aE):(mR is a b).1.k=0∨(mR is a b).1.k=1:=by
 unfold mR;repeat' split
 all_goals simp[aq,bG]
theorem agM(to:Int→Int→Int)(a b:aE):(eS to a b).1.k=0∨(eS to a b).1.k=1:=by
 unfold eS;repeat' split
 all_goals first|exact .inl rfl|exact Wz _
theorem akf{p:aE×Int}(h:p.1.k=0∨p.1.k=1):(wq p).1.k=0∨(wq p).1.k=1:=by
 unfold wq;split
 ·exact aiq _
 exact h
theorem aqo{t:Int}{a b:aE}(h1:t≠1)(h2:t≠2):(im t a b).1.k=0∨(im t a b).1.k=if rF t then 2 else 1:=by
 unfold im rF;by_cases t4:t=4
 ·subst t4;exact Zn
 rw[if_neg t4];by_cases t5:t=5
 ·subst t5;exact aiq _
 rw[if_neg t5];by_cases t6:t=6
 ·subst t6;simp[bG]
 rw[if_neg t6];by_cases t7:t=7
 ·subst t7;simp[bG]
 rw[if_neg t7];by_cases c12:t=12
 ·subst c12;exact Zn
 rw[if_neg c12];by_cases c13:t=13
 ·subst c13;exact Zn
 rw[if_neg c13];by_cases c14:t=14
 ·subst c14;exact Zn
 rw[if_neg c14];by_cases c15:t=15
 ·subst c15;exact Zn
 rw[if_neg c15];have e:(if (t==4 ||decide (12≤t)&&decide (t≤15))=true then (2:Int) else 1)=1:=by
  rw[if_neg];simp;omega
 rw[e]
 repeat' split
 all_goals first|exact aa4 _ _ _|exact akf (aa4 _ _ _)|exact agM _ _ _
theorem Rr{e:List EN}{K:List Int}{r:aJ}(hl:r.length=K.length)(hK:∀(i:Nat) (v:aE) (k:Int),r[i]?=some v→K[i]?=some k→v.k=0∨v.k=k)(hk:(dm e K).2=0)(hv:(aY e r).2=0):(aY e r).1.k=0∨(aY e r).1.k=(dm e K).1:=by
 unfold dm at *;unfold aY at *;cases ho:si e with
 |false=>rw[ho]at hk;simp at hk
 |true=>
  rw[ho]at hk hv;simp only[asf,ali]at hk hv ⊢;split at hk
  ·cases hk
  rename_i n1;rw[if_neg n1];split at hk
  ·cases hk
  rename_i n2;rw[if_neg n2];split at hv
  ·cases hv
  rename_i n3;rw[if_neg n3];obtain⟨n,g1,l,g2,g3,g4⟩:=JM ho hk;obtain⟨m,f1,x,f2,f3,f4⟩:=JM ho hv;have:m=n:=by rw[g1]at f1;exact (as7 f1).symm
  subst this;rw[g4,f4];have hm:m∈e:=List.mem_of_getLast? g1;by_cases t1:m.tag=1
  ·right;simp[t1,fa,gq]
  by_cases t2:m.tag=2
  ·have e3:(fa r m x).1=r.getD m.col.toNat aq:=by simp[fa,t1,t2]
   have e4:(gq K m l).1=K.getD m.col.toNat 0:=by simp[gq,t1,t2]
   rw[e3,e4];have hc:=arG.1 (atN.2 n3) _ (oR hm t2);simp only[arX,ad7,as9,not_or,avK]at hc;by_cases hc0:m.col.toNat < r.length
   ·have e1:r[m.col.toNat]?=some r[m.col.toNat]:=ad3 hc0;have hc1:m.col.toNat < K.length:=by omega
    have e2:K[m.col.toNat]?=some K[m.col.toNat]:=ad3 hc1;have:=hK _ _ _ e1 e2;rw[ad4,e1,ad4,e2];exact this
   left;rw[ad4,aud (by omega)];rfl
  have e5:(fa r m x).1=(im m.tag (x.getD 0 aq) (x.getD (x.length-1) aq)).1:=by simp[fa,t1,t2]
  rw[e5];have hk:=aqo (a:=x.getD 0 aq) (b:=x.getD (x.length-1) aq) t1 t2;generalize (im m.tag (x.getD 0 aq) (x.getD (x.length-1) aq)).1=w at *;have e:(gq K m l).2=0→(gq K m l).1=if rF m.tag then 2 else 1:=by
   unfold gq;rw[if_neg t1,if_neg t2];simp only;by_cases hc:(l.foldl I1 0=-1∨l.foldl I1 0≠0∧l.foldl I1 0≠if rF m.tag=true then 2 else if m.tag=5∨m.tag=22∨m.tag=23 then 1 else l.foldl I1 0)
   ·rw[if_pos hc];intro h;cases h
   rw[if_neg hc];intro _;rfl
  rw[←e g3]at hk;exact hk
theorem MD(j:Nat):∀rs:av,oY j rs=(rs.map fun r=>r.getD j aq).filter fun v=>v.k != 0
 |[]=>rfl
 |r::rs=>by
  have ih:=MD j rs;unfold oY at *;rw[atE,ih,af6,aui];by_cases h:(r.getD j aq).k=0
  ·rw[if_pos h,if_neg (by rw[h];decide)];rfl
  rw[if_neg h,if_pos (by rw[atU];exact h)];rfl
def Mn(tag:Int)(e:List EN)(r:aJ):Prop:=tag=1∨(aY e r).2=0∧(tag=3→kM (aY e r).1=0)
noncomputable def VZ(e:List EN)(rs:av):aJ:=rs.flatMap (mq e)
structure aj8 (tag:Int) (e:List EN):Prop where
 tag1:1≤tag
 tag5:tag≤5
 none1:tag=1→e=[]
 ok:tag≠1→si e=true
theorem Gt(e:List EN):∀(m:av) (k:Nat) (s:Option Int),
  ((∀r∈m,Mn 3 e r)∧aV (pF e) m k s=.inl ((VZ e m).foldl gf s))∨((∃r∈m,¬Mn 3 e r)∧∃p,aV (pF e) m k s=.inr p∧p.2≠0)
 |[],k,s=>.inl ⟨by simp,rfl⟩
 |r::m,k,s=>by
  by_cases h1:(aY e r).2=0
  ·by_cases h2:kM (aY e r).1=0
   ·have hg:pF e k r s=.inl (gf s (aY e r).1):=by unfold pF;rw[if_neg (by simp[h1]),if_neg (by simp[h2])]
    have hro:Mn 3 e r:=.inr ⟨h1,fun _=>h2⟩;have hv:(mq e r).foldl gf s=gf s (aY e r).1:=by
     unfold mq;by_cases h3:(aY e r).1.k=0
     ·rw[if_neg (fun h=>h.2 h3)];unfold gf;rw[if_pos h3];rfl
     rw[if_pos ⟨h1,h3⟩];rfl
    simp only[aV,hg];rcases Gt e m (k+1) (gf s (aY e r).1) with⟨h,h'⟩|⟨⟨q,hq,hq'⟩,h'⟩
    ·refine .inl ⟨fun q hq=>?_,?_⟩
     ·rcases arm.1 hq with rfl|hq
      ·exact hro
      exact h q hq
     rw[h'];unfold VZ;rw[atE,au9,hv]
    exact .inr ⟨⟨q,aer _ hq,hq'⟩,h'⟩
   have hg:pF e k r s=.inr (aq,kM (aY e r).1):=by unfold pF;rw[if_neg (by simp[h1]),if_pos h2]
   refine .inr ⟨⟨r,by simp,fun h=>h.elim (fun h=>by cases h) fun h=>h2 (h.2 rfl)⟩,(aq,kM (aY e r).1),by simp only[aV,hg],h2⟩
  have hg:pF e k r s=.inr (fQ s,(aY e r).2):=by unfold pF;rw[if_pos h1]
  refine .inr ⟨⟨r,by simp,fun h=>h.elim (fun h=>by cases h) fun h=>h1 h.1⟩,(fQ s,(aY e r).2),by simp only[aV,hg],h1⟩
theorem aa1{tag:Int}{e:List EN}{rs:av}(ha:aj8 tag e)(hr:∀r∈rs,nW r=true):W7 tag e rs=true:=by
 unfold W7;have h1:rs.all nW=true:=afz.2 hr;rw[h1];have:=ha.tag1;have:=ha.tag5;by_cases h:tag=1
 ·have:=ha.none1 h;subst this;simp[h]
 simp[h,ha.ok h];omega
theorem bI{K:List Int}{n:aO}(h:ac3 K n):∀a∈n.yo,aj8 a.tag a.arg:=fun a ha=>by
 have:=h.ag a ha;unfold jM at this;by_cases t1:a.tag=1
 ·rw[if_pos t1]at this;simp only[afE]at this;exact⟨by omega,by omega,fun _=>ahc this,fun h=>absurd t1 h⟩
 rw[if_neg t1]at this;simp only[acz,ad7,afE]at this;refine⟨by omega,by omega,fun h=>absurd h t1,fun _=>?_⟩;have hk:=this.1.1.1;unfold dm at hk;cases ho:si a.arg with
 |true=>rfl
 |false=>rw[ho]at hk;simp at hk
theorem Yg{e:List EN}{r:aJ}(h:(aY e r).2≠0):(aY e r).1=aq:=by
 unfold aY at *;split at h
 ·rename_i h1;rw[if_pos h1]
 rename_i h1;rw[if_neg h1];split at h
 ·rename_i h2;rw[if_pos h2]
 rename_i h2;rw[if_neg h2];unfold jg at *;split at h
 ·exact absurd rfl h
 rename_i h3;rfl
theorem afK{e:List EN}{r:aJ}(hr:Sr r)(hE:xO e):rg (aY e r).1.n:=by
 by_cases h:(aY e r).2=0
 ·exact (wT hr hE h).2
 rw[Yg h];simp[aq,rg]
def MJ(s:Option Int)(v:aE):Option Int:=if kM v=0 then gf s v else none
theorem afs{k:Nat}{s:Option Int}{v:aE}(hs:-(9223372036854775808*(k:Int))≤s.getD 0∧s.getD 0≤9223372036854775808*(k:Int))(hv:rg v.n) :
  -(9223372036854775808*((k+1:Nat):Int))≤(MJ s v).getD 0∧(MJ s v).getD 0≤9223372036854775808*((k+1:Nat):Int):=by
 unfold MJ;split
 ·exact w8 hs hv
 simp only[avi];omega
theorem ae8(s:Option Int)(v:aE)(hs:Wn s)(hv:rg v.n):az I.qbc [(fQ s).a,v.a]=some (.tup [(fQ (MJ s v)).a,ac (kM v)]):=by
 have:=Nq s v hs hv;have e:(if kM v=0 then fQ (gf s v) else aq)=fQ (MJ s v):=by unfold MJ;split<;>rfl
 rw[e]at this;exact this
noncomputable def Aw(e:List EN)(s:Option Int×Int)(r:aJ):Option Int×Int:=(MJ s.1 (aY e r).1,if (aY e r).2≠0 then 140 else s.2)
noncomputable def nY(tag:Int)(e:List EN)(rs:av):aE×Int:=
 if tag=3 then (fQ (rs.foldl (Aw e) (none,0)).1,(rs.foldl (Aw e) (none,0)).2) else Eg tag e rs
theorem aad(a:aT)(b:Bool)(rs:av)(hn:rs.length≤8000)(ha:a.arg.length≤most)(hr:FT rs)(hE:xO a.arg)(h1:1≤a.tag)(h5:a.tag≤5) :
  az I.qda [a.a,.wh b (rs.map aG)]=some (.tup [(nY a.tag a.arg rs).1.a,ac (nY a.tag a.arg rs).2]):=by
 rw[am apH rfl];have hm:rs.length≤most:=by unfold most;omega
 unfold nY;by_cases t3:a.tag=3
 ·rw[if_pos t3];have h:=bB (base:=3) (clr:=[7,8,9,14,15]) (b:=AD) rs
   (fun k (s:Option Int×Int)=>⟨[a.a,.wh b (rs.map aG),.ptr 0 0 0 0,.ptr 1 0 0 0,ac 0,.ptr 2 0 0 0,ac s.2,.any,.any,.any,.bool false,.wh b (rs.map aG),ac rs.length,ac k,.any,.any],[.arr 2 0 [a.a],.arr 4 0 [aq.a],.arr 4 0 [(fQ s.1).a]]⟩)
   (fun k s=>-(9223372036854775808*(k:Int))≤s.1.getD 0∧s.1.getD 0≤9223372036854775808*(k:Int)) (Aw a.arg)
   (fun s=>(.ext 0,⟨[a.a,.wh b (rs.map aG),.ptr 0 0 0 0,.ptr 1 0 0 0,ac 0,.ptr 2 0 0 0,ac s.2,.any,.any,.any,.bool false,.wh b (rs.map aG),ac rs.length,ac rs.length,.bool false,.any],[.arr 2 0 [a.a],.arr 4 0 [aq.a],.arr 4 0 [(fQ s.1).a]]⟩))
   (fun k r s hk hy hs=>by
    have yB:((k:Int)<(rs.length:Int)):=by omega
    have hrr:=hr r (aeb hy);have hg:=afK hrr hE;have hV:=fun b=>lh b a.arg false r ha hrr hE;have hS:=ae8 s.1 (aY a.arg r).1 (tn (by omega) hs) hg;refine⟨?_,afs hs hg⟩;unfold Aw;have hrx:aG r=.wh false (r.map aE.a):=rfl;generalize aY a.arg r=p at *;obtain⟨v,no⟩:=p;obtain⟨s,e⟩:=s;simp only at *;generalize fQ s=S at *;generalize fQ (MJ s v)=S' at *;simp only[aT.a,aE.a]at *;by_cases c1:no=0
    ·subst c1;simp[AD,yB,hy,hrx,hV,hS,aA hk hm,ar,ap,aZ,bQ,aE.a,aq]
    simp[AD,yB,hy,hrx,hV,hS,aR c1,c1,aA hk hm,ar,ap,aZ,bQ,aE.a,aq])
   (fun s _=>by simp[AD]) (none,0) (by simp)
  have h:=h.1;generalize rs.foldl (Aw a.arg) (none,0)=R at *;obtain⟨s,e⟩:=R;simp only[show fQ none=aq from rfl]at *;generalize fQ s=S at *;simp only[aT.a,aE.a,aq,t3]at *
  try simp at h
  simp[azs,ac0,h,aq,aE.a]
 rw[if_neg t3];have h:=fun b=>IY a b rs hn ha hr hE h1 h5;generalize Eg a.tag a.arg rs=R at *;obtain⟨v,e⟩:=R;simp only[aT.a,aE.a]at *;simp[azs,ac0,h,aR t3,aq,aE.a]
theorem Mx(e:List EN):∀(rs:av) (s:Option Int×Int),(rs.foldl (Aw e) s).2=if rs.any (fun r=>decide ((aY e r).2≠0)) then 140 else s.2
 |[],s=>by simp
 |r::rs,s=>by
  rw[ahw,Mx e rs];unfold Aw;by_cases h:(aY e r).2=0<;>simp[h]
theorem Vj(e:List EN):∀(rs:av) (s:Option Int×Int),(∀r∈rs,Mn 3 e r)→(rs.foldl (Aw e) s).1=(VZ e rs).foldl gf s.1
 |[],s,_=>rfl
 |r::rs,s,h=>by
  rw[ahw,Vj e rs _ fun q hq=>h q (aer _ hq)];unfold VZ;rw[atE,au9];congr 1;obtain⟨h1,h2⟩:=(h r (by simp)).resolve_left (by decide);unfold Aw MJ;simp only;rw[if_pos (h2 rfl)];unfold mq;by_cases h3:(aY e r).1.k=0
  ·rw[if_neg (fun h=>h.2 h3)];unfold gf;rw[if_pos h3];rfl
  rw[if_pos ⟨h1,h3⟩];rfl
theorem X8{tag:Int}{e:List EN}{rs:av}(ha:aj8 tag e)(hr:∀r∈rs,nW r=true)(hs:tag=3→∀r∈rs,(aY e r).2=0→kM (aY e r).1=0) :
  ((nY tag e rs).2=0↔(jD tag e rs).2=0)∧((jD tag e rs).2=0→(nY tag e rs).1=(jD tag e rs).1):=by
 unfold nY jD;by_cases t3:tag=3
 ·rw[if_pos t3,if_pos t3];have hs:=hs t3;unfold U3;rcases Gt e rs 0 none with⟨hall,h'⟩|⟨⟨r,hr',hn⟩,p,h',hp⟩
  ·rw[h'];simp only;have e1:=Mx e rs (none,0);have hany:rs.any (fun r=>decide ((aY e r).2≠0))=false:=arG.2 fun r hr'=>by
    have:=((hall r hr').resolve_left (by decide)).1;simp[this]
   rw[hany]at e1;rw[e1,Vj e rs _ hall];simp
  rw[h'];simp only;have e1:=Mx e rs (none,0);have hany:rs.any (fun r=>decide ((aY e r).2≠0))=true:=arL.2 ⟨r,hr',by
   rw[decide_eq_true_iff];intro h0;exact hn (.inr ⟨h0,fun _=>hs r hr' h0⟩)⟩
  rw[hany]at e1;rw[e1];simp[hp]
 rw[if_neg t3,if_neg t3];unfold Y1;rw[if_pos (aa1 ha hr)];simp
noncomputable def Ec(rows:av)(s:aJ×Int)(a:aT):aJ×Int:=(s.1++[(nY a.tag a.arg rows).1],if (nY a.tag a.arg rows).2≠0 then 140 else s.2)
abbrev eP(b:Bool)(rs:av)(n:aO)(G:List (aJ×av))(m k:Nat)(e:Int)(e7 e8 e9 e10 e11 e15 e16 e17 e18 e19 e20:aa):List aa:=
 [n.a,.wh b (rs.map aG),.ptr 0 0 0 0,.yz,ac 0,.sl 1 m 0 m,ac e,e7,e8,e9,e10,e11,.wh false (G.map cC),ac G.length,ac k,e15,e16,e17,e18,e19,e20,.any]
theorem Ie(b:Bool)(rs:av)(n:aO)(G:List (aJ×av))(m k:Nat)(e:Int)(g:aJ×av)(O:av)(ep:Nat)(hn:n.yo.length≤8000)(hk:g.1.length≤8000)(hg:g.2.length≤8000)
  (ha:∀a∈n.yo,a.arg.length≤most∧xO a.arg∧1≤a.tag∧a.tag≤5) (hr:FT g.2) :
  aM code 4 [9,10,11,19,20] wI ⟨eP b rs n G m k e (.ptr 2 0 0 0) (.sl 3 ep 0 g.1.length) .any .any .any (.bool true) (.wh n.bg (n.yo.map aT.a)) (ac n.yo.length) (ac 0) .any .any,[.arr 12 0 [n.a],.arr 1 m (O.map aG),.arr 2 0 [cC g],.arr 4 ep (g.1.map aE.a)]⟩ =
   some (.ext 2,⟨eP b rs n G m k (n.yo.foldl (Ec g.2) (g.1,e)).2 (.ptr 2 0 0 0) (.sl 3 (ep+n.yo.length) 0 (n.yo.foldl (Ec g.2) (g.1,e)).1.length) .any .any .any (.bool true) (.wh n.bg (n.yo.map aT.a)) (ac n.yo.length) (ac n.yo.length) (.bool false) .any,[.arr 12 0 [n.a],.arr 1 m (O.map aG),.arr 2 0 [cC g],.arr 4 (ep+n.yo.length) ((n.yo.foldl (Ec g.2) (g.1,e)).1.map aE.a)]⟩):=by
 have hm:n.yo.length≤most:=by unfold most;omega
 have hl:=bB (base:=4) (clr:=[9,10,11,19,20]) (b:=wI) n.yo
  (fun j (s:aJ×Int)=>⟨eP b rs n G m k s.2 (.ptr 2 0 0 0) (.sl 3 (ep+j) 0 s.1.length) .any .any .any (.bool true) (.wh n.bg (n.yo.map aT.a)) (ac n.yo.length) (ac j) .any .any,[.arr 12 0 [n.a],.arr 1 m (O.map aG),.arr 2 0 [cC g],.arr 4 (ep+j) (s.1.map aE.a)]⟩)
  (fun j s=>s.1.length=g.1.length+j) (Ec g.2)
  (fun s=>(.ext 2,⟨eP b rs n G m k s.2 (.ptr 2 0 0 0) (.sl 3 (ep+n.yo.length) 0 s.1.length) .any .any .any (.bool true) (.wh n.bg (n.yo.map aT.a)) (ac n.yo.length) (ac n.yo.length) (.bool false) .any,[.arr 12 0 [n.a],.arr 1 m (O.map aG),.arr 2 0 [cC g],.arr 4 (ep+n.yo.length) (s.1.map aE.a)]⟩))
  (fun j a s hj hy hs=>by
   have yB:((j:Int)<(n.yo.length:Int)):=by omega
   obtain⟨h1,h2,h3,h4⟩:=ha a (aeb hy);have hS:=fun b=>aad a b g.2 hg h1 hr h2 h3 h4;have hl1:s.1.length+1≤most:=by unfold most;omega
   have hnz:∀base σ m,fz false true base σ (m+3) n.a=n.a:=fun base σ m=>Ft.ft false true base σ m n rfl;unfold Ec;refine⟨?_,by simp;omega⟩;generalize nY a.tag a.arg g.2=p at *;obtain⟨v,no⟩:=p;obtain⟨vals,e⟩:=s;simp only at *;have hav:a.a=.agg [ac a.tag,.wh a.b (a.arg.map EN.a)]:=rfl;have hga:cC g=.agg [.wh false (g.1.map aE.a),.wh false (g.2.map aG)]:=rfl;simp only[hav,aE.a]at hS;by_cases c1:no=0
   ·subst c1;simp[wI,eP,yB,hy,hav,hga,hnz,hS,append,hl1,aA hj hm,ar,ap,aZ,bQ,aE.a,arJ]
   simp[wI,eP,yB,hy,hav,hga,hnz,hS,aR c1,c1,append,hl1,aA hj hm,ar,ap,aZ,bQ,aE.a,arJ])
  (fun s _=>by simp[wI,eP]) (g.1,e) (by simp)
 exact hl.1
noncomputable def FQ(n:aO)(s:av×Int)(g:aJ×av):av×Int:=(s.1++[(n.yo.foldl (Ec g.2) (g.1,s.2)).1],(n.yo.foldl (Ec g.2) (g.1,s.2)).2)
noncomputable def ix(n:aO)(rs:av):av×Int:=
 if ((bC n.keys rs).foldl (FQ n) ([],0)).2≠0 then ([],((bC n.keys rs).foldl (FQ n) ([],0)).2) else (df cf ((bC n.keys rs).foldl (FQ n) ([],0)).1,0)
theorem HJ(rows:av):∀(l:List aT) (s:aJ×Int),(l.foldl (Ec rows) s).1.length=s.1.length+l.length
 |[],s=>rfl
 |a::l,s=>by rw[ahw,HJ rows l];simp[Ec];omega
theorem QT(n:aO)(b:Bool)(rs:av)(hn:rs.length≤8000)(hg:FT rs)(hm:∀r∈rs,r.length≤most)(hc:n.keys.length≤16)(hh:∀r∈rs,∀c∈n.keys,0≤c∧c<r.length)(hna:n.yo.length≤100)
  (ha:∀a∈n.yo,a.arg.length≤most∧xO a.arg∧1≤a.tag∧a.tag≤5) (hs:∀g∈bC n.keys rs,g.2.length≤8000∧FT g.2∧g.1.length≤16) (hG:(bC n.keys rs).length≤8000) :
  az I.qcy [n.a,.wh b (rs.map aG)]=some (.tup [.wh false ((ix n rs).1.map aG),ac (ix n rs).2]):=by
 rw[am aoE rfl];have hGr:=fun b bc=>Gx b bc rs n.keys hn hm hc hh;unfold ix;generalize bC n.keys rs=G at *;have hGm:G.length≤most:=by unfold most;omega
 have hkey:(cellsOf n.a)[7]?=some (.wh n.by' (gB n.keys)):=rfl;have hag:(cellsOf n.a)[8]?=some (.wh n.bg (n.yo.map aT.a)):=rfl;have hnc:aw n.a=12∧isAgg n.a=true:=⟨rfl,rfl⟩;have hnz:∀fl base σ m,fz fl true base σ (m+3) n.a=n.a:=fun fl base σ m=>Ft.ft fl true base σ m n (by simp);have hnt:∀base σ m,fz true false base σ (m+3) n.a=n.a:=fun base σ m=>Ft.ft true false base σ m n rfl;have hl:=bB (base:=2) (clr:=[7,8,9,10,11,15,16,17,18,19,20]) (b:=Ba) G
  (fun k (s:av×Int)=>⟨eP b rs n G k k s.2 .any .any .any .any .any .any .any .any .any .any .any,[.arr 12 0 [n.a],.arr 1 k (s.1.map aG)]⟩)
  (fun k s=>s.1.length=k) (FQ n)
  (fun s=>(.ext 0,⟨eP b rs n G G.length G.length s.2 .any .any .any .any .any (.bool false) .any .any .any .any .any,[.arr 12 0 [n.a],.arr 1 G.length (s.1.map aG)]⟩))
  (fun k g s hk hy hsl=>by
   have yB:((k:Int)<(G.length:Int)):=by omega
   obtain⟨h1,h2,h3⟩:=hs g (aeb hy);have hkm:k+1≤most:=by omega
   have hI:=Ie b rs n G k k s.2 g s.1 (if g.1=[] then 0 else 1) (by omega) (by omega) h1 ha h2;have hlen:=HJ g.2 n.yo (g.1,s.2);unfold FQ;refine⟨?_,by simp[hsl]⟩;generalize n.yo.foldl (Ec g.2) (g.1,s.2)=p at *;obtain⟨vals,e'⟩:=p;obtain⟨O,e⟩:=s;obtain⟨key,rows⟩:=g;simp only at *;subst hsl;have htk:(vals.map aE.a).take vals.length=vals.map aE.a:=aea (by simp);have hga:cC (key,rows)=.agg [.wh false (key.map aE.a),.wh false (rows.map aG)]:=rfl;simp only[hga]at hI;cases key with
   |nil=>
    simp only[eP,ajo,ak3,aml]at hI
    try simp at hI
    simp[Ba,eP,yB,hy,hga,hag,hI,append,hkm,aA hk hGm,ar,ap,aZ,bQ,hnz,htk,aG]
   |cons v key=>
    have hk1:key.length+1≤most:=by simp at h3;unfold most;omega
    have hne:¬(v::key=[]):=by simp
    rw[if_neg hne]at hI;simp only[eP,af6,aiG]at hI
    try simp at hI
    simp[Ba,eP,yB,hy,hga,hag,hI,append,hkm,hk1,aA hk hGm,ar,ap,aZ,bQ,hnz,htk,aG])
  (fun s _=>by simp[Ba,eP]) ([],0) rfl
 have hS:=fun b O (h:O.length≤8000) hO=>ph b O h hO;obtain⟨h1,h2⟩:=hl;have hO:∀r∈(G.foldl (FQ n) ([],0)).1,r.length≤most:=by
  have key:∀(l:List (aJ×av)) (s:av×Int),(∀g∈l,g.1.length≤16)→(∀r∈s.1,r.length≤most)→∀r∈(l.foldl (FQ n) s).1,r.length≤most:=by
   intro l;induction l with
   |nil=>intro s _ h;exact h
   |cons g l ih=>
    intro s hg h;rw[ahw];refine ih _ (fun q hq=>hg q (aer _ hq)) fun r hr=>?_;unfold FQ at hr;rcases aoS.1 hr with hr|hr
    ·exact h r hr
    rw[arq.1 hr,HJ];have:=hg g (by simp);simp only;unfold most;omega
  exact key G ([],0) (fun g hg=>(hs g hg).2.2) (by simp)
 generalize G.foldl (FQ n) ([],0)=R at *;obtain⟨O,e⟩:=R;simp only at *;have hS:=fun b=>ph b O (by omega) hO;rw[←h2]at h1;simp only[eP]at h1
 try simp at h1
 by_cases c:e=0
 ·subst c;rw[if_neg (by simp)];simp[azD,aaW,hkey,hnc,hnt,hGr,h1,hS]
 rw[if_pos c];simp[azD,aaW,hkey,hnc,hnt,hGr,h1,aR c]
abbrev fJ(ym:List Int)(r:aJ):aJ:=bu r ym
theorem UO{ym:List Int}{r q:aJ}(h:jp ym r q≤0):cf (fJ ym r) (fJ ym q)≤0:=by
 unfold jp lex at h;split at h
 ·exact h
 rename_i h0;have:cf (bu r ym) (bu q ym)=0:=by
  rcases Int.decEq (cf (bu r ym) (bu q ym)) 0 with h1|h1
  ·exact absurd h1 h0
  exact h1
 show cf (bu r ym) (bu q ym)≤0;omega
theorem IF{ym:List Int}{r q:aJ}:bA ym r q=true↔fJ ym r=fJ ym q:=by simp[bA]
theorem agj{a b:aJ}(h:cf a b≤0)(hn:a≠b):cf a b<0:=by
 have:cf a b≠0:=fun h0=>hn (gM h0);omega
theorem At{ym:List Int}{a:aJ}:∀{t:av},(∀x∈t,jp ym a x≤0)→t.Pairwise (fun x y=>jp ym x y≤0)→∀z∈t.dropWhile (bA ym a),cf (fJ ym a) (fJ ym z)<0
 |[],_,_,z,hz=>by cases hz
 |b::t,h1,h2,z,hz=>by
  cases hb:bA ym a b with
  |true=>
   rw[auW,if_pos hb]at hz;exact At (fun x hx=>h1 x (aer _ hx)) (asS.1 h2).2 z hz
  |false=>
   rw[auW,if_neg (by simp[hb])]at hz;have hne:fJ ym a≠fJ ym b:=fun h=>by rw[IF.2 h]at hb;cases hb
   have hab:=agj (UO (h1 b (by simp))) hne;rcases arm.1 hz with rfl|hz
   ·exact hab
   exact dS.lt_le hab (UO ((asS.1 h2).1 z hz))
theorem yh{ym:List Int}{a:aJ}:∀{t:av},∀z∈t.takeWhile (bA ym a),fJ ym z=fJ ym a
 |[],z,hz=>by cases hz
 |b::t,z,hz=>by
  cases hb:bA ym a b with
  |true=>
   rw[atW,if_pos hb]at hz;rcases arm.1 hz with rfl|hz
   ·exact (IF.1 hb).symm
   exact yh z hz
  |false=>
   rw[atW,if_neg (by simp[hb])]at hz;cases hz
structure apI (ym:List Int) (S:av) (G:List (aJ×av)):Prop where
 up:(G.map (·.1)).Pairwise fun a b=>cf a b<0
 rows:∀g∈G,g.2=S.filter (fun r=>decide (fJ ym r=g.1))∧g.2≠[]
 all:∀r∈S,∃g∈G,g.1=fJ ym r
theorem KE(ym:List Int):∀(n:Nat) (S:av),S.length≤n→S.Pairwise (fun x y=>jp ym x y≤0)→apI ym S (gN ym n S)
 |0,S,h,_=>by
  have:S=[]:=ahc (by omega);subst this;exact⟨by simp[gN],by simp[gN],by simp⟩
 |n+1,[],_,_=>⟨by simp[gN],by simp[gN],by simp⟩
 |n+1,a::t,hl,hp=>by
  obtain⟨hp1,hp2⟩:=asS.1 hp;have hsuf:=avc (l:=t) (bA ym a);have ih:=KE ym n (t.dropWhile (bA ym a)) (by have:=hsuf.length_le;simp at hl;omega) (hp2.sublist hsuf.sublist);have yB:=At (ym:=ym) hp1 hp2;have htw:=yh (ym:=ym) (a:=a) (t:=t);have hsplit:t=t.takeWhile (bA ym a)++t.dropWhile (bA ym a):=(auo).symm;have hkey:∀g∈gN ym n (t.dropWhile (bA ym a)),cf (fJ ym a) g.1<0:=fun g hg=>by
   obtain⟨_,hne⟩:=ih.rows g hg;have hr:=(ih.rows g hg).1;obtain⟨x,hx⟩:=atc _ hne;rw[hr]at hx;obtain⟨hx1,hx2⟩:=atX.1 hx;have:fJ ym x=g.1:=by simpa using hx2
   rw[←this];exact yB x hx1
  simp only[gN];generalize hT:t.takeWhile (bA ym a)=T at *;generalize hD:t.dropWhile (bA ym a)=D at *;generalize gN ym n D=G at *;subst hsplit;refine⟨?_,?_,?_⟩
  ·rw[af6,asS];refine⟨fun k hk=>?_,ih.up⟩;obtain⟨g,hg,rfl⟩:=afJ.1 hk;exact hkey g hg
  ·intro g hg;rcases arm.1 hg with rfl|hg
   ·refine⟨?_,by simp⟩;have h1:T.filter (fun r=>decide (fJ ym r=bu a ym))=T:=avr.2 fun r hr=>by simpa using htw r hr
    have h2:D.filter (fun r=>decide (fJ ym r=bu a ym))=[]:=aug.2 fun r hr=>by
     have:=yB r hr;intro h;have h':fJ ym r=bu a ym:=by simpa using h
     rw[h',dS.self]at this;omega
    simp[aui,auC,h1,h2]
   obtain⟨h1,h2⟩:=ih.rows g hg;refine⟨?_,h2⟩;have hk:=hkey g hg;have hne:∀r,fJ ym r=fJ ym a→decide (fJ ym r=g.1)=false:=fun r hr=>by
    rw[atb];intro h;rw[←h,hr,dS.self]at hk;omega
   have h3:T.filter (fun r=>decide (fJ ym r=g.1))=[]:=aug.2 fun r hr=>by rw[hne r (htw r hr)];simp
   rw[aui,hne a rfl,if_neg (by simp),auC,h3,ah5];exact h1
  intro r hr;rcases arm.1 hr with rfl|hr
  ·exact⟨_,aoQ ..,rfl⟩
  rcases aoS.1 hr with hr|hr
  ·exact⟨_,aoQ ..,(htw r hr).symm⟩
  obtain⟨g,hg,h⟩:=ih.all r hr;exact⟨g,aer _ hg,h⟩
structure asA (ym:List Int) (rs:av) (G:List (aJ×av)):Prop where
 up:(G.map (·.1)).Pairwise fun a b=>cf a b<0
 rows:∀g∈G,g.2.Perm (rs.filter fun r=>decide (fJ ym r=g.1))∧g.2≠[]
 all:∀r∈rs,∃g∈G,g.1=fJ ym r
theorem Pq(ym:List Int)(rs:av):asA ym rs (bC ym rs):=by
 have hp:=dX (c:=jp ym) rs;have h:=KE ym rs.length (df (jp ym) rs) (by rw[il];exact aes _) (jq (LI ym) rs);refine⟨h.up,fun g hg=>⟨?_,(h.rows g hg).2⟩,fun r hr=>h.all r (hp.mem_iff.2 hr)⟩;have:=(h.rows g hg).1;have h2:=hp.filter (fun r=>decide (fJ ym r=g.1));rw[←this]at h2;exact h2
end Go.AM
