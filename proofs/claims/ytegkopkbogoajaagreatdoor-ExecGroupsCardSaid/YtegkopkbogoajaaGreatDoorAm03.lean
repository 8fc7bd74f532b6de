/- Part of the proof. -/
import Derived.Test.YtegkopkbogoajaaGreatDoorAm02
set_option linter.unusedVariables false
set_option linter.unusedSimpArgs false
namespace Go.AM
section
variable (M:bw) (P:Program) (bh:Nat→Bool)
def OS:List (Tmp×bp)→Tmp→Option bp
 |[],_=>none
 |(u,x)::r,t=>if u==t then some x else OS r t
def ZF(em:List Tmp)(done:List (Tmp×bp))(o:Oper):Option bp:=
 if o.guard.isNone then (match Vd o.op with
  |some (.tmp t)=>(match OS done t with
   |some x=>some x
   |none=>(em.idxOf? t).map .env)
  |some (.const v)=>(VB v).map .val
  |_=>none) else none
def D0(em:List Tmp):List Oper→List (Tmp×bp)→Nat→EI
 |[],_,_=>[]
 |o::r,done,n=>match ZF em done o with
  |some x=>(x,none)::D0 em r (match o.dst with|some d=>(d,x)::done|none=>done) n
  |none=>(.loc n,some n)::D0 em r (match o.dst with|some d=>(d,.loc n)::done|none=>done) (n+1)
def TA:Nat→EI→Option Nat
 |n,[]=>some n
 |n,(_,none)::r=>TA n r
 |n,(_,some q)::r=>if q==n then TA (n+1) r else none
def Bj(b:List Nat)(o:Oper):Nat:=o.after.toList.foldr (fun e s=>if Region.binds .any e then (s |||2^e.on) |||b.getD e.on 0 else s) 0
def gu:List Oper→List Nat→List Nat
 |[],acc=>acc
 |o::r,acc=>gu r (acc++[Bj acc o])
def EB(i:Nat):Nat:=2^i-1
def kg(b:List Nat)(i:Nat):Nat:=b.getD i 0
def Cr:List Nat→Bool
 |[]=>true
 |x::r=>!r.contains x&&Cr r
def wF(ins:List aU)(chk:List (Nat×Nat))(its:EI):List (Nat×Nat):=
 (List.range its.length).filterMap fun k=>match cR its k with
  |some m=>if gA bh ins chk m then some (k,m) else none
  |none=>none
def aih:Option aU→Bool
 |some ⟨.box _ (.val _),none⟩=>true
 |_=>false
def ahq(ops:List Oper)(ins:List aU)(em:List Tmp)(its:EI)(bef:Nat→Nat)(chk nws:List (Nat×Nat))(d:Nat):Bool:=
 match ops[d]? with
 |none=>false
 |some o=>(match o.op with|.alloc _=>true|_=>false)&&o.guard.isNone&&bef d==0&&(match o.dst,cR its d with
  |some t,some n=>gA bh ins chk n&&aih ins[n]?&&((List.range ops.length).all fun j=>!(bef j).testBit d ||nws.all fun km=>decide (n≤km.2) ||(bef j).testBit km.1) &&
    ((List.range ops.length).all fun j=>j==d ||(I5 ops em its bef j t).isNone ||(bef j).testBit d)
  |_,_=>false)
def Dg(draw:Bool)(ops:List Oper)(ins:List aU)(em:List Tmp)(its:EI)(bef:Nat→Nat)(chk nws:List (Nat×Nat)):Option Nat:=
 if draw then (List.range ops.length).reverse.find? (ahq bh ops ins em its bef chk nws) else none
def Bl(ins:List aU)(chk:List (Nat×Nat))(nws:List (Nat×Nat))(bef:Nat→Nat)(late:Option Nat)(i n:Nat)(I:aU):Bool:=
 if gA bh ins chk n then late==some i ||nws.all fun km=>decide (i≤km.1) ||(bef i).testBit km.1
 else Ze bh I.op==0 ||
  ((nws.any (fun km=>(bef i).testBit km.1) ||nws.all (fun km=>decide (n≤km.2)) ||chk.contains (n,0)) &&
   nws.all fun km=>(bef km.1).testBit i ||nws.any (fun k'=>decide (km.2<k'.2)&&(bef i).testBit k'.1) ||
    (decide (km.2<n)&&nws.all (fun k'=>decide (k'.2≤km.2) ||decide (n≤k'.2))) ||chk.contains (n,km.2+1))
def Zt(draw:Bool)(ops:List Oper)(ins:List aU)(em:List Tmp)(its:EI)(bef:Nat→Nat)(chk nws:List (Nat×Nat))(late:Option Nat)(i:Nat)(o:Oper):Bool:=
 match cR its i with
 |none=>RE ops em its bef i o
 |some n=>match ins[n]? with
  |none=>false
  |some I=>Ge M P (I5 ops em its bef i) o.op I.op&&xF its bef ops i o.guard I.guard&&DL (nZ its i) (.loc n)&&(!draw ||Bl bh ins chk nws bef late i n I)
def rl{α:Type}(f:Nat→α→Bool):Nat→List α→Bool
 |_,[]=>true
 |i,x::r=>f i x&&rl f (i+1) r
def BH(draw:Bool)(ops:List Oper)(ins:List aU)(em:List Tmp)(nQ:List (Nat×bp))(chk:List (Nat×Nat))(nt:Nat):Bool:=
 let its:=D0 em ops [] 0
 let b:=gu ops []
 let bef:=if draw then kg b else EB
 (its.length==ops.length)&&(ops.all fun o=>match o.dst with|some d=>decide (d<nt)|none=>true)&&Cr (ops.filterMap (·.dst)) &&
 (TA 0 its==some ins.length)&&(!draw ||(rl (fun i x=>decide (x<2^i)) 0 b&&b.length==ops.length&&rl (fun i o=>Bj b o==b.getD i 0&&o.after.toList.all fun e=>!Region.binds .any e ||decide (e.on<i)) 0 ops)) &&
 rl (Zt M P bh draw ops ins em its bef chk (wF bh ins chk its) (Dg bh draw ops ins em its bef chk (wF bh ins chk its))) 0 ops&&t8 ops em its nQ&&(draw ||chk.isEmpty) &&
 chk.all (fun nj=>match ins[nj.1]? with|some I=>I.guard.isNone|none=>true)
end
theorem nh{α:Type}{f:Nat→α→Bool}:∀{l:List α} {i:Nat},rl f i l=true→∀j x,l[j]?=some x→f (i+j) x=true
 |[],_,_,j,x,h=>by simp at h
 |y::r,i,h,j,x,hx=>by
  simp only[rl,acz]at h;cases j with
  |zero=>simp only[au1,afV]at hx;subst hx;exact h.1
  |succ j=>
   have:=nh h.2 j x (by simpa using hx)
   rwa [show i+1+j=i+(j+1) by omega]at this
theorem tq:∀{l:List Nat},Cr l=true→l.Nodup
 |[],_=>List.nodup_nil
 |x::r,h=>by
  simp only[Cr,acz,as9,←Bool.not_eq_true,auH]at h;exact List.nodup_cons.2 ⟨h.1,tq h.2⟩
theorem iu{x:bp×Option Nat}{r:EI}:cR (x::r) 0=x.2:=by simp[cR]
theorem fj{x:bp×Option Nat}{r:EI}{k:Nat}:cR (x::r) (k+1)=cR r k:=by simp[cR]
theorem C9:∀{its:EI} {n m:Nat},TA n its=some m→n≤m∧(∀k q,cR its k=some q→n≤q∧q<m)∧(∀k i q p,cR its k=some q→cR its i=some p→k<i→q<p)∧∀q,n≤q→q<m→∃k,cR its k=some q∧k<its.length
 |[],n,m,h=>by
  simp only[TA,afV]at h;subst h;exact⟨aes _,fun k q h=>by simp[cR]at h,fun k i q p h=>by simp[cR]at h,fun q h1 h2=>by omega⟩
 |(x,none)::r,n,m,h=>by
  simp only[TA]at h;obtain⟨h1,h2,h3,h4⟩:=C9 h;refine⟨h1,fun k q hk=>?_,fun k i q p hk hi hlt=>?_,fun q hq hm=>?_⟩
  ·cases k with
   |zero=>rw[iu]at hk;cases hk
   |succ k=>rw[fj]at hk;exact h2 k q hk
  ·cases k with
   |zero=>rw[iu]at hk;cases hk
   |succ k=>cases i with
    |zero=>omega
    |succ i=>rw[fj]at hk hi;exact h3 k i q p hk hi (by omega)
  obtain⟨k,k1,k2⟩:=h4 q hq hm;exact⟨k+1,by rw[fj];exact k1,by simpa using k2⟩
 |(x,some y)::r,n,m,h=>by
  simp only[TA]at h;split at h
  ·rename_i hy;have hy':y=n:=by simpa using hy
   subst hy';obtain⟨h1,h2,h3,h4⟩:=C9 h;refine⟨by omega,fun k q hk=>?_,fun k i q p hk hi hlt=>?_,fun q hq hm=>?_⟩
   ·cases k with
    |zero=>rw[iu]at hk;cases hk;omega
    |succ k=>rw[fj]at hk;have:=h2 k q hk;omega
   ·cases i with
    |zero=>omega
    |succ i=>
     rw[fj]at hi;cases k with
     |zero=>rw[iu]at hk;cases hk;have:=h2 i p hi;omega
     |succ k=>rw[fj]at hk;exact h3 k i q p hk hi (by omega)
   by_cases e:q=y
   ·exact⟨0,by rw[iu,e],by simp⟩
   obtain⟨k,k1,k2⟩:=h4 q (by omega) hm;exact⟨k+1,by rw[fj];exact k1,by simpa using k2⟩
  cases h
theorem Au{bh:Nat→Bool}{ins:List aU}{chk:List (Nat×Nat)}{its:EI}{k m:Nat}(h:cR its k=some m)(hn:gA bh ins chk m=true):(k,m)∈wF bh ins chk its:=by
 unfold wF;rw[List.mem_filterMap];refine⟨k,aut.2 ?_,?_⟩
 ·unfold cR at h;cases hq:its[k]? with
  |none=>rw[hq]at h;cases h
  |some _=>exact (aaN.1 hq).1
 rw[h];simp[hn]
theorem adv{bh:Nat→Bool}{ins:List aU}{chk:List (Nat×Nat)}{its:EI}{km:Nat×Nat}(h:km∈wF bh ins chk its):cR its km.1=some km.2∧gA bh ins chk km.2=true:=by
 unfold wF at h;rw[List.mem_filterMap]at h;obtain⟨k,_,h⟩:=h;split at h
 ·rename_i m hm;split at h
  ·rename_i hn;cases h;exact⟨hm,hn⟩
  cases h
 cases h
theorem Pg{b:List Nat}{o:Oper}{k:Nat}(h:(Bj b o).testBit k=true):∃e∈o.after,Region.binds .any e=true∧(k=e.on∨(kg b e.on).testBit k=true):=by
 unfold Bj at h;have key:∀l:List Edge,(l.foldr (fun e s=>if Region.binds .any e then (s |||2^e.on) |||b.getD e.on 0 else s) 0).testBit k=true→∃e∈l,Region.binds .any e=true∧(k=e.on∨(kg b e.on).testBit k=true):=by
  intro l;induction l with
  |nil=>intro h;simp at h
  |cons e l ih=>
   intro h;simp only[List.foldr_cons]at h;split at h
   ·rename_i hb;simp only[Nat.testBit_or,arX,Nat.testBit_two_pow,ad7]at h;rcases h with (h|h)|h
    ·obtain⟨e',h1,h2⟩:=ih h;exact⟨e',aer _ h1,h2⟩
    ·exact⟨e,aoQ,hb,.inl h.symm⟩
    exact⟨e,aoQ,hb,.inr h⟩
   obtain⟨e',h1,h2⟩:=ih h;exact⟨e',aer _ h1,h2⟩
 obtain⟨e,h1,h2⟩:=key _ h;exact⟨e,by simpa using h1,h2⟩
theorem T7{x i k:Nat}(h:x<2^i)(hk:x.testBit k=true):k<i:=by
 by_cases hlt:k<i
 ·exact hlt
 have:x<2^k:=aju h (Nat.pow_le_pow_right (by omega) (by omega));rw[Nat.testBit_lt_two_pow this]at hk;cases hk
theorem D3{M:bw}{P:Program}{bh:Nat→Bool}{draw:Bool}{ops:Array Oper}{ins:List aU}{em:List Tmp}{nQ:List (Nat×bp)}{chk:List (Nat×Nat)}{nt:Nat}(h:BH M P bh draw ops.toList ins em nQ chk nt=true) :
  uu M P bh ops ins em (D0 em ops.toList [] 0) (if draw then kg (gu ops.toList []) else EB) chk (Dg bh draw ops.toList ins em (D0 em ops.toList [] 0) (if draw then kg (gu ops.toList []) else EB) chk (wF bh ins chk (D0 em ops.toList [] 0))) nt∧t8 ops.toList em (D0 em ops.toList [] 0) nQ=true∧(draw=true→Wl ops (kg (gu ops.toList [])))∧(draw=false→chk=[]):=by
 unfold BH at h;dsimp only at h;simp only[acz,afE]at h;obtain⟨⟨⟨⟨⟨⟨⟨⟨h1,h2⟩,h3⟩,h4⟩,h5⟩,h6⟩,h7⟩,h8⟩,h9⟩:=h;generalize hits:D0 em ops.toList [] 0=its at *;obtain⟨n1,n2,n3,n4⟩:=C9 h4;have hge:∀(i:Nat) (o:Oper),ops[i]?=some o→ops.toList[i]?=some o:=fun i o ho=>by simpa using ho
 have h5':draw=true→rl (fun i x=>decide (x<2^i)) 0 (gu ops.toList [])=true∧(gu ops.toList []).length=ops.size∧rl (fun i o=>Bj (gu ops.toList []) o==(gu ops.toList []).getD i 0&&o.after.toList.all fun e=>!Region.binds .any e ||decide (e.on<i)) 0 ops.toList=true:=fun hd=>by
  subst hd;simp only[avL,avm,acz,afE]at h5;exact⟨h5.1.1,by simpa using h5.1.2,h5.2⟩
 have low:∀i k,((if draw then kg (gu ops.toList []) else EB) i).testBit k=true→k<i:=fun i k hk=>by
  cases draw with
  |false=>
   have hk':(2^i-1).testBit k=true:=hk;rw[atQ]at hk';simpa using hk'
  |true=>
   have hk':((gu ops.toList []).getD i 0).testBit k=true:=hk;obtain⟨a1,a2,_⟩:=h5' rfl;by_cases hi:i<(gu ops.toList []).length
   ·have:=nh a1 i ((gu ops.toList [])[i]) (by simp);simp only[apx,ad7]at this;rw[ad4,ad3 hi]at hk';exact T7 this hk'
   rw[ad4,aud (by omega)]at hk';simp at hk'
 refine⟨⟨by rw[h1];simp,fun i o d ho hd=>?_,fun i k oi ok d hi hk hdi hdk=>?_,low,fun k i n m hk hi hlt=>n3 k i n m hk hi hlt,fun n hn=>?_,fun k n hk=>(n2 k n hk).2,fun i o ho=>?_,fun d hd=>?_,fun n j I hm hI=>?_⟩,h7,fun hd=>?_,fun hd=>?_⟩
 ·have:=afz.1 h2 o (by rw[avg];exact⟨i,hge i o ho⟩);rw[hd]at this;simpa using this
 ·have hnd:=tq h3;have hp:=List.pairwise_filterMap.1 hnd;have hp':=auQ.1 hp;have key:∀(i k:Nat) (oi ok:Oper),ops[i]?=some oi→ops[k]?=some ok→oi.dst=some d→ok.dst=some d→¬i<k:=fun i k oi ok hi hk hdi hdk hlt=>by
   obtain⟨i1,i2⟩:=aaN.1 (hge i oi hi);obtain⟨k1,k2⟩:=aaN.1 (hge k ok hk);have:=hp' i k i1 k1 hlt d (by rw[i2];exact hdi) d (by rw[k2];exact hdk);exact this rfl
  have a:=key i k oi ok hi hk hdi hdk;have b:=key k i ok oi hk hi hdk hdi;omega
 ·obtain⟨k,k1,k2⟩:=n4 n (amn _) hn;exact⟨k,k1,by rw[h1]at k2;simpa using k2⟩
 ·have hit:=nh h6 i o (hge i o ho);simp only[apx]at hit;unfold Zt at hit;split at hit
  ·rename_i hn;exact .inl ⟨hn,hit⟩
  rename_i n hn;split at hit
  ·cases hit
  rename_i I hI;simp only[acz,arX,as9]at hit;obtain⟨⟨⟨i1,i2⟩,i3⟩,i4⟩:=hit;refine .inr ⟨n,I,hn,hI,sR i3,i1,i2,?_,?_⟩
  ·intro hnw hlate k m hk hm hw;cases draw with
   |false=>
    show (2^i-1).testBit k=true;rw[atQ];simpa using hk
   |true=>
    have i5:Bl bh ins chk (wF bh ins chk its) (kg (gu ops.toList [])) (Dg bh true ops.toList ins em its (kg (gu ops.toList [])) chk (wF bh ins chk its)) i n I=true:=by simpa using i4
    unfold Bl at i5;rw[if_pos hnw]at i5;simp only[arX,afE]at i5;have:=afz.1 (i5.resolve_left hlate) (k,m) (Au hm hw);simp only[arX,ad7]at this;rcases this with h|h
    ·omega
    exact h
  intro hnw;cases draw with
  |false=>
   right;refine⟨?_,fun k m hk hw=>?_⟩
   ·by_cases hex:∃k m,cR its k=some m∧gA bh ins chk m=true∧m<n
    ·obtain⟨k,m,e1,e2,e3⟩:=hex;refine .inl ⟨k,m,e1,e2,?_⟩;have hlt:k<i:=by
      rcases aue k i with h|h|h
      ·exact h
      ·subst h;rw[e1]at hn;cases hn;omega
      have:=n3 i k n m hn e1 h;omega
     show (2^i-1).testBit k=true;rw[atQ];simpa using hlt
    exact .inr (.inl fun k m e1 e2 e3=>hex ⟨k,m,e1,e2,e3⟩)
   rcases aue k i with h|h|h
   ·
    have hmn:=n3 k i m n hk hn h;by_cases hex:∃k' m',cR its k'=some m'∧gA bh ins chk m'=true∧m<m'∧m' < n
    ·obtain⟨k',m',e1,e2,e3,e4⟩:=hex;refine .inr (.inl ⟨k',m',e1,e2,e3,?_⟩);have hlt:k' < i:=by
      rcases aue k' i with h|h|h
      ·exact h
      ·subst h;rw[e1]at hn;cases hn;omega
      have:=n3 i k' n m' hn e1 h;omega
     show (2^i-1).testBit k'=true;rw[atQ];simpa using hlt
    exact .inr (.inr (.inl ⟨hmn,fun k' m' e1 e2 e3 e4=>hex ⟨k',m',e1,e2,e3,e4⟩⟩))
   ·subst h;rw[hk]at hn;cases hn;rw[hw]at hnw;cases hnw
   left;show (2^k-1).testBit i=true;rw[atQ];simpa using h
  |true=>
   have i5:Bl bh ins chk (wF bh ins chk its) (kg (gu ops.toList [])) (Dg bh true ops.toList ins em its (kg (gu ops.toList [])) chk (wF bh ins chk its)) i n I=true:=by simpa using i4
   unfold Bl at i5;rw[if_neg (by rw[hnw];simp)]at i5;simp only[arX,acz,afE]at i5;rcases i5 with h|⟨ha,hb⟩
   ·exact .inl h
   right;refine⟨?_,fun k m hk hw=>?_⟩
   ·rcases ha with (ha|ha)|ha
    ·obtain⟨km,b1,b2⟩:=arL.1 ha;obtain⟨c1,c2⟩:=adv b1;exact .inl ⟨km.1,km.2,c1,c2,b2⟩
    ·refine .inr (.inl fun k m e1 e2 e3=>?_);have:=afz.1 ha (k,m) (Au e1 e2);simp only[ad7]at this;omega
    exact .inr (.inr (auH.1 ha))
   have:=afz.1 hb (k,m) (Au hk hw);simp only[arX,acz,ad7]at this;rcases this with ((h|h)|h)|h
   ·exact .inl h
   ·obtain⟨km,b1,b2⟩:=arL.1 h;simp only[acz,ad7]at b2;obtain⟨c1,c2⟩:=adv b1;exact .inr (.inl ⟨km.1,km.2,c1,c2,b2.1,b2.2⟩)
   ·refine .inr (.inr (.inl ⟨h.1,fun k' m' e1 e2 e3 e4=>?_⟩));have:=afz.1 h.2 (k',m') (Au e1 e2);simp only[arX,ad7]at this;omega
   exact .inr (.inr (.inr (auH.1 h)))
 ·
  cases draw with
  |false=>simp[Dg]at hd
  |true=>
   simp only[Dg,aml]at hd;have hb:=List.find?_some hd;unfold ahq at hb;split at hb
   ·cases hb
   rename_i o ho;have ho':ops[d]?=some o:=by simpa using ho
   simp only[acz,auO,afE]at hb;obtain⟨⟨⟨b1,b2⟩,b3⟩,b4⟩:=hb;refine⟨b3,?_⟩;split at b4
   ·rename_i t n ht hn;simp only[acz]at b4;obtain⟨⟨⟨c1,c2⟩,c3⟩,c4⟩:=b4;split at b1
    ·rename_i T hT;have hbox:∃kk z,ins[n]?=some ⟨.box kk (.val z),none⟩:=by
      unfold aih at c2;split at c2
      ·rename_i kk z hk;exact⟨kk,z,hk⟩
      cases c2
     obtain⟨kk,z,hk⟩:=hbox;have hlen:(gu ops.toList []).length=ops.size:=(h5' rfl).2.1;refine⟨o,T,t,n,kk,z,ho',hT,b2,ht,hn,hk,c1,fun j hj k m hkm hm hlt=>?_,fun j hjs hjd hne=>?_⟩
     ·have hjl:j<ops.size:=by
       rcases Nat.lt_or_ge j ops.size with h|h
       ·exact h
       have hj':((gu ops.toList []).getD j 0).testBit d=true:=hj;rw[ad4,aud (by omega)]at hj';simp at hj'
      have:=afz.1 c3 j (aut.2 (by simpa using hjl));have hj':(kg (gu ops.toList []) j).testBit d=true:=hj;simp only[hj',avL,avm]at this;have:=afz.1 this (k,m) (Au hkm hm);simp only[arX,ad7]at this;rcases this with h|h
      ·omega
      exact h
     have:=afz.1 c4 j (aut.2 (by simpa using hjs));simp only[arX,afE,auO]at this;rcases this with (h|h)|h
     ·exact absurd h hjd
     ·exact absurd h hne
     exact h
    cases b1
   cases b4
 ·have:=afz.1 h9 (n,j) hm;simp only[hI]at this;simpa using this
 ·obtain⟨_,a2,a3⟩:=h5' hd;refine⟨fun i o ho e he hb=>?_,fun i o ho k hk=>?_⟩
  ·have:=nh a3 i o (hge i o ho);simp only[apx,acz]at this;have:=afz.1 this.2 e (by simpa using he);simpa [hb] using this
  have:=nh a3 i o (hge i o ho);simp only[apx,acz,afE]at this;have hk':((gu ops.toList []).getD i 0).testBit k=true:=hk;rw[←this.1]at hk';exact Pg hk'
 subst hd;simpa using h8
end Go.AM
namespace Go.AM
def acT:Go.Code→List Go.Code
 |.seq a b=>[a,b]
 |.cond _ a b=>[a,b]
 |.block _ a=>[a]
 |.loop a=>[a]
 |.scope a=>[a]
 |.rangeFunc _ _ a b=>[a,b]
 |_=>[]
def py:List Nat→Go.Code→Option Go.Code
 |[],c=>some c
 |i::r,c=>((acT c)[i]?).bind (py r)
theorem DK{i:Nat}:∀{p:List Nat} {c:Go.Code},py (p++[i]) c=(py p c).bind fun d=>(acT d)[i]?
 |[],c=>by
  simp only[ah5,py,al7];cases (acT c)[i]?<;>rfl
 |j::p,c=>by
  simp only[an7,py];cases (acT c)[j]? with
  |none=>rfl
  |some d=>exact DK
def qX:ai→ai
 |.lift _ _ _ x=>qX x
 |x=>x
structure pt where
 f:Nat
 path:List Nat
 em:List Tmp
def bw.of(P:Program)(fm:Nat→FuncId)(glob:Nat→Option aa)(sites:Nat→Option pt):bw where
 fm:=fm
 glob:=glob
 site:=fun s rec em=>∃d fn code g,sites s=some d∧P.funcs[fm d.f]?=some fn∧fn.body=some code∧py d.path code=some (.rangeFunc g rec.params rec.assign rec.body)∧em=d.em∧fn.ntmps≤rec.tmps.size
section
variable (M:bw) (P:Program) (bh:Nat→Bool) (em:List Tmp) (nt:Nat) (top:Bool) (siteB:Nat→List Nat→Bool)
def cL:Go.Code→List Nat→ai→Bool
 |.region _ ops draw,_,x=>(match x with
  |.reg ins os=>BH M P bh draw ops.toList ins em os [] nt
  |.regd ins os chk=>draw&&BH M P bh draw ops.toList ins em os chk nt
  |_=>false)
 |.seq a b,path,x=>if DD b then cL a (path++[0]) (qX x) else if DD a then cL b (path++[1]) (qX x) else (match x with
  |.seq y z=>cL a (path++[0]) (qX y)&&cL b (path++[1]) (qX z)
  |_=>false)
 |.cond t a b,path,x=>(match x with
  |.cond t' y z=>jo M (uM em) t t'&&cL a (path++[0]) (qX y)&&cL b (path++[1]) (qX z)
  |_=>false)
 |.block id a,path,x=>(match x with
  |.blk id' y=>id==id'&&cL a (path++[0]) (qX y)
  |_=>false)
 |.loop a,path,x=>(match x with
  |.loop _ y=>cL a (path++[0]) (qX y)
  |_=>false)
 |.scope a,path,x=>(match x with
  |.scope y=>cL a (path++[0]) (qX y)
  |_=>false)
 |.rangeFunc g _ _ _,path,x=>(match x with
  |.rng n f site=>top&&jo M (uM em) g f&&Cr em&&em.all (fun t=>decide (t<nt))&&n==em.length&&siteB site path
  |_=>false)
 |.exit id,_,x=>(match x with
  |.exit id'=>id==id'
  |_=>false)
 |.ret,_,x=>(match x with
  |.ret=>true
  |_=>false)
 |c,_,x=>(match x with
  |.skip=>DD c
  |_=>false)
end
theorem gP{M:bw}{P:Program}{bh:Nat→Bool}{em:List Tmp}{nt:Nat}{top:Bool}{c:Go.Code}:∀{x:ai},dA M P bh em nt top c (qX x)→dA M P bh em nt top c x
 |.lift _ _ _ x,h=>.lift (gP (x:=x) h)
 |.skip,h=>h
 |.reg ..,h=>h
 |.regd ..,h=>h
 |.seq ..,h=>h
 |.cond ..,h=>h
 |.blk ..,h=>h
 |.loop ..,h=>h
 |.exit _,h=>h
 |.ret,h=>h
 |.rng ..,h=>h
 |.scope _,h=>h
theorem ui{M:bw}{P:Program}{bh:Nat→Bool}{em:List Tmp}{nt:Nat}{top:Bool}{siteB:Nat→List Nat→Bool}{root:Go.Code}
  (hsite:∀site path g ps assign body,siteB site path=true→py path root=some (.rangeFunc g ps assign body)→∀fn tmps defers,nt≤tmps.size→M.site site ⟨fn,tmps,ps,assign,body,defers⟩ em) :
  ∀(c:Go.Code) (path:List Nat) (x:ai),py path root=some c→cL M P bh em nt top siteB c path x=true→dA M P bh em nt top c x:=by
 have kid:∀{path:List Nat} {c d:Go.Code} {i:Nat},py path root=some c→(acT c)[i]?=some d→py (path++[i]) root=some d:=fun h1 h2=>by
  rw[DK,h1];exact h2
 intro c;induction c with
 |region id ops draw=>
  intro path x hp h;simp only[cL]at h;split at h
  ·obtain⟨h1,h2,h3,h4⟩:=D3 h;cases draw with
   |false=>exact .text h1 h2
   |true=>exact .any h1 (h3 rfl) h2
  ·simp only[acz]at h;obtain⟨hd,h⟩:=h;subst hd;obtain⟨h1,h2,h3,h4⟩:=D3 h;exact .anyd h1 (h3 rfl) h2
  cases h
 |seq a b iha ihb=>
  intro path x hp h;simp only[cL]at h;split at h
  ·rename_i hn;exact .left hn (gP (iha _ _ (kid hp rfl) h))
  split at h
  ·rename_i hn;exact .right hn (gP (ihb _ _ (kid hp rfl) h))
  split at h
  ·simp only[acz]at h;exact .seq (gP (iha _ _ (kid hp rfl) h.1)) (gP (ihb _ _ (kid hp rfl) h.2))
  cases h
 |cond t a b iha ihb=>
  intro path x hp h;simp only[cL]at h;split at h
  ·simp only[acz]at h;exact .cond h.1.1 (gP (iha _ _ (kid hp rfl) h.1.2)) (gP (ihb _ _ (kid hp rfl) h.2))
  cases h
 |block id a ih=>
  intro path x hp h;simp only[cL]at h;split at h
  ·simp only[acz,afE]at h;rw[h.1];exact .blk (gP (ih _ _ (kid hp rfl) h.2))
  cases h
 |loop a ih=>
  intro path x hp h;simp only[cL]at h;split at h
  ·exact .loop (gP (ih _ _ (kid hp rfl) h))
  cases h
 |scope a ih=>
  intro path x hp h;simp only[cL]at h;split at h
  ·exact .scope (gP (ih _ _ (kid hp rfl) h))
  cases h
 |rangeFunc g ps assign body=>
  intro path x hp h;simp only[cL]at h;split at h
  ·simp only[acz,afE]at h;obtain⟨⟨⟨⟨⟨h1,h2⟩,h3⟩,h4⟩,h5⟩,h6⟩:=h;exact .rng h1 h2 (tq h3) (fun t ht=>by simpa using afz.1 h4 t ht) h5 (hsite _ _ _ _ _ _ h6 hp)
  cases h
 |exit id=>
  intro path x hp h;simp only[cL]at h;split at h
  ·rw[afE]at h;rw[h];exact .exit
  cases h
 |ret=>
  intro path x hp h;simp only[cL]at h;split at h
  ·exact .ret
  cases h
 |skip=>
  intro path x hp h;simp only[cL]at h;split at h
  ·exact .nop h
  cases h
 |_=>
  intro path x hp h;simp only[cL]at h;split at h
  ·exact .nop h
  cases h
def tO:List Nat→List Nat→Bool
 |[],[]=>true
 |a::x,b::y=>a==b&&tO x y
 |_,_=>false
theorem sC:∀{a b:List Nat},tO a b=true→a=b
 |[],[],_=>rfl
 |[],_::_,h=>by simp[tO]at h
 |_::_,[],h=>by simp[tO]at h
 |a::x,b::y,h=>by
  simp only[tO,acz,afE]at h;rw[h.1,sC h.2]
def abi(sites:Nat→Option pt)(f:Nat)(em:List Tmp)(s:Nat)(path:List Nat):Bool:=match sites s with
 |some d=>d.f==f&&tO d.path path&&tO d.em em
 |none=>false
section
variable (P:Program) (fm:Nat→FuncId) (glob:Nat→Option aa) (sites:Nat→Option pt) (bh:Nat→Bool)
def Fg(f:Nat)(em:List Tmp)(g:aD):Bool:=match P.funcs[fm f]? with
 | some fn=>!(fn.name == "runtime.NumGoroutine")&&(match fn.body with
  |some code=>cL (bw.of P fm glob sites) P bh em fn.ntmps true (abi sites f em) code [] (qX g.body)
  |none=>false)&&tO (em.take g.np) (List.range g.np)&&decide (g.np≤em.length)&&g.res.length==fn.results.toList.length&&((g.res.zip fn.results.toList).all fun p=>JV P em p.1 p.2)&&g.mode.ok
 |none=>false
def Cd(s:Nat)(g:vH):Bool:=match sites s with
 |some d=>(match P.funcs[fm d.f]? with
  |some fn=>(match fn.body with
   |some code=>(match py d.path code with
    |some (.rangeFunc _ ps assign body)=>g.nenv==d.em.length&&cL (bw.of P fm glob sites) P bh d.em fn.ntmps false (fun _ _=>false) assign [] (qX g.pre)&&tO (g.params.map fun i=>d.em.getD i 0) ps.toList&&(g.params.all fun i=>decide (i<d.em.length))&&Cr d.em &&
      cL (bw.of P fm glob sites) P bh d.em fn.ntmps false (fun _ _=>false) body [] (qX g.body)
    |_=>false)
   |none=>false)
  |none=>false)
 |none=>false
end
theorem HN{P:Program}{fm:Nat→FuncId}{glob:Nat→Option aa}{sites:Nat→Option pt}{bh:Nat→Bool}{f:Nat}{em:List Tmp}{g:aD}(h:Fg P fm glob sites bh f em g=true) :
  agN (bw.of P fm glob sites) P bh f g:=by
 unfold Fg at h;split at h
 ·rename_i fn hfn;simp only[acz,as9,afE,ad7]at h;obtain⟨⟨⟨⟨⟨⟨h1,h2⟩,h3⟩,h4⟩,h5⟩,h6⟩,h7⟩:=h;split at h2
  ·rename_i code hc;refine⟨fn,code,em,hfn,h1,hc,?_,sC h3,h4,h5,h6,h7⟩;refine gP (ui (root:=code) (fun site path g ps assign body hs hp fn' tmps defers hsz=>?_) code [] _ rfl h2);unfold abi at hs;split at hs
   ·rename_i d hd;simp only[acz,afE]at hs;obtain⟨⟨s1,s2⟩,s3⟩:=hs;refine⟨d,fn,code,g,hd,by rw[s1];exact hfn,hc,by rw[sC s2];exact hp,(sC s3).symm,hsz⟩
   cases hs
  cases h2
 cases h
theorem Lb{P:Program}{fm:Nat→FuncId}{glob:Nat→Option aa}{sites:Nat→Option pt}{bh:Nat→Bool}{s:Nat}{g:vH}(h:Cd P fm glob sites bh s g=true){rec:ia}{em:List Tmp}(hs:(bw.of P fm glob sites).site s rec em) :
  AS (bw.of P fm glob sites) P bh g rec em:=by
 obtain⟨d,fn,code,q,h1,h2,h3,h4,rfl,h6⟩:=hs;unfold Cd at h;rw[h1]at h;simp only[h2,h3,h4,acz,afE]at h;obtain⟨⟨⟨⟨⟨k1,k2⟩,k3⟩,k4⟩,k5⟩,k6⟩:=h;refine⟨fn.ntmps,k1,h6,gP (ui (root:=rec.assign) (fun site path g ps assign body hs=>by cases hs) _ [] _ rfl k2),?_,tq k5,?_⟩
 ·rw[←sC k3,aqS];refine aj6 fun i hi=>?_;have hlt:i<d.em.length:=by simpa using afz.1 k4 i hi
  simp[hlt]
 exact gP (ui (root:=rec.body) (fun site path g ps assign body hs=>by cases hs) _ [] _ rfl k6)
end Go.AM
namespace Go.AM
def agf(P:Program)(fm:Nat→FuncId)(glob:Nat→Option aa)(sites:Nat→Option pt)(bh:Nat→Bool)(em:Nat→List Tmp)(n:Nat):gG→Bool
 |.fn g=>Fg P fm glob sites bh n (em n) g
 |.nilfn g=>Fg P fm glob sites bh n (em n) g
 |.round g=>Cd P fm glob sites bh n g
 |_=>true
def abt(f:Nat→gG→Bool):Nat→List gG→Prop
 |_,[]=>True
 |i,x::r=>f i x=true∧abt f (i+1) r
theorem Bm{f:Nat→gG→Bool}:∀{l:List gG} {i:Nat},abt f i l→∀j x,l[j]?=some x→f (i+j) x=true
 |[],_,_,j,x,h=>by simp at h
 |y::r,i,h,j,x,hx=>by
  cases j with
  |zero=>simp only[au1,afV]at hx;subst hx;exact h.1
  |succ j=>
   have:=Bm h.2 j x (by simpa using hx)
   rwa [show i+1+j=i+(j+1) by omega]at this
theorem getD_some{l:List gG}{n:Nat}{e:gG}(h:l.getD n .none=e)(he:e≠.none):l[n]?=some e:=by
 rw[ad4]at h;cases hq:l[n]? with
 |none=>rw[hq]at h;exact absurd h.symm he
 |some x=>rw[hq]at h;simp at h;rw[h]
def uk(tbl:List gG)(n:Nat):Bool:=match tbl.getD n .none with
 |.fn g=>g.mode.lends
 |.nilfn g=>g.mode.lends
 |.prim k=>k==0 ||k==3
 |_=>false
def zh(tbl:List gG):Code:=⟨fun n=>tbl.getD n .none,prims⟩
theorem PJ{args:List aa}{σ σ':ah}{v:aa}(h:Ib args σ=some (v,σ')):σ'=σ:=by
 unfold Ib at h;split at h
 ·split at h
  ·cases h;rfl
  cases h
 cases h
theorem Ef{args:List aa}{σ σ':ah}{v:aa}(h:ms args σ=some (v,σ')):σ'=σ:=by
 unfold ms at h;split at h
 ·cases h;rfl
 cases h
theorem afI{P:Program}{fm:Nat→FuncId}{glob:Nat→Option aa}{sites:Nat→Option pt}{em:Nat→List Tmp}{tbl:List gG}(hm:P.follows .mixedOrders=true)
  (hall:abt (agf P fm glob sites (uk tbl) em) 0 tbl) (hs:∀s d,sites s=some d→∃g,tbl.getD s .none=.round g)
  (hp:∀f k,tbl.getD f .none=.prim k→yP (bw.of P fm glob sites) P f (prims k)):vy (bw.of P fm glob sites) P (uk tbl) (zh tbl) where
 mixed:=hm
 fns:=fun f g h=>by
  have:=Bm hall f _ (getD_some h (by simp));rw[apx]at this;exact HN this
 nilfns:=fun f g h=>by
  have:=Bm hall f _ (getD_some h (by simp));rw[apx]at this;exact HN this
 prims:=hp
 sites:=fun s rec em' h=>by
  have h0:=h;obtain⟨d,_,_,_,hd,_⟩:=h0;obtain⟨g,hg⟩:=hs s d hd;refine⟨g,hg,?_⟩;have:=Bm hall s _ (getD_some hg (by simp));rw[apx]at this;exact Lb this h
 keeps:=fun f h=>by
  unfold uk at h;split at h
  ·rename_i g hg;exact .inl ⟨g,.inl hg,h⟩
  ·rename_i g hg;exact .inl ⟨g,.inr hg,h⟩
  ·rename_i k hk;refine .inr ⟨k,hk,fun C args σ v σ' hr=>?_⟩;simp only[arX,afE]at h;rcases h with rfl|rfl
   ·exact PJ hr
   exact Ef hr
  cases h
def bv.start(w:World)(gs:Nat→Prop)(lp:ia):bv:={ sld:=fun b=>gs b∧b<w.heap.size,bor:=fun b=>b<w.heap.size,H:=hd [],N:=0,place:=fun _=>none,room:=fun _=>0,loops:=fun _=>lp }
theorem Y2{M:bw}{w:World}{gs:Nat→Prop}{lp:ia}:cO M w (bv.start w gs lp) []:=
 ⟨rfl,rfl,fun _ h=>h.2,fun _ h=>h,fun id b h=>absurd (by rfl) h,fun i j b h=>absurd (by rfl) h,fun id o h=>by cases h⟩
theorem YD{P:Program}{fm:Nat→FuncId}{glob:Nat→Option aa}{sites:Nat→Option pt}{tbl:List gG}(hc:vy (bw.of P fm glob sites) P (uk tbl) (zh tbl)){n f:Nat}{args:List aa}{v:aa}{σ':ah}
  (hrun:bJ (zh tbl) n f args []=some (v,σ')) (hf:∃a∈args,iw a=false) {w:World} {gs:Nat→Prop} {lp:ia} {cargs:Array Value} (hg:fT (bw.of P fm glob sites) w (bv.start w gs lp)) (ha:fU (bw.of P fm glob sites) w (bv.start w gs lp) args cargs) :
  Calls P (fm f) cargs w fun e w'=>∃cv c',e=.returned cv∧RF (bw.of P fm glob sites) w.heap.size w' c' v cv∧Same w w'∧w.heap.size≤w'.heap.size∧∀b,b<w.heap.size→w'.heap[b]?=w.heap[b]?:=by
 have h:=(Dp hc n).1 f args [] v σ' hrun Fence.wide 0 w _ cargs xw Y2 hg ha;have he:=h.2 hf cargs w;rcases h.1 with⟨_,hin⟩|⟨cv,w',hv,_⟩
 ·rw[un xw]at hin;refine hin.mono fun e w' hx=>?_;obtain⟨cv,rfl,c',s',st,hr⟩:=hx;exact⟨cv,c',rfl,hr,st.same,st.size,fun b hb=>st.frame b hb fun id hl=>absurd (by rfl) hl⟩
 rw[show (bw.of P fm glob sites).fm f=fm f from rfl]at he hv;rw[he]at hv;cases hv
end Go.AM
namespace Go.AM
abbrev ac(n:Int):aa:=.int .i64 n
abbrev atq(n:Int):Int:=IntKind.i64.wrap n
abbrev asY(n:Int):Int:=IntKind.u64.wrap n
end Go.AM
namespace Go.AM.P
abbrev e:=bp.env
abbrev l:=bp.loc
abbrev v:=bp.val
abbrev i(o:F4):aU:=⟨o,none⟩
abbrev g(x:bp)(b:Bool)(o:F4):aU:=⟨o,some (x,b)⟩
end Go.AM.P
namespace Go.AM.P
abbrev E0:=e 0
abbrev E1:=e 1
abbrev E2:=e 2
abbrev E3:=e 3
abbrev E4:=e 4
abbrev E5:=e 5
abbrev E6:=e 6
abbrev E7:=e 7
abbrev E8:=e 8
abbrev E9:=e 9
abbrev gY:=e 10
abbrev lM:=e 11
abbrev mM:=e 12
abbrev jJ:=e 13
abbrev sa:=e 14
abbrev yt:=e 15
abbrev su:=e 16
abbrev uO:=e 17
abbrev By:=e 18
abbrev sE:=e 19
abbrev Jb:=e 20
abbrev Ja:=e 21
abbrev OQ:=e 22
abbrev XM:=e 23
abbrev dQ:=e 24
abbrev dh:=e 25
abbrev cW:=e 26
abbrev dn:=e 27
abbrev jB:=e 28
abbrev jT:=e 29
abbrev kH:=e 30
abbrev mY:=e 31
abbrev rz:=e 32
abbrev sK:=e 33
abbrev rO:=e 34
abbrev qY:=e 35
abbrev L0:=l 0
abbrev L1:=l 1
abbrev L2:=l 2
abbrev L3:=l 3
abbrev L4:=l 4
abbrev L5:=l 5
abbrev L6:=l 6
abbrev L7:=l 7
abbrev L8:=l 8
abbrev L9:=l 9
abbrev iQ:=l 10
abbrev jR:=l 11
abbrev oL:=l 12
abbrev jE:=l 13
abbrev pV:=l 14
abbrev uN:=l 15
abbrev xN:=l 16
abbrev zR:=l 17
abbrev Ra:=l 18
abbrev N7:=l 19
abbrev XU:=l 20
abbrev Dt:=l 21
abbrev eN:=l 22
abbrev eW:=l 23
abbrev kb:=l 24
abbrev kB:=l 25
abbrev mW:=l 26
abbrev lK:=l 27
abbrev nb:=l 28
abbrev mJ:=l 29
abbrev V0:=v (.int .i64 0)
abbrev V1:=v (.int .i64 1)
abbrev Vt:=v (.bool true)
abbrev Vf:=v (.bool false)
abbrev Vn:=v .yz
abbrev ld (x:bp):F4:=.load false 1 x
abbrev lt (x:bp):F4:=.load true 1 x
abbrev n0:aa:=.int .i64 0
abbrev nf:aa:=.bool false
end Go.AM.P
