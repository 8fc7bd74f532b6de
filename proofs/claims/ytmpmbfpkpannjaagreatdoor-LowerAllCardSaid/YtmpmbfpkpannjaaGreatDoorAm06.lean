/- Part of the proof. -/
import Derived.Test.YtmpmbfpkpannjaaGreatDoorAm05
import Derived.Lib.LaidCase
import Derived.KernelRfl
import Derived.Lib.Case
import Derived.Lib.MapU
import Derived.Lib.Bytealg
import Derived.Shelf.SlSortCmp.Kit1
import Derived.Shelf.Sort.Plain
import Derived.Shelf.Strings.CaseAny
import Derived.Laws.Externs
import Derived.Shelf.Strings.OnBuilder
import Derived.Shelf.Slices.In.SortNone
import Derived.Shelf.Pu.Lays
import Derived.Shelf.Pu.ToErrorRange
import Derived.Lib.Strings
import Derived.Lib.Walk
import Derived.Lib.ConvBytes
import Derived.Lib.AtoiAllMem
import Derived.Lib.ParseIntBMem
import Derived.Lib.Hide
import Derived.Laws.Strings3
import Derived.Laws.Closers25
import Derived.Laws.Closers25b
import Derived.WalkKit
import Derived.BigCall
import Derived.BigGuard
import Derived.Test.YtmpmbfpkpannjaaGreatDoorProg
import Derived.Shelf.Strings.RuneCount
import Derived.Shelf.RegionOpenPlain
import Derived.Laws.RangeAny
set_option linter.unusedVariables false
set_option linter.unusedSimpArgs false
set_option linter.unusedSectionVars false
namespace Go.AM
section
variable (M:dm) (P:Program) (cA:Nat→Bool)
def Pm:List (Tmp×db)→Tmp→Option db
 |[],_=>none
 |(u,x)::r,t=>if u==t then some x else Pm r t
def Zf(em:List Tmp)(done:List (Tmp×db))(o:Oper):Option db:=
 if o.guard.isNone then (match Vy o.op with
  |some (.tmp t)=>(match Pm done t with
   |some x=>some x
   |none=>(em.idxOf? t).map .env)
  |some (.const v)=>(Ti v).map .val
  |_=>none) else none
def FP(em:List Tmp):List Oper→List (Tmp×db)→Nat→GF
 |[],_,_=>[]
 |o::r,done,n=>match Zf em done o with
  |some x=>(x,none)::FP em r (match o.dst with|some d=>(d,x)::done|none=>done) n
  |none=>(.loc n,some n)::FP em r (match o.dst with|some d=>(d,.loc n)::done|none=>done) (n+1)
def P0:Nat→GF→Option Nat
 |n,[]=>some n
 |n,(_,none)::r=>P0 n r
 |n,(_,some q)::r=>if q==n then P0 (n+1) r else none
def B7(b:List Nat)(o:Oper):Nat:=o.after.toList.foldr (fun e s=>if Region.binds .any e then (s |||2^e.on) |||b.getD e.on 0 else s) 0
def lc:List Oper→List Nat→List Nat
 |[],acc=>acc
 |o::r,acc=>lc r (acc++[B7 acc o])
def GJ(i:Nat):Nat:=2^i-1
def pm(b:List Nat)(i:Nat):Nat:=b.getD i 0
def ES:List Nat→Bool
 |[]=>true
 |x::r=>!r.contains x&&ES r
def zp(ins:List cr)(chk:List (Nat×Nat))(its:GF):List (Nat×Nat):=
 (List.range its.length).filterMap fun k=>match fM its k with
  |some m=>if lu cA ins chk m then some (k,m) else none
  |none=>none
def afu:Option cr→Bool
 |some ⟨.box _ (.val _),none⟩=>true
 |_=>false
def aeN(ops:List Oper)(ins:List cr)(em:List Tmp)(its:GF)(bef:Nat→Nat)(chk nws:List (Nat×Nat))(d:Nat):Bool:=
 match ops[d]? with
 |none=>false
 |some o=>(match o.op with|.alloc _=>true|_=>false)&&o.guard.isNone&&bef d==0&&(match o.dst,fM its d with
  |some t,some n=>lu cA ins chk n&&afu ins[n]?&&((List.range ops.length).all fun j=>!(bef j).testBit d ||nws.all fun km=>decide (n≤km.2) ||(bef j).testBit km.1) &&
    ((List.range ops.length).all fun j=>j==d ||(Ju ops em its bef j t).isNone ||(bef j).testBit d)
  |_,_=>false)
def EJ(draw:Bool)(ops:List Oper)(ins:List cr)(em:List Tmp)(its:GF)(bef:Nat→Nat)(chk nws:List (Nat×Nat)):Option Nat:=
 if draw then (List.range ops.length).reverse.find? (aeN cA ops ins em its bef chk nws) else none
def Dv(ins:List cr)(chk:List (Nat×Nat))(nws:List (Nat×Nat))(bef:Nat→Nat)(late:Option Nat)(i n:Nat)(I:cr):Bool:=
 if lu cA ins chk n then late==some i ||nws.all fun km=>decide (i≤km.1) ||(bef i).testBit km.1
 else W4 cA I.op==0 ||
  ((nws.any (fun km=>(bef i).testBit km.1) ||nws.all (fun km=>decide (n≤km.2)) ||chk.contains (n,0)) &&
   nws.all fun km=>(bef km.1).testBit i ||nws.any (fun k'=>decide (km.2<k'.2)&&(bef i).testBit k'.1) ||
    (decide (km.2<n)&&nws.all (fun k'=>decide (k'.2≤km.2) ||decide (n≤k'.2))) ||chk.contains (n,km.2+1))
def abd(draw:Bool)(ops:List Oper)(ins:List cr)(em:List Tmp)(its:GF)(bef:Nat→Nat)(chk nws:List (Nat×Nat))(late:Option Nat)(i:Nat)(o:Oper):Bool:=
 match fM its i with
 |none=>RJ ops em its bef i o
 |some n=>match ins[n]? with
  |none=>false
  |some I=>G8 M P (Ju ops em its bef i) o.op I.op&&zQ its bef ops i o.guard I.guard&&FE (sX its i) (.loc n)&&(!draw ||Dv cA ins chk nws bef late i n I)
def vw{α:Type}(f:Nat→α→Bool):Nat→List α→Bool
 |_,[]=>true
 |i,x::r=>f i x&&vw f (i+1) r
def CB(draw:Bool)(ops:List Oper)(ins:List cr)(em:List Tmp)(sT:List (Nat×db))(chk:List (Nat×Nat))(nt:Nat):Bool:=
 let its:=FP em ops [] 0
 let b:=lc ops []
 let bef:=if draw then pm b else GJ
 (its.length==ops.length)&&(ops.all fun o=>match o.dst with|some d=>decide (d<nt)|none=>true)&&ES (ops.filterMap (·.dst)) &&
 (P0 0 its==some ins.length)&&(!draw ||(vw (fun i x=>decide (x<2^i)) 0 b&&b.length==ops.length&&vw (fun i o=>B7 b o==b.getD i 0&&o.after.toList.all fun e=>!Region.binds .any e ||decide (e.on<i)) 0 ops)) &&
 vw (abd M P cA draw ops ins em its bef chk (zp cA ins chk its) (EJ cA draw ops ins em its bef chk (zp cA ins chk its))) 0 ops&&xM ops em its sT&&(draw ||chk.isEmpty) &&
 chk.all (fun nj=>match ins[nj.1]? with|some I=>I.guard.isNone|none=>true)
end
theorem sw{b:Type}{f:Nat→b→Bool}:∀{l:List b} {i:Nat},vw f i l=true→∀j x,l[j]?=some x→f (i+j) x=true
 |[],_,_,j,x,h=>by simp at h
 |y::r,i,h,j,x,a=>by
  simp only[vw,ax]at h;cases j with
  |zero=>simp only[gU,aL]at a;subst a;exact h.1
  |succ j=>
   have:=sw h.2 j x (by simpa using a)
   rwa [show i+1+j=i+(j+1) by omega]at this
theorem xk:∀{l:List Nat},ES l=true→l.Nodup
 |[],_=>List.nodup_nil
 |x::r,h=>by
  simp only[ES,ax,gI,←Bool.not_eq_true,iM]at h;exact List.nodup_cons.2 ⟨h.1,xk h.2⟩
theorem mK{x:db×Option Nat}{r:GF}:fM (x::r) 0=x.2:=by simp[fM]
theorem ji{x:db×Option Nat}{r:GF}{k:Nat}:fM (x::r) (k+1)=fM r k:=by simp[fM]
theorem ER:∀{b:GF} {n m:Nat},P0 n b=some m→n≤m∧(∀k q,fM b k=some q→n≤q∧q<m)∧(∀k i q p,fM b k=some q→fM b i=some p→k<i→q<p)∧∀q,n≤q→q<m→∃k,fM b k=some q∧k<b.length
 |[],n,m,h=>by
  simp only[P0,aL]at h;subst h;exact⟨aF _,fun k q h=>by simp[fM]at h,fun k i q p h=>by simp[fM]at h,fun q f c=>by omega⟩
 |(x,none)::r,n,m,h=>by
  simp only[P0]at h;obtain⟨f,c,j,d⟩:=ER h;refine⟨f,fun k q a=>?_,fun k i q p a hi l=>?_,fun q s o=>?_⟩
  ·cases k with
   |zero=>rw[mK]at a;cases a
   |succ k=>rw[ji]at a;exact c k q a
  ·cases k with
   |zero=>rw[mK]at a;cases a
   |succ k=>cases i with
    |zero=>omega
    |succ i=>rw[ji]at a hi;exact j k i q p a hi (by omega)
  obtain⟨k,k1,k2⟩:=d q s o;exact⟨k+1,by rw[ji];exact k1,by simpa using k2⟩
 |(x,some y)::r,n,m,h=>by
  simp only[P0]at h;split at h
  ·rename_i t;have g:y=n:=by simpa using t
   subst g;obtain⟨f,c,j,d⟩:=ER h;refine⟨by omega,fun k q a=>?_,fun k i q p a hi l=>?_,fun q s o=>?_⟩
   ·cases k with
    |zero=>rw[mK]at a;cases a;omega
    |succ k=>rw[ji]at a;have:=c k q a;omega
   ·cases i with
    |zero=>omega
    |succ i=>
     rw[ji]at hi;cases k with
     |zero=>rw[mK]at a;cases a;have:=c i p hi;omega
     |succ k=>rw[ji]at a;exact j k i q p a hi (by omega)
   by_cases e:q=y
   ·exact⟨0,by rw[mK,e],by simp⟩
   obtain⟨k,k1,k2⟩:=d q (by omega) o;exact⟨k+1,by rw[ji];exact k1,by simpa using k2⟩
  cases h
theorem Dx{cA:Nat→Bool}{c:List cr}{b:List (Nat×Nat)}{a:GF}{k m:Nat}(h:fM a k=some m)(d:lu cA c b m=true):(k,m)∈zp cA c b a:=by
 unfold zp;rw[List.mem_filterMap];refine⟨k,gq.2 ?_,?_⟩
 ·unfold fM at h;cases hq:a[k]? with
  |none=>rw[hq]at h;cases h
  |some _=>exact (ak.1 hq).1
 rw[h];simp[d]
theorem ZP{cA:Nat→Bool}{b:List cr}{a:List (Nat×Nat)}{c:GF}{d:Nat×Nat}(h:d∈zp cA b a c):fM c d.1=some d.2∧lu cA b a d.2=true:=by
 unfold zp at h;rw[List.mem_filterMap]at h;obtain⟨k,_,h⟩:=h;split at h
 ·rename_i m f;split at h
  ·rename_i e;cases h;exact⟨f,e⟩
  cases h
 cases h
theorem PA{b:List Nat}{o:Oper}{k:Nat}(h:(B7 b o).testBit k=true):∃e∈o.after,Region.binds .any e=true∧(k=e.on∨(pm b e.on).testBit k=true):=by
 unfold B7 at h;have key:∀l:List Edge,(l.foldr (fun e s=>if Region.binds .any e then (s |||2^e.on) |||b.getD e.on 0 else s) 0).testBit k=true→∃e∈l,Region.binds .any e=true∧(k=e.on∨(pm b e.on).testBit k=true):=by
  intro l;induction l with
  |nil=>intro h;simp at h
  |cons e l g=>
   intro h;simp only[List.foldr_cons]at h;split at h
   ·rename_i f;simp only[Nat.testBit_or,dL,Nat.testBit_two_pow,cd]at h;rcases h with (h|h)|h
    ·obtain⟨d,a,c⟩:=g h;exact⟨d,cf _ a,c⟩
    ·exact⟨e,dH,f,.inl h.symm⟩
    exact⟨e,dH,f,.inr h⟩
   obtain⟨d,a,c⟩:=g h;exact⟨d,cf _ a,c⟩
 obtain⟨e,a,c⟩:=key _ h;exact⟨e,by simpa using a,c⟩
theorem RQ{x i k:Nat}(h:x<2^i)(b:x.testBit k=true):k<i:=by
 by_cases a:k<i
 ·exact a
 have:x<2^k:=bu h (Nat.pow_le_pow_right (by omega) (by omega));rw[Nat.testBit_lt_two_pow this]at b;cases b
theorem FY{M:dm}{P:Program}{cA:Nat→Bool}{f:Bool}{c:Array Oper}{g:List cr}{em:List Tmp}{sT:List (Nat×db)}{l:List (Nat×Nat)}{nt:Nat}(h:CB M P cA f c.toList g em sT l nt=true) :
  xQ M P cA c g em (FP em c.toList [] 0) (if f then pm (lc c.toList []) else GJ) l (EJ cA f c.toList g em (FP em c.toList [] 0) (if f then pm (lc c.toList []) else GJ) l (zp cA g l (FP em c.toList [] 0))) nt∧xM c.toList em (FP em c.toList [] 0) sT=true∧(f=true→Ul c (pm (lc c.toList [])))∧(f=false→l=[]):=by
 unfold CB at h;dsimp only at h;simp only[ax,aX]at h;obtain⟨⟨⟨⟨⟨⟨⟨⟨h1,h2⟩,h3⟩,h4⟩,h5⟩,h6⟩,h7⟩,h8⟩,h9⟩:=h;generalize a0:FP em c.toList [] 0=s at *;obtain⟨n1,n2,n3,n4⟩:=ER h4;have w:∀(i:Nat) (o:Oper),c[i]?=some o→c.toList[i]?=some o:=fun i o D=>by simpa using D
 have N:f=true→vw (fun i x=>decide (x<2^i)) 0 (lc c.toList [])=true∧(lc c.toList []).length=c.size∧vw (fun i o=>B7 (lc c.toList []) o==(lc c.toList []).getD i 0&&o.after.toList.all fun e=>!Region.binds .any e ||decide (e.on<i)) 0 c.toList=true:=fun hd=>by
  subst hd;simp only[rv,jO,ax,aX]at h5;exact⟨h5.1.1,by simpa using h5.1.2,h5.2⟩
 have aj:∀i k,((if f then pm (lc c.toList []) else GJ) i).testBit k=true→k<i:=fun i k p=>by
  cases f with
  |false=>
   have q:(2^i-1).testBit k=true:=p;rw[eK]at q;simpa using q
  |true=>
   have q:((lc c.toList []).getD i 0).testBit k=true:=p;obtain⟨a1,a2,_⟩:=N rfl;by_cases hi:i<(lc c.toList []).length
   ·have:=sw a1 i ((lc c.toList [])[i]) (by simp);simp only[cE,cd]at this;rw[aR,au hi]at q;exact RQ this q
   rw[aR,fU (by omega)]at q;simp at q
 refine⟨⟨by rw[h1];simp,fun i o d D hd=>?_,fun i k S ok d hi p J H=>?_,aj,fun k i n m p hi r=>n3 k i n m p hi r,fun n u=>?_,fun k n p=>(n2 k n p).2,fun i o D=>?_,fun d hd=>?_,fun n j I Y hI=>?_⟩,h7,fun hd=>?_,fun hd=>?_⟩
 ·have:=aY.1 h2 o (by rw[List.mem_iff_getElem?];exact⟨i,w i o D⟩);rw[hd]at this;simpa using this
 ·have ag:=xk h3;have hp:=List.pairwise_filterMap.1 ag;have ah:=mL.1 hp;have key:∀(i k:Nat) (S ok:Oper),c[i]?=some S→c[k]?=some ok→S.dst=some d→ok.dst=some d→¬i<k:=fun i k S ok hi p J H r=>by
   obtain⟨i1,i2⟩:=ak.1 (w i S hi);obtain⟨k1,k2⟩:=ak.1 (w k ok p);have:=ah i k i1 k1 r d (by rw[i2];exact J) d (by rw[k2];exact H);exact this rfl
  have a:=key i k S ok hi p J H;have b:=key k i ok S p hi H J;omega
 ·obtain⟨k,k1,k2⟩:=n4 n (cK _) u;exact⟨k,k1,by rw[h1]at k2;simpa using k2⟩
 ·have hit:=sw h6 i o (w i o D);simp only[cE]at hit;unfold abd at hit;split at hit
  ·rename_i u;exact .inl ⟨u,hit⟩
  rename_i n u;split at hit
  ·cases hit
  rename_i I hI;simp only[ax,dL,gI]at hit;obtain⟨⟨⟨i1,i2⟩,i3⟩,i4⟩:=hit;refine .inr ⟨n,I,u,hI,wi i3,i1,i2,?_,?_⟩
  ·intro E O k m p Y hw;cases f with
   |false=>
    show (2^i-1).testBit k=true;rw[eK];simpa using p
   |true=>
    have F:Dv cA g l (zp cA g l s) (pm (lc c.toList [])) (EJ cA true c.toList g em s (pm (lc c.toList [])) l (zp cA g l s)) i n I=true:=by simpa using i4
    unfold Dv at F;rw[if_pos E]at F;simp only[dL,aX]at F;have:=aY.1 (F.resolve_left O) (k,m) (Dx Y hw);simp only[dL,cd]at this;rcases this with h|h
    ·omega
    exact h
  intro E;cases f with
  |false=>
   right;refine⟨?_,fun k m p hw=>?_⟩
   ·by_cases y:∃k m,fM s k=some m∧lu cA g l m=true∧m<n
    ·obtain⟨k,m,v,C,L⟩:=y;refine .inl ⟨k,m,v,C,?_⟩;have r:k<i:=by
      rcases gh k i with h|h|h
      ·exact h
      ·subst h;rw[v]at u;cases u;omega
      have:=n3 i k n m u v h;omega
     show (2^i-1).testBit k=true;rw[eK];simpa using r
    exact .inr (.inl fun k m v C L=>y ⟨k,m,v,C,L⟩)
   rcases gh k i with h|h|h
   ·
    have ae:=n3 k i m n p u h;by_cases y:∃B A,fM s B=some A∧lu cA g l A=true∧m<A∧A < n
    ·obtain⟨B,A,v,C,L,e4⟩:=y;refine .inr (.inl ⟨B,A,v,C,L,?_⟩);have r:B < i:=by
      rcases gh B i with h|h|h
      ·exact h
      ·subst h;rw[v]at u;cases u;omega
      have:=n3 i B n A u v h;omega
     show (2^i-1).testBit B=true;rw[eK];simpa using r
    exact .inr (.inr (.inl ⟨ae,fun B A v C L e4=>y ⟨B,A,v,C,L,e4⟩⟩))
   ·subst h;rw[p]at u;cases u;rw[hw]at E;cases E
   left;show (2^k-1).testBit i=true;rw[eK];simpa using h
  |true=>
   have F:Dv cA g l (zp cA g l s) (pm (lc c.toList [])) (EJ cA true c.toList g em s (pm (lc c.toList [])) l (zp cA g l s)) i n I=true:=by simpa using i4
   unfold Dv at F;rw[if_neg (by rw[E];simp)]at F;simp only[dL,ax,aX]at F;rcases F with h|⟨U,K⟩
   ·exact .inl h
   right;refine⟨?_,fun k m p hw=>?_⟩
   ·rcases U with (U|U)|U
    ·obtain⟨X,V,R⟩:=cB.1 U;obtain⟨Z,Q⟩:=ZP V;exact .inl ⟨X.1,X.2,Z,Q,R⟩
    ·refine .inr (.inl fun k m v C L=>?_);have:=aY.1 U (k,m) (Dx v C);simp only[cd]at this;omega
    exact .inr (.inr (iM.1 U))
   have:=aY.1 K (k,m) (Dx p hw);simp only[dL,ax,cd]at this;rcases this with ((h|h)|h)|h
   ·exact .inl h
   ·obtain⟨X,V,R⟩:=cB.1 h;simp only[ax,cd]at R;obtain⟨Z,Q⟩:=ZP V;exact .inr (.inl ⟨X.1,X.2,Z,Q,R.1,R.2⟩)
   ·refine .inr (.inr (.inl ⟨h.1,fun B A v C L e4=>?_⟩));have:=aY.1 h.2 (B,A) (Dx v C);simp only[dL,cd]at this;omega
   exact .inr (.inr (.inr (iM.1 h)))
 ·
  cases f with
  |false=>simp[EJ]at hd
  |true=>
   simp only[EJ,cw]at hd;have K:=List.find?_some hd;unfold aeN at K;split at K
   ·cases K
   rename_i o D;have af:c[d]?=some o:=by simpa using D
   simp only[ax,jo,aX]at K;obtain⟨⟨⟨V,R⟩,b3⟩,b4⟩:=K;refine⟨b3,?_⟩;split at b4
   ·rename_i t n ht u;simp only[ax]at b4;obtain⟨⟨⟨Z,Q⟩,c3⟩,c4⟩:=b4;split at V
    ·rename_i T hT;have ab:∃W z,g[n]?=some ⟨.box W (.val z),none⟩:=by
      unfold afu at Q;split at Q
      ·rename_i W z p;exact⟨W,z,p⟩
      cases Q
     obtain⟨W,z,p⟩:=ab;have av:(lc c.toList []).length=c.size:=(N rfl).2.1;refine⟨o,T,t,n,W,z,af,hT,R,ht,u,p,Z,fun j hj k m ad Y r=>?_,fun j ao al ar=>?_⟩
     ·have an:j<c.size:=by
       rcases Nat.lt_or_ge j c.size with h|h
       ·exact h
       have G:((lc c.toList []).getD j 0).testBit d=true:=hj;rw[aR,fU (by omega)]at G;simp at G
      have:=aY.1 c3 j (gq.2 (by simpa using an));have G:(pm (lc c.toList []) j).testBit d=true:=hj;simp only[G,rv,jO]at this;have:=aY.1 this (k,m) (Dx ad Y);simp only[dL,cd]at this;rcases this with h|h
      ·omega
      exact h
     have:=aY.1 c4 j (gq.2 (by simpa using ao));simp only[dL,aX,jo]at this;rcases this with (h|h)|h
     ·exact absurd h al
     ·exact absurd h ar
     exact h
    cases V
   cases b4
 ·have:=aY.1 h9 (n,j) Y;simp only[hI]at this;simpa using this
 ·obtain⟨_,a2,a3⟩:=N hd;refine⟨fun i o D e he K=>?_,fun i o D k p=>?_⟩
  ·have:=sw a3 i o (w i o D);simp only[cE,ax]at this;have:=aY.1 this.2 e (by simpa using he);simpa [K] using this
  have:=sw a3 i o (w i o D);simp only[cE,ax,aX]at this;have q:((lc c.toList []).getD i 0).testBit k=true:=p;rw[←this.1]at q;exact PA q
 subst hd;simpa using h8
end Go.AM
namespace Go.AM
open Go.Lib
theorem VU:0<caseA.size:=bu (show 0<1 by omega) (oe (by kernel_rfl))
structure Mb (g13 g3 g4 gE:Nat) (w:World) (s:Nat→Prop):Prop where
 case:∃R oR cap,w.cell? ⟨g13,0,none⟩=some (.slice (some ⟨R,oR,none⟩) caseA.size cap)∧CaseTab R oR caseA w∧s g13∧s R
 utf:Utf8Tabs g3 g4 w
 s3:s g3
 s4:s g4
 err:∃te pe,w.cell? ⟨gE,0,none⟩=some (.iface te pe)
 sE:s gE
theorem Mb.ext{a f l g:Nat}{w w':World}{s s':Nat→Prop}(h:Mb a f l g w s)(d:∀b,s b→s' b)(u:∀b,s b→w'.heap[b]?=w.heap[b]?):Mb a f l g w' s':=by
 obtain⟨⟨R,r,cap,t,A,p,j⟩,⟨x,z⟩,n,e,⟨C,v,B⟩,m⟩:=h;have k:∀b,s b→∀o,w'.cell? ⟨b,o,none⟩=w.cell? ⟨b,o,none⟩:=fun b y o=>qR (u b y) o;refine⟨⟨R,r,cap,by rw[k _ p];exact t,fun i hi=>?_,d _ p,d _ j⟩,⟨fun c q=>by rw[k _ n];exact x c q,fun i hi=>?_⟩,d _ n,d _ e,⟨C,v,by rw[k _ m];exact B⟩,d _ m⟩
 ·have:=A i hi;simp only[k _ j];exact this
 rw[k _ e,k _ e];exact z i hi
def GU(P:Program)(w:World)(s:Nat→Prop):Prop:=
 ∀ g13 g3 g4 gE,P.globalNamed "unicode.CaseRanges" = some g13→P.globalNamed "unicode/utf8.first" = some g3→P.globalNamed "unicode/utf8.acceptRanges" = some g4→P.globalNamed "strconv.ErrRange" = some gE→Mb g13 g3 g4 gE w s
theorem Qe{P:Program}{w w':World}{s s':Nat→Prop}(h:GU P w s)(i:∀b,s b→s' b)(g:∀b,s b→w'.heap[b]?=w.heap[b]?):GU P w' s':=
 fun a b c d f k j e=>(h a b c d f k j e).ext i g
end Go.AM
namespace Go.AM
def Zd:Go.Code→List Go.Code
 |.seq a b=>[a,b]
 |.cond _ a b=>[a,b]
 |.block _ a=>[a]
 |.loop a=>[a]
 |.scope a=>[a]
 |.rangeFunc _ _ a b=>[a,b]
 |_=>[]
def rn:List Nat→Go.Code→Option Go.Code
 |[],c=>some c
 |i::r,c=>((Zd c)[i]?).bind (rn r)
theorem FC{i:Nat}:∀{p:List Nat} {c:Go.Code},rn (p++[i]) c=(rn p c).bind fun d=>(Zd d)[i]?
 |[],c=>by
  simp only[bT,rn,cH];cases (Zd c)[i]?<;>rfl
 |j::p,c=>by
  simp only[bX,rn];cases (Zd c)[j]? with
  |none=>rfl
  |some d=>exact FC
def vo:az→az
 |.lift _ _ _ x=>vo x
 |x=>x
structure ui where
 f:Nat
 path:List Nat
 em:List Tmp
def dm.of(P:Program)(fm:Nat→FuncId)(glob:Nat→Option aq)(sites:Nat→Option ui):dm where
 fm:=fm
 glob:=glob
 tabs:=GU P
 tabs_ext:=fun _ _ _ _ h=>Qe h
 site:=fun s rec em=>∃d fn code g,sites s=some d∧P.funcs[fm d.f]?=some fn∧fn.body=some code∧rn d.path code=some (.rangeFunc g rec.params rec.assign rec.body)∧em=d.em∧fn.ntmps≤rec.tmps.size
section
variable (M:dm) (P:Program) (cA:Nat→Bool) (em:List Tmp) (nt:Nat) (top:Bool) (siteB:Nat→List Nat→Bool)
def eQ:Go.Code→List Nat→az→Bool
 |.region _ ops draw,_,x=>(match x with
  |.reg ins os=>CB M P cA draw ops.toList ins em os [] nt
  |.regd ins os chk=>draw&&CB M P cA draw ops.toList ins em os chk nt
  |_=>false)
 |.seq a b,path,x=>if Fh b then eQ a (path++[0]) (vo x) else if Fh a then eQ b (path++[1]) (vo x) else (match x with
  |.seq y z=>eQ a (path++[0]) (vo y)&&eQ b (path++[1]) (vo z)
  |_=>false)
 |.cond t a b,path,x=>(match x with
  |.cond t' y z=>lZ M (yu em) t t'&&eQ a (path++[0]) (vo y)&&eQ b (path++[1]) (vo z)
  |_=>false)
 |.block id a,path,x=>(match x with
  |.blk id' y=>id==id'&&eQ a (path++[0]) (vo y)
  |_=>false)
 |.loop a,path,x=>(match x with
  |.loop _ y=>eQ a (path++[0]) (vo y)
  |_=>false)
 |.scope a,path,x=>(match x with
  |.scope y=>eQ a (path++[0]) (vo y)
  |_=>false)
 |.rangeFunc g _ _ _,path,x=>(match x with
  |.rng n f site=>top&&lZ M (yu em) g f&&ES em&&em.all (fun t=>decide (t<nt))&&n==em.length&&siteB site path
  |_=>false)
 |.exit id,_,x=>(match x with
  |.exit id'=>id==id'
  |_=>false)
 |.ret,_,x=>(match x with
  |.ret=>true
  |_=>false)
 |c,_,x=>(match x with
  |.skip=>Fh c
  |_=>false)
end
theorem lz{M:dm}{P:Program}{cA:Nat→Bool}{em:List Tmp}{nt:Nat}{top:Bool}{c:Go.Code}:∀{x:az},gl M P cA em nt top c (vo x)→gl M P cA em nt top c x
 |.lift _ _ _ x,h=>.lift (lz (x:=x) h)
 |.skip,h=>h
 |.reg ..,h=>h
 |.regd ..,h=>h
 |.seq ..,h=>h
 |.cond ..,h=>h
 |.blk ..,h=>h
 |.loop ..,h=>h
 |.exit _,h=>h
 |.ret,h=>h
 |.rng ..,h=>h
 |.scope _,h=>h
theorem wN{M:dm}{P:Program}{cA:Nat→Bool}{em:List Tmp}{nt:Nat}{top:Bool}{siteB:Nat→List Nat→Bool}{root:Go.Code}
  (s:∀p f g B assign body,siteB p f=true→rn f root=some (.rangeFunc g B assign body)→∀fn tmps defers,nt≤tmps.size→M.site p ⟨fn,tmps,B,assign,body,defers⟩ em) :
  ∀(c:Go.Code) (f:List Nat) (x:az),rn f root=some c→eQ M P cA em nt top siteB c f x=true→gl M P cA em nt top c x:=by
 have l:∀{f:List Nat} {c d:Go.Code} {i:Nat},rn f root=some c→(Zd c)[i]?=some d→rn (f++[i]) root=some d:=fun o q=>by
  rw[FC,o];exact q
 have v:∀c:Go.Code,(∀(f:List Nat) (x:az),rn f root=some c→eQ M P cA em nt top siteB c f x=true→gl M P cA em nt top c x) ∧
   ∀r j,c=.seq r j→∀(f:List Nat) (x:az),rn f root=some j→eQ M P cA em nt top siteB j f x=true→gl M P cA em nt top j x:=by
  intro c;induction c with
  |region id D u=>
  refine⟨?_,fun r j e=>by cases e⟩;intro f x k h;simp only[eQ]at h;split at h
  ·obtain⟨o,q,y,A⟩:=FY h;cases u with
   |false=>exact .text o q
   |true=>exact .any o (y rfl) q
  ·simp only[ax]at h;obtain⟨hd,h⟩:=h;subst hd;obtain⟨o,q,y,A⟩:=FY h;exact .anyd o (y rfl) q
  ·cases h
  |seq a b n m=>
  refine⟨?_,fun r j e=>by cases e;exact m.1⟩;intro f x k h;simp only[eQ]at h;split at h
  ·rename_i z;exact .left z (lz (n.1 _ _ (l k rfl) h))
  ·split at h
   ·rename_i z;exact .right z (lz (m.1 _ _ (l k rfl) h))
   split at h
   ·simp only[ax]at h;exact .seq (lz (n.1 _ _ (l k rfl) h.1)) (lz (m.1 _ _ (l k rfl) h.2))
   cases h
  |cond t a b n m=>
  refine⟨?_,fun r j e=>by cases e⟩;intro f x k h;simp only[eQ]at h;split at h
  ·simp only[ax]at h;exact .cond h.1.1 (lz (n.1 _ _ (l k rfl) h.1.2)) (lz (m.1 _ _ (l k rfl) h.2))
  ·cases h
  |block id a w=>
  refine⟨?_,fun r j e=>by cases e⟩;intro f x k h;simp only[eQ]at h;split at h
  ·simp only[ax,aX]at h;rw[h.1];exact .blk (lz (w.1 _ _ (l k rfl) h.2))
  ·cases h
  |loop a w=>
  refine⟨?_,fun r j e=>by cases e⟩;intro f x k h;rw[eQ.eq_def]at h;dsimp only at h;split at h
  ·exact .loop (lz (w.1 _ _ (l k rfl) h))
  ·cases h
  |scope a w=>
  refine⟨?_,fun r j e=>by cases e⟩;intro f x k h;simp only[eQ]at h;split at h
  ·exact .scope (lz (w.1 _ _ (l k rfl) h))
  ·cases h
  |rangeFunc g B assign body=>
  refine⟨?_,fun r j e=>by cases e⟩;intro f x k h;simp only[eQ]at h;split at h
  ·simp only[ax,aX]at h;obtain⟨⟨⟨⟨⟨o,q⟩,y⟩,A⟩,F⟩,C⟩:=h;exact .rng o q (xk y) (fun t E=>by simpa using aY.1 A t E) F (s _ _ _ _ _ _ C k)
  ·cases h
  |exit id=>
  refine⟨?_,fun r j e=>by cases e⟩;intro f x k h;simp only[eQ]at h;split at h
  ·rw[aX]at h;rw[h];exact .exit
  ·cases h
  |ret=>
  refine⟨?_,fun r j e=>by cases e⟩;intro f x k h;simp only[eQ]at h;split at h
  ·exact .ret
  ·cases h
  |skip=>
  refine⟨?_,fun r j e=>by cases e⟩;intro f x k h;simp only[eQ]at h;split at h
  ·exact .nop h
  ·cases h
  |_=>
  refine⟨?_,fun r j e=>by cases e⟩;intro f x k h;simp only[eQ]at h;split at h
  ·exact .nop h
  cases h
 exact fun c=>(v c).1
def xD:List Nat→List Nat→Bool
 |[],[]=>true
 |a::x,b::y=>a==b&&xD x y
 |_,_=>false
theorem ws:∀{a b:List Nat},xD a b=true→a=b
 |[],[],_=>rfl
 |[],_::_,h=>by simp[xD]at h
 |_::_,[],h=>by simp[xD]at h
 |a::x,b::y,h=>by
  simp only[xD,ax,aX]at h;rw[h.1,ws h.2]
def abP(sites:Nat→Option ui)(f:Nat)(em:List Tmp)(s:Nat)(path:List Nat):Bool:=match sites s with
 |some d=>d.f==f&&xD d.path path&&xD d.em em
 |none=>false
section
variable (P:Program) (fm:Nat→FuncId) (glob:Nat→Option aq) (sites:Nat→Option ui) (cA:Nat→Bool)
def Gk(f:Nat)(em:List Tmp)(g:br):Bool:=match P.funcs[fm f]? with
 | some fn=>!(fn.name == "runtime.NumGoroutine")&&(match fn.body with
  |some code=>eQ (dm.of P fm glob sites) P cA em fn.ntmps true (abP sites f em) code [] (vo g.body)
  |none=>false)&&xD (em.take g.np) (List.range g.np)&&decide (g.np≤em.length)&&g.res.length==fn.results.toList.length&&((g.res.zip fn.results.toList).all fun p=>JP P em p.1 p.2)&&g.mode.ok
 |none=>false
def DR(s:Nat)(g:yO):Bool:=match sites s with
 |some d=>(match P.funcs[fm d.f]? with
  |some fn=>(match fn.body with
   |some code=>(match rn d.path code with
    |some (.rangeFunc _ ps assign body)=>g.nenv==d.em.length&&eQ (dm.of P fm glob sites) P cA d.em fn.ntmps false (fun _ _=>false) assign [] (vo g.pre)&&xD (g.params.map fun i=>d.em.getD i 0) ps.toList&&(g.params.all fun i=>decide (i<d.em.length))&&ES d.em &&
      eQ (dm.of P fm glob sites) P cA d.em fn.ntmps false (fun _ _=>false) body [] (vo g.body)
    |_=>false)
   |none=>false)
  |none=>false)
 |none=>false
end
theorem HK{P:Program}{fm:Nat→FuncId}{glob:Nat→Option aq}{sites:Nat→Option ui}{cA:Nat→Bool}{f:Nat}{em:List Tmp}{g:br}(h:Gk P fm glob sites cA f em g=true) :
  adj (dm.of P fm glob sites) P cA f g:=by
 unfold Gk at h;split at h
 ·rename_i fn b;simp only[ax,gI,aX,cd]at h;obtain⟨⟨⟨⟨⟨⟨o,e⟩,t⟩,n⟩,u⟩,l⟩,s⟩:=h;split at e
  ·rename_i code i;refine⟨fn,code,em,b,o,i,?_,ws t,n,u,l,s⟩;refine lz (wN (root:=code) (fun j k g w assign body a v q tmps defers c=>?_) code [] _ rfl e);unfold abP at a;split at a
   ·rename_i d hd;simp only[ax,aX]at a;obtain⟨⟨m,p⟩,r⟩:=a;refine⟨d,fn,code,g,hd,by rw[m];exact b,i,by rw[ws p];exact v,(ws r).symm,c⟩
   cases a
  cases e
 cases h
theorem MH{P:Program}{fm:Nat→FuncId}{glob:Nat→Option aq}{sites:Nat→Option ui}{cA:Nat→Bool}{s:Nat}{g:yO}(h:DR P fm glob sites cA s g=true){a:mi}{em:List Tmp}(c:(dm.of P fm glob sites).site s a em) :
  B9 (dm.of P fm glob sites) P cA g a em:=by
 obtain⟨d,fn,code,q,m,n,k,l,rfl,j⟩:=c;unfold DR at h;rw[m]at h;simp only[n,k,l,ax,aX]at h;obtain⟨⟨⟨⟨⟨k1,k2⟩,k3⟩,k4⟩,k5⟩,k6⟩:=h;refine⟨fn.ntmps,k1,j,lz (wN (root:=a.assign) (fun b e g o assign body c=>by cases c) _ [] _ rfl k2),?_,xk k5,?_⟩
 ·rw[←ws k3,bY];refine aW fun i hi=>?_;have f:i<d.em.length:=by simpa using aY.1 k4 i hi
  simp[f]
 exact lz (wN (root:=a.body) (fun b e g o assign body c=>by cases c) _ [] _ rfl k6)
end Go.AM
namespace Go.AM
def lR(le:aq→aq→Bool)(x:aq):List aq→List aq
 |[]=>[x]
 |y::r=>if le x y then x::y::r else y::lR le x r
def nN(le:aq→aq→Bool):List aq→List aq
 |[]=>[]
 |x::r=>lR le x (nN le r)
theorem wS{le:aq→aq→Bool}{x z:aq}:∀{l:List aq},z∈lR le x l↔z=x∨z∈l
 |[]=>by simp[lR]
 |y::r=>by
  simp only[lR];split
  ·simp
  simp only[dY,wS (l:=r)];constructor
  ·rintro (h|h|h)<;>simp[h]
  rintro (h|h|h)<;>simp[h]
theorem ut{le:aq→aq→Bool}{z:aq}:∀{l:List aq},z∈nN le l↔z∈l
 |[]=>by simp[nN]
 |x::r=>by simp[nN,wS,ut (l:=r)]
def NK:List aq→Option (List Int)
 |[]=>some []
 |.int .i64 n::r=>(NK r).map (n::·)
 |_=>none
def si:aq→aq→Bool
 |.int _ a,.int _ b=>decide (a≤b)
 |_,_=>true
def yF(args:List aq)(σ:aw):Option (aq×aw):=
 match args with
 |[.ai]=>some (.any,σ)
 |[.sl id ep off n]=>match σ[id]? with
  |some (.arr k e es)=>
   if e=ep∧off+n≤es.length∧n≤bC∧(NK ((es.drop off).take n)).isSome then
    some (.any,σ.set id (.arr k e (es.take off++nN si ((es.drop off).take n)++es.drop (off+n))))
   else none
  |_=>none
 |_=>none
def W8(args:List aq)(σ:aw):Option (aq×aw):=
 match args with
 |[.int .u64 x,.int .u64 y,.int .u64 c]=>
  if 0≤x∧x<18446744073709551616∧0≤y∧y<18446744073709551616∧0≤c∧c≤1 then
   some (.tup [.int .u64 ((x+y+c)%18446744073709551616),.int .u64 ((x+y+c)/18446744073709551616)],σ)
  else none
 |_=>none
def zD(args:List aq)(σ:aw):Option (aq×aw):=
 match args with
 |[.str s]=>if s.length<35184372088832 then some (.str (if s.all (fun b=>decide (b.toNat < 128))=true then Lib.toUpperA s else Lib.toUpperD s),σ) else none
 |_=>none
def ET(args:List aq)(σ:aw):Option (aq×aw):=
 match args with
 |[.str a,.str b]=>some (.int .i64 (if Op.bytesLess a b then -1 else if a==b then 0 else 1),σ)
 |_=>none
def indexByte(args:List aq)(σ:aw):Option (aq×aw):=
 match args with
 |[.str s,.int .u8 c]=>some (.int .i64 (Lib.indexByte s c.toNat.toUInt8),σ)
 |_=>none
def Cs(acc:Nat):List UInt8→Option Nat
 |[]=>some acc
 |c::r=>if 1844674407370955162≤acc then none else if 9223372036854775807<acc*10+(c.toNat - 48) then none else Cs (acc*10+(c.toNat - 48)) r
def wE(args:List aq)(σ:aw):Option (aq×aw):=
 match args with
 |[.str (b::s)]=>if (b::s).length≤8000 then
   (if (b::s).all (fun c=>decide (48≤c.toNat)&&decide (c.toNat≤57))=true then
    (match Cs 0 (b::s) with
    |some n=>some (.tup [.int .u64 n,.bool (s==[] || !(b==48))],σ)
    |none=>some (.tup [.int .u64 9223372036854775807,.bool false],σ))
   else some (.tup [.int .u64 0,.bool false],σ)) else none
 |_=>none
def prims:Nat→ahG
 |0=>fun _=>W8
 |2=>fun _=>yF
 |3=>fun _=>ET
 |4=>fun _=>zD
 |6=>fun _=>indexByte
 |8=>fun _=>wE
 |_=>fun _ _ _=>none
theorem SG(k:Nat)(C D:ir)(args:List aq)(σ:aw)(r:aq×aw)(h:WM C D)(a:prims k C args σ=some r):prims k D args σ=some r:=by
 unfold prims at a ⊢;split at a
 ·exact a
 ·exact a
 ·exact a
 ·exact a
 ·exact a
 ·exact a
 cases a
end Go.AM
namespace Go.AM
open Go.Proofs Go.Sort Go.Shelf
variable {M:dm} {P:Program} {w w':World} {c c1:dk} {σ τ:aw}
theorem aeu{F:Fence}(h:u6 F):∃r,F={ Fence.wide with round:=r }:=by
 obtain⟨fn,a,b,round⟩:=F;obtain⟨c,e,d⟩:=h;dsimp only at c e d;subst e d;have:fn=fun _=>True:=funext fun f=>propext ⟨fun _=>trivial,fun _=>c f⟩;subst this;exact⟨round,rfl⟩
theorem xC{F:Fence}(h:u6 F){n:Nat}{f:FuncId}{args:Array Value}{R:Ending→World→Prop}:CallsIn F n P f args w R↔Calls P f args w R:=by
 obtain⟨r,rfl⟩:=aeu h;exact callsIn_wide (n:=n)
theorem JH:u6 Fence.wide:=⟨fun _=>trivial,rfl,rfl⟩
theorem AX{le:aq→aq→Bool}{x:aq}:∀{l:List aq},(lR le x l).Perm (x::l)
 |[]=>.refl _
 |y::r=>by
  simp only[lR];split
  ·exact .refl _
  exact (List.Perm.cons y AX).trans (List.Perm.swap x y r)
theorem EV{le:aq→aq→Bool}:∀{l:List aq},(nN le l).Perm l
 |[]=>.refl _
 |x::r=>AX.trans (List.Perm.cons x EV)
theorem xZ{le:aq→aq→Bool}{x:aq}:∀{l:List aq},(∀y∈l,le x y=true∨le y x=true)→(∀y∈l,∀z∈l,le x y=true→le y z=true→le x z=true)→l.Pairwise (fun a b=>le a b=true)→(lR le x l).Pairwise (fun a b=>le a b=true)
 |[],_,_,_=>by simp[lR]
 |y::r,f,e,h=>by
  simp only[lR];obtain⟨g,k⟩:=mW.1 h;split
  ·rename_i d;refine mW.2 ⟨fun z c=>?_,h⟩;rcases dY.1 c with rfl|c
   ·exact d
   exact e y dH z (cf _ c) d (g z c)
  rename_i d;refine mW.2 ⟨fun z c=>?_,xZ (fun z c=>f z (cf _ c)) (fun a i b j=>e a (cf _ i) b (cf _ j)) k⟩;rcases wS.1 c with rfl|c
  ·exact (f y dH).resolve_left d
  exact g z c
theorem AS{le:aq→aq→Bool}:∀{l:List aq},(∀x∈l,∀y∈l,le x y=true∨le y x=true)→(∀x∈l,∀y∈l,∀z∈l,le x y=true→le y z=true→le x z=true)→(nN le l).Pairwise (fun a b=>le a b=true)
 |[],_,_=>List.Pairwise.nil
 |x::r,h,d=>by
  refine xZ (fun y e=>h x dH y (cf _ (ut.1 e))) (fun y e z j=>d x dH y (cf _ (ut.1 e)) z (cf _ (ut.1 j))) ?_;exact AS (fun a f b g=>h a (cf _ f) b (cf _ g)) fun a f b g c i=>d a (cf _ f) b (cf _ g) c (cf _ i)
theorem aaR(Q:fd M w c σ){id e blk off n:Nat}{es mid':List aq}(U:σ[id]?=some (.arr 1 e es))(V:c.place id=some blk){cs cs':Array Value}{T:TypeId}{E:Nat→Nat→Value}(C:w.heap[blk]?=some (.cells cs T (0,0)))
  (O:es.length*1≤cs.size) (t:c.room id=cs.size) (hF:∀i j,i<es.length→j<1→cs[i*1+j]?=some (E i j)∧(E i j).oneCell'=true) (hR:∀i (hi:i<es.length) j (r:j<(cellsOf es[i]).length),R M w c (cellsOf es[i])[j] (E i j))
  (o:∀x∈es,aM x=1) (S:off+n≤es.length) (A:mid'.length=n) (f:∀x∈mid',aM x=1∧isAgg x=false) (g:Nat→Value) (W:∀i,i<n→(g i).oneCell'=true) (H:∀i (h:i<mid'.length),R M w c mid'[i] (g i))
  (hw:w'.heap[blk]?=some (.cells cs' T (0,0))) (L:cs'.size=cs.size) (I:∀k,cs'[k]?=if off≤k∧k<off+n then some (g (k-off)) else cs[k]?) (d:∀b,b<w.heap.size→b≠blk→w'.heap[b]?=w.heap[b]?) (B:w.heap.size≤w'.heap.size) (q:Same w w') :
  fd M w' c (σ.set id (.arr 1 e (es.take off++mid'++es.drop (off+n))))∧iR c w c w':=by
 have v:c.H id≠.dead:=by rw[Q.H,fe U];simp
 have G:blk<w.heap.size:=(bE.1 C).1;have a:uW w { w with heap:=w.heap.setIfInBounds blk (.cells cs' T (0,0)) } blk (.cells cs' T (0,0)):=⟨⟨rfl,rfl,rfl,aF _⟩,rfl⟩;have p:(es.take off++mid'++es.drop (off+n)).length=es.length:=by simp[A];omega
 have K:∀i (hi:i<(es.take off++mid'++es.drop (off+n)).length),(off≤i∧i<off+n∧∃h:i-off<mid'.length,(es.take off++mid'++es.drop (off+n))[i]=mid'[i-off]) ∨
   (¬(off≤i∧i<off+n)∧∃h:i<es.length,(es.take off++mid'++es.drop (off+n))[i]=es[i]):=fun i hi=>by
  by_cases z:i<off
  ·right;refine⟨by omega,by omega,?_⟩;rw[cq (by simp[A];omega),cq (by simp;omega)];simp
  by_cases y:i<off+n
  ·left;refine⟨by omega,y,by omega,?_⟩;rw[cq (by simp[A];omega),cP (by simp;omega)];congr 1;simp;omega
  right;refine⟨by omega,by omega,?_⟩;rw[cP (by simp[A];omega)];simp only[eG];congr 1;simp[A];omega
 obtain⟨Z,P⟩:=Q.setRow (es':=es.take off++mid'++es.drop (off+n)) U V C a L t (by simp) (fun x l=>by
   rcases ba.1 l with l|l
   ·rcases ba.1 l with l|l
    ·exact o x (cT l)
    exact (f x l).1
   exact o x (ej l)) (by rw[p];exact O) (fun i j=>if off≤i∧i<off+n then g (i-off) else E i j)
  (fun i j hi r=>by
   have s:j=0:=by omega
   subst s;rw[I];rw[p]at hi;simp only[kj,eX];split
   ·exact⟨rfl,W _ (by omega)⟩
   have:=hF i 0 hi (by omega);simpa using this)
  (fun i hi j r=>by
   rcases K i hi with⟨z,y,F,h4⟩|⟨z,y,F⟩
   ·simp only[h4]at r ⊢;rw[if_pos ⟨z,y⟩];have D:=(f _ (aJ F)).2;have u:cellsOf mid'[i-off]=[mid'[i-off]]:=by
     cases hm:mid'[i-off]<;>first|rfl|(rw[hm]at D;cases D)
    simp only[u]at r ⊢;have s:j=0:=by simpa using r
    subst s;exact H _ F
   simp only[F]at r ⊢;rw[if_neg z];exact hR i y j r)
 obtain⟨X,x2⟩:=Z.over (w':=w') (fun b m ab=>by
   rw[a.get b G];split
   ·rename_i Y;rw[Y];exact hw
   rename_i N;rw[a.size]at m;exact d b m N) (by rw[a.size];exact B)
 refine⟨X,{ Ext.trans P.toExt x2 with same:=q,size:=B,frame:=fun b m J=>d b m (fun e=>J id v (e▸V)),liv:=fun i b z y _=>⟨i,z,y⟩,old:=fun _ h _=>.inl h,oldb:=fun _ h _=>.inl h }⟩
theorem IW{f:Type}[Inhabited f]{enc:f→Value}{blk off m:Nat}{d:Array f}{os:Array Go.Obj}{cs:Array Value}{T:TypeId}(a:w.heap[blk]?=some (.cells cs T (0,0))) :
  (grow (putRow enc (Sort.ahead w m) blk off d) os).heap[blk]?=some (.cells (putCells enc off d cs) T (0,0))∧(∀b,b<w.heap.size→b≠blk→(grow (putRow enc (Sort.ahead w m) blk off d) os).heap[b]?=w.heap[b]?) ∧
   w.heap.size≤(grow (putRow enc (Sort.ahead w m) blk off d) os).heap.size∧Same w (grow (putRow enc (Sort.ahead w m) blk off d) os):=by
 have g:blk<w.heap.size:=(bE.1 a).1;have h:(grow (putRow enc (Sort.ahead w m) blk off d) os).heap=w.heap.modify blk (onCells (putCells enc off d))++os:=rfl;refine⟨?_,fun b i c=>?_,?_,⟨rfl,rfl,rfl,aF _⟩⟩
 ·rw[h,ee (by simpa using g),gy,if_pos rfl,a];rfl
 ·rw[h,ee (by simpa using i),gy,if_neg (fun e=>c e.symm)]
 rw[h];simp
theorem MN{a:Type}[Inhabited a]{enc:a→Value}{off k:Nat}{d:Array a}{cs:Array Value}(b:off+d.size≤cs.size):(putCells enc off d cs)[k]?=if off≤k∧k<off+d.size then some (enc d[k-off]!) else cs[k]?:=by
 unfold putCells;rw[Array.getElem?_mapIdx];by_cases h:off≤k∧k<off+d.size
 ·rw[if_pos h,cO (by omega)];simp[h]
 rw[if_neg h];cases cs[k]? with
 |none=>rfl
 |some x=>simp[h]
theorem CC{id:Nat}{o:Obj}(h:σ[id]?=some o):σ.set id o=σ:=by
 apply fb;intro i;rw[dw];split
 ·rename_i e;subst e;rw[if_pos (ak.1 h).1,h]
 rfl
end Go.AM
namespace Go.AM
def adn(P:Program)(fm:Nat→FuncId)(glob:Nat→Option aq)(sites:Nat→Option ui)(cA:Nat→Bool)(em:Nat→List Tmp)(n:Nat):li→Bool
 |.fn g=>Gk P fm glob sites cA n (em n) g
 |.nilfn g=>Gk P fm glob sites cA n (em n) g
 |.round g=>DR P fm glob sites cA n g
 |_=>true
def Zr(f:Nat→li→Bool):Nat→List li→Prop
 |_,[]=>True
 |i,x::r=>f i x=true∧Zr f (i+1) r
theorem CR{f:Nat→li→Bool}:∀{l:List li} {i:Nat},Zr f i l→∀j x,l[j]?=some x→f (i+j) x=true
 |[],_,_,j,x,h=>by simp at h
 |y::r,i,h,j,x,a=>by
  cases j with
  |zero=>simp only[gU,aL]at a;subst a;exact h.1
  |succ j=>
   have:=CR h.2 j x (by simpa using a)
   rwa [show i+1+j=i+(j+1) by omega]at this
theorem getD_some{l:List li}{n:Nat}{e:li}(h:l.getD n .none=e)(a:e≠.none):l[n]?=some e:=by
 rw[aR]at h;cases hq:l[n]? with
 |none=>rw[hq]at h;exact absurd h.symm a
 |some x=>rw[hq]at h;simp at h;rw[h]
def xm(tbl:List li)(n:Nat):Bool:=match tbl.getD n .none with
 |.fn g=>g.mode.lends
 |.nilfn g=>g.mode.lends
 |.prim k=>k==0 ||k==3
 |_=>false
def BZ(tbl:List li):Code:=⟨fun n=>tbl.getD n .none,prims⟩
theorem O6{args:List aq}{σ a:aw}{v:aq}(h:W8 args σ=some (v,a)):a=σ:=by
 unfold W8 at h;split at h
 ·split at h
  ·cases h;rfl
  cases h
 cases h
theorem F2{args:List aq}{σ a:aw}{v:aq}(h:ET args σ=some (v,a)):a=σ:=by
 unfold ET at h;split at h
 ·cases h;rfl
 cases h
theorem acm{P:Program}{fm:Nat→FuncId}{glob:Nat→Option aq}{sites:Nat→Option ui}{em:Nat→List Tmp}{tbl:List li}(o:P.follows .mixedOrders=true)
  (a:Zr (adn P fm glob sites (xm tbl) em) 0 tbl) (j:∀s d,sites s=some d→∃g,tbl.getD s .none=.round g)
  (p:∀f k,tbl.getD f .none=.prim k→Bs (dm.of P fm glob sites) P f (prims k)):yU (dm.of P fm glob sites) P (xm tbl) (BZ tbl) where
 mixed:=o
 fns:=fun f g h=>by
  have:=CR a f _ (getD_some h (by simp));rw[cE]at this;exact HK this
 nilfns:=fun f g h=>by
  have:=CR a f _ (getD_some h (by simp));rw[cE]at this;exact HK this
 prims:=p
 sites:=fun s i l h=>by
  have e:=h;obtain⟨d,_,_,_,hd,_⟩:=e;obtain⟨g,b⟩:=j s d hd;refine⟨g,b,?_⟩;have:=CR a s _ (getD_some b (by simp));rw[cE]at this;exact MH this h
 keeps:=fun f h=>by
  unfold xm at h;split at h
  ·rename_i g b;exact .inl ⟨g,.inl b,h⟩
  ·rename_i g b;exact .inl ⟨g,.inr b,h⟩
  ·rename_i k m;refine .inr ⟨k,m,fun C args σ v n c=>?_⟩;simp only[dL,aX]at h;rcases h with rfl|rfl
   ·exact O6 c
   exact F2 c
  cases h
def dk.start(w:World)(gs:Nat→Prop)(lp:mi):dk:={ sld:=fun b=>gs b∧b<w.heap.size,bor:=fun b=>b<w.heap.size,H:=hd [],N:=0,place:=fun _=>none,room:=fun _=>0,loops:=fun _=>lp }
theorem Wf{M:dm}{w:World}{gs:Nat→Prop}{a:mi}:fd M w (dk.start w gs a) []:=
 ⟨rfl,rfl,fun _ h=>h.2,fun _ h=>h,fun id b h=>absurd (by rfl) h,fun i j b h=>absurd (by rfl) h,fun id o h=>by cases h⟩
theorem WE{P:Program}{fm:Nat→FuncId}{glob:Nat→Option aq}{sites:Nat→Option ui}{tbl:List li}(o:yU (dm.of P fm glob sites) P (xm tbl) (BZ tbl)){n f:Nat}{args:List aq}{v:aq}{i:aw}
  (g:dV (BZ tbl) n f args []=some (v,i)) (q:∃a∈args,yI a=false) {w:World} {gs:Nat→Prop} {l:mi} {c:Array Value} (m:kS (dm.of P fm glob sites) w (dk.start w gs l)) (s:lQ (dm.of P fm glob sites) w (dk.start w gs l) args c) :
  Calls P (fm f) c w fun e w'=>∃cv c',e=.returned cv∧RF (dm.of P fm glob sites) w.heap.size w' c' v cv∧Same w w'∧w.heap.size≤w'.heap.size∧∀b,b<w.heap.size→w'.heap[b]?=w.heap[b]?:=by
 have h:=(Fo o n).1 f args [] v i g Fence.wide 0 w _ c JH Wf m s;have k:=h.2 q c w;rcases h.1 with⟨_,d⟩|⟨cv,w',j,_⟩
 ·rw[xC JH]at d;refine d.mono fun e w' r=>?_;obtain⟨cv,rfl,c',s',st,p⟩:=r;exact⟨cv,c',rfl,p,st.same,st.size,fun b t=>st.frame b t fun id u=>absurd (by rfl) u⟩
 rw[show (dm.of P fm glob sites).fm f=fm f from rfl]at k j;rw[k]at j;cases j
end Go.AM
namespace Go.AM
open Go.Proofs Go.Shelf
variable {M:dm} {P:Program} {w w':World} {c c1:dk} {σ τ:aw}
theorem Ae(g:fd M w c σ)(d:RowKit.Below w.heap.size w w'):fd M w' c σ∧iR c w c w':=by
 have e:∀b,b<w.heap.size→w'.heap[b]?=w.heap[b]?:=d.block;obtain⟨k,f⟩:=g.over (w':=w') (fun b a _=>e b a) d.size;exact⟨k,{ f with same:=⟨d.tape,d.os,d.output,aF _⟩,size:=d.size,frame:=fun b a _=>e b a,liv:=fun id b i j _=>⟨id,i,j⟩,old:=fun b h _=>.inl h,oldb:=fun b h _=>.inl h }⟩
theorem Qg{ρ:Ren}(L:Lays.n158 P ρ)(X:Builder.Extra P ρ){f:Nat}(n:M.fm f=ρ.f 158)(l:∀args w,(callFunc (ρ.f 158) args).run P w=.ok (.enter (ρ.f 158) args) w)
  (G:∀w s,M.tabs w s→Lib.CaseVar (ρ.g 13) Lib.caseA w∧Lib.Utf8Tabs (ρ.g 3) (ρ.g 4) w):Bs M P f fun _=>zD:=by
 intro C K N args σ v p h F n0 w c a I H z r;refine⟨.inl ⟨by rw[n];exact l _ _,?_⟩,fun _ d w'=>by rw[n];exact l d w'⟩;rw[xC I,n];replace h:zD args σ=some (v,p):=h;unfold zD at h;split at h
 ·rename_i s;split at h
  ·rename_i q;cases h;obtain⟨D,x,B⟩:=r.2 0 (by simp);have g:a=#[D]:=by
    apply eO;intro i;have J:a.size=1:=r.1
    match i with
    |0=>rw[x];rfl
    |i+1=>rw[dr (by omega),dr (by simp)]
   subst g;cases B with|@str _ _ t k=>
   obtain⟨A,E⟩:=G w _ z.2;have m:t.size<35184372088832:=by
    have:t.size=s.length:=by rw[←k,cR];rfl
    omega
   refine (Any.strings_ToUpper_any L X t w m A E).mono fun e w' ⟨l,o⟩=>?_;obtain⟨y,u⟩:=Ae H o;refine⟨_,l,c,y,u,.r (.str ?_)⟩;rw[k];split
   ·rename_i j;rw[Lib.toUpperD_ascii s fun b o=>by simpa using aY.1 j b o]
   rfl
  cases h
 cases h
end Go.AM
namespace Go.AM
variable {M:dm} {P:Program} {w w':World} {c c1:dk} {σ τ:aw}
end Go.AM
namespace Go.AM
open Go.Proofs Go.Shelf
variable {M:dm} {P:Program} {w w':World} {c:dk} {σ:aw}
theorem Mm{f:Nat}{fn:Func}(hf:P.funcs[M.fm f]?=some fn)(h1:(fn.name == "runtime.NumGoroutine")=false)(h2:fn.body.isNone=true)(h3:Extern.findNext fn=none)(h4:Extern.find fn=some Extern.BytealgIndexByte.indexByte):Bs M P f fun _=>indexByte:=by
 intro C hC hR args σ v σ' h F n w c cargs hF hs hg ha;replace h:indexByte args σ=some (v,σ'):=h;unfold indexByte at h;split at h
 ·rename_i a b;cases h;obtain⟨x0,e0,r0⟩:=ha.2 0 (by simp);obtain⟨x1,e1,r1⟩:=ha.2 1 (by simp);have hc:cargs=#[x0,x1]:=by
   apply eO;intro i;have hz:cargs.size=2:=ha.1
   match i with
   |0=>rw[e0];rfl
   |1=>rw[e1];rfl
   |i+2=>rw[dr (by omega),dr (by simp)]
  subst hc;cases r0 with|@str _ s t ht=>cases r1 with|int=>
  refine⟨.inr ⟨.int .i64 (Lib.indexByte a b.toNat.toUInt8),w,?_,c,hs,.refl c w,.r .int⟩,fun hx=>?_⟩
  ·rw[run_callFunc_extern hf h1 h2 h3 h4,Lib.run_indexByteString,ht];rfl
  exfalso;obtain⟨y,hy,hp⟩:=hx;simp at hy;rcases hy with rfl|rfl<;>simp[yI]at hp
 cases h
end Go.AM
namespace Go.AM
open Go.Proofs Go.Sort Go.Shelf
variable {M:dm} {P:Program} {w w':World} {c c1:dk} {σ τ:aw}
theorem Hl:∀{l:List aq} {a:List Int},NK l=some a↔l=a.map (.int .i64)
 |[],a=>by
  simp only[NK,aL];cases a<;>simp
 |x::r,a=>by
  cases x with
  |int k n=>
   by_cases b:k=.i64
   ·subst b;simp only[NK,aQ];constructor
    ·rintro⟨c,h,rfl⟩;rw[Hl.1 h];rfl
    intro h;cases a with
    |nil=>cases h
    |cons z a=>
     simp only[aV,px,aq.int.injEq,true_and]at h;obtain⟨rfl,h⟩:=h;exact⟨a,Hl.2 h,rfl⟩
   have:NK (.int k n::r)=none:=by
    cases k<;>first|rfl|exact absurd rfl b
   rw[this];constructor
   ·intro h;cases h
   intro h;cases a with
   |nil=>cases h
   |cons z a=>simp only[aV,px,aq.int.injEq]at h;exact absurd h.1.1 b
  |_=>
   constructor
   ·intro h;cases h
   intro h;cases a<;>simp at h
theorem OH{g:List Int}:nN si (g.map (.int .i64))=(g.mergeSort fun x y=>decide (x≤y)).map (.int .i64):=by
 have e:∀x∈g.map (aq.int .i64),∃n,x=.int .i64 n:=fun x i=>by
  obtain⟨n,_,rfl⟩:=bK.1 i;exact⟨n,rfl⟩
 refine List.Perm.eq_of_pairwise (le:=fun x y=>si x y=true) ?_ (AS (fun x i y j=>?_) fun x i y j z l d f=>?_) ?_ (EV.trans ((List.mergeSort_perm g _).map _).symm)
 ·intro a b o p d f;obtain⟨n,rfl⟩:=e a (ut.1 o);obtain⟨m,_,rfl⟩:=bK.1 p;simp only[si,cd]at d f;rw[Int.le_antisymm d f]
 ·obtain⟨n,rfl⟩:=e x i;obtain⟨m,rfl⟩:=e y j;simp only[si,cd];omega
 ·obtain⟨n,rfl⟩:=e x i;obtain⟨m,rfl⟩:=e y j;obtain⟨k,rfl⟩:=e z l;simp only[si,cd]at d f ⊢;omega
 rw[List.pairwise_map];have:=List.pairwise_mergeSort (le:=fun x y:Int=>decide (x≤y)) (fun a b c d f=>by simp at d f ⊢;omega) (fun a b=>by simp;omega) g;refine this.imp fun {a b} h=>?_;simpa [si] using h
theorem ND{ρ:Ren}(L:Lays.n189 P ρ){f:Nat}(hf:M.fm f=ρ.f 189)(he:∀args w,(callFunc (ρ.f 189) args).run P w=.ok (.enter (ρ.f 189) args) w):Bs M P f fun _=>yF:=by
 intro C hC hR args σ v af h F n0 w c l hF S hg Z;refine⟨.inl ⟨by rw[hf];exact he _ _,?_⟩,fun _ t w'=>by rw[hf];exact he t w'⟩;rw[xC hF,hf];have one:∀{a:aq},lQ M w c [a] l→∃K,l=#[K]∧R M w c a K:=fun {a} Z=>by
  obtain⟨K,e0,J⟩:=Z.2 0 (by simp);refine⟨K,?_,J⟩;apply eO;intro i;have hz:l.size=1:=Z.1
  match i with
  |0=>rw[e0];rfl
  |i+1=>rw[dr (by omega),dr (by simp)]
 have g:∀{a:Option Addr} {cap:Nat},Calls P (ρ.f 189) #[.slice a 0 cap] w fun e w'=>∃cv,e=.returned cv∧ig M c w σ .any cv w':=fun {a cap}=>
  (Any.slices_Sort_int_none L a cap w).mono fun e w' I=>by
   obtain⟨rfl,rfl⟩:=I;exact⟨_,rfl,c,S,.refl c w',.r .any⟩
 replace h:yF args σ=some (v,af):=h;unfold yF at h;split at h
 ·cases h;obtain⟨K,rfl,J⟩:=one Z;cases J with
  |@ai _ a=>exact g
 ·rename_i id ep off n;split at h
  ·rename_i k e es ho;split at h
   ·rename_i hc;obtain⟨aj,W,u,B⟩:=hc;cases h;obtain⟨K,rfl,J⟩:=one Z;have hH:c.H id=.arr k e:=by rw[S.H,fe ho]
    have G:c.H id≠.dead:=by rw[hH];simp
    have V:((es.drop off).take n).length=n:=by simp;omega
    obtain⟨r,ab⟩:=dc.1 B;have A:=Hl.1 ab;have p:r.length=n:=by rw[←V,A];simp
    by_cases Q:n=0
    ·subst Q;have ah:σ.set id (.arr k e (es.take off++nN si ((es.drop off).take 0)++es.drop (off+0)))=σ:=by
      have:es.take off++nN si ((es.drop off).take 0)++es.drop (off+0)=es:=by simp[nN]
      rw[this];exact CC ho
     rw[ah];cases J with
     |sl=>exact g
     |sl0=>exact g
     |slOld h0 h1 s=>exact absurd (s k e hH) (by omega)
    obtain⟨o1,o2,o3,o4⟩:=S.obj id _ ho
    have E:∀(i:Nat) (h:i<n),es[off+i]'(by omega)=.int .i64 (r[i]'(by omega)):=fun i hi=>by
     have h1:((es.drop off).take n)[i]'(by omega)=es[off+i]'(by omega):=by simp
     have s:((es.drop off).take n)[i]?=(r.map (aq.int .i64))[i]?:=by rw[A]
     rw[au (by omega),h1]at s;simpa [show i<r.length by omega] using s
    have ad:k=1:=by
     have:=o2 _ (aJ (show off+0<es.length by omega));rw[E 0 (by omega)]at this;exact this.symm
    subst ad;cases J with
    |sl0=>exact absurd rfl Q
    |slOld h0 h1 s=>exact absurd (s 1 e hH) (by omega)
    |@sl _ _ _ _ _ cap k2 blk h1 s h3 h4 h5=>
     have ag:k2=1:=by rw[hH]at s;cases s;rfl
     subst ag;obtain⟨cs,T,Fv,q1,q2,q3,q4,q5⟩:=o4 blk h3;have U:=(S.plow id blk G h3).1
     have Y:∀(i:Nat) (h:i<n),Fv (off+i) 0=.int .i64 (r[i]'(by omega)):=fun i hi=>by
      have hj:0<(cellsOf (es[off+i]'(by omega))).length:=by rw[E i hi];simp[cellsOf]
      have:=q5 (off+i) (by omega) 0 hj;simp only[E i hi]at this;have h':R M w c (.int .i64 (r[i]'(by omega))) (Fv (off+i) 0):=this;generalize Fv (off+i) 0=q at h';cases h';rfl
     have D:Holds (Value.int .i64) w blk off r.toArray:=fun j hj=>by
      have ae:j<n:=by simpa [p] using hj
      have:=(q4 (off+j) 0 (by omega) (by omega)).1;rw[Y j ae]at this;rw[getElem!_pos _ j hj];simp only[World.cell?,World.frozen?,q1];refine⟨by simpa using this,by simp⟩
     have o:=Any.slices_Sort_int L blk off cap r w D U (by rw[p];unfold bC at u;omega);have e1:(⟨blk,off*1,none⟩:Addr)=⟨blk,off,none⟩:=by rw[kj]
     rw[p]at o;rw[e1];refine o.mono fun e' w' I=>?_;obtain⟨rfl,m,os,rfl⟩:=I;generalize N:(r.mergeSort fun x y=>decide (x≤y))=ss at *;have O:ss.length=n:=by rw[←N,List.length_mergeSort,p]
     have b:nN si ((es.drop off).take n)=ss.map (.int .i64):=by rw[A,OH,N]
     obtain⟨f1,f2,f3,f4⟩:=IW (w:=w) (enc:=Value.int .i64) (off:=off) (m:=m) (d:=ss.toArray) (os:=os) q1;have H:off+ss.toArray.size≤cs.size:=by simp;omega
     have:=aaR (w':=grow (putRow (Value.int .i64) (Sort.ahead w m) blk off ss.toArray) os) S (mid':=nN si ((es.drop off).take n)) (off:=off) (n:=n) (cs':=putCells (Value.int .i64) off ss.toArray cs) ho h3 q1 q2 q3 q4 q5 o2 W (by rw[b];simp[O])
      (fun x I=>by
       rw[b]at I;obtain⟨z,_,rfl⟩:=bK.1 I;exact⟨rfl,rfl⟩) (fun i=>.int .i64 (ss.toArray[i]!)) (fun i hi=>rfl)
      (fun i hi=>by
       have X:i<ss.length:=by rw[b]at hi;simpa using hi
       have e3:(nN si ((es.drop off).take n))[i]=.int .i64 ss[i]:=by
        have:(nN si ((es.drop off).take n))[i]?=some (.int .i64 ss[i]):=by
         rw[b];simp[X]
        exact (ak.1 this).2
       rw[e3,getElem!_pos ss.toArray i (by simpa using X)];exact .int)
      f1 (by simp[putCells]) (fun k=>by
       rw[MN H];simp only[List.size_toArray,O]) f2 f3 f4
     exact⟨_,rfl,c,this.1,this.2,.r .any⟩
   cases h
  cases h
 cases h
end Go.AM
section
set_option linter.unusedVariables false
namespace Go.Proofs
open Go.Shelf Go.RowKit
variable {P:Program} {ρ:Ren}
set_option maxHeartbeats 32000000 in
set_option maxRecDepth 100000 in
theorem ahc(L:LaysPu.n16 P ρ)(t:ByteArray)(hne:t.size≠0)(hmax:t.size≤9223372036854775806)(hall:∀c∈t.data.toList,48≤c.toNat∧c.toNat≤57)(w:World) :
  Calls P (ρ.f 16) #[.string t,.int .i64 10,.int .i64 63] w fun e w'=>e=.returned (Lib.uintTupleM (ρ.t 34) 9223372036854775807 (Lib.parseUintM 9223372036854775807 0 t.data.toList))∧w'=Lib.bytesWorld w (ρ.t 5) t:=by
 have mixed:=L.mixed;have t9:=L.t9;have a9:=L.a9;have z9:=L.z9;have v9:=L.v9;have t3:=L.t3;have a3:=L.a3;have z3:=L.z3;have v3:=L.v3;have t22:=L.t22;have a22:=L.a22;have z22:=L.z22;have v22:=L.v22;have t24:=L.t24;have a24:=L.a24;have z24:=L.z24;have v24:=L.v24;have t4:=L.t4;have a4:=L.a4;have z4:=L.z4;have v4:=L.v4;have t34:=L.t34;have a34:=L.a34;have z34:=L.z34;have v34:=L.v34;have t5:=L.t5;have a5:=L.a5;have z5:=L.z5;have v5:=L.v5;have t36:=L.t36;have a36:=L.a36;have z36:=L.z36;have v36:=L.v36;have t37:=L.t37;have a37:=L.a37;have z37:=L.z37;have v37:=L.v37;have t0:=L.t0;have a0:=L.a0;have z0:=L.z0;have v0:=L.v0;have hemp:t.toList.isEmpty=false:=by
  rw[←decide_eq_emptyBytes];exact decide_eq_false (fun h=>hne (by rw[h];rfl))
 have hcv:=Lib.run_convert_string_bytes (P:=P) w (ρ.t 9) (ρ.t 37) (ρ.t 5) t (u:=.string) L.t9 L.t37 L.t5;have hB:∀j,j<t.size→(Lib.bytesWorld w (ρ.t 5) t).cell? ⟨w.heap.size,j,none⟩=some (.int .u8 (t.data.toList.getD j 0).toNat):=fun j hj=>Lib.bytesWorld_cell w (ρ.t 5) t j hj;obtain⟨W1,hW1⟩:∃W1,W1=Lib.bytesWorld w (ρ.t 5) t:=⟨_,rfl⟩;rw[←hW1]at hcv hB ⊢;clear hW1;obtain⟨bs,hL⟩:∃bs,bs=t.data.toList:=⟨_,rfl⟩;have hLn:bs.length=t.size:=by rw[hL,Lib.size_eq]
 rw[←hL]at hB hall ⊢;clear hL;have hmv:IntKind.u64.wrap (IntKind.u64.wrap 9223372036854775808-1)=9223372036854775807:=by
  rw[IntKind.wrap_u64,IntKind.wrap_u64];decide
 go_enter L.f16,BodyPu.n16_ntmps ρ
 go_wp2
 go_loop [12,13,101] (fun vu vn vi=>∃(k acc:Nat) (a:Int),vu=.bool false∧vn=.int .u64 a∧vi=.int .i64 k∧k≤t.size∧Hid (a=(acc:Int)∧acc≤9223372036854775807∧Lib.parseUintM 9223372036854775807 0 bs=Lib.parseUintM 9223372036854775807 acc (bs.drop k)))
  (fun _ _ vi=>t.size-(intOf vi).toNat)
 case atStart=>exact⟨0,0,0,rfl,rfl,rfl,by omega,rfl,by omega,rfl⟩
 case round=>
  obtain⟨k,acc,a,rfl,rfl,rfl,hk,hh⟩:=hrel;obtain⟨ha,hacc,hdec⟩:=hh.out;clear hh;have a0:0≤a:=by omega
  have a1:a≤9223372036854775807:=by omega
  by_cases hkn:k<t.size
  ·have hc:=hB k hkn;have hdrop:bs.drop k=bs[k]'(by omega)::bs.drop (k+1):=List.drop_eq_getElem_cons (by omega);have hget:bs.getD k 0=bs[k]'(by omega):=by simp[List.getD,List.getElem?_eq_getElem (show k<bs.length by omega)]
   have hdig:=hall (bs[k]'(by omega)) (List.getElem_mem _);rw[hdrop]at hdec;rw[hget]at hc;generalize bs[k]'(by omega)=c at hc hdec hdig;have hc256:c.toNat < 256:=c.toNat_lt;clear hB hdrop hget;obtain⟨hd0,hd1⟩:=hdig;by_cases hcut:1844674407370955162≤acc
   ·have hF:Lib.parseUintM 9223372036854775807 acc (c::bs.drop (k+1))=.range:=by simp[Lib.parseUintM,hd0,hd1,hcut]
    rw[hF]at hdec;have icut:1844674407370955162≤a:=by omega
    clear hcut hacc hF ha
    go_wp2
    go_ret2
    exact⟨rfl,rfl⟩
   by_cases hov:9223372036854775807<acc*10+(c.toNat - 48)
   ·have hF:Lib.parseUintM 9223372036854775807 acc (c::bs.drop (k+1))=.range:=by simp[Lib.parseUintM,hd0,hd1,hcut,hov]
    rw[hF]at hdec;have icut:a<1844674407370955162:=by omega
    by_cases hw:18446744073709551616≤acc*10+(c.toNat - 48)
    ·have iov:18446744073709551616≤a*10+((c.toNat:Int)-48):=by omega
     have hwr:IntKind.u64.wrap (a*10+((c.toNat:Int)-48))=a*10+((c.toNat:Int)-48)-18446744073709551616:=by
      rw[IntKind.wrap_u64];omega
     clear hcut hacc hF hov ha hw
     go_wp2
     go_ret2
     exact⟨rfl,rfl⟩
    have iov:9223372036854775807<a*10+((c.toNat:Int)-48):=by omega
    have iow:a*10+((c.toNat:Int)-48)<18446744073709551616:=by omega
    clear hcut hacc hF hov ha hw
    go_wp2
    go_ret2
    exact⟨rfl,rfl⟩
   have hF:Lib.parseUintM 9223372036854775807 acc (c::bs.drop (k+1))=Lib.parseUintM 9223372036854775807 (acc*10+(c.toNat - 48)) (bs.drop (k+1)):=by simp[Lib.parseUintM,hd0,hd1,hcut,hov]
   have HN:Hid (a*10+((c.toNat:Int)-48)=((acc*10+(c.toNat - 48):Nat):Int)∧acc*10+(c.toNat - 48)≤9223372036854775807∧Lib.parseUintM 9223372036854775807 0 bs=Lib.parseUintM 9223372036854775807 (acc*10+(c.toNat - 48)) (bs.drop (k+1))):=Lib.hid ⟨by omega,by omega,hdec.trans hF⟩;have icut:a<1844674407370955162:=by omega
   have iov:a*10+((c.toNat:Int)-48)≤9223372036854775807:=by omega
   clear hcut hacc hF hov hdec ha
   go_wp2
   refine⟨⟨k+1,acc*10+(c.toNat - 48),a*10+((c.toNat:Int)-48),rfl,(by first|rfl|(congr 1;omega)),(by first|rfl|(congr 1;omega)),by omega,HN⟩,by simp[intOf];omega⟩
  have hkk:k=t.size:=by omega
  subst hkk;have hF:Lib.parseUintM 9223372036854775807 acc (bs.drop t.size)=.ok acc:=by rw[List.drop_eq_nil_of_le (by omega)];rfl
  rw[hF]at hdec;subst ha;clear hacc hF a0 a1
  go_wp2
  go_ret2
  exact⟨rfl,rfl⟩
end Go.Proofs
end
section
set_option linter.unusedVariables false
namespace Go.Proofs
open Go.Shelf Go.RowKit
variable {P:Program} {ρ:Ren}
set_option maxHeartbeats 4000000 in
set_option maxRecDepth 100000 in
theorem acP(L:LaysPu.n14 P ρ)(s:ByteArray)(hne:s.size≠0)(hmax:s.size≤9223372036854775806)(hall:∀c∈s.data.toList,48≤c.toNat∧c.toNat≤57)(u:Nat)(h:Lib.parseUintM 9223372036854775807 0 s.data.toList=.ok u)(w:World) :
  Calls P (ρ.f 14) #[.string s,.int .i64 10,.int .i64 63] w fun e w'=>e=.returned (.tuple #[.int .u64 u,.nilIface])∧w'=Lib.bytesWorld w (ρ.t 5) s:=by
 have mixed:=L.mixed;have t9:=L.t9;have a9:=L.a9;have z9:=L.z9;have v9:=L.v9;have t3:=L.t3;have a3:=L.a3;have z3:=L.z3;have v3:=L.v3;have t22:=L.t22;have a22:=L.a22;have z22:=L.z22;have v22:=L.v22;have t24:=L.t24;have a24:=L.a24;have z24:=L.z24;have v24:=L.v24;have t25:=L.t25;have a25:=L.a25;have z25:=L.z25;have v25:=L.v25;have t4:=L.t4;have a4:=L.a4;have z4:=L.z4;have v4:=L.v4;have e16:∀args w,(callFunc (ρ.f 16) args).run P w=.ok (.enter (ρ.f 16) args) w:=enters_of L.f16 (by kernel_rfl) rfl;have hI:=ahc { L with } s hne hmax hall w;rw[h]at hI;have hI:Calls P (ρ.f 16) #[.string s,.int .i64 10,.int .i64 63] w fun e w'=>e=.returned (.tuple #[.int .u64 u,.nilIface])∧w'=Lib.bytesWorld w (ρ.t 5) s:=hI;clear h
 go_enter L.f14,BodyPu.n14_ntmps ρ
 go_wp2_with (go_at_fn (ρ.f 16);refine hI.mono ?_;rintro e W1 ⟨rfl,rfl⟩)
 go_wp2
 go_ret2
 exact⟨rfl,rfl⟩
set_option maxHeartbeats 4000000 in
set_option maxRecDepth 100000 in
theorem RD(L:LaysPu.n14 P ρ)(s:ByteArray)(hne:s.size≠0)(hlim:s.size≤281474976710656)(hall:∀c∈s.data.toList,48≤c.toNat∧c.toNat≤57)(h:Lib.parseUintM 9223372036854775807 0 s.data.toList=.range)(ev:Value)(w:World)(hv:w.cell? ⟨(ρ.g 1),0,none⟩=some ev)(hev:ev=.nilIface∨∃te pe,ev=.iface te pe) :
  Calls P (ρ.f 14) #[.string s,.int .i64 10,.int .i64 63] w fun e w'=>∃N,e=.returned (.tuple #[.int .u64 9223372036854775807,.iface (ρ.t 39) (.pointer (some ⟨N,0,none⟩))])∧Below w.heap.size w w':=by
 have mixed:=L.mixed;have t9:=L.t9;have a9:=L.a9;have z9:=L.z9;have v9:=L.v9;have t3:=L.t3;have a3:=L.a3;have z3:=L.z3;have v3:=L.v3;have t22:=L.t22;have a22:=L.a22;have z22:=L.z22;have v22:=L.v22;have t24:=L.t24;have a24:=L.a24;have z24:=L.z24;have v24:=L.v24;have t25:=L.t25;have a25:=L.a25;have z25:=L.z25;have v25:=L.v25;have t4:=L.t4;have a4:=L.a4;have z4:=L.z4;have v4:=L.v4;have e16:∀args w,(callFunc (ρ.f 16) args).run P w=.ok (.enter (ρ.f 16) args) w:=enters_of L.f16 (by kernel_rfl) rfl;have e17:∀args w,(callFunc (ρ.f 17) args).run P w=.ok (.enter (ρ.f 17) args) w:=enters_of L.f17 (by kernel_rfl) rfl;have hG:(ρ.g 1)<w.heap.size:=Lib.lt_of_cell hv;have hI:=ahc { L with } s hne (by omega) hall w;rw[h]at hI;have hI:Calls P (ρ.f 16) #[.string s,.int .i64 10,.int .i64 63] w fun e w'=>e=.returned (.tuple #[.int .u64 9223372036854775807,.iface (ρ.t 34) (.int .i64 1)])∧w'=Lib.bytesWorld w (ρ.t 5) s:=hI;clear h
 go_enter L.f14,BodyPu.n14_ntmps ρ
 go_wp2_with (go_at_fn (ρ.f 16);refine hI.mono ?_)
 rintro e W1 ⟨rfl,hW⟩;have hb1:Below w.heap.size w W1:=by
  subst hW;exact Lib.bytesWorld_below _ _ _
 have hv1:W1.cell? ⟨(ρ.g 1),0,none⟩=some ev:=(hb1.cell (show (⟨(ρ.g 1),0,none⟩:Addr).block<w.heap.size from hG)).trans hv;clear hW
 go_wp2_with (go_at_fn (ρ.f 17);refine (AnyPu.strconv_toError_range { L with } ⟨#[80,97,114,115,101,85,105,110,116]⟩ s 10 63 ev _ hlim ?_ hev).mono ?_)
 ·exact hv1
 rintro e W2 ⟨N,rfl,h1,h2,h3⟩
 go_wp2
 go_ret2
 exact⟨N,rfl,hb1.trans (h3.mono hb1.size)⟩
end Go.Proofs
end
section
set_option linter.unusedVariables false
namespace Go.Proofs
open Go.Shelf
def Tryz.puR:Go.Shelf.Ren:=⟨fun|14=>241|16=>257|17=>258|19=>265|20=>266|21=>267|22=>268|23=>269|24=>270|25=>273|26=>274|27=>275|28=>277|29=>279|30=>281|31=>282|32=>283|33=>284|34=>288|35=>95|36=>289|37=>290|38=>291|39=>292|40=>293|n=>n,fun|0=>0|1=>1|2=>2|3=>3|4=>4|5=>5|6=>6|7=>7|8=>8|9=>9|10=>10|11=>11|12=>12|13=>13|14=>14|15=>15|16=>16|17=>17|18=>18|19=>19|20=>20|21=>21|22=>140|23=>270|24=>271|25=>343|26=>344|33=>358|34=>368|35=>369|36=>127|37=>266|38=>154|39=>370|40=>371|41=>372|42=>217|43=>378|44=>379|45=>380|46=>213|47=>326|48=>381|49=>382|50=>383|51=>384|52=>385|53=>186|54=>386|55=>387|56=>388|57=>299|58=>392|59=>393|60=>185|61=>394|62=>153|63=>126|64=>184|65=>395|66=>396|67=>275|68=>397|69=>398|70=>399|71=>400|72=>401|73=>137|74=>402|75=>403|76=>404|77=>405|78=>406|79=>407|80=>408|81=>348|n=>n,fun|0=>7|1=>8|2=>9|3=>10|4=>11|n=>n⟩
theorem Tryz.laysPu14:Go.Proofs.LaysPu.n14 Tryz.prog Tryz.puR:={
 mixed:=by kernel_rfl
 f14:=Tryz.func241.trans (congrArg some (by kernel_rfl))
 f16:=Tryz.func257.trans (congrArg some (by kernel_rfl))
 f17:=Tryz.func258.trans (congrArg some (by kernel_rfl))
 f19:=Tryz.func265.trans (congrArg some (by kernel_rfl))
 f20:=Tryz.func266.trans (congrArg some (by kernel_rfl))
 f21:=Tryz.func267.trans (congrArg some (by kernel_rfl))
 f22:=Tryz.func268.trans (congrArg some (by kernel_rfl))
 f23:=Tryz.func269.trans (congrArg some (by kernel_rfl))
 f24:=Tryz.func270.trans (congrArg some (by kernel_rfl))
 f25:=Tryz.func273.trans (congrArg some (by kernel_rfl))
 f26:=Tryz.func274.trans (congrArg some (by kernel_rfl))
 f27:=Tryz.func275.trans (congrArg some (by kernel_rfl))
 f28:=Tryz.func277.trans (congrArg some (by kernel_rfl))
 f29:=Tryz.func279.trans (congrArg some (by kernel_rfl))
 f30:=Tryz.func281.trans (congrArg some (by kernel_rfl))
 f31:=Tryz.func282.trans (congrArg some (by kernel_rfl))
 f32:=Tryz.func283.trans (congrArg some (by kernel_rfl))
 f33:=Tryz.func284.trans (congrArg some (by kernel_rfl))
 f34:=Tryz.func288.trans (congrArg some (by kernel_rfl))
 f35:=Tryz.func95.trans (congrArg some (by kernel_rfl))
 f36:=Tryz.func289.trans (congrArg some (by kernel_rfl))
 f37:=Tryz.func290.trans (congrArg some (by kernel_rfl))
 f38:=Tryz.func291.trans (congrArg some (by kernel_rfl))
 f39:=Tryz.func292.trans (congrArg some (by kernel_rfl))
 f40:=Tryz.func293.trans (congrArg some (by kernel_rfl))
 t0:=Tryz.underlying0
 a0:=Tryz.isAgg0
 z0:=Tryz.sizeOf0
 v0:=Tryz.zeroValue0
 i0:=by kernel_rfl
 t2:=Tryz.underlying2
 a2:=Tryz.isAgg2
 z2:=Tryz.sizeOf2
 v2:=Tryz.zeroValue2
 i2:=by kernel_rfl
 t3:=Tryz.underlying3
 a3:=Tryz.isAgg3
 z3:=Tryz.sizeOf3
 v3:=Tryz.zeroValue3
 i3:=by kernel_rfl
 t4:=Tryz.underlying4
 a4:=Tryz.isAgg4
 z4:=Tryz.sizeOf4
 v4:=Tryz.zeroValue4
 i4:=by kernel_rfl
 t5:=Tryz.underlying5
 a5:=Tryz.isAgg5
 z5:=Tryz.sizeOf5
 v5:=Tryz.zeroValue5
 i5:=by kernel_rfl
 t9:=Tryz.underlying9
 a9:=Tryz.isAgg9
 z9:=Tryz.sizeOf9
 v9:=Tryz.zeroValue9
 i9:=by kernel_rfl
 t20:=Tryz.underlying20
 a20:=Tryz.isAgg20
 z20:=Tryz.sizeOf20
 v20:=Tryz.zeroValue20
 i20:=by kernel_rfl
 t21:=Tryz.underlying21
 a21:=Tryz.isAgg21
 z21:=Tryz.sizeOf21
 v21:=Tryz.zeroValue21
 i21:=by kernel_rfl
 t22:=Tryz.underlying140
 a22:=Tryz.isAgg140
 z22:=Tryz.sizeOf140
 v22:=Tryz.zeroValue140
 i22:=by kernel_rfl
 t24:=Tryz.underlying271
 a24:=Tryz.isAgg271
 z24:=Tryz.sizeOf271
 v24:=Tryz.zeroValue271
 i24:=by kernel_rfl
 t25:=Tryz.underlying343
 a25:=Tryz.isAgg343
 z25:=Tryz.sizeOf343
 v25:=Tryz.zeroValue343
 i25:=by kernel_rfl
 t34:=Tryz.underlying368
 a34:=Tryz.isAgg368
 z34:=Tryz.sizeOf368
 v34:=Tryz.zeroValue368
 i34:=by kernel_rfl
 c34:=by kernel_rfl
 t36:=Tryz.underlying127
 a36:=Tryz.isAgg127
 z36:=Tryz.sizeOf127
 v36:=Tryz.zeroValue127
 i36:=by kernel_rfl
 t37:=Tryz.underlying266
 a37:=Tryz.isAgg266
 z37:=Tryz.sizeOf266
 v37:=Tryz.zeroValue266
 i37:=by kernel_rfl
 t39:=Tryz.underlying370
 a39:=Tryz.isAgg370
 z39:=Tryz.sizeOf370
 v39:=Tryz.zeroValue370
 i39:=by kernel_rfl
 t44:=Tryz.underlying379
 a44:=Tryz.isAgg379
 z44:=Tryz.sizeOf379
 v44:=Tryz.zeroValue379
 i44:=by kernel_rfl
 t47:=Tryz.underlying326
 a47:=Tryz.isAgg326
 z47:=Tryz.sizeOf326
 v47:=Tryz.zeroValue326
 i47:=by kernel_rfl
 t48:=Tryz.underlying381
 a48:=Tryz.isAgg381
 z48:=Tryz.sizeOf381
 v48:=Tryz.zeroValue381
 i48:=by kernel_rfl
 t50:=Tryz.underlying383
 a50:=Tryz.isAgg383
 z50:=Tryz.sizeOf383
 v50:=Tryz.zeroValue383
 i50:=by kernel_rfl
 t52:=Tryz.underlying385
 a52:=Tryz.isAgg385
 z52:=Tryz.sizeOf385
 v52:=Tryz.zeroValue385
 i52:=by kernel_rfl
 t55:=Tryz.underlying387
 a55:=Tryz.isAgg387
 z55:=Tryz.sizeOf387
 v55:=Tryz.zeroValue387
 i55:=by kernel_rfl
 t59:=Tryz.underlying393
 a59:=Tryz.isAgg393
 z59:=Tryz.sizeOf393
 v59:=Tryz.zeroValue393
 i59:=by kernel_rfl
 t60:=Tryz.underlying185
 a60:=Tryz.isAgg185
 z60:=Tryz.sizeOf185
 v60:=Tryz.zeroValue185
 i60:=by kernel_rfl
 t61:=Tryz.underlying394
 a61:=Tryz.isAgg394
 z61:=Tryz.sizeOf394
 t65:=Tryz.underlying395
 a65:=Tryz.isAgg395
 z65:=Tryz.sizeOf395
 v65:=Tryz.zeroValue395
 i65:=by kernel_rfl
 t66:=Tryz.underlying396
 a66:=Tryz.isAgg396
 z66:=Tryz.sizeOf396
 v66:=Tryz.zeroValue396
 i66:=by kernel_rfl
 t67:=Tryz.underlying275
 a67:=Tryz.isAgg275
 z67:=Tryz.sizeOf275
 v67:=Tryz.zeroValue275
 i67:=by kernel_rfl
 g0:=by kernel_rfl
 m0:=by kernel_rfl
 g1:=by kernel_rfl
 m1:=by kernel_rfl
 g2:=by kernel_rfl
 m2:=by kernel_rfl
 g3:=by kernel_rfl
 m3:=by kernel_rfl
 g4:=by kernel_rfl
 m4:=by kernel_rfl }
end Go.Proofs
end
section
set_option linter.unusedVariables false
namespace Go.Proofs
open Go.Shelf Go.RowKit
structure Fg (P:Program):Prop where
 mixed:P.follows .mixedOrders=true
 t3:P.underlying 3=some (TypeDesc.int IntKind.i64)
 a3:∀(w:World),Sem.run P (isAgg 3) w=Result.ok false w
 z3:∀(w:World),Sem.run P (Go.sizeOf 3) w=Result.ok 1 w
 v3:∀(w:World),Sem.run P (zeroValue 3) w=Result.ok (Value.int IntKind.i64 0) w
 t4:P.underlying 4=some TypeDesc.bool
 a4:∀(w:World),Sem.run P (isAgg 4) w=Result.ok false w
 z4:∀(w:World),Sem.run P (Go.sizeOf 4) w=Result.ok 1 w
 v4:∀(w:World),Sem.run P (zeroValue 4) w=Result.ok (Value.bool false) w
 t5:P.underlying 5=some (TypeDesc.int IntKind.u8)
 a5:∀(w:World),Sem.run P (isAgg 5) w=Result.ok false w
 z5:∀(w:World),Sem.run P (Go.sizeOf 5) w=Result.ok 1 w
 v5:∀(w:World),Sem.run P (zeroValue 5) w=Result.ok (Value.int IntKind.u8 0) w
 t9:P.underlying 9=some TypeDesc.string
 a9:∀(w:World),Sem.run P (isAgg 9) w=Result.ok false w
 z9:∀(w:World),Sem.run P (Go.sizeOf 9) w=Result.ok 1 w
 v9:∀(w:World),Sem.run P (zeroValue 9) w=Result.ok (Value.string { data:=#[] }) w
 t21:P.underlying 21=some (TypeDesc.int IntKind.i32)
 a21:∀(w:World),Sem.run P (isAgg 21) w=Result.ok false w
 z21:∀(w:World),Sem.run P (Go.sizeOf 21) w=Result.ok 1 w
 v21:∀(w:World),Sem.run P (zeroValue 21) w=Result.ok (Value.int IntKind.i32 0) w
 t140:P.underlying 140=some (TypeDesc.int IntKind.u64)
 a140:∀(w:World),Sem.run P (isAgg 140) w=Result.ok false w
 z140:∀(w:World),Sem.run P (Go.sizeOf 140) w=Result.ok 1 w
 v140:∀(w:World),Sem.run P (zeroValue 140) w=Result.ok (Value.int IntKind.u64 0) w
 t271:P.underlying 271=some (TypeDesc.interface #[("Error",275)])
 a271:∀(w:World),Sem.run P (isAgg 271) w=Result.ok false w
 z271:∀(w:World),Sem.run P (Go.sizeOf 271) w=Result.ok 1 w
 v271:∀(w:World),Sem.run P (zeroValue 271) w=Result.ok Value.nilIface w
 t343:P.underlying 343=some (TypeDesc.tuple #[140,271])
 a343:∀(w:World),Sem.run P (isAgg 343) w=Result.ok false w
 z343:∀(w:World),Sem.run P (Go.sizeOf 343) w=Result.ok 1 w
 v343:∀(w:World),Sem.run P (zeroValue 343) w=Result.ok (Value.tuple #[Value.int IntKind.u64 0,Value.nilIface]) w
theorem Tryz.numTy:Fg Tryz.prog:={
 mixed:=by kernel_rfl
 t3:=Tryz.underlying3
 a3:=Tryz.isAgg3
 z3:=Tryz.sizeOf3
 v3:=Tryz.zeroValue3
 t4:=Tryz.underlying4
 a4:=Tryz.isAgg4
 z4:=Tryz.sizeOf4
 v4:=Tryz.zeroValue4
 t5:=Tryz.underlying5
 a5:=Tryz.isAgg5
 z5:=Tryz.sizeOf5
 v5:=Tryz.zeroValue5
 t9:=Tryz.underlying9
 a9:=Tryz.isAgg9
 z9:=Tryz.sizeOf9
 v9:=Tryz.zeroValue9
 t21:=Tryz.underlying21
 a21:=Tryz.isAgg21
 z21:=Tryz.sizeOf21
 v21:=Tryz.zeroValue21
 t140:=Tryz.underlying140
 a140:=Tryz.isAgg140
 z140:=Tryz.sizeOf140
 v140:=Tryz.zeroValue140
 t271:=Tryz.underlying271
 a271:=Tryz.isAgg271
 z271:=Tryz.sizeOf271
 v271:=Tryz.zeroValue271
 t343:=Tryz.underlying343
 a343:=Tryz.isAgg343
 z343:=Tryz.sizeOf343
 v343:=Tryz.zeroValue343 }
set_option maxHeartbeats 2000000 in
set_option maxRecDepth 100000 in
theorem JS{P:Program}(TY:Fg P)(h120:P.funcs[120]?=some Tryz.f120)(n:Int)(w:World) :
  Calls P 120 #[.int .i32 n] w fun e w'=>e=.returned (.bool (decide (48≤n)&&decide (n≤57)))∧w'=w:=by
 obtain⟨mixed,t3,a3,z3,v3,t4,a4,z4,v4,t5,a5,z5,v5,t9,a9,z9,v9,t21,a21,z21,v21,t140,a140,z140,v140,t271,a271,z271,v271,t343,a343,z343,v343⟩:=id TY;have u3:=run_underlying t3;have u4:=run_underlying t4;have u5:=run_underlying t5;have u9:=run_underlying t9;have u21:=run_underlying t21;have u140:=run_underlying t140;have u271:=run_underlying t271;have u343:=run_underlying t343
 go_enter h120,Tryz.ntmps120
 by_cases h1:48≤n
 ·by_cases h2:n≤57
  ·go_wp2
   all_goals go_ret
   all_goals simp[h1,h2]
  go_wp2
  all_goals go_ret
  all_goals simp[h1,h2]
 go_wp2
 all_goals go_ret
 all_goals (simp[h1]<;>omega)
theorem NF{P:Program}(TY:Fg P)(h120:P.funcs[120]?=some Tryz.f120)(n:Int)(hn:n<48∨57<n)(w:World) :
  Calls P 120 #[.int .i32 n] w fun e w'=>e=.returned (.bool false)∧w'=w:=by
 have h:(decide (48≤n)&&decide (n≤57))=false:=by
  rcases hn with h|h
  ·have:¬48≤n:=by omega
   simp[this]
  have:¬n≤57:=by omega
  simp[this]
 have k:=JS TY h120 n w;rw[h]at k;exact k
theorem EQ{P:Program}(TY:Fg P)(h120:P.funcs[120]?=some Tryz.f120)(n:Int)(h1:48≤n)(h2:n≤57)(w:World) :
  Calls P 120 #[.int .i32 n] w fun e w'=>e=.returned (.bool true)∧w'=w:=by
 have h:(decide (48≤n)&&decide (n≤57))=true:=by simp[h1,h2]
 have k:=JS TY h120 n w;rw[h]at k;exact k
set_option maxHeartbeats 2000000 in
set_option maxRecDepth 100000 in
theorem RX{P:Program}(TY:Fg P)(h207:P.funcs[207]?=some Tryz.f207)(h120:P.funcs[120]?=some Tryz.f120)(t:ByteArray)(k0:Nat)(hk0:k0<t.size)
  (hd:∀j (h:j<t.size),j<k0→48≤(t[j]'h).toNat∧(t[j]'h).toNat≤57) (hb:¬(48≤(t[k0]'hk0).toNat∧(t[k0]'hk0).toNat≤57)) (w:World) :
  Calls P 207 #[.string t] w fun e w'=>e=.returned (.tuple #[.int .u64 0,.bool false])∧Below w.heap.size w w':=by
 obtain⟨mixed,t3,a3,z3,v3,t4,a4,z4,v4,t5,a5,z5,v5,t9,a9,z9,v9,t21,a21,z21,v21,t140,a140,z140,v140,t271,a271,z271,v271,t343,a343,z343,v343⟩:=id TY;have u3:=run_underlying t3;have u4:=run_underlying t4;have u5:=run_underlying t5;have u9:=run_underlying t9;have u21:=run_underlying t21;have u140:=run_underlying t140;have u271:=run_underlying t271;have u343:=run_underlying t343;have e120:∀args w,(callFunc 120 args).run P w=.ok (.enter 120 args) w:=enters_of h120 (by kernel_rfl) rfl;have hbel:∀k,Below w.heap.size w (w.iter t k):=fun k=>(Below.refl _ w).alloc (Nat.le_refl _) _
 go_enter h207,Tryz.ntmps207
 go_wp2
 go_loopg [2] k0 (fun g s2 wx=>g≤k0∧s2=.int .u64 0∧wx=w.iter t (k0-g))
 case atStart=>exact⟨Nat.le_refl _,rfl,by rw[Nat.sub_self]⟩
 case round=>
  obtain⟨hg,rfl,rfl⟩:=hrel;by_cases h0:gk=0
  ·subst h0;rw[Nat.sub_zero];by_cases ha:(t[k0]'hk0).toNat < 128
   ·have hnx:=fun ty=>run_next_ascii (P:=P) w t k0 ty hk0 ha;have hD:∀w,Calls P 120 #[.int .i32 ((t[k0]'hk0).toNat:Int)] w fun e w'=>e=.returned (.bool false)∧w'=w:=NF TY h120 _ (by omega);generalize (t[k0]'hk0).toNat=n at *
    go_wp2_with (go_at_fn 120;refine (hD _).mono ?_;rintro e w' ⟨rfl,rfl⟩)
    go_wp2
    go_ret2
    exact⟨rfl,hbel _⟩
   have hnx:=fun ty=>run_next_any (P:=P) w t k0 ty hk0;have hh:=(decode_high t k0 hk0 (by omega)).1;have hD:∀w,Calls P 120 #[.int .i32 ((Utf8.decode t k0).1:Int)] w fun e w'=>e=.returned (.bool false)∧w'=w:=NF TY h120 _ (by omega);generalize k0+(Utf8.decode t k0).2=p at *;generalize (Utf8.decode t k0).1=n at *
   go_wp2_with (go_at_fn 120;refine (hD _).mono ?_;rintro e w' ⟨rfl,rfl⟩)
   go_wp2
   go_ret2
   exact⟨rfl,hbel _⟩
  have hk:k0-gk<t.size:=by omega
  have hdig:=hd (k0-gk) hk (by omega);have hnx:=fun ty=>run_next_ascii (P:=P) w t (k0-gk) ty hk (by omega);have hD:∀w,Calls P 120 #[.int .i32 ((t[k0-gk]'hk).toNat:Int)] w fun e w'=>e=.returned (.bool true)∧w'=w:=EQ TY h120 _ (by omega) (by omega);have hrel':w.iter t (k0-gk+1)=w.iter t (k0-(gk-1)):=by rw[show k0-(gk-1)=k0-gk+1 by omega]
  generalize (t[k0-gk]'hk).toNat=n at *;generalize k0-gk=p at *
  go_wp2_with (go_at_fn 120;refine (hD _).mono ?_;rintro e w' ⟨rfl,rfl⟩)
  go_wp2
  go_roundg (gk-1)
  case measure=>omega
  case rel=>exact⟨by omega,rfl,rfl⟩
end Go.Proofs
end
section
set_option linter.unusedVariables false
namespace Go.Proofs
open Go.Shelf Go.RowKit
set_option maxHeartbeats 4000000 in
set_option maxRecDepth 100000 in
theorem Sp{P:Program}(TY:Fg P)(h207:P.funcs[207]?=some Tryz.f207)(h120:P.funcs[120]?=some Tryz.f120)(e241:∀args w,(callFunc 241 args).run P w=.ok (.enter 241 args) w)(t:ByteArray)(hne:0<t.size)(hsz:t.size≤8000)
  (hd:∀j (h:j<t.size),48≤(t[j]'h).toNat∧(t[j]'h).toNat≤57) (u:Int) (w:World)
  (hU:∀W,Below w.heap.size w W→Calls P 241 #[.string t,.int .i64 10,.int .i64 63] W fun e w'=>e=.returned (.tuple #[.int .u64 u,.nilIface])∧Below w.heap.size w w') :
  Calls P 207 #[.string t] w fun e w'=>e=.returned (.tuple #[.int .u64 u,.bool (decide (t.size=1) || !decide ((t[0]'hne).toNat=48))])∧Below w.heap.size w w':=by
 obtain⟨mixed,t3,a3,z3,v3,t4,a4,z4,v4,t5,a5,z5,v5,t9,a9,z9,v9,t21,a21,z21,v21,t140,a140,z140,v140,t271,a271,z271,v271,t343,a343,z343,v343⟩:=id TY;have u3:=run_underlying t3;have u4:=run_underlying t4;have u5:=run_underlying t5;have u9:=run_underlying t9;have u21:=run_underlying t21;have u140:=run_underlying t140;have u271:=run_underlying t271;have u343:=run_underlying t343;have e120:∀args w,(callFunc 120 args).run P w=.ok (.enter 120 args) w:=enters_of h120 (by kernel_rfl) rfl;have hbel:∀k,Below w.heap.size w (w.iter t k):=fun k=>(Below.refl _ w).alloc (Nat.le_refl _) _;have hg0:t.get! 0=t[0]'hne:=by
  have:=get_at t 0 hne;simpa using this
 go_enter h207,Tryz.ntmps207
 go_wp2
 go_loopg [2] t.size (fun g s2 wx=>g≤t.size∧wx=w.iter t (t.size-g))
 case atStart=>exact⟨Nat.le_refl _,by rw[Nat.sub_self]⟩
 case round=>
  obtain⟨hg,rfl⟩:=hrel;by_cases h0:gk=0
  ·subst h0;rw[Nat.sub_zero];have hnx:=fun ty=>run_next_end (P:=P) w t t.size ty (Nat.lt_irrefl _)
   go_wp2_with (go_at_fn 241;refine (hU _ (hbel _)).mono ?_)
   rintro e W1 ⟨rfl,hW⟩;have hcc:(t[0]'hne).toNat < 256:=(t[0]'hne).toNat_lt;by_cases h1:t.size=1
   ·have hD:(decide (t.size=1) || !decide ((t[0]'hne).toNat=48))=true:=by simp[h1]
    go_wp2
    go_region_o
    all_goals go_wp2
    all_goals (go_ret2;refine⟨?_,hW.drew⟩;rw[hD];rfl)
   have h1':((t.size:Int)==1)=false:=by rw[beq_eq_false_iff_ne];omega
   by_cases h2:(t[0]'hne).toNat=48
   ·have hD:(decide (t.size=1) || !decide ((t[0]'hne).toNat=48))=false:=by simp[h1,h2]
    go_wp2
    go_region_o
    all_goals go_wp2
    all_goals (go_ret2;refine⟨?_,hW.drew⟩;rw[hD];rfl)
   have hD:(decide (t.size=1) || !decide ((t[0]'hne).toNat=48))=true:=by simp[h2]
   have h2'':(((t[0]'hne).toNat:Int) != 48)=true:=by rw[bne_iff_ne];omega
   go_wp2
   go_region_o
   all_goals go_wp2
   all_goals (go_ret2;refine⟨?_,hW.drew⟩;rw[hD];first|rfl|(rw[h2''];rfl))
  have hk:t.size-gk<t.size:=by omega
  have hdig:=hd (t.size-gk) hk;have hnx:=fun ty=>run_next_ascii (P:=P) w t (t.size-gk) ty hk (by omega);have hD:∀w,Calls P 120 #[.int .i32 ((t[t.size-gk]'hk).toNat:Int)] w fun e w'=>e=.returned (.bool true)∧w'=w:=EQ TY h120 _ (by omega) (by omega);have hrel':w.iter t (t.size-gk+1)=w.iter t (t.size-(gk-1)):=by rw[show t.size-(gk-1)=t.size-gk+1 by omega]
  generalize (t[t.size-gk]'hk).toNat=n at *;generalize hp:t.size-gk=p at *
  go_wp2_with (go_at_fn 120;refine (hD _).mono ?_;rintro e w' ⟨rfl,rfl⟩)
  go_wp2
  go_roundg (gk-1)
  case measure=>omega
  case rel=>exact⟨by omega,rfl⟩
set_option maxHeartbeats 4000000 in
set_option maxRecDepth 100000 in
theorem MT{P:Program}(TY:Fg P)(h207:P.funcs[207]?=some Tryz.f207)(h120:P.funcs[120]?=some Tryz.f120)(e241:∀args w,(callFunc 241 args).run P w=.ok (.enter 241 args) w)(t:ByteArray)(hne:0<t.size)(hsz:t.size≤8000)
  (hd:∀j (h:j<t.size),48≤(t[j]'h).toNat∧(t[j]'h).toNat≤57) (u:Int) (w:World)
  (hU:∀W,Below w.heap.size w W→Calls P 241 #[.string t,.int .i64 10,.int .i64 63] W fun e w'=>∃T N,e=.returned (.tuple #[.int .u64 u,.iface T (.pointer (some N))])∧Below w.heap.size w w') :
  Calls P 207 #[.string t] w fun e w'=>e=.returned (.tuple #[.int .u64 u,.bool false])∧Below w.heap.size w w':=by
 obtain⟨mixed,t3,a3,z3,v3,t4,a4,z4,v4,t5,a5,z5,v5,t9,a9,z9,v9,t21,a21,z21,v21,t140,a140,z140,v140,t271,a271,z271,v271,t343,a343,z343,v343⟩:=id TY;have u3:=run_underlying t3;have u4:=run_underlying t4;have u5:=run_underlying t5;have u9:=run_underlying t9;have u21:=run_underlying t21;have u140:=run_underlying t140;have u271:=run_underlying t271;have u343:=run_underlying t343;have e120:∀args w,(callFunc 120 args).run P w=.ok (.enter 120 args) w:=enters_of h120 (by kernel_rfl) rfl;have hbel:∀k,Below w.heap.size w (w.iter t k):=fun k=>(Below.refl _ w).alloc (Nat.le_refl _) _;have hg0:t.get! 0=t[0]'hne:=by
  have:=get_at t 0 hne;simpa using this
 go_enter h207,Tryz.ntmps207
 go_wp2
 go_loopg [2] t.size (fun g s2 wx=>g≤t.size∧wx=w.iter t (t.size-g))
 case atStart=>exact⟨Nat.le_refl _,by rw[Nat.sub_self]⟩
 case round=>
  obtain⟨hg,rfl⟩:=hrel;by_cases h0:gk=0
  ·subst h0;rw[Nat.sub_zero];have hnx:=fun ty=>run_next_end (P:=P) w t t.size ty (Nat.lt_irrefl _)
   go_wp2_with (go_at_fn 241;refine (hU _ (hbel _)).mono ?_)
   rintro e W1 ⟨T,N,rfl,hW⟩
   go_wp2
   go_region_o
   all_goals go_wp2
   all_goals (go_ret2;refine⟨?_,hW.drew⟩;rfl)
  have hk:t.size-gk<t.size:=by omega
  have hdig:=hd (t.size-gk) hk;have hnx:=fun ty=>run_next_ascii (P:=P) w t (t.size-gk) ty hk (by omega);have hD:∀w,Calls P 120 #[.int .i32 ((t[t.size-gk]'hk).toNat:Int)] w fun e w'=>e=.returned (.bool true)∧w'=w:=EQ TY h120 _ (by omega) (by omega);have hrel':w.iter t (t.size-gk+1)=w.iter t (t.size-(gk-1)):=by rw[show t.size-(gk-1)=t.size-gk+1 by omega]
  generalize (t[t.size-gk]'hk).toNat=n at *;generalize hp:t.size-gk=p at *
  go_wp2_with (go_at_fn 120;refine (hD _).mono ?_;rintro e w' ⟨rfl,rfl⟩)
  go_wp2
  go_roundg (gk-1)
  case measure=>omega
  case rel=>exact⟨by omega,rfl⟩
end Go.Proofs
end
namespace Go.AM
open Go.Proofs Go.Shelf
variable {M:dm} {P:Program} {w w':World} {c c1:dk} {σ τ:aw}
theorem ZJ:∀(l:List UInt8) (a:Nat),(∀c∈l,48≤c.toNat∧c.toNat≤57)→Lib.parseUintM 9223372036854775807 a l=match Cs a l with
  |some n=>.ok n
  |none=>.range
 |[],a,_=>rfl
 |c::r,a,h=>by
  have b:=h c (by simp);unfold Lib.parseUintM Cs;rw[if_pos b];split
  ·rfl
  split
  ·rfl
  exact ZJ r _ fun x d=>h x (by simp[d])
theorem ZM{n0:Nat}{a:Int}{b:Bool}:RF M n0 w' c (.tup [.int .u64 a,.bool b]) (.tuple #[.int .u64 a,.bool b]):=by
 refine .r (.tup (fun i=>if i=0 then .int .u64 a else .bool b) rfl ?_ ?_)
 ·intro i hi
  match i with
  |0=>rfl
  |1=>rfl
  |i+2=>simp at hi;omega
 intro i hi
 match i with
 |0=>exact .int
 |1=>exact .bool
 |i+2=>simp at hi;omega
theorem WS{ρ:Ren}(L:LaysPu.n14 P ρ)(TY:Fg P)(o:P.funcs[207]?=some Tryz.f207)(r:P.funcs[120]?=some Tryz.f120)(G:ρ.f 14=241)(B:∀args w,(callFunc 241 args).run P w=.ok (.enter 241 args) w)
  (hE:∀w s,M.tabs w s→∃S T,w.cell? ⟨ρ.g 1,0,none⟩=some (.iface S T))
  {f:Nat} (hf:M.fm f=207) (u:∀args w,(callFunc 207 args).run P w=.ok (.enter 207 args) w):Bs M P f fun _=>wE:=by
 intro C hC hR args σ v ad h F n0 w c q hF hs hg ha;refine⟨.inl ⟨by rw[hf];exact u _ _,?_⟩,fun _ z w'=>by rw[hf];exact u z w'⟩;rw[xC hF,hf];replace h:wE args σ=some (v,ad):=h;unfold wE at h;split at h
 rotate_left
 ·cases h
 rename_i b s;obtain⟨x0,e0,r0⟩:=ha.2 0 (by simp);have y:q=#[x0]:=by
  apply eO;intro i;have hz:q.size=1:=ha.1
  match i with
  |0=>rw[e0];rfl
  |i+1=>rw[dr (by omega),dr (by simp)]
 subst y;cases r0 with|@str _ _ t a=>
 have D:t.size=(b::s).length:=by
  rw[←a,cR];rfl
 have m:0<t.size:=by rw[D];simp
 have k:∀j (h:j<t.size),(b::s)[j]'(by omega)=t[j]'h:=fun j h=>by
  have:t.data.toList[j]?=some (t[j]'h):=by
   rw[fv];exact bE.2 ⟨h,rfl⟩
  rw[a,au (by omega)]at this;exact dW this
 have h0:t[0]'m=b:=(k 0 m).symm;split at h
 rotate_left
 ·cases h
 rename_i h8;split at h
 ·rename_i l;have g:∀c∈b::s,48≤c.toNat∧c.toNat≤57:=fun c Z=>by simpa using aY.1 l c Z
  have hd:∀j (h:j<t.size),48≤(t[j]'h).toNat∧(t[j]'h).toNat≤57:=fun j h=>by
   rw[←k j h];exact g _ (aJ _)
  have K:∀c∈t.data.toList,48≤c.toNat∧c.toNat≤57:=by rw[a];exact g
  have d:=ZJ (b::s) 0 g;rw[←a]at d;split at h
  ·rename_i n U;cases h;rw[a,U]at d;rw[←a]at d;refine (Sp TY o r B t m (by omega) hd n w fun W E=>?_).mono fun e w' ⟨u,J⟩=>?_
   ·have:=acP L t (by omega) (by omega) K n d W;rw[G]at this;exact this.mono fun e w' ⟨h1,h2⟩=>⟨h1,by rw[h2];exact E.trans ((Lib.bytesWorld_below _ _ _).mono E.size)⟩
   obtain⟨I,H⟩:=Ae hs J;have hb:(decide (t.size=1) || !decide ((t[0]'m).toNat=48))=(s==[] || !(b==48)):=by
    rw[h0,D];have e1:decide ((b::s).length=1)=(s==[]):=by cases s<;>simp
    have e2:decide (b.toNat=48)=(b==48):=by
     rw[eM,decide_eq_true_iff,aX,←UInt8.toNat_inj];rfl
    rw[e1,e2]
   rw[hb]at u;exact⟨_,u,c,I,H,ZM⟩
  rename_i U;cases h;rw[a,U]at d;rw[←a]at d;obtain⟨S,T,hv⟩:=hE w _ hg.2;have hG:=World.block_lt_of_cell? w _ hv;refine (MT TY o r B t m (by omega) hd 9223372036854775807 w fun W E=>?_).mono fun e w' ⟨u,J⟩=>?_
  ·have Y:W.cell? ⟨ρ.g 1,0,none⟩=some (.iface S T):=(E.cell hG).trans hv;have:=RD L t (by omega) (by omega) K d _ W Y (.inr ⟨S,T,rfl⟩);rw[G]at this;exact this.mono fun e w' ⟨N,h1,h2⟩=>⟨_,_,h1,E.trans (h2.mono E.size)⟩
  obtain⟨I,H⟩:=Ae hs J;exact⟨_,u,c,I,H,ZM⟩
 rename_i l;cases h;have V:∃x∈b::s,(!(decide (48≤x.toNat)&&decide (x.toNat≤57)))=true:=by
  refine fT fun ab=>l ?_;rw[aY];intro x hx;cases hq:(decide (48≤x.toNat)&&decide (x.toNat≤57)) with
  |true=>rfl
  |false=>exact absurd ⟨x,hx,by rw[hq];rfl⟩ ab
 obtain⟨A,af,ae,O⟩:∃A,∃h:A<(b::s).length,(!(decide (48≤((b::s)[A]).toNat)&&decide (((b::s)[A]).toNat≤57)))=true∧∀j (R:j<A),(!(decide (48≤((b::s)[j]'(by omega)).toNat)&&decide (((b::s)[j]'(by omega)).toNat≤57)))=false:=
  ⟨_,bM V,du (p:=fun (x:UInt8)=>!(decide (48≤x.toNat)&&decide (x.toNat≤57))),fun j R=>og.2 (by simpa using cU R)⟩
 have Q:A<t.size:=by omega
 refine (RX TY o r t A Q (fun j R X=>?_) (by rw[←k A Q];intro Z;simp[Z]at ae) w).mono fun e w' ⟨u,J⟩=>?_
 ·rw[←k j R];simpa using O j X
 obtain⟨I,H⟩:=Ae hs J;exact⟨_,u,c,I,H,ZM⟩
end Go.AM
namespace Go.AM
abbrev ap(n:Int):aq:=.int .i64 n
abbrev am:=aq.any
abbrev aC:=aq.bool
abbrev aI:=aq.agg
abbrev aO:=aq.str
abbrev aH:=aq.ptr
abbrev aB:=Obj.arr
abbrev fy:=aq.tup
abbrev aqQ(n:Int):Int:=IntKind.i64.wrap n
abbrev aqr(n:Int):Int:=IntKind.u64.wrap n
end Go.AM
namespace Go.AM.P
abbrev e:=db.env
abbrev l:=db.loc
abbrev v:=db.val
abbrev i(o:IK):cr:=⟨o,none⟩
abbrev g(x:db)(b:Bool)(o:IK):cr:=⟨o,some (x,b)⟩
end Go.AM.P
namespace Go.AM.P
abbrev E0:=e 0
abbrev E1:=e 1
abbrev E2:=e 2
abbrev E3:=e 3
abbrev E4:=e 4
abbrev E5:=e 5
abbrev E6:=e 6
abbrev E7:=e 7
abbrev E8:=e 8
abbrev E9:=e 9
abbrev oN:=e 10
abbrev qX:=e 11
abbrev sV:=e 12
abbrev tR:=e 13
abbrev yt:=e 14
abbrev EU:=e 15
abbrev GQ:=e 16
abbrev Ki:=e 17
abbrev QC:=e 18
abbrev PT:=e 19
abbrev E20:=e 20
abbrev PK:=e 21
abbrev Py:=e 22
abbrev E23:=e 23
abbrev E24:=e 24
abbrev E25:=e 25
abbrev E26:=e 26
abbrev E27:=e 27
abbrev E28:=e 28
abbrev E29:=e 29
abbrev E30:=e 30
abbrev E31:=e 31
abbrev E32:=e 32
abbrev E33:=e 33
abbrev E34:=e 34
abbrev E35:=e 35
abbrev E36:=e 36
abbrev E37:=e 37
abbrev E38:=e 38
abbrev L0:=l 0
abbrev L1:=l 1
abbrev L2:=l 2
abbrev L3:=l 3
abbrev L4:=l 4
abbrev L5:=l 5
abbrev L6:=l 6
abbrev L7:=l 7
abbrev L8:=l 8
abbrev L9:=l 9
abbrev mC:=l 10
abbrev oo:=l 11
abbrev v8:=l 12
abbrev rl:=l 13
abbrev BI:=l 14
abbrev F3:=l 15
abbrev AD:=l 16
abbrev zS:=l 17
abbrev Tp:=l 18
abbrev PN:=l 19
abbrev L20:=l 20
abbrev L21:=l 21
abbrev PS:=l 22
abbrev L23:=l 23
abbrev L24:=l 24
abbrev L25:=l 25
abbrev L26:=l 26
abbrev L27:=l 27
abbrev L28:=l 28
abbrev L29:=l 29
abbrev L30:=l 30
abbrev L31:=l 31
abbrev L32:=l 32
abbrev L33:=l 33
abbrev L34:=l 34
abbrev L35:=l 35
abbrev L36:=l 36
abbrev L37:=l 37
abbrev L38:=l 38
abbrev L39:=l 39
abbrev L40:=l 40
abbrev L41:=l 41
abbrev V0:=v (.int .i64 0)
abbrev V1:=v (.int .i64 1)
abbrev Vt:=v (.bool true)
abbrev Vf:=v (.bool false)
abbrev Vn:=v .ai
abbrev ld (x:db):IK:=.load false 1 x
abbrev lt (x:db):IK:=.load true 1 x
abbrev n0:aq:=.int .i64 0
abbrev nf:aq:=.bool false
end Go.AM.P
