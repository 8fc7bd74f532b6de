/- Part of the proof. -/
import Derived.Test.YtmpmbfpkpannjaaGreatDoorCm05
import Derived.Lib.LaidCase
import Derived.KernelRfl
import Derived.Lib.Case
import Derived.Lib.MapU
import Derived.Lib.Bytealg
import Derived.Shelf.SlSortCmp.Kit1
import Derived.Shelf.Sort.Plain
import Derived.Shelf.Strings.CaseAny
import Derived.Laws.Externs
import Derived.Shelf.Strings.OnBuilder
import Derived.Shelf.Slices.In.SortNone
import Derived.Shelf.Pu.Lays
import Derived.Shelf.Pu.ToErrorRange
import Derived.Lib.Strings
import Derived.Lib.Walk
import Derived.Lib.ConvBytes
import Derived.Lib.AtoiAllMem
import Derived.Lib.ParseIntBMem
import Derived.Lib.Hide
import Derived.Laws.Strings3
import Derived.Laws.Closers25
import Derived.Laws.Closers25b
import Derived.WalkKit
import Derived.BigCall
import Derived.BigGuard
import Derived.Test.YtmpmbfpkpannjaaGreatDoorProg
import Derived.Shelf.Strings.RuneCount
import Derived.Shelf.RegionOpenPlain
import Derived.Laws.RangeAny
set_option linter.unusedVariables false
set_option linter.unusedSimpArgs false
set_option linter.unusedSectionVars false
namespace Go.AM
section
variable (M:dm) (P:Program) (cA:Nat→Bool)
def O2:List (Tmp×dd)→Tmp→Option dd
 |[],_=>none
 |(u,x)::r,t=>if u==t then some x else O2 r t
def XD(em:List Tmp)(done:List (Tmp×dd))(o:Oper):Option dd:=
 if o.guard.isNone then (match Vj o.op with
  |some (.tmp t)=>(match O2 done t with
   |some x=>some x
   |none=>(em.idxOf? t).map .env)
  |some (.const v)=>(Ub v).map .val
  |_=>none) else none
def Fj(em:List Tmp):List Oper→List (Tmp×dd)→Nat→GC
 |[],_,_=>[]
 |o::r,done,n=>match XD em done o with
  |some x=>(x,none)::Fj em r (match o.dst with|some d=>(d,x)::done|none=>done) n
  |none=>(.loc n,some n)::Fj em r (match o.dst with|some d=>(d,.loc n)::done|none=>done) (n+1)
def Qw:Nat→GC→Option Nat
 |n,[]=>some n
 |n,(_,none)::r=>Qw n r
 |n,(_,some q)::r=>if q==n then Qw (n+1) r else none
def Cb(b:List Nat)(o:Oper):Nat:=o.after.toList.foldr (fun e s=>if Region.binds .any e then (s |||2^e.on) |||b.getD e.on 0 else s) 0
def kP:List Oper→List Nat→List Nat
 |[],acc=>acc
 |o::r,acc=>kP r (acc++[Cb acc o])
def GU(i:Nat):Nat:=2^i-1
def pi(b:List Nat)(i:Nat):Nat:=b.getD i 0
def DF:List Nat→Bool
 |[]=>true
 |x::r=>!r.contains x&&DF r
def yW(ins:List cr)(chk:List (Nat×Nat))(its:GC):List (Nat×Nat):=
 (List.range its.length).filterMap fun k=>match fJ its k with
  |some m=>if li cA ins chk m then some (k,m) else none
  |none=>none
def agG:Option cr→Bool
 |some ⟨.box _ (.val _),none⟩=>true
 |_=>false
def aeY(ops:List Oper)(ins:List cr)(em:List Tmp)(its:GC)(bef:Nat→Nat)(chk nws:List (Nat×Nat))(d:Nat):Bool:=
 match ops[d]? with
 |none=>false
 |some o=>(match o.op with|.alloc _=>true|_=>false)&&o.guard.isNone&&bef d==0&&(match o.dst,fJ its d with
  |some t,some n=>li cA ins chk n&&agG ins[n]?&&((List.range ops.length).all fun j=>!(bef j).testBit d ||nws.all fun km=>decide (n≤km.2) ||(bef j).testBit km.1) &&
    ((List.range ops.length).all fun j=>j==d ||(Jw ops em its bef j t).isNone ||(bef j).testBit d)
  |_,_=>false)
def Er(draw:Bool)(ops:List Oper)(ins:List cr)(em:List Tmp)(its:GC)(bef:Nat→Nat)(chk nws:List (Nat×Nat)):Option Nat:=
 if draw then (List.range ops.length).reverse.find? (aeY cA ops ins em its bef chk nws) else none
def CY(ins:List cr)(chk:List (Nat×Nat))(nws:List (Nat×Nat))(bef:Nat→Nat)(late:Option Nat)(i n:Nat)(I:cr):Bool:=
 if li cA ins chk n then late==some i ||nws.all fun km=>decide (i≤km.1) ||(bef i).testBit km.1
 else W8 cA I.op==0 ||
  ((nws.any (fun km=>(bef i).testBit km.1) ||nws.all (fun km=>decide (n≤km.2)) ||chk.contains (n,0)) &&
   nws.all fun km=>(bef km.1).testBit i ||nws.any (fun k'=>decide (km.2<k'.2)&&(bef i).testBit k'.1) ||
    (decide (km.2<n)&&nws.all (fun k'=>decide (k'.2≤km.2) ||decide (n≤k'.2))) ||chk.contains (n,km.2+1))
def Xd(draw:Bool)(ops:List Oper)(ins:List cr)(em:List Tmp)(its:GC)(bef:Nat→Nat)(chk nws:List (Nat×Nat))(late:Option Nat)(i:Nat)(o:Oper):Bool:=
 match fJ its i with
 |none=>SB ops em its bef i o
 |some n=>match ins[n]? with
  |none=>false
  |some I=>G3 M P (Jw ops em its bef i) o.op I.op&&Aw its bef ops i o.guard I.guard&&FH (sS its i) (.loc n)&&(!draw ||CY cA ins chk nws bef late i n I)
def vJ{α:Type}(f:Nat→α→Bool):Nat→List α→Bool
 |_,[]=>true
 |i,x::r=>f i x&&vJ f (i+1) r
def Dt(draw:Bool)(ops:List Oper)(ins:List cr)(em:List Tmp)(sL:List (Nat×dd))(chk:List (Nat×Nat))(nt:Nat):Bool:=
 let its:=Fj em ops [] 0
 let b:=kP ops []
 let bef:=if draw then pi b else GU
 (its.length==ops.length)&&(ops.all fun o=>match o.dst with|some d=>decide (d<nt)|none=>true)&&DF (ops.filterMap (·.dst)) &&
 (Qw 0 its==some ins.length)&&(!draw ||(vJ (fun i x=>decide (x<2^i)) 0 b&&b.length==ops.length&&vJ (fun i o=>Cb b o==b.getD i 0&&o.after.toList.all fun e=>!Region.binds .any e ||decide (e.on<i)) 0 ops)) &&
 vJ (Xd M P cA draw ops ins em its bef chk (yW cA ins chk its) (Er cA draw ops ins em its bef chk (yW cA ins chk its))) 0 ops&&xo ops em its sL&&(draw ||chk.isEmpty) &&
 chk.all (fun nj=>match ins[nj.1]? with|some I=>I.guard.isNone|none=>true)
end
theorem sn{b:Type}{f:Nat→b→Bool}:∀{l:List b} {i:Nat},vJ f i l=true→∀j x,l[j]?=some x→f (i+j) x=true
 |[],_,_,j,x,h=>by simp at h
 |y::r,i,h,j,x,a=>by
  simp only[vJ,ax]at h;cases j with
  |zero=>simp only[g9,aK]at a;subst a;exact h.1
  |succ j=>
   have:=sn h.2 j x (by simpa using a)
   rwa [show i+1+j=i+(j+1) by omega]at this
theorem wU:∀{l:List Nat},DF l=true→l.Nodup
 |[],_=>List.nodup_nil
 |x::r,h=>by
  simp only[DF,ax,gM,←Bool.not_eq_true,iK]at h;exact List.nodup_cons.2 ⟨h.1,wU h.2⟩
theorem mI{x:dd×Option Nat}{r:GC}:fJ (x::r) 0=x.2:=by simp[fJ]
theorem jd{x:dd×Option Nat}{r:GC}{k:Nat}:fJ (x::r) (k+1)=fJ r k:=by simp[fJ]
theorem DQ:∀{b:GC} {n m:Nat},Qw n b=some m→n≤m∧(∀k q,fJ b k=some q→n≤q∧q<m)∧(∀k i q p,fJ b k=some q→fJ b i=some p→k<i→q<p)∧∀q,n≤q→q<m→∃k,fJ b k=some q∧k<b.length
 |[],n,m,h=>by
  simp only[Qw,aK]at h;subst h;exact⟨aF _,fun k q h=>by simp[fJ]at h,fun k i q p h=>by simp[fJ]at h,fun q d c=>by omega⟩
 |(x,none)::r,n,m,h=>by
  simp only[Qw]at h;obtain⟨d,c,f,g⟩:=DQ h;refine⟨d,fun k q a=>?_,fun k i q p a hi j=>?_,fun q s l=>?_⟩
  ·cases k with
   |zero=>rw[mI]at a;cases a
   |succ k=>rw[jd]at a;exact c k q a
  ·cases k with
   |zero=>rw[mI]at a;cases a
   |succ k=>cases i with
    |zero=>omega
    |succ i=>rw[jd]at a hi;exact f k i q p a hi (by omega)
  obtain⟨k,k1,k2⟩:=g q s l;exact⟨k+1,by rw[jd];exact k1,by simpa using k2⟩
 |(x,some y)::r,n,m,h=>by
  simp only[Qw]at h;split at h
  ·rename_i t;have o:y=n:=by simpa using t
   subst o;obtain⟨d,c,f,g⟩:=DQ h;refine⟨by omega,fun k q a=>?_,fun k i q p a hi j=>?_,fun q s l=>?_⟩
   ·cases k with
    |zero=>rw[mI]at a;cases a;omega
    |succ k=>rw[jd]at a;have:=c k q a;omega
   ·cases i with
    |zero=>omega
    |succ i=>
     rw[jd]at hi;cases k with
     |zero=>rw[mI]at a;cases a;have:=c i p hi;omega
     |succ k=>rw[jd]at a;exact f k i q p a hi (by omega)
   by_cases e:q=y
   ·exact⟨0,by rw[mI,e],by simp⟩
   obtain⟨k,k1,k2⟩:=g q (by omega) l;exact⟨k+1,by rw[jd];exact k1,by simpa using k2⟩
  cases h
theorem Cn{cA:Nat→Bool}{c:List cr}{b:List (Nat×Nat)}{a:GC}{k m:Nat}(h:fJ a k=some m)(d:li cA c b m=true):(k,m)∈yW cA c b a:=by
 unfold yW;rw[List.mem_filterMap];refine⟨k,gm.2 ?_,?_⟩
 ·unfold fJ at h;cases hq:a[k]? with
  |none=>rw[hq]at h;cases h
  |some _=>exact (ak.1 hq).1
 rw[h];simp[d]
theorem abJ{cA:Nat→Bool}{b:List cr}{a:List (Nat×Nat)}{c:GC}{d:Nat×Nat}(h:d∈yW cA b a c):fJ c d.1=some d.2∧li cA b a d.2=true:=by
 unfold yW at h;rw[List.mem_filterMap]at h;obtain⟨k,_,h⟩:=h;split at h
 ·rename_i m e;split at h
  ·rename_i f;cases h;exact⟨e,f⟩
  cases h
 cases h
theorem Pn{b:List Nat}{o:Oper}{k:Nat}(h:(Cb b o).testBit k=true):∃e∈o.after,Region.binds .any e=true∧(k=e.on∨(pi b e.on).testBit k=true):=by
 unfold Cb at h;have key:∀l:List Edge,(l.foldr (fun e s=>if Region.binds .any e then (s |||2^e.on) |||b.getD e.on 0 else s) 0).testBit k=true→∃e∈l,Region.binds .any e=true∧(k=e.on∨(pi b e.on).testBit k=true):=by
  intro l;induction l with
  |nil=>intro h;simp at h
  |cons e l g=>
   intro h;simp only[List.foldr_cons]at h;split at h
   ·rename_i f;simp only[Nat.testBit_or,dL,Nat.testBit_two_pow,bZ]at h;rcases h with (h|h)|h
    ·obtain⟨d,a,c⟩:=g h;exact⟨d,cd _ a,c⟩
    ·exact⟨e,dH,f,.inl h.symm⟩
    exact⟨e,dH,f,.inr h⟩
   obtain⟨d,a,c⟩:=g h;exact⟨d,cd _ a,c⟩
 obtain⟨e,a,c⟩:=key _ h;exact⟨e,by simpa using a,c⟩
theorem RN{x i k:Nat}(h:x<2^i)(b:x.testBit k=true):k<i:=by
 by_cases a:k<i
 ·exact a
 have:x<2^k:=bu h (Nat.pow_le_pow_right (by omega) (by omega));rw[Nat.testBit_lt_two_pow this]at b;cases b
theorem FI{M:dm}{P:Program}{cA:Nat→Bool}{f:Bool}{c:Array Oper}{l:List cr}{em:List Tmp}{sL:List (Nat×dd)}{g:List (Nat×Nat)}{nt:Nat}(h:Dt M P cA f c.toList l em sL g nt=true) :
  xP M P cA c l em (Fj em c.toList [] 0) (if f then pi (kP c.toList []) else GU) g (Er cA f c.toList l em (Fj em c.toList [] 0) (if f then pi (kP c.toList []) else GU) g (yW cA l g (Fj em c.toList [] 0))) nt∧xo c.toList em (Fj em c.toList [] 0) sL=true∧(f=true→UN c (pi (kP c.toList [])))∧(f=false→g=[]):=by
 unfold Dt at h;dsimp only at h;simp only[ax,aX]at h;obtain⟨⟨⟨⟨⟨⟨⟨⟨h1,h2⟩,h3⟩,h4⟩,h5⟩,h6⟩,h7⟩,h8⟩,h9⟩:=h;generalize ar:Fj em c.toList [] 0=s at *;obtain⟨n1,n2,n3,n4⟩:=DQ h4;have w:∀(i:Nat) (o:Oper),c[i]?=some o→c.toList[i]?=some o:=fun i o C=>by simpa using C
 have Q:f=true→vJ (fun i x=>decide (x<2^i)) 0 (kP c.toList [])=true∧(kP c.toList []).length=c.size∧vJ (fun i o=>Cb (kP c.toList []) o==(kP c.toList []).getD i 0&&o.after.toList.all fun e=>!Region.binds .any e ||decide (e.on<i)) 0 c.toList=true:=fun hd=>by
  subst hd;simp only[rl,jG,ax,aX]at h5;exact⟨h5.1.1,by simpa using h5.1.2,h5.2⟩
 have ao:∀i k,((if f then pi (kP c.toList []) else GU) i).testBit k=true→k<i:=fun i k p=>by
  cases f with
  |false=>
   have q:(2^i-1).testBit k=true:=p;rw[eI]at q;simpa using q
  |true=>
   have q:((kP c.toList []).getD i 0).testBit k=true:=p;obtain⟨a1,a2,_⟩:=Q rfl;by_cases hi:i<(kP c.toList []).length
   ·have:=sn a1 i ((kP c.toList [])[i]) (by simp);simp only[cE,bZ]at this;rw[aS,au hi]at q;exact RN this q
   rw[aS,fR (by omega)]at q;simp at q
 refine⟨⟨by rw[h1];simp,fun i o d C hd=>?_,fun i k U ok d hi p G H=>?_,ao,fun k i n m p hi r=>n3 k i n m p hi r,fun n u=>?_,fun k n p=>(n2 k n p).2,fun i o C=>?_,fun d hd=>?_,fun n j I Y hI=>?_⟩,h7,fun hd=>?_,fun hd=>?_⟩
 ·have:=bd.1 h2 o (by rw[List.mem_iff_getElem?];exact⟨i,w i o C⟩);rw[hd]at this;simpa using this
 ·have ah:=wU h3;have hp:=List.pairwise_filterMap.1 ah;have an:=mJ.1 hp;have key:∀(i k:Nat) (U ok:Oper),c[i]?=some U→c[k]?=some ok→U.dst=some d→ok.dst=some d→¬i<k:=fun i k U ok hi p G H r=>by
   obtain⟨i1,i2⟩:=ak.1 (w i U hi);obtain⟨k1,k2⟩:=ak.1 (w k ok p);have:=an i k i1 k1 r d (by rw[i2];exact G) d (by rw[k2];exact H);exact this rfl
  have a:=key i k U ok hi p G H;have b:=key k i ok U p hi H G;omega
 ·obtain⟨k,k1,k2⟩:=n4 n (cI _) u;exact⟨k,k1,by rw[h1]at k2;simpa using k2⟩
 ·have hit:=sn h6 i o (w i o C);simp only[cE]at hit;unfold Xd at hit;split at hit
  ·rename_i u;exact .inl ⟨u,hit⟩
  rename_i n u;split at hit
  ·cases hit
  rename_i I hI;simp only[ax,dL,gM]at hit;obtain⟨⟨⟨i1,i2⟩,i3⟩,i4⟩:=hit;refine .inr ⟨n,I,u,hI,wo i3,i1,i2,?_,?_⟩
  ·intro B S k m p Y Z;cases f with
   |false=>
    show (2^i-1).testBit k=true;rw[eI];simpa using p
   |true=>
    have K:CY cA l g (yW cA l g s) (pi (kP c.toList [])) (Er cA true c.toList l em s (pi (kP c.toList [])) g (yW cA l g s)) i n I=true:=by simpa using i4
    unfold CY at K;rw[if_pos B]at K;simp only[dL,aX]at K;have:=bd.1 (K.resolve_left S) (k,m) (Cn Y Z);simp only[dL,bZ]at this;rcases this with h|h
    ·omega
    exact h
  intro B;cases f with
  |false=>
   right;refine⟨?_,fun k m p Z=>?_⟩
   ·by_cases A:∃k m,fJ s k=some m∧li cA l g m=true∧m<n
    ·obtain⟨k,m,v,y,L⟩:=A;refine .inl ⟨k,m,v,y,?_⟩;have r:k<i:=by
      rcases gd k i with h|h|h
      ·exact h
      ·subst h;rw[v]at u;cases u;omega
      have:=n3 i k n m u v h;omega
     show (2^i-1).testBit k=true;rw[eI];simpa using r
    exact .inr (.inl fun k m v y L=>A ⟨k,m,v,y,L⟩)
   rcases gd k i with h|h|h
   ·
    have ag:=n3 k i m n p u h;by_cases A:∃D E,fJ s D=some E∧li cA l g E=true∧m<E∧E < n
    ·obtain⟨D,E,v,y,L,e4⟩:=A;refine .inr (.inl ⟨D,E,v,y,L,?_⟩);have r:D < i:=by
      rcases gd D i with h|h|h
      ·exact h
      ·subst h;rw[v]at u;cases u;omega
      have:=n3 i D n E u v h;omega
     show (2^i-1).testBit D=true;rw[eI];simpa using r
    exact .inr (.inr (.inl ⟨ag,fun D E v y L e4=>A ⟨D,E,v,y,L,e4⟩⟩))
   ·subst h;rw[p]at u;cases u;rw[Z]at B;cases B
   left;show (2^k-1).testBit i=true;rw[eI];simpa using h
  |true=>
   have K:CY cA l g (yW cA l g s) (pi (kP c.toList [])) (Er cA true c.toList l em s (pi (kP c.toList [])) g (yW cA l g s)) i n I=true:=by simpa using i4
   unfold CY at K;rw[if_neg (by rw[B];simp)]at K;simp only[dL,ax,aX]at K;rcases K with h|⟨R,F⟩
   ·exact .inl h
   right;refine⟨?_,fun k m p Z=>?_⟩
   ·rcases R with (R|R)|R
    ·obtain⟨km,V,N⟩:=cB.1 R;obtain⟨W,O⟩:=abJ V;exact .inl ⟨km.1,km.2,W,O,N⟩
    ·refine .inr (.inl fun k m v y L=>?_);have:=bd.1 R (k,m) (Cn v y);simp only[bZ]at this;omega
    exact .inr (.inr (iK.1 R))
   have:=bd.1 F (k,m) (Cn p Z);simp only[dL,ax,bZ]at this;rcases this with ((h|h)|h)|h
   ·exact .inl h
   ·obtain⟨km,V,N⟩:=cB.1 h;simp only[ax,bZ]at N;obtain⟨W,O⟩:=abJ V;exact .inr (.inl ⟨km.1,km.2,W,O,N.1,N.2⟩)
   ·refine .inr (.inr (.inl ⟨h.1,fun D E v y L e4=>?_⟩));have:=bd.1 h.2 (D,E) (Cn v y);simp only[dL,bZ]at this;omega
   exact .inr (.inr (.inr (iK.1 h)))
 ·
  cases f with
  |false=>simp[Er]at hd
  |true=>
   simp only[Er,cw]at hd;have F:=List.find?_some hd;unfold aeY at F;split at F
   ·cases F
   rename_i o C;have al:c[d]?=some o:=by simpa using C
   simp only[ax,jg,aX]at F;obtain⟨⟨⟨V,N⟩,b3⟩,b4⟩:=F;refine⟨b3,?_⟩;split at b4
   ·rename_i t n ht u;simp only[ax]at b4;obtain⟨⟨⟨W,O⟩,c3⟩,c4⟩:=b4;split at V
    ·rename_i T hT;have X:∃kk z,l[n]?=some ⟨.box kk (.val z),none⟩:=by
      unfold agG at O;split at O
      ·rename_i kk z p;exact⟨kk,z,p⟩
      cases O
     obtain⟨kk,z,p⟩:=X;have av:(kP c.toList []).length=c.size:=(Q rfl).2.1;refine⟨o,T,t,n,kk,z,al,hT,N,ht,u,p,W,fun j hj k m af Y r=>?_,fun j ae ab aj=>?_⟩
     ·have ad:j<c.size:=by
       rcases Nat.lt_or_ge j c.size with h|h
       ·exact h
       have J:((kP c.toList []).getD j 0).testBit d=true:=hj;rw[aS,fR (by omega)]at J;simp at J
      have:=bd.1 c3 j (gm.2 (by simpa using ad));have J:(pi (kP c.toList []) j).testBit d=true:=hj;simp only[J,rl,jG]at this;have:=bd.1 this (k,m) (Cn af Y);simp only[dL,bZ]at this;rcases this with h|h
      ·omega
      exact h
     have:=bd.1 c4 j (gm.2 (by simpa using ae));simp only[dL,aX,jg]at this;rcases this with (h|h)|h
     ·exact absurd h ab
     ·exact absurd h aj
     exact h
    cases V
   cases b4
 ·have:=bd.1 h9 (n,j) Y;simp only[hI]at this;simpa using this
 ·obtain⟨_,a2,a3⟩:=Q hd;refine⟨fun i o C e he F=>?_,fun i o C k p=>?_⟩
  ·have:=sn a3 i o (w i o C);simp only[cE,ax]at this;have:=bd.1 this.2 e (by simpa using he);simpa [F] using this
  have:=sn a3 i o (w i o C);simp only[cE,ax,aX]at this;have q:((kP c.toList []).getD i 0).testBit k=true:=p;rw[←this.1]at q;exact Pn q
 subst hd;simpa using h8
end Go.AM
namespace Go.AM
open Go.Lib
theorem VY:0<caseA.size:=bu (show 0<1 by omega) (oo (by kernel_rfl))
structure Ml (g13 g3 g4 gE:Nat) (w:World) (s:Nat→Prop):Prop where
 case:∃R oR cap,w.cell? ⟨g13,0,none⟩=some (.slice (some ⟨R,oR,none⟩) caseA.size cap)∧CaseTab R oR caseA w∧s g13∧s R
 utf:Utf8Tabs g3 g4 w
 s3:s g3
 s4:s g4
 err:∃te pe,w.cell? ⟨gE,0,none⟩=some (.iface te pe)
 sE:s gE
theorem Ml.ext{a f g j:Nat}{w w':World}{s s':Nat→Prop}(h:Ml a f g j w s)(d:∀b,s b→s' b)(x:∀b,s b→w'.heap[b]?=w.heap[b]?):Ml a f g j w' s':=by
 obtain⟨⟨R,y,cap,q,r,l,m⟩,⟨B,C⟩,n,e,⟨A,z,v⟩,p⟩:=h;have k:∀b,s b→∀o,w'.cell? ⟨b,o,none⟩=w.cell? ⟨b,o,none⟩:=fun b t o=>p7 (x b t) o;refine⟨⟨R,y,cap,by rw[k _ l];exact q,fun i hi=>?_,d _ l,d _ m⟩,⟨fun c u=>by rw[k _ n];exact B c u,fun i hi=>?_⟩,d _ n,d _ e,⟨A,z,by rw[k _ p];exact v⟩,d _ p⟩
 ·have:=r i hi;simp only[k _ m];exact this
 rw[k _ e,k _ e];exact C i hi
def Ix(P:Program)(w:World)(s:Nat→Prop):Prop:=
 ∀ g13 g3 g4 gE,P.globalNamed "unicode.CaseRanges" = some g13→P.globalNamed "unicode/utf8.first" = some g3→P.globalNamed "unicode/utf8.acceptRanges" = some g4→P.globalNamed "strconv.ErrRange" = some gE→Ml g13 g3 g4 gE w s
theorem RT{P:Program}{w w':World}{s s':Nat→Prop}(h:Ix P w s)(k:∀b,s b→s' b)(j:∀b,s b→w'.heap[b]?=w.heap[b]?):Ix P w' s':=
 fun a b c d e f g i=>(h a b c d e f g i).ext k j
end Go.AM
namespace Go.AM
def ZG:Go.Code→List Go.Code
 |.seq a b=>[a,b]
 |.cond _ a b=>[a,b]
 |.block _ a=>[a]
 |.loop a=>[a]
 |.scope a=>[a]
 |.rangeFunc _ _ a b=>[a,b]
 |_=>[]
def rm:List Nat→Go.Code→Option Go.Code
 |[],c=>some c
 |i::r,c=>((ZG c)[i]?).bind (rm r)
theorem FC{i:Nat}:∀{p:List Nat} {c:Go.Code},rm (p++[i]) c=(rm p c).bind fun d=>(ZG d)[i]?
 |[],c=>by
  simp only[bX,rm,cF];cases (ZG c)[i]?<;>rfl
 |j::p,c=>by
  simp only[bY,rm];cases (ZG c)[j]? with
  |none=>rfl
  |some d=>exact FC
def vy:az→az
 |.lift _ _ _ x=>vy x
 |x=>x
structure uj where
 f:Nat
 path:List Nat
 em:List Tmp
def dm.of(P:Program)(fm:Nat→FuncId)(glob:Nat→Option aq)(sites:Nat→Option uj):dm where
 fm:=fm
 glob:=glob
 tabs:=Ix P
 tabs_ext:=fun _ _ _ _ h=>RT h
 site:=fun s rec em=>∃d fn code g,sites s=some d∧P.funcs[fm d.f]?=some fn∧fn.body=some code∧rm d.path code=some (.rangeFunc g rec.params rec.assign rec.body)∧em=d.em∧fn.ntmps≤rec.tmps.size
section
variable (M:dm) (P:Program) (cA:Nat→Bool) (em:List Tmp) (nt:Nat) (top:Bool) (siteB:Nat→List Nat→Bool)
def eP:Go.Code→List Nat→az→Bool
 |.region _ ops draw,_,x=>(match x with
  |.reg ins os=>Dt M P cA draw ops.toList ins em os [] nt
  |.regd ins os chk=>draw&&Dt M P cA draw ops.toList ins em os chk nt
  |_=>false)
 |.seq a b,path,x=>if FN b then eP a (path++[0]) (vy x) else if FN a then eP b (path++[1]) (vy x) else (match x with
  |.seq y z=>eP a (path++[0]) (vy y)&&eP b (path++[1]) (vy z)
  |_=>false)
 |.cond t a b,path,x=>(match x with
  |.cond t' y z=>lW M (yv em) t t'&&eP a (path++[0]) (vy y)&&eP b (path++[1]) (vy z)
  |_=>false)
 |.block id a,path,x=>(match x with
  |.blk id' y=>id==id'&&eP a (path++[0]) (vy y)
  |_=>false)
 |.loop a,path,x=>(match x with
  |.loop _ y=>eP a (path++[0]) (vy y)
  |_=>false)
 |.scope a,path,x=>(match x with
  |.scope y=>eP a (path++[0]) (vy y)
  |_=>false)
 |.rangeFunc g _ _ _,path,x=>(match x with
  |.rng n f site=>top&&lW M (yv em) g f&&DF em&&em.all (fun t=>decide (t<nt))&&n==em.length&&siteB site path
  |_=>false)
 |.exit id,_,x=>(match x with
  |.exit id'=>id==id'
  |_=>false)
 |.ret,_,x=>(match x with
  |.ret=>true
  |_=>false)
 |c,_,x=>(match x with
  |.skip=>FN c
  |_=>false)
end
theorem lu{M:dm}{P:Program}{cA:Nat→Bool}{em:List Tmp}{nt:Nat}{top:Bool}{c:Go.Code}:∀{x:az},gj M P cA em nt top c (vy x)→gj M P cA em nt top c x
 |.lift _ _ _ x,h=>.lift (lu (x:=x) h)
 |.skip,h=>h
 |.reg ..,h=>h
 |.regd ..,h=>h
 |.seq ..,h=>h
 |.cond ..,h=>h
 |.blk ..,h=>h
 |.loop ..,h=>h
 |.exit _,h=>h
 |.ret,h=>h
 |.rng ..,h=>h
 |.scope _,h=>h
theorem xm{M:dm}{P:Program}{cA:Nat→Bool}{em:List Tmp}{nt:Nat}{top:Bool}{siteB:Nat→List Nat→Bool}{root:Go.Code}
  (s:∀q f g B assign body,siteB q f=true→rm f root=some (.rangeFunc g B assign body)→∀fn tmps defers,nt≤tmps.size→M.site q ⟨fn,tmps,B,assign,body,defers⟩ em) :
  ∀(c:Go.Code) (f:List Nat) (x:az),rm f root=some c→eP M P cA em nt top siteB c f x=true→gj M P cA em nt top c x:=by
 have l:∀{f:List Nat} {c d:Go.Code} {i:Nat},rm f root=some c→(ZG c)[i]?=some d→rm (f++[i]) root=some d:=fun o p=>by
  rw[FC,o];exact p
 have y:∀c:Go.Code,(∀(f:List Nat) (x:az),rm f root=some c→eP M P cA em nt top siteB c f x=true→gj M P cA em nt top c x) ∧
   ∀r j,c=.seq r j→∀(f:List Nat) (x:az),rm f root=some j→eP M P cA em nt top siteB j f x=true→gj M P cA em nt top j x:=by
  intro c;induction c with
  |region id F u=>
  refine⟨?_,fun r j e=>by cases e⟩;intro f x k h;simp only[eP]at h;split at h
  ·obtain⟨o,p,v,z⟩:=FI h;cases u with
   |false=>exact .text o p
   |true=>exact .any o (v rfl) p
  ·simp only[ax]at h;obtain⟨hd,h⟩:=h;subst hd;obtain⟨o,p,v,z⟩:=FI h;exact .anyd o (v rfl) p
  ·cases h
  |seq a b n m=>
  refine⟨?_,fun r j e=>by cases e;exact m.1⟩;intro f x k h;simp only[eP]at h;split at h
  ·rename_i A;exact .left A (lu (n.1 _ _ (l k rfl) h))
  ·split at h
   ·rename_i A;exact .right A (lu (m.1 _ _ (l k rfl) h))
   split at h
   ·simp only[ax]at h;exact .seq (lu (n.1 _ _ (l k rfl) h.1)) (lu (m.1 _ _ (l k rfl) h.2))
   cases h
  |cond t a b n m=>
  refine⟨?_,fun r j e=>by cases e⟩;intro f x k h;simp only[eP]at h;split at h
  ·simp only[ax]at h;exact .cond h.1.1 (lu (n.1 _ _ (l k rfl) h.1.2)) (lu (m.1 _ _ (l k rfl) h.2))
  ·cases h
  |block id a w=>
  refine⟨?_,fun r j e=>by cases e⟩;intro f x k h;simp only[eP]at h;split at h
  ·simp only[ax,aX]at h;rw[h.1];exact .blk (lu (w.1 _ _ (l k rfl) h.2))
  ·cases h
  |loop a w=>
  refine⟨?_,fun r j e=>by cases e⟩;intro f x k h;rw[eP.eq_def]at h;dsimp only at h;split at h
  ·exact .loop (lu (w.1 _ _ (l k rfl) h))
  ·cases h
  |scope a w=>
  refine⟨?_,fun r j e=>by cases e⟩;intro f x k h;simp only[eP]at h;split at h
  ·exact .scope (lu (w.1 _ _ (l k rfl) h))
  ·cases h
  |rangeFunc g B assign body=>
  refine⟨?_,fun r j e=>by cases e⟩;intro f x k h;simp only[eP]at h;split at h
  ·simp only[ax,aX]at h;obtain⟨⟨⟨⟨⟨o,p⟩,v⟩,z⟩,C⟩,D⟩:=h;exact .rng o p (wU v) (fun t E=>by simpa using bd.1 z t E) C (s _ _ _ _ _ _ D k)
  ·cases h
  |exit id=>
  refine⟨?_,fun r j e=>by cases e⟩;intro f x k h;simp only[eP]at h;split at h
  ·rw[aX]at h;rw[h];exact .exit
  ·cases h
  |ret=>
  refine⟨?_,fun r j e=>by cases e⟩;intro f x k h;simp only[eP]at h;split at h
  ·exact .ret
  ·cases h
  |skip=>
  refine⟨?_,fun r j e=>by cases e⟩;intro f x k h;simp only[eP]at h;split at h
  ·exact .nop h
  ·cases h
  |_=>
  refine⟨?_,fun r j e=>by cases e⟩;intro f x k h;simp only[eP]at h;split at h
  ·exact .nop h
  cases h
 exact fun c=>(y c).1
def xA:List Nat→List Nat→Bool
 |[],[]=>true
 |a::x,b::y=>a==b&&xA x y
 |_,_=>false
theorem wE:∀{a b:List Nat},xA a b=true→a=b
 |[],[],_=>rfl
 |[],_::_,h=>by simp[xA]at h
 |_::_,[],h=>by simp[xA]at h
 |a::x,b::y,h=>by
  simp only[xA,ax,aX]at h;rw[h.1,wE h.2]
def aa3(sites:Nat→Option uj)(f:Nat)(em:List Tmp)(s:Nat)(path:List Nat):Bool:=match sites s with
 |some d=>d.f==f&&xA d.path path&&xA d.em em
 |none=>false
section
variable (P:Program) (fm:Nat→FuncId) (glob:Nat→Option aq) (sites:Nat→Option uj) (cA:Nat→Bool)
def Gy(f:Nat)(em:List Tmp)(g:br):Bool:=match P.funcs[fm f]? with
 | some fn=>!(fn.name == "runtime.NumGoroutine")&&(match fn.body with
  |some code=>eP (dm.of P fm glob sites) P cA em fn.ntmps true (aa3 sites f em) code [] (vy g.body)
  |none=>false)&&xA (em.take g.np) (List.range g.np)&&decide (g.np≤em.length)&&g.res.length==fn.results.toList.length&&((g.res.zip fn.results.toList).all fun p=>J6 P em p.1 p.2)&&g.mode.ok
 |none=>false
def EP(s:Nat)(g:yH):Bool:=match sites s with
 |some d=>(match P.funcs[fm d.f]? with
  |some fn=>(match fn.body with
   |some code=>(match rm d.path code with
    |some (.rangeFunc _ ps assign body)=>g.nenv==d.em.length&&eP (dm.of P fm glob sites) P cA d.em fn.ntmps false (fun _ _=>false) assign [] (vy g.pre)&&xA (g.params.map fun i=>d.em.getD i 0) ps.toList&&(g.params.all fun i=>decide (i<d.em.length))&&DF d.em &&
      eP (dm.of P fm glob sites) P cA d.em fn.ntmps false (fun _ _=>false) body [] (vy g.body)
    |_=>false)
   |none=>false)
  |none=>false)
 |none=>false
end
theorem Iu{P:Program}{fm:Nat→FuncId}{glob:Nat→Option aq}{sites:Nat→Option uj}{cA:Nat→Bool}{f:Nat}{em:List Tmp}{g:br}(h:Gy P fm glob sites cA f em g=true) :
  ace (dm.of P fm glob sites) P cA f g:=by
 unfold Gy at h;split at h
 ·rename_i fn a;simp only[ax,gM,aX,bZ]at h;obtain⟨⟨⟨⟨⟨⟨m,c⟩,n⟩,o⟩,p⟩,q⟩,r⟩:=h;split at c
  ·rename_i code i;refine⟨fn,code,em,a,m,i,?_,wE n,o,p,q,r⟩;refine lu (xm (root:=code) (fun k j g w assign body b s l tmps defers e=>?_) code [] _ rfl c);unfold aa3 at b;split at b
   ·rename_i d hd;simp only[ax,aX]at b;obtain⟨⟨t,u⟩,v⟩:=b;refine⟨d,fn,code,g,hd,by rw[t];exact a,i,by rw[wE u];exact s,(wE v).symm,e⟩
   cases b
  cases c
 cases h
theorem LL{P:Program}{fm:Nat→FuncId}{glob:Nat→Option aq}{sites:Nat→Option uj}{cA:Nat→Bool}{s:Nat}{g:yH}(h:EP P fm glob sites cA s g=true){a:mv}{em:List Tmp}(b:(dm.of P fm glob sites).site s a em) :
  Da (dm.of P fm glob sites) P cA g a em:=by
 obtain⟨d,fn,code,q,j,k,l,m,rfl,n⟩:=b;unfold EP at h;rw[j]at h;simp only[k,l,m,ax,aX]at h;obtain⟨⟨⟨⟨⟨k1,k2⟩,k3⟩,k4⟩,k5⟩,k6⟩:=h;refine⟨fn.ntmps,k1,n,lu (xm (root:=a.assign) (fun e c g o assign body b=>by cases b) _ [] _ rfl k2),?_,wU k5,?_⟩
 ·rw[←wE k3,bU];refine aU fun i hi=>?_;have f:i<d.em.length:=by simpa using bd.1 k4 i hi
  simp[f]
 exact lu (xm (root:=a.body) (fun e c g o assign body b=>by cases b) _ [] _ rfl k6)
end Go.AM
namespace Go.AM
def lJ(le:aq→aq→Bool)(x:aq):List aq→List aq
 |[]=>[x]
 |y::r=>if le x y then x::y::r else y::lJ le x r
def oe(le:aq→aq→Bool):List aq→List aq
 |[]=>[]
 |x::r=>lJ le x (oe le r)
theorem xg{le:aq→aq→Bool}{x z:aq}:∀{l:List aq},z∈lJ le x l↔z=x∨z∈l
 |[]=>by simp[lJ]
 |y::r=>by
  simp only[lJ];split
  ·simp
  simp only[dX,xg (l:=r)];constructor
  ·rintro (h|h|h)<;>simp[h]
  rintro (h|h|h)<;>simp[h]
theorem uR{le:aq→aq→Bool}{z:aq}:∀{l:List aq},z∈oe le l↔z∈l
 |[]=>by simp[oe]
 |x::r=>by simp[oe,xg,uR (l:=r)]
def O9:List aq→Option (List Int)
 |[]=>some []
 |.int .i64 n::r=>(O9 r).map (n::·)
 |_=>none
def su:aq→aq→Bool
 |.int _ a,.int _ b=>decide (a≤b)
 |_,_=>true
def yQ(args:List aq)(σ:aw):Option (aq×aw):=
 match args with
 |[.ai]=>some (.any,σ)
 |[.sl id ep off n]=>match σ[id]? with
  |some (.arr k e es)=>
   if e=ep∧off+n≤es.length∧n≤bD∧(O9 ((es.drop off).take n)).isSome then
    some (.any,σ.set id (.arr k e (es.take off++oe su ((es.drop off).take n)++es.drop (off+n))))
   else none
  |_=>none
 |_=>none
def Yf(args:List aq)(σ:aw):Option (aq×aw):=
 match args with
 |[.int .u64 x,.int .u64 y,.int .u64 c]=>
  if 0≤x∧x<18446744073709551616∧0≤y∧y<18446744073709551616∧0≤c∧c≤1 then
   some (.tup [.int .u64 ((x+y+c)%18446744073709551616),.int .u64 ((x+y+c)/18446744073709551616)],σ)
  else none
 |_=>none
def Ag(args:List aq)(σ:aw):Option (aq×aw):=
 match args with
 |[.str s]=>if s.length<35184372088832 then some (.str (if s.all (fun b=>decide (b.toNat < 128))=true then Lib.toUpperA s else Lib.toUpperD s),σ) else none
 |_=>none
def DZ(args:List aq)(σ:aw):Option (aq×aw):=
 match args with
 |[.str a,.str b]=>some (.int .i64 (if Op.bytesLess a b then -1 else if a==b then 0 else 1),σ)
 |_=>none
def indexByte(args:List aq)(σ:aw):Option (aq×aw):=
 match args with
 |[.str s,.int .u8 c]=>some (.int .i64 (Lib.indexByte s c.toNat.toUInt8),σ)
 |_=>none
def Cl(acc:Nat):List UInt8→Option Nat
 |[]=>some acc
 |c::r=>if 1844674407370955162≤acc then none else if 9223372036854775807<acc*10+(c.toNat - 48) then none else Cl (acc*10+(c.toNat - 48)) r
def wt(args:List aq)(σ:aw):Option (aq×aw):=
 match args with
 |[.str (b::s)]=>if (b::s).length≤8000 then
   (if (b::s).all (fun c=>decide (48≤c.toNat)&&decide (c.toNat≤57))=true then
    (match Cl 0 (b::s) with
    |some n=>some (.tup [.int .u64 n,.bool (s==[] || !(b==48))],σ)
    |none=>some (.tup [.int .u64 9223372036854775807,.bool false],σ))
   else some (.tup [.int .u64 0,.bool false],σ)) else none
 |_=>none
def prims:Nat→aiM
 |0=>fun _=>Yf
 |2=>fun _=>yQ
 |3=>fun _=>DZ
 |4=>fun _=>Ag
 |6=>fun _=>indexByte
 |8=>fun _=>wt
 |_=>fun _ _ _=>none
theorem P8(k:Nat)(C D:ip)(args:List aq)(σ:aw)(r:aq×aw)(h:WB C D)(a:prims k C args σ=some r):prims k D args σ=some r:=by
 unfold prims at a ⊢;split at a
 ·exact a
 ·exact a
 ·exact a
 ·exact a
 ·exact a
 ·exact a
 cases a
end Go.AM
namespace Go.AM
open Go.Proofs Go.Sort Go.Shelf
variable {M:dm} {P:Program} {w w':World} {c c1:dk} {σ τ:aw}
theorem ad9{F:Fence}(h:vc F):∃r,F={ Fence.wide with round:=r }:=by
 obtain⟨fn,b,a,round⟩:=F;obtain⟨c,d,e⟩:=h;dsimp only at c d e;subst d e;have:fn=fun _=>True:=funext fun f=>propext ⟨fun _=>trivial,fun _=>c f⟩;subst this;exact⟨round,rfl⟩
theorem xp{F:Fence}(h:vc F){n:Nat}{f:FuncId}{args:Array Value}{R:Ending→World→Prop}:CallsIn F n P f args w R↔Calls P f args w R:=by
 obtain⟨r,rfl⟩:=ad9 h;exact callsIn_wide (n:=n)
theorem Ka:vc Fence.wide:=⟨fun _=>trivial,rfl,rfl⟩
theorem AX{le:aq→aq→Bool}{x:aq}:∀{l:List aq},(lJ le x l).Perm (x::l)
 |[]=>.refl _
 |y::r=>by
  simp only[lJ];split
  ·exact .refl _
  exact (List.Perm.cons y AX).trans (List.Perm.swap x y r)
theorem EZ{le:aq→aq→Bool}:∀{l:List aq},(oe le l).Perm l
 |[]=>.refl _
 |x::r=>AX.trans (List.Perm.cons x EZ)
theorem xQ{le:aq→aq→Bool}{x:aq}:∀{l:List aq},(∀y∈l,le x y=true∨le y x=true)→(∀y∈l,∀z∈l,le x y=true→le y z=true→le x z=true)→l.Pairwise (fun a b=>le a b=true)→(lJ le x l).Pairwise (fun a b=>le a b=true)
 |[],_,_,_=>by simp[lJ]
 |y::r,h,e,g=>by
  simp only[lJ];obtain⟨f,i⟩:=mX.1 g;split
  ·rename_i d;refine mX.2 ⟨fun z c=>?_,g⟩;rcases dX.1 c with rfl|c
   ·exact d
   exact e y dH z (cd _ c) d (f z c)
  rename_i d;refine mX.2 ⟨fun z c=>?_,xQ (fun z c=>h z (cd _ c)) (fun a j b k=>e a (cd _ j) b (cd _ k)) i⟩;rcases xg.1 c with rfl|c
  ·exact (h y dH).resolve_left d
  exact f z c
theorem AR{le:aq→aq→Bool}:∀{l:List aq},(∀x∈l,∀y∈l,le x y=true∨le y x=true)→(∀x∈l,∀y∈l,∀z∈l,le x y=true→le y z=true→le x z=true)→(oe le l).Pairwise (fun a b=>le a b=true)
 |[],_,_=>List.Pairwise.nil
 |x::r,h,d=>by
  refine xQ (fun y g=>h x dH y (cd _ (uR.1 g))) (fun y g z j=>d x dH y (cd _ (uR.1 g)) z (cd _ (uR.1 j))) ?_;exact AR (fun a e b f=>h a (cd _ e) b (cd _ f)) fun a e b f c i=>d a (cd _ e) b (cd _ f) c (cd _ i)
theorem XN(V:fd M w c σ){id e blk off n:Nat}{es mid':List aq}(U:σ[id]?=some (.arr 1 e es))(Q:c.place id=some blk){cs cs':Array Value}{T:TypeId}{E:Nat→Nat→Value}(A:w.heap[blk]?=some (.cells cs T (0,0)))
  (O:es.length*1≤cs.size) (v:c.room id=cs.size) (Y:∀i j,i<es.length→j<1→cs[i*1+j]?=some (E i j)∧(E i j).oneCell'=true) (Z:∀i (hi:i<es.length) j (s:j<(cellsOf es[i]).length),R M w c (cellsOf es[i])[j] (E i j))
  (o:∀x∈es,aM x=1) (S:off+n≤es.length) (B:mid'.length=n) (d:∀x∈mid',aM x=1∧isAgg x=false) (g:Nat→Value) (hg:∀i,i<n→(g i).oneCell'=true) (L:∀i (h:i<mid'.length),R M w c mid'[i] (g i))
  (hw:w'.heap[blk]?=some (.cells cs' T (0,0))) (K:cs'.size=cs.size) (J:∀k,cs'[k]?=if off≤k∧k<off+n then some (g (k-off)) else cs[k]?) (f:∀b,b<w.heap.size→b≠blk→w'.heap[b]?=w.heap[b]?) (D:w.heap.size≤w'.heap.size) (y:Same w w') :
  fd M w' c (σ.set id (.arr 1 e (es.take off++mid'++es.drop (off+n))))∧iW c w c w':=by
 have u:c.H id≠.dead:=by rw[V.H,fe U];simp
 have H:blk<w.heap.size:=(bF.1 A).1;have a:u7 w { w with heap:=w.heap.setIfInBounds blk (.cells cs' T (0,0)) } blk (.cells cs' T (0,0)):=⟨⟨rfl,rfl,rfl,aF _⟩,rfl⟩;have p:(es.take off++mid'++es.drop (off+n)).length=es.length:=by simp[B];omega
 have G:∀i (hi:i<(es.take off++mid'++es.drop (off+n)).length),(off≤i∧i<off+n∧∃h:i-off<mid'.length,(es.take off++mid'++es.drop (off+n))[i]=mid'[i-off]) ∨
   (¬(off≤i∧i<off+n)∧∃h:i<es.length,(es.take off++mid'++es.drop (off+n))[i]=es[i]):=fun i hi=>by
  by_cases z:i<off
  ·right;refine⟨by omega,by omega,?_⟩;rw[cg (by simp[B];omega),cg (by simp;omega)];simp
  by_cases q:i<off+n
  ·left;refine⟨by omega,q,by omega,?_⟩;rw[cg (by simp[B];omega),cP (by simp;omega)];congr 1;simp;omega
  right;refine⟨by omega,by omega,?_⟩;rw[cP (by simp[B];omega)];simp only[eH];congr 1;simp[B];omega
 obtain⟨s1,P⟩:=V.setRow (es':=es.take off++mid'++es.drop (off+n)) U Q A a K v (by simp) (fun x m=>by
   rcases ba.1 m with m|m
   ·rcases ba.1 m with m|m
    ·exact o x (cL m)
    exact (d x m).1
   exact o x (dR m)) (by rw[p];exact O) (fun i j=>if off≤i∧i<off+n then g (i-off) else E i j)
  (fun i j hi s=>by
   have t:j=0:=by omega
   subst t;rw[J];rw[p]at hi;simp only[jX,ew];split
   ·exact⟨rfl,hg _ (by omega)⟩
   have:=Y i 0 hi (by omega);simpa using this)
  (fun i hi j s=>by
   rcases G i hi with⟨z,q,F,X⟩|⟨z,q,F⟩
   ·simp only[X]at s ⊢;rw[if_pos ⟨z,q⟩];have C:=(d _ (aJ F)).2;have r:cellsOf mid'[i-off]=[mid'[i-off]]:=by
     cases hm:mid'[i-off]<;>first|rfl|(rw[hm]at C;cases C)
    simp only[r]at s ⊢;have t:j=0:=by simpa using s
    subst t;exact L _ F
   simp only[F]at s ⊢;rw[if_neg z];exact Z i q j s)
 obtain⟨s2,x2⟩:=s1.over (w':=w') (fun b l ab=>by
   rw[a.get b H];split
   ·rename_i W;rw[W];exact hw
   rename_i N;rw[a.size]at l;exact f b l N) (by rw[a.size];exact D)
 refine⟨s2,{ Ext.trans P.toExt x2 with same:=y,size:=D,frame:=fun b l I=>f b l (fun e=>I id u (e▸Q)),liv:=fun i b z q _=>⟨i,z,q⟩,old:=fun _ h _=>.inl h,oldb:=fun _ h _=>.inl h }⟩
theorem HZ{h:Type}[Inhabited h]{enc:h→Value}{blk off m:Nat}{d:Array h}{os:Array Go.Obj}{cs:Array Value}{T:TypeId}(a:w.heap[blk]?=some (.cells cs T (0,0))) :
  (grow (putRow enc (Sort.ahead w m) blk off d) os).heap[blk]?=some (.cells (putCells enc off d cs) T (0,0))∧(∀b,b<w.heap.size→b≠blk→(grow (putRow enc (Sort.ahead w m) blk off d) os).heap[b]?=w.heap[b]?) ∧
   w.heap.size≤(grow (putRow enc (Sort.ahead w m) blk off d) os).heap.size∧Same w (grow (putRow enc (Sort.ahead w m) blk off d) os):=by
 have c:blk<w.heap.size:=(bF.1 a).1;have f:(grow (putRow enc (Sort.ahead w m) blk off d) os).heap=w.heap.modify blk (onCells (putCells enc off d))++os:=rfl;refine⟨?_,fun b i g=>?_,?_,⟨rfl,rfl,rfl,aF _⟩⟩
 ·rw[f,eh (by simpa using c),gw,if_pos rfl,a];rfl
 ·rw[f,eh (by simpa using i),gw,if_neg (fun e=>g e.symm)]
 rw[f];simp
theorem Nr{a:Type}[Inhabited a]{enc:a→Value}{off k:Nat}{d:Array a}{cs:Array Value}(b:off+d.size≤cs.size):(putCells enc off d cs)[k]?=if off≤k∧k<off+d.size then some (enc d[k-off]!) else cs[k]?:=by
 unfold putCells;rw[Array.getElem?_mapIdx];by_cases h:off≤k∧k<off+d.size
 ·rw[if_pos h,cQ (by omega)];simp[h]
 rw[if_neg h];cases cs[k]? with
 |none=>rfl
 |some x=>simp[h]
theorem abi{id:Nat}{o:Obj}(h:σ[id]?=some o):σ.set id o=σ:=by
 apply eY;intro i;rw[dx];split
 ·rename_i e;subst e;rw[if_pos (ak.1 h).1,h]
 rfl
end Go.AM
namespace Go.AM
def ac3(P:Program)(fm:Nat→FuncId)(glob:Nat→Option aq)(sites:Nat→Option uj)(cA:Nat→Bool)(em:Nat→List Tmp)(n:Nat):kW→Bool
 |.fn g=>Gy P fm glob sites cA n (em n) g
 |.nilfn g=>Gy P fm glob sites cA n (em n) g
 |.round g=>EP P fm glob sites cA n g
 |_=>true
def Y5(f:Nat→kW→Bool):Nat→List kW→Prop
 |_,[]=>True
 |i,x::r=>f i x=true∧Y5 f (i+1) r
theorem CS{f:Nat→kW→Bool}:∀{l:List kW} {i:Nat},Y5 f i l→∀j x,l[j]?=some x→f (i+j) x=true
 |[],_,_,j,x,h=>by simp at h
 |y::r,i,h,j,x,a=>by
  cases j with
  |zero=>simp only[g9,aK]at a;subst a;exact h.1
  |succ j=>
   have:=CS h.2 j x (by simpa using a)
   rwa [show i+1+j=i+(j+1) by omega]at this
theorem getD_some{l:List kW}{n:Nat}{e:kW}(h:l.getD n .none=e)(a:e≠.none):l[n]?=some e:=by
 rw[aS]at h;cases hq:l[n]? with
 |none=>rw[hq]at h;exact absurd h.symm a
 |some x=>rw[hq]at h;simp at h;rw[h]
def xH(tbl:List kW)(n:Nat):Bool:=match tbl.getD n .none with
 |.fn g=>g.mode.lends
 |.nilfn g=>g.mode.lends
 |.prim k=>k==0 ||k==3
 |_=>false
def Bu(tbl:List kW):Code:=⟨fun n=>tbl.getD n .none,prims⟩
theorem O5{args:List aq}{σ a:aw}{v:aq}(h:Yf args σ=some (v,a)):a=σ:=by
 unfold Yf at h;split at h
 ·split at h
  ·cases h;rfl
  cases h
 cases h
theorem FZ{args:List aq}{σ a:aw}{v:aq}(h:DZ args σ=some (v,a)):a=σ:=by
 unfold DZ at h;split at h
 ·cases h;rfl
 cases h
theorem adT{P:Program}{fm:Nat→FuncId}{glob:Nat→Option aq}{sites:Nat→Option uj}{em:Nat→List Tmp}{tbl:List kW}(l:P.follows .mixedOrders=true)
  (a:Y5 (ac3 P fm glob sites (xH tbl) em) 0 tbl) (n:∀s d,sites s=some d→∃g,tbl.getD s .none=.round g)
  (m:∀f k,tbl.getD f .none=.prim k→BF (dm.of P fm glob sites) P f (prims k)):zl (dm.of P fm glob sites) P (xH tbl) (Bu tbl) where
 mixed:=l
 fns:=fun f g h=>by
  have:=CS a f _ (getD_some h (by simp));rw[cE]at this;exact Iu this
 nilfns:=fun f g h=>by
  have:=CS a f _ (getD_some h (by simp));rw[cE]at this;exact Iu this
 prims:=m
 sites:=fun s o e h=>by
  have i:=h;obtain⟨d,_,_,_,hd,_⟩:=i;obtain⟨g,b⟩:=n s d hd;refine⟨g,b,?_⟩;have:=CS a s _ (getD_some b (by simp));rw[cE]at this;exact LL this h
 keeps:=fun f h=>by
  unfold xH at h;split at h
  ·rename_i g b;exact .inl ⟨g,.inl b,h⟩
  ·rename_i g b;exact .inl ⟨g,.inr b,h⟩
  ·rename_i k j;refine .inr ⟨k,j,fun C args σ v p c=>?_⟩;simp only[dL,aX]at h;rcases h with rfl|rfl
   ·exact O5 c
   exact FZ c
  cases h
def dk.start(w:World)(gs:Nat→Prop)(lp:mv):dk:={ sld:=fun b=>gs b∧b<w.heap.size,bor:=fun b=>b<w.heap.size,H:=hd [],N:=0,place:=fun _=>none,room:=fun _=>0,loops:=fun _=>lp }
theorem WV{M:dm}{w:World}{gs:Nat→Prop}{a:mv}:fd M w (dk.start w gs a) []:=
 ⟨rfl,rfl,fun _ h=>h.2,fun _ h=>h,fun id b h=>absurd (by rfl) h,fun i j b h=>absurd (by rfl) h,fun id o h=>by cases h⟩
theorem VC{P:Program}{fm:Nat→FuncId}{glob:Nat→Option aq}{sites:Nat→Option uj}{tbl:List kW}(p:zl (dm.of P fm glob sites) P (xH tbl) (Bu tbl)){n f:Nat}{args:List aq}{v:aq}{i:aw}
  (g:dV (Bu tbl) n f args []=some (v,i)) (q:∃a∈args,zv a=false) {w:World} {gs:Nat→Prop} {l:mv} {c:Array Value} (r:kK (dm.of P fm glob sites) w (dk.start w gs l)) (m:lU (dm.of P fm glob sites) w (dk.start w gs l) args c) :
  Calls P (fm f) c w fun e w'=>∃cv c',e=.returned cv∧RF (dm.of P fm glob sites) w.heap.size w' c' v cv∧Same w w'∧w.heap.size≤w'.heap.size∧∀b,b<w.heap.size→w'.heap[b]?=w.heap[b]?:=by
 have h:=(FD p n).1 f args [] v i g Fence.wide 0 w _ c Ka WV r m;have k:=h.2 q c w;rcases h.1 with⟨_,d⟩|⟨cv,w',j,_⟩
 ·rw[xp Ka]at d;refine d.mono fun e w' u=>?_;obtain⟨cv,rfl,c',s',st,t⟩:=u;exact⟨cv,c',rfl,t,st.same,st.size,fun b o=>st.frame b o fun id s=>absurd (by rfl) s⟩
 rw[show (dm.of P fm glob sites).fm f=fm f from rfl]at k j;rw[k]at j;cases j
end Go.AM
namespace Go.AM
open Go.Proofs Go.Shelf
variable {M:dm} {P:Program} {w w':World} {c c1:dk} {σ τ:aw}
theorem Ah(k:fd M w c σ)(d:RowKit.Below w.heap.size w w'):fd M w' c σ∧iW c w c w':=by
 have e:∀b,b<w.heap.size→w'.heap[b]?=w.heap[b]?:=d.block;obtain⟨f,g⟩:=k.over (w':=w') (fun b a _=>e b a) d.size;exact⟨f,{ g with same:=⟨d.tape,d.os,d.output,aF _⟩,size:=d.size,frame:=fun b a _=>e b a,liv:=fun id b i j _=>⟨id,i,j⟩,old:=fun b h _=>.inl h,oldb:=fun b h _=>.inl h }⟩
theorem Rv{ρ:Ren}(L:Lays.n158 P ρ)(X:Builder.Extra P ρ){f:Nat}(n:M.fm f=ρ.f 158)(l:∀args w,(callFunc (ρ.f 158) args).run P w=.ok (.enter (ρ.f 158) args) w)
  (G:∀w s,M.tabs w s→Lib.CaseVar (ρ.g 13) Lib.caseA w∧Lib.Utf8Tabs (ρ.g 3) (ρ.g 4) w):BF M P f fun _=>Ag:=by
 intro C J K args σ v p h F n0 w c a z E D q;refine⟨.inl ⟨by rw[n];exact l _ _,?_⟩,fun _ d w'=>by rw[n];exact l d w'⟩;rw[xp z,n];replace h:Ag args σ=some (v,p):=h;unfold Ag at h;split at h
 ·rename_i s;split at h
  ·rename_i r;cases h;obtain⟨I,y,H⟩:=q.2 0 (by simp);have g:a=#[I]:=by
    apply eN;intro i;have N:a.size=1:=q.1
    match i with
    |0=>rw[y];rfl
    |i+1=>rw[dq (by omega),dq (by simp)]
   subst g;cases H with|@str _ _ t k=>
   obtain⟨B,A⟩:=G w _ D.2;have o:t.size<35184372088832:=by
    have:t.size=s.length:=by rw[←k,cR];rfl
    omega
   refine (Any.strings_ToUpper_any L X t w o B A).mono fun e w' ⟨l,m⟩=>?_;obtain⟨u,x⟩:=Ah E m;refine⟨_,l,c,u,x,.r (.str ?_)⟩;rw[k];split
   ·rename_i j;rw[Lib.toUpperD_ascii s fun b m=>by simpa using bd.1 j b m]
   rfl
  cases h
 cases h
end Go.AM
namespace Go.AM
variable {M:dm} {P:Program} {w w':World} {c c1:dk} {σ τ:aw}
end Go.AM
namespace Go.AM
open Go.Proofs Go.Shelf
variable {M:dm} {P:Program} {w w':World} {c:dk} {σ:aw}
theorem LR{f:Nat}{fn:Func}(hf:P.funcs[M.fm f]?=some fn)(h1:(fn.name == "runtime.NumGoroutine")=false)(h2:fn.body.isNone=true)(h3:Extern.findNext fn=none)(h4:Extern.find fn=some Extern.BytealgIndexByte.indexByte):BF M P f fun _=>indexByte:=by
 intro C hC hR args σ v σ' h F n w c cargs hF hs hg ha;replace h:indexByte args σ=some (v,σ'):=h;unfold indexByte at h;split at h
 ·rename_i a b;cases h;obtain⟨x0,e0,r0⟩:=ha.2 0 (by simp);obtain⟨x1,e1,r1⟩:=ha.2 1 (by simp);have hc:cargs=#[x0,x1]:=by
   apply eN;intro i;have hz:cargs.size=2:=ha.1
   match i with
   |0=>rw[e0];rfl
   |1=>rw[e1];rfl
   |i+2=>rw[dq (by omega),dq (by simp)]
  subst hc;cases r0 with|@str _ s t ht=>cases r1 with|int=>
  refine⟨.inr ⟨.int .i64 (Lib.indexByte a b.toNat.toUInt8),w,?_,c,hs,.refl c w,.r .int⟩,fun hx=>?_⟩
  ·rw[run_callFunc_extern hf h1 h2 h3 h4,Lib.run_indexByteString,ht];rfl
  exfalso;obtain⟨y,hy,hp⟩:=hx;simp at hy;rcases hy with rfl|rfl<;>simp[zv]at hp
 cases h
end Go.AM
namespace Go.AM
open Go.Proofs Go.Sort Go.Shelf
variable {M:dm} {P:Program} {w w':World} {c c1:dk} {σ τ:aw}
theorem HE:∀{l:List aq} {a:List Int},O9 l=some a↔l=a.map (.int .i64)
 |[],a=>by
  simp only[O9,aK];cases a<;>simp
 |x::r,a=>by
  cases x with
  |int k n=>
   by_cases b:k=.i64
   ·subst b;simp only[O9,aT];constructor
    ·rintro⟨c,h,rfl⟩;rw[HE.1 h];rfl
    intro h;cases a with
    |nil=>cases h
    |cons z a=>
     simp only[aV,pA,aq.int.injEq,true_and]at h;obtain⟨rfl,h⟩:=h;exact⟨a,HE.2 h,rfl⟩
   have:O9 (.int k n::r)=none:=by
    cases k<;>first|rfl|exact absurd rfl b
   rw[this];constructor
   ·intro h;cases h
   intro h;cases a with
   |nil=>cases h
   |cons z a=>simp only[aV,pA,aq.int.injEq]at h;exact absurd h.1.1 b
  |_=>
   constructor
   ·intro h;cases h
   intro h;cases a<;>simp at h
theorem Oj{i:List Int}:oe su (i.map (.int .i64))=(i.mergeSort fun x y=>decide (x≤y)).map (.int .i64):=by
 have f:∀x∈i.map (aq.int .i64),∃n,x=.int .i64 n:=fun x g=>by
  obtain⟨n,_,rfl⟩:=bM.1 g;exact⟨n,rfl⟩
 refine List.Perm.eq_of_pairwise (le:=fun x y=>su x y=true) ?_ (AR (fun x g y j=>?_) fun x g y j z p d e=>?_) ?_ (EZ.trans ((List.mergeSort_perm i _).map _).symm)
 ·intro a b l o d e;obtain⟨n,rfl⟩:=f a (uR.1 l);obtain⟨m,_,rfl⟩:=bM.1 o;simp only[su,bZ]at d e;rw[Int.le_antisymm d e]
 ·obtain⟨n,rfl⟩:=f x g;obtain⟨m,rfl⟩:=f y j;simp only[su,bZ];omega
 ·obtain⟨n,rfl⟩:=f x g;obtain⟨m,rfl⟩:=f y j;obtain⟨k,rfl⟩:=f z p;simp only[su,bZ]at d e ⊢;omega
 rw[List.pairwise_map];have:=List.pairwise_mergeSort (le:=fun x y:Int=>decide (x≤y)) (fun a b c d e=>by simp at d e ⊢;omega) (fun a b=>by simp;omega) i;refine this.imp fun {a b} h=>?_;simpa [su] using h
theorem Od{ρ:Ren}(L:Lays.n189 P ρ){f:Nat}(hf:M.fm f=ρ.f 189)(he:∀args w,(callFunc (ρ.f 189) args).run P w=.ok (.enter (ρ.f 189) args) w):BF M P f fun _=>yQ:=by
 intro C hC hR args σ v ah h F n0 w c l hF W hg N;refine⟨.inl ⟨by rw[hf];exact he _ _,?_⟩,fun _ p w'=>by rw[hf];exact he p w'⟩;rw[xp hF,hf];have one:∀{a:aq},lU M w c [a] l→∃K,l=#[K]∧R M w c a K:=fun {a} N=>by
  obtain⟨K,e0,J⟩:=N.2 0 (by simp);refine⟨K,?_,J⟩;apply eN;intro i;have hz:l.size=1:=N.1
  match i with
  |0=>rw[e0];rfl
  |i+1=>rw[dq (by omega),dq (by simp)]
 have g:∀{a:Option Addr} {cap:Nat},Calls P (ρ.f 189) #[.slice a 0 cap] w fun e w'=>∃cv,e=.returned cv∧gW M c w σ .any cv w':=fun {a cap}=>
  (Any.slices_Sort_int_none L a cap w).mono fun e w' I=>by
   obtain⟨rfl,rfl⟩:=I;exact⟨_,rfl,c,W,.refl c w',.r .any⟩
 replace h:yQ args σ=some (v,ah):=h;unfold yQ at h;split at h
 ·cases h;obtain⟨K,rfl,J⟩:=one N;cases J with
  |@ai _ a=>exact g
 ·rename_i id ep off n;split at h
  ·rename_i k e es ho;split at h
   ·rename_i hc;obtain⟨aj,Q,G,D⟩:=hc;cases h;obtain⟨K,rfl,J⟩:=one N;have hH:c.H id=.arr k e:=by rw[W.H,fe ho]
    have E:c.H id≠.dead:=by rw[hH];simp
    have U:((es.drop off).take n).length=n:=by simp;omega
    obtain⟨t,af⟩:=cN.1 D;have H:=HE.1 af;have s:t.length=n:=by rw[←U,H];simp
    by_cases V:n=0
    ·subst V;have ag:σ.set id (.arr k e (es.take off++oe su ((es.drop off).take 0)++es.drop (off+0)))=σ:=by
      have:es.take off++oe su ((es.drop off).take 0)++es.drop (off+0)=es:=by simp[oe]
      rw[this];exact abi ho
     rw[ag];cases J with
     |sl=>exact g
     |sl0=>exact g
     |slOld h0 h1 r=>exact absurd (r k e hH) (by omega)
    obtain⟨o1,o2,o3,o4⟩:=W.obj id _ ho
    have B:∀(i:Nat) (h:i<n),es[off+i]'(by omega)=.int .i64 (t[i]'(by omega)):=fun i hi=>by
     have h1:((es.drop off).take n)[i]'(by omega)=es[off+i]'(by omega):=by simp
     have r:((es.drop off).take n)[i]?=(t.map (aq.int .i64))[i]?:=by rw[H]
     rw[au (by omega),h1]at r;simpa [show i<t.length by omega] using r
    have ad:k=1:=by
     have:=o2 _ (aJ (show off+0<es.length by omega));rw[B 0 (by omega)]at this;exact this.symm
    subst ad;cases J with
    |sl0=>exact absurd rfl V
    |slOld h0 h1 r=>exact absurd (r 1 e hH) (by omega)
    |@sl _ _ _ _ _ cap k2 blk h1 r h3 h4 h5=>
     have ae:k2=1:=by rw[hH]at r;cases r;rfl
     subst ae;obtain⟨cs,T,Fv,q1,q2,q3,q4,q5⟩:=o4 blk h3;have O:=(W.plow id blk E h3).1
     have Z:∀(i:Nat) (h:i<n),Fv (off+i) 0=.int .i64 (t[i]'(by omega)):=fun i hi=>by
      have hj:0<(cellsOf (es[off+i]'(by omega))).length:=by rw[B i hi];simp[cellsOf]
      have:=q5 (off+i) (by omega) 0 hj;simp only[B i hi]at this;have h':R M w c (.int .i64 (t[i]'(by omega))) (Fv (off+i) 0):=this;generalize Fv (off+i) 0=q at h';cases h';rfl
     have u:Holds (Value.int .i64) w blk off t.toArray:=fun j hj=>by
      have ab:j<n:=by simpa [s] using hj
      have:=(q4 (off+j) 0 (by omega) (by omega)).1;rw[Z j ab]at this;rw[getElem!_pos _ j hj];simp only[World.cell?,World.frozen?,q1];refine⟨by simpa using this,by simp⟩
     have o:=Any.slices_Sort_int L blk off cap t w u O (by rw[s];unfold bD at G;omega);have e1:(⟨blk,off*1,none⟩:Addr)=⟨blk,off,none⟩:=by rw[jX]
     rw[s]at o;rw[e1];refine o.mono fun e' w' I=>?_;obtain⟨rfl,m,os,rfl⟩:=I;generalize Y:(t.mergeSort fun x y=>decide (x≤y))=ss at *;have X:ss.length=n:=by rw[←Y,List.length_mergeSort,s]
     have b:oe su ((es.drop off).take n)=ss.map (.int .i64):=by rw[H,Oj,Y]
     obtain⟨f1,f2,f3,f4⟩:=HZ (w:=w) (enc:=Value.int .i64) (off:=off) (m:=m) (d:=ss.toArray) (os:=os) q1;have A:off+ss.toArray.size≤cs.size:=by simp;omega
     have:=XN (w':=grow (putRow (Value.int .i64) (Sort.ahead w m) blk off ss.toArray) os) W (mid':=oe su ((es.drop off).take n)) (off:=off) (n:=n) (cs':=putCells (Value.int .i64) off ss.toArray cs) ho h3 q1 q2 q3 q4 q5 o2 Q (by rw[b];simp[X])
      (fun x I=>by
       rw[b]at I;obtain⟨z,_,rfl⟩:=bM.1 I;exact⟨rfl,rfl⟩) (fun i=>.int .i64 (ss.toArray[i]!)) (fun i hi=>rfl)
      (fun i hi=>by
       have S:i<ss.length:=by rw[b]at hi;simpa using hi
       have e3:(oe su ((es.drop off).take n))[i]=.int .i64 ss[i]:=by
        have:(oe su ((es.drop off).take n))[i]?=some (.int .i64 ss[i]):=by
         rw[b];simp[S]
        exact (ak.1 this).2
       rw[e3,getElem!_pos ss.toArray i (by simpa using S)];exact .int)
      f1 (by simp[putCells]) (fun k=>by
       rw[Nr A];simp only[List.size_toArray,X]) f2 f3 f4
     exact⟨_,rfl,c,this.1,this.2,.r .any⟩
   cases h
  cases h
 cases h
end Go.AM
section
set_option linter.unusedVariables false
namespace Go.Proofs
open Go.Shelf Go.RowKit
variable {P:Program} {ρ:Ren}
set_option maxHeartbeats 32000000 in
set_option maxRecDepth 100000 in
theorem agO(L:LaysPu.n16 P ρ)(t:ByteArray)(hne:t.size≠0)(hmax:t.size≤9223372036854775806)(hall:∀c∈t.data.toList,48≤c.toNat∧c.toNat≤57)(w:World) :
  Calls P (ρ.f 16) #[.string t,.int .i64 10,.int .i64 63] w fun e w'=>e=.returned (Lib.uintTupleM (ρ.t 34) 9223372036854775807 (Lib.parseUintM 9223372036854775807 0 t.data.toList))∧w'=Lib.bytesWorld w (ρ.t 5) t:=by
 have mixed:=L.mixed;have t9:=L.t9;have a9:=L.a9;have z9:=L.z9;have v9:=L.v9;have t3:=L.t3;have a3:=L.a3;have z3:=L.z3;have v3:=L.v3;have t22:=L.t22;have a22:=L.a22;have z22:=L.z22;have v22:=L.v22;have t24:=L.t24;have a24:=L.a24;have z24:=L.z24;have v24:=L.v24;have t4:=L.t4;have a4:=L.a4;have z4:=L.z4;have v4:=L.v4;have t34:=L.t34;have a34:=L.a34;have z34:=L.z34;have v34:=L.v34;have t5:=L.t5;have a5:=L.a5;have z5:=L.z5;have v5:=L.v5;have t36:=L.t36;have a36:=L.a36;have z36:=L.z36;have v36:=L.v36;have t37:=L.t37;have a37:=L.a37;have z37:=L.z37;have v37:=L.v37;have t0:=L.t0;have a0:=L.a0;have z0:=L.z0;have v0:=L.v0;have hemp:t.toList.isEmpty=false:=by
  rw[←decide_eq_emptyBytes];exact decide_eq_false (fun h=>hne (by rw[h];rfl))
 have hcv:=Lib.run_convert_string_bytes (P:=P) w (ρ.t 9) (ρ.t 37) (ρ.t 5) t (u:=.string) L.t9 L.t37 L.t5;have hB:∀j,j<t.size→(Lib.bytesWorld w (ρ.t 5) t).cell? ⟨w.heap.size,j,none⟩=some (.int .u8 (t.data.toList.getD j 0).toNat):=fun j hj=>Lib.bytesWorld_cell w (ρ.t 5) t j hj;obtain⟨W1,hW1⟩:∃W1,W1=Lib.bytesWorld w (ρ.t 5) t:=⟨_,rfl⟩;rw[←hW1]at hcv hB ⊢;clear hW1;obtain⟨bs,hL⟩:∃bs,bs=t.data.toList:=⟨_,rfl⟩;have hLn:bs.length=t.size:=by rw[hL,Lib.size_eq]
 rw[←hL]at hB hall ⊢;clear hL;have hmv:IntKind.u64.wrap (IntKind.u64.wrap 9223372036854775808-1)=9223372036854775807:=by
  rw[IntKind.wrap_u64,IntKind.wrap_u64];decide
 go_enter L.f16,BodyPu.n16_ntmps ρ
 go_wp2
 go_loop [12,13,101] (fun vu vn vi=>∃(k acc:Nat) (a:Int),vu=.bool false∧vn=.int .u64 a∧vi=.int .i64 k∧k≤t.size∧Hid (a=(acc:Int)∧acc≤9223372036854775807∧Lib.parseUintM 9223372036854775807 0 bs=Lib.parseUintM 9223372036854775807 acc (bs.drop k)))
  (fun _ _ vi=>t.size-(intOf vi).toNat)
 case atStart=>exact⟨0,0,0,rfl,rfl,rfl,by omega,rfl,by omega,rfl⟩
 case round=>
  obtain⟨k,acc,a,rfl,rfl,rfl,hk,hh⟩:=hrel;obtain⟨ha,hacc,hdec⟩:=hh.out;clear hh;have a0:0≤a:=by omega
  have a1:a≤9223372036854775807:=by omega
  by_cases hkn:k<t.size
  ·have hc:=hB k hkn;have hdrop:bs.drop k=bs[k]'(by omega)::bs.drop (k+1):=List.drop_eq_getElem_cons (by omega);have hget:bs.getD k 0=bs[k]'(by omega):=by simp[List.getD,List.getElem?_eq_getElem (show k<bs.length by omega)]
   have hdig:=hall (bs[k]'(by omega)) (List.getElem_mem _);rw[hdrop]at hdec;rw[hget]at hc;generalize bs[k]'(by omega)=c at hc hdec hdig;have hc256:c.toNat < 256:=c.toNat_lt;clear hB hdrop hget;obtain⟨hd0,hd1⟩:=hdig;by_cases hcut:1844674407370955162≤acc
   ·have hF:Lib.parseUintM 9223372036854775807 acc (c::bs.drop (k+1))=.range:=by simp[Lib.parseUintM,hd0,hd1,hcut]
    rw[hF]at hdec;have icut:1844674407370955162≤a:=by omega
    clear hcut hacc hF ha
    go_wp2
    go_ret2
    exact⟨rfl,rfl⟩
   by_cases hov:9223372036854775807<acc*10+(c.toNat - 48)
   ·have hF:Lib.parseUintM 9223372036854775807 acc (c::bs.drop (k+1))=.range:=by simp[Lib.parseUintM,hd0,hd1,hcut,hov]
    rw[hF]at hdec;have icut:a<1844674407370955162:=by omega
    by_cases hw:18446744073709551616≤acc*10+(c.toNat - 48)
    ·have iov:18446744073709551616≤a*10+((c.toNat:Int)-48):=by omega
     have hwr:IntKind.u64.wrap (a*10+((c.toNat:Int)-48))=a*10+((c.toNat:Int)-48)-18446744073709551616:=by
      rw[IntKind.wrap_u64];omega
     clear hcut hacc hF hov ha hw
     go_wp2
     go_ret2
     exact⟨rfl,rfl⟩
    have iov:9223372036854775807<a*10+((c.toNat:Int)-48):=by omega
    have iow:a*10+((c.toNat:Int)-48)<18446744073709551616:=by omega
    clear hcut hacc hF hov ha hw
    go_wp2
    go_ret2
    exact⟨rfl,rfl⟩
   have hF:Lib.parseUintM 9223372036854775807 acc (c::bs.drop (k+1))=Lib.parseUintM 9223372036854775807 (acc*10+(c.toNat - 48)) (bs.drop (k+1)):=by simp[Lib.parseUintM,hd0,hd1,hcut,hov]
   have HN:Hid (a*10+((c.toNat:Int)-48)=((acc*10+(c.toNat - 48):Nat):Int)∧acc*10+(c.toNat - 48)≤9223372036854775807∧Lib.parseUintM 9223372036854775807 0 bs=Lib.parseUintM 9223372036854775807 (acc*10+(c.toNat - 48)) (bs.drop (k+1))):=Lib.hid ⟨by omega,by omega,hdec.trans hF⟩;have icut:a<1844674407370955162:=by omega
   have iov:a*10+((c.toNat:Int)-48)≤9223372036854775807:=by omega
   clear hcut hacc hF hov hdec ha
   go_wp2
   refine⟨⟨k+1,acc*10+(c.toNat - 48),a*10+((c.toNat:Int)-48),rfl,(by first|rfl|(congr 1;omega)),(by first|rfl|(congr 1;omega)),by omega,HN⟩,by simp[intOf];omega⟩
  have hkk:k=t.size:=by omega
  subst hkk;have hF:Lib.parseUintM 9223372036854775807 acc (bs.drop t.size)=.ok acc:=by rw[List.drop_eq_nil_of_le (by omega)];rfl
  rw[hF]at hdec;subst ha;clear hacc hF a0 a1
  go_wp2
  go_ret2
  exact⟨rfl,rfl⟩
end Go.Proofs
end
section
set_option linter.unusedVariables false
namespace Go.Proofs
open Go.Shelf Go.RowKit
variable {P:Program} {ρ:Ren}
set_option maxHeartbeats 4000000 in
set_option maxRecDepth 100000 in
theorem adc(L:LaysPu.n14 P ρ)(s:ByteArray)(hne:s.size≠0)(hmax:s.size≤9223372036854775806)(hall:∀c∈s.data.toList,48≤c.toNat∧c.toNat≤57)(u:Nat)(h:Lib.parseUintM 9223372036854775807 0 s.data.toList=.ok u)(w:World) :
  Calls P (ρ.f 14) #[.string s,.int .i64 10,.int .i64 63] w fun e w'=>e=.returned (.tuple #[.int .u64 u,.nilIface])∧w'=Lib.bytesWorld w (ρ.t 5) s:=by
 have mixed:=L.mixed;have t9:=L.t9;have a9:=L.a9;have z9:=L.z9;have v9:=L.v9;have t3:=L.t3;have a3:=L.a3;have z3:=L.z3;have v3:=L.v3;have t22:=L.t22;have a22:=L.a22;have z22:=L.z22;have v22:=L.v22;have t24:=L.t24;have a24:=L.a24;have z24:=L.z24;have v24:=L.v24;have t25:=L.t25;have a25:=L.a25;have z25:=L.z25;have v25:=L.v25;have t4:=L.t4;have a4:=L.a4;have z4:=L.z4;have v4:=L.v4;have e16:∀args w,(callFunc (ρ.f 16) args).run P w=.ok (.enter (ρ.f 16) args) w:=enters_of L.f16 (by kernel_rfl) rfl;have hI:=agO { L with } s hne hmax hall w;rw[h]at hI;have hI:Calls P (ρ.f 16) #[.string s,.int .i64 10,.int .i64 63] w fun e w'=>e=.returned (.tuple #[.int .u64 u,.nilIface])∧w'=Lib.bytesWorld w (ρ.t 5) s:=hI;clear h
 go_enter L.f14,BodyPu.n14_ntmps ρ
 go_wp2_with (go_at_fn (ρ.f 16);refine hI.mono ?_;rintro e W1 ⟨rfl,rfl⟩)
 go_wp2
 go_ret2
 exact⟨rfl,rfl⟩
set_option maxHeartbeats 4000000 in
set_option maxRecDepth 100000 in
theorem Qg(L:LaysPu.n14 P ρ)(s:ByteArray)(hne:s.size≠0)(hlim:s.size≤281474976710656)(hall:∀c∈s.data.toList,48≤c.toNat∧c.toNat≤57)(h:Lib.parseUintM 9223372036854775807 0 s.data.toList=.range)(ev:Value)(w:World)(hv:w.cell? ⟨(ρ.g 1),0,none⟩=some ev)(hev:ev=.nilIface∨∃te pe,ev=.iface te pe) :
  Calls P (ρ.f 14) #[.string s,.int .i64 10,.int .i64 63] w fun e w'=>∃N,e=.returned (.tuple #[.int .u64 9223372036854775807,.iface (ρ.t 39) (.pointer (some ⟨N,0,none⟩))])∧Below w.heap.size w w':=by
 have mixed:=L.mixed;have t9:=L.t9;have a9:=L.a9;have z9:=L.z9;have v9:=L.v9;have t3:=L.t3;have a3:=L.a3;have z3:=L.z3;have v3:=L.v3;have t22:=L.t22;have a22:=L.a22;have z22:=L.z22;have v22:=L.v22;have t24:=L.t24;have a24:=L.a24;have z24:=L.z24;have v24:=L.v24;have t25:=L.t25;have a25:=L.a25;have z25:=L.z25;have v25:=L.v25;have t4:=L.t4;have a4:=L.a4;have z4:=L.z4;have v4:=L.v4;have e16:∀args w,(callFunc (ρ.f 16) args).run P w=.ok (.enter (ρ.f 16) args) w:=enters_of L.f16 (by kernel_rfl) rfl;have e17:∀args w,(callFunc (ρ.f 17) args).run P w=.ok (.enter (ρ.f 17) args) w:=enters_of L.f17 (by kernel_rfl) rfl;have hG:(ρ.g 1)<w.heap.size:=Lib.lt_of_cell hv;have hI:=agO { L with } s hne (by omega) hall w;rw[h]at hI;have hI:Calls P (ρ.f 16) #[.string s,.int .i64 10,.int .i64 63] w fun e w'=>e=.returned (.tuple #[.int .u64 9223372036854775807,.iface (ρ.t 34) (.int .i64 1)])∧w'=Lib.bytesWorld w (ρ.t 5) s:=hI;clear h
 go_enter L.f14,BodyPu.n14_ntmps ρ
 go_wp2_with (go_at_fn (ρ.f 16);refine hI.mono ?_)
 rintro e W1 ⟨rfl,hW⟩;have hb1:Below w.heap.size w W1:=by
  subst hW;exact Lib.bytesWorld_below _ _ _
 have hv1:W1.cell? ⟨(ρ.g 1),0,none⟩=some ev:=(hb1.cell (show (⟨(ρ.g 1),0,none⟩:Addr).block<w.heap.size from hG)).trans hv;clear hW
 go_wp2_with (go_at_fn (ρ.f 17);refine (AnyPu.strconv_toError_range { L with } ⟨#[80,97,114,115,101,85,105,110,116]⟩ s 10 63 ev _ hlim ?_ hev).mono ?_)
 ·exact hv1
 rintro e W2 ⟨N,rfl,h1,h2,h3⟩
 go_wp2
 go_ret2
 exact⟨N,rfl,hb1.trans (h3.mono hb1.size)⟩
end Go.Proofs
end
section
set_option linter.unusedVariables false
namespace Go.Proofs
open Go.Shelf
def Tryz.puR:Go.Shelf.Ren:=⟨fun|14=>241|16=>257|17=>258|19=>265|20=>266|21=>267|22=>268|23=>269|24=>270|25=>273|26=>274|27=>275|28=>277|29=>279|30=>281|31=>282|32=>283|33=>284|34=>288|35=>95|36=>289|37=>290|38=>291|39=>292|40=>293|n=>n,fun|0=>0|1=>1|2=>2|3=>3|4=>4|5=>5|6=>6|7=>7|8=>8|9=>9|10=>10|11=>11|12=>12|13=>13|14=>14|15=>15|16=>16|17=>17|18=>18|19=>19|20=>20|21=>21|22=>140|23=>270|24=>271|25=>343|26=>344|33=>358|34=>368|35=>369|36=>127|37=>266|38=>154|39=>370|40=>371|41=>372|42=>217|43=>378|44=>379|45=>380|46=>213|47=>326|48=>381|49=>382|50=>383|51=>384|52=>385|53=>186|54=>386|55=>387|56=>388|57=>299|58=>392|59=>393|60=>185|61=>394|62=>153|63=>126|64=>184|65=>395|66=>396|67=>275|68=>397|69=>398|70=>399|71=>400|72=>401|73=>137|74=>402|75=>403|76=>404|77=>405|78=>406|79=>407|80=>408|81=>348|n=>n,fun|0=>7|1=>8|2=>9|3=>10|4=>11|n=>n⟩
theorem Tryz.laysPu14:Go.Proofs.LaysPu.n14 Tryz.prog Tryz.puR:={
 mixed:=by kernel_rfl
 f14:=Tryz.func241.trans (congrArg some (by kernel_rfl))
 f16:=Tryz.func257.trans (congrArg some (by kernel_rfl))
 f17:=Tryz.func258.trans (congrArg some (by kernel_rfl))
 f19:=Tryz.func265.trans (congrArg some (by kernel_rfl))
 f20:=Tryz.func266.trans (congrArg some (by kernel_rfl))
 f21:=Tryz.func267.trans (congrArg some (by kernel_rfl))
 f22:=Tryz.func268.trans (congrArg some (by kernel_rfl))
 f23:=Tryz.func269.trans (congrArg some (by kernel_rfl))
 f24:=Tryz.func270.trans (congrArg some (by kernel_rfl))
 f25:=Tryz.func273.trans (congrArg some (by kernel_rfl))
 f26:=Tryz.func274.trans (congrArg some (by kernel_rfl))
 f27:=Tryz.func275.trans (congrArg some (by kernel_rfl))
 f28:=Tryz.func277.trans (congrArg some (by kernel_rfl))
 f29:=Tryz.func279.trans (congrArg some (by kernel_rfl))
 f30:=Tryz.func281.trans (congrArg some (by kernel_rfl))
 f31:=Tryz.func282.trans (congrArg some (by kernel_rfl))
 f32:=Tryz.func283.trans (congrArg some (by kernel_rfl))
 f33:=Tryz.func284.trans (congrArg some (by kernel_rfl))
 f34:=Tryz.func288.trans (congrArg some (by kernel_rfl))
 f35:=Tryz.func95.trans (congrArg some (by kernel_rfl))
 f36:=Tryz.func289.trans (congrArg some (by kernel_rfl))
 f37:=Tryz.func290.trans (congrArg some (by kernel_rfl))
 f38:=Tryz.func291.trans (congrArg some (by kernel_rfl))
 f39:=Tryz.func292.trans (congrArg some (by kernel_rfl))
 f40:=Tryz.func293.trans (congrArg some (by kernel_rfl))
 t0:=Tryz.underlying0
 a0:=Tryz.isAgg0
 z0:=Tryz.sizeOf0
 v0:=Tryz.zeroValue0
 i0:=by kernel_rfl
 t2:=Tryz.underlying2
 a2:=Tryz.isAgg2
 z2:=Tryz.sizeOf2
 v2:=Tryz.zeroValue2
 i2:=by kernel_rfl
 t3:=Tryz.underlying3
 a3:=Tryz.isAgg3
 z3:=Tryz.sizeOf3
 v3:=Tryz.zeroValue3
 i3:=by kernel_rfl
 t4:=Tryz.underlying4
 a4:=Tryz.isAgg4
 z4:=Tryz.sizeOf4
 v4:=Tryz.zeroValue4
 i4:=by kernel_rfl
 t5:=Tryz.underlying5
 a5:=Tryz.isAgg5
 z5:=Tryz.sizeOf5
 v5:=Tryz.zeroValue5
 i5:=by kernel_rfl
 t9:=Tryz.underlying9
 a9:=Tryz.isAgg9
 z9:=Tryz.sizeOf9
 v9:=Tryz.zeroValue9
 i9:=by kernel_rfl
 t20:=Tryz.underlying20
 a20:=Tryz.isAgg20
 z20:=Tryz.sizeOf20
 v20:=Tryz.zeroValue20
 i20:=by kernel_rfl
 t21:=Tryz.underlying21
 a21:=Tryz.isAgg21
 z21:=Tryz.sizeOf21
 v21:=Tryz.zeroValue21
 i21:=by kernel_rfl
 t22:=Tryz.underlying140
 a22:=Tryz.isAgg140
 z22:=Tryz.sizeOf140
 v22:=Tryz.zeroValue140
 i22:=by kernel_rfl
 t24:=Tryz.underlying271
 a24:=Tryz.isAgg271
 z24:=Tryz.sizeOf271
 v24:=Tryz.zeroValue271
 i24:=by kernel_rfl
 t25:=Tryz.underlying343
 a25:=Tryz.isAgg343
 z25:=Tryz.sizeOf343
 v25:=Tryz.zeroValue343
 i25:=by kernel_rfl
 t34:=Tryz.underlying368
 a34:=Tryz.isAgg368
 z34:=Tryz.sizeOf368
 v34:=Tryz.zeroValue368
 i34:=by kernel_rfl
 c34:=by kernel_rfl
 t36:=Tryz.underlying127
 a36:=Tryz.isAgg127
 z36:=Tryz.sizeOf127
 v36:=Tryz.zeroValue127
 i36:=by kernel_rfl
 t37:=Tryz.underlying266
 a37:=Tryz.isAgg266
 z37:=Tryz.sizeOf266
 v37:=Tryz.zeroValue266
 i37:=by kernel_rfl
 t39:=Tryz.underlying370
 a39:=Tryz.isAgg370
 z39:=Tryz.sizeOf370
 v39:=Tryz.zeroValue370
 i39:=by kernel_rfl
 t44:=Tryz.underlying379
 a44:=Tryz.isAgg379
 z44:=Tryz.sizeOf379
 v44:=Tryz.zeroValue379
 i44:=by kernel_rfl
 t47:=Tryz.underlying326
 a47:=Tryz.isAgg326
 z47:=Tryz.sizeOf326
 v47:=Tryz.zeroValue326
 i47:=by kernel_rfl
 t48:=Tryz.underlying381
 a48:=Tryz.isAgg381
 z48:=Tryz.sizeOf381
 v48:=Tryz.zeroValue381
 i48:=by kernel_rfl
 t50:=Tryz.underlying383
 a50:=Tryz.isAgg383
 z50:=Tryz.sizeOf383
 v50:=Tryz.zeroValue383
 i50:=by kernel_rfl
 t52:=Tryz.underlying385
 a52:=Tryz.isAgg385
 z52:=Tryz.sizeOf385
 v52:=Tryz.zeroValue385
 i52:=by kernel_rfl
 t55:=Tryz.underlying387
 a55:=Tryz.isAgg387
 z55:=Tryz.sizeOf387
 v55:=Tryz.zeroValue387
 i55:=by kernel_rfl
 t59:=Tryz.underlying393
 a59:=Tryz.isAgg393
 z59:=Tryz.sizeOf393
 v59:=Tryz.zeroValue393
 i59:=by kernel_rfl
 t60:=Tryz.underlying185
 a60:=Tryz.isAgg185
 z60:=Tryz.sizeOf185
 v60:=Tryz.zeroValue185
 i60:=by kernel_rfl
 t61:=Tryz.underlying394
 a61:=Tryz.isAgg394
 z61:=Tryz.sizeOf394
 t65:=Tryz.underlying395
 a65:=Tryz.isAgg395
 z65:=Tryz.sizeOf395
 v65:=Tryz.zeroValue395
 i65:=by kernel_rfl
 t66:=Tryz.underlying396
 a66:=Tryz.isAgg396
 z66:=Tryz.sizeOf396
 v66:=Tryz.zeroValue396
 i66:=by kernel_rfl
 t67:=Tryz.underlying275
 a67:=Tryz.isAgg275
 z67:=Tryz.sizeOf275
 v67:=Tryz.zeroValue275
 i67:=by kernel_rfl
 g0:=by kernel_rfl
 m0:=by kernel_rfl
 g1:=by kernel_rfl
 m1:=by kernel_rfl
 g2:=by kernel_rfl
 m2:=by kernel_rfl
 g3:=by kernel_rfl
 m3:=by kernel_rfl
 g4:=by kernel_rfl
 m4:=by kernel_rfl }
end Go.Proofs
end
section
set_option linter.unusedVariables false
namespace Go.Proofs
open Go.Shelf Go.RowKit
structure Fq (P:Program):Prop where
 mixed:P.follows .mixedOrders=true
 t3:P.underlying 3=some (TypeDesc.int IntKind.i64)
 a3:∀(w:World),Sem.run P (isAgg 3) w=Result.ok false w
 z3:∀(w:World),Sem.run P (Go.sizeOf 3) w=Result.ok 1 w
 v3:∀(w:World),Sem.run P (zeroValue 3) w=Result.ok (Value.int IntKind.i64 0) w
 t4:P.underlying 4=some TypeDesc.bool
 a4:∀(w:World),Sem.run P (isAgg 4) w=Result.ok false w
 z4:∀(w:World),Sem.run P (Go.sizeOf 4) w=Result.ok 1 w
 v4:∀(w:World),Sem.run P (zeroValue 4) w=Result.ok (Value.bool false) w
 t5:P.underlying 5=some (TypeDesc.int IntKind.u8)
 a5:∀(w:World),Sem.run P (isAgg 5) w=Result.ok false w
 z5:∀(w:World),Sem.run P (Go.sizeOf 5) w=Result.ok 1 w
 v5:∀(w:World),Sem.run P (zeroValue 5) w=Result.ok (Value.int IntKind.u8 0) w
 t9:P.underlying 9=some TypeDesc.string
 a9:∀(w:World),Sem.run P (isAgg 9) w=Result.ok false w
 z9:∀(w:World),Sem.run P (Go.sizeOf 9) w=Result.ok 1 w
 v9:∀(w:World),Sem.run P (zeroValue 9) w=Result.ok (Value.string { data:=#[] }) w
 t21:P.underlying 21=some (TypeDesc.int IntKind.i32)
 a21:∀(w:World),Sem.run P (isAgg 21) w=Result.ok false w
 z21:∀(w:World),Sem.run P (Go.sizeOf 21) w=Result.ok 1 w
 v21:∀(w:World),Sem.run P (zeroValue 21) w=Result.ok (Value.int IntKind.i32 0) w
 t140:P.underlying 140=some (TypeDesc.int IntKind.u64)
 a140:∀(w:World),Sem.run P (isAgg 140) w=Result.ok false w
 z140:∀(w:World),Sem.run P (Go.sizeOf 140) w=Result.ok 1 w
 v140:∀(w:World),Sem.run P (zeroValue 140) w=Result.ok (Value.int IntKind.u64 0) w
 t271:P.underlying 271=some (TypeDesc.interface #[("Error",275)])
 a271:∀(w:World),Sem.run P (isAgg 271) w=Result.ok false w
 z271:∀(w:World),Sem.run P (Go.sizeOf 271) w=Result.ok 1 w
 v271:∀(w:World),Sem.run P (zeroValue 271) w=Result.ok Value.nilIface w
 t343:P.underlying 343=some (TypeDesc.tuple #[140,271])
 a343:∀(w:World),Sem.run P (isAgg 343) w=Result.ok false w
 z343:∀(w:World),Sem.run P (Go.sizeOf 343) w=Result.ok 1 w
 v343:∀(w:World),Sem.run P (zeroValue 343) w=Result.ok (Value.tuple #[Value.int IntKind.u64 0,Value.nilIface]) w
theorem Tryz.numTy:Fq Tryz.prog:={
 mixed:=by kernel_rfl
 t3:=Tryz.underlying3
 a3:=Tryz.isAgg3
 z3:=Tryz.sizeOf3
 v3:=Tryz.zeroValue3
 t4:=Tryz.underlying4
 a4:=Tryz.isAgg4
 z4:=Tryz.sizeOf4
 v4:=Tryz.zeroValue4
 t5:=Tryz.underlying5
 a5:=Tryz.isAgg5
 z5:=Tryz.sizeOf5
 v5:=Tryz.zeroValue5
 t9:=Tryz.underlying9
 a9:=Tryz.isAgg9
 z9:=Tryz.sizeOf9
 v9:=Tryz.zeroValue9
 t21:=Tryz.underlying21
 a21:=Tryz.isAgg21
 z21:=Tryz.sizeOf21
 v21:=Tryz.zeroValue21
 t140:=Tryz.underlying140
 a140:=Tryz.isAgg140
 z140:=Tryz.sizeOf140
 v140:=Tryz.zeroValue140
 t271:=Tryz.underlying271
 a271:=Tryz.isAgg271
 z271:=Tryz.sizeOf271
 v271:=Tryz.zeroValue271
 t343:=Tryz.underlying343
 a343:=Tryz.isAgg343
 z343:=Tryz.sizeOf343
 v343:=Tryz.zeroValue343 }
set_option maxHeartbeats 2000000 in
set_option maxRecDepth 100000 in
theorem Kv{P:Program}(TY:Fq P)(h120:P.funcs[120]?=some Tryz.f120)(n:Int)(w:World) :
  Calls P 120 #[.int .i32 n] w fun e w'=>e=.returned (.bool (decide (48≤n)&&decide (n≤57)))∧w'=w:=by
 obtain⟨mixed,t3,a3,z3,v3,t4,a4,z4,v4,t5,a5,z5,v5,t9,a9,z9,v9,t21,a21,z21,v21,t140,a140,z140,v140,t271,a271,z271,v271,t343,a343,z343,v343⟩:=id TY;have u3:=run_underlying t3;have u4:=run_underlying t4;have u5:=run_underlying t5;have u9:=run_underlying t9;have u21:=run_underlying t21;have u140:=run_underlying t140;have u271:=run_underlying t271;have u343:=run_underlying t343
 go_enter h120,Tryz.ntmps120
 by_cases h1:48≤n
 ·by_cases h2:n≤57
  ·go_wp2
   all_goals go_ret
   all_goals simp[h1,h2]
  go_wp2
  all_goals go_ret
  all_goals simp[h1,h2]
 go_wp2
 all_goals go_ret
 all_goals (simp[h1]<;>omega)
theorem OK{P:Program}(TY:Fq P)(h120:P.funcs[120]?=some Tryz.f120)(n:Int)(hn:n<48∨57<n)(w:World) :
  Calls P 120 #[.int .i32 n] w fun e w'=>e=.returned (.bool false)∧w'=w:=by
 have h:(decide (48≤n)&&decide (n≤57))=false:=by
  rcases hn with h|h
  ·have:¬48≤n:=by omega
   simp[this]
  have:¬n≤57:=by omega
  simp[this]
 have k:=Kv TY h120 n w;rw[h]at k;exact k
theorem EK{P:Program}(TY:Fq P)(h120:P.funcs[120]?=some Tryz.f120)(n:Int)(h1:48≤n)(h2:n≤57)(w:World) :
  Calls P 120 #[.int .i32 n] w fun e w'=>e=.returned (.bool true)∧w'=w:=by
 have h:(decide (48≤n)&&decide (n≤57))=true:=by simp[h1,h2]
 have k:=Kv TY h120 n w;rw[h]at k;exact k
set_option maxHeartbeats 2000000 in
set_option maxRecDepth 100000 in
theorem SE{P:Program}(TY:Fq P)(h207:P.funcs[207]?=some Tryz.f207)(h120:P.funcs[120]?=some Tryz.f120)(t:ByteArray)(k0:Nat)(hk0:k0<t.size)
  (hd:∀j (h:j<t.size),j<k0→48≤(t[j]'h).toNat∧(t[j]'h).toNat≤57) (hb:¬(48≤(t[k0]'hk0).toNat∧(t[k0]'hk0).toNat≤57)) (w:World) :
  Calls P 207 #[.string t] w fun e w'=>e=.returned (.tuple #[.int .u64 0,.bool false])∧Below w.heap.size w w':=by
 obtain⟨mixed,t3,a3,z3,v3,t4,a4,z4,v4,t5,a5,z5,v5,t9,a9,z9,v9,t21,a21,z21,v21,t140,a140,z140,v140,t271,a271,z271,v271,t343,a343,z343,v343⟩:=id TY;have u3:=run_underlying t3;have u4:=run_underlying t4;have u5:=run_underlying t5;have u9:=run_underlying t9;have u21:=run_underlying t21;have u140:=run_underlying t140;have u271:=run_underlying t271;have u343:=run_underlying t343;have e120:∀args w,(callFunc 120 args).run P w=.ok (.enter 120 args) w:=enters_of h120 (by kernel_rfl) rfl;have hbel:∀k,Below w.heap.size w (w.iter t k):=fun k=>(Below.refl _ w).alloc (Nat.le_refl _) _
 go_enter h207,Tryz.ntmps207
 go_wp2
 go_loopg [2] k0 (fun g s2 wx=>g≤k0∧s2=.int .u64 0∧wx=w.iter t (k0-g))
 case atStart=>exact⟨Nat.le_refl _,rfl,by rw[Nat.sub_self]⟩
 case round=>
  obtain⟨hg,rfl,rfl⟩:=hrel;by_cases h0:gk=0
  ·subst h0;rw[Nat.sub_zero];by_cases ha:(t[k0]'hk0).toNat < 128
   ·have hnx:=fun ty=>run_next_ascii (P:=P) w t k0 ty hk0 ha;have hD:∀w,Calls P 120 #[.int .i32 ((t[k0]'hk0).toNat:Int)] w fun e w'=>e=.returned (.bool false)∧w'=w:=OK TY h120 _ (by omega);generalize (t[k0]'hk0).toNat=n at *
    go_wp2_with (go_at_fn 120;refine (hD _).mono ?_;rintro e w' ⟨rfl,rfl⟩)
    go_wp2
    go_ret2
    exact⟨rfl,hbel _⟩
   have hnx:=fun ty=>run_next_any (P:=P) w t k0 ty hk0;have hh:=(decode_high t k0 hk0 (by omega)).1;have hD:∀w,Calls P 120 #[.int .i32 ((Utf8.decode t k0).1:Int)] w fun e w'=>e=.returned (.bool false)∧w'=w:=OK TY h120 _ (by omega);generalize k0+(Utf8.decode t k0).2=p at *;generalize (Utf8.decode t k0).1=n at *
   go_wp2_with (go_at_fn 120;refine (hD _).mono ?_;rintro e w' ⟨rfl,rfl⟩)
   go_wp2
   go_ret2
   exact⟨rfl,hbel _⟩
  have hk:k0-gk<t.size:=by omega
  have hdig:=hd (k0-gk) hk (by omega);have hnx:=fun ty=>run_next_ascii (P:=P) w t (k0-gk) ty hk (by omega);have hD:∀w,Calls P 120 #[.int .i32 ((t[k0-gk]'hk).toNat:Int)] w fun e w'=>e=.returned (.bool true)∧w'=w:=EK TY h120 _ (by omega) (by omega);have hrel':w.iter t (k0-gk+1)=w.iter t (k0-(gk-1)):=by rw[show k0-(gk-1)=k0-gk+1 by omega]
  generalize (t[k0-gk]'hk).toNat=n at *;generalize k0-gk=p at *
  go_wp2_with (go_at_fn 120;refine (hD _).mono ?_;rintro e w' ⟨rfl,rfl⟩)
  go_wp2
  go_roundg (gk-1)
  case measure=>omega
  case rel=>exact⟨by omega,rfl,rfl⟩
end Go.Proofs
end
section
set_option linter.unusedVariables false
namespace Go.Proofs
open Go.Shelf Go.RowKit
set_option maxHeartbeats 4000000 in
set_option maxRecDepth 100000 in
theorem Rf{P:Program}(TY:Fq P)(h207:P.funcs[207]?=some Tryz.f207)(h120:P.funcs[120]?=some Tryz.f120)(e241:∀args w,(callFunc 241 args).run P w=.ok (.enter 241 args) w)(t:ByteArray)(hne:0<t.size)(hsz:t.size≤8000)
  (hd:∀j (h:j<t.size),48≤(t[j]'h).toNat∧(t[j]'h).toNat≤57) (u:Int) (w:World)
  (hU:∀W,Below w.heap.size w W→Calls P 241 #[.string t,.int .i64 10,.int .i64 63] W fun e w'=>e=.returned (.tuple #[.int .u64 u,.nilIface])∧Below w.heap.size w w') :
  Calls P 207 #[.string t] w fun e w'=>e=.returned (.tuple #[.int .u64 u,.bool (decide (t.size=1) || !decide ((t[0]'hne).toNat=48))])∧Below w.heap.size w w':=by
 obtain⟨mixed,t3,a3,z3,v3,t4,a4,z4,v4,t5,a5,z5,v5,t9,a9,z9,v9,t21,a21,z21,v21,t140,a140,z140,v140,t271,a271,z271,v271,t343,a343,z343,v343⟩:=id TY;have u3:=run_underlying t3;have u4:=run_underlying t4;have u5:=run_underlying t5;have u9:=run_underlying t9;have u21:=run_underlying t21;have u140:=run_underlying t140;have u271:=run_underlying t271;have u343:=run_underlying t343;have e120:∀args w,(callFunc 120 args).run P w=.ok (.enter 120 args) w:=enters_of h120 (by kernel_rfl) rfl;have hbel:∀k,Below w.heap.size w (w.iter t k):=fun k=>(Below.refl _ w).alloc (Nat.le_refl _) _;have hg0:t.get! 0=t[0]'hne:=by
  have:=get_at t 0 hne;simpa using this
 go_enter h207,Tryz.ntmps207
 go_wp2
 go_loopg [2] t.size (fun g s2 wx=>g≤t.size∧wx=w.iter t (t.size-g))
 case atStart=>exact⟨Nat.le_refl _,by rw[Nat.sub_self]⟩
 case round=>
  obtain⟨hg,rfl⟩:=hrel;by_cases h0:gk=0
  ·subst h0;rw[Nat.sub_zero];have hnx:=fun ty=>run_next_end (P:=P) w t t.size ty (Nat.lt_irrefl _)
   go_wp2_with (go_at_fn 241;refine (hU _ (hbel _)).mono ?_)
   rintro e W1 ⟨rfl,hW⟩;have hcc:(t[0]'hne).toNat < 256:=(t[0]'hne).toNat_lt;by_cases h1:t.size=1
   ·have hD:(decide (t.size=1) || !decide ((t[0]'hne).toNat=48))=true:=by simp[h1]
    go_wp2
    go_region_o
    all_goals go_wp2
    all_goals (go_ret2;refine⟨?_,hW.drew⟩;rw[hD];rfl)
   have h1':((t.size:Int)==1)=false:=by rw[beq_eq_false_iff_ne];omega
   by_cases h2:(t[0]'hne).toNat=48
   ·have hD:(decide (t.size=1) || !decide ((t[0]'hne).toNat=48))=false:=by simp[h1,h2]
    go_wp2
    go_region_o
    all_goals go_wp2
    all_goals (go_ret2;refine⟨?_,hW.drew⟩;rw[hD];rfl)
   have hD:(decide (t.size=1) || !decide ((t[0]'hne).toNat=48))=true:=by simp[h2]
   have h2'':(((t[0]'hne).toNat:Int) != 48)=true:=by rw[bne_iff_ne];omega
   go_wp2
   go_region_o
   all_goals go_wp2
   all_goals (go_ret2;refine⟨?_,hW.drew⟩;rw[hD];first|rfl|(rw[h2''];rfl))
  have hk:t.size-gk<t.size:=by omega
  have hdig:=hd (t.size-gk) hk;have hnx:=fun ty=>run_next_ascii (P:=P) w t (t.size-gk) ty hk (by omega);have hD:∀w,Calls P 120 #[.int .i32 ((t[t.size-gk]'hk).toNat:Int)] w fun e w'=>e=.returned (.bool true)∧w'=w:=EK TY h120 _ (by omega) (by omega);have hrel':w.iter t (t.size-gk+1)=w.iter t (t.size-(gk-1)):=by rw[show t.size-(gk-1)=t.size-gk+1 by omega]
  generalize (t[t.size-gk]'hk).toNat=n at *;generalize hp:t.size-gk=p at *
  go_wp2_with (go_at_fn 120;refine (hD _).mono ?_;rintro e w' ⟨rfl,rfl⟩)
  go_wp2
  go_roundg (gk-1)
  case measure=>omega
  case rel=>exact⟨by omega,rfl⟩
set_option maxHeartbeats 4000000 in
set_option maxRecDepth 100000 in
theorem MI{P:Program}(TY:Fq P)(h207:P.funcs[207]?=some Tryz.f207)(h120:P.funcs[120]?=some Tryz.f120)(e241:∀args w,(callFunc 241 args).run P w=.ok (.enter 241 args) w)(t:ByteArray)(hne:0<t.size)(hsz:t.size≤8000)
  (hd:∀j (h:j<t.size),48≤(t[j]'h).toNat∧(t[j]'h).toNat≤57) (u:Int) (w:World)
  (hU:∀W,Below w.heap.size w W→Calls P 241 #[.string t,.int .i64 10,.int .i64 63] W fun e w'=>∃T N,e=.returned (.tuple #[.int .u64 u,.iface T (.pointer (some N))])∧Below w.heap.size w w') :
  Calls P 207 #[.string t] w fun e w'=>e=.returned (.tuple #[.int .u64 u,.bool false])∧Below w.heap.size w w':=by
 obtain⟨mixed,t3,a3,z3,v3,t4,a4,z4,v4,t5,a5,z5,v5,t9,a9,z9,v9,t21,a21,z21,v21,t140,a140,z140,v140,t271,a271,z271,v271,t343,a343,z343,v343⟩:=id TY;have u3:=run_underlying t3;have u4:=run_underlying t4;have u5:=run_underlying t5;have u9:=run_underlying t9;have u21:=run_underlying t21;have u140:=run_underlying t140;have u271:=run_underlying t271;have u343:=run_underlying t343;have e120:∀args w,(callFunc 120 args).run P w=.ok (.enter 120 args) w:=enters_of h120 (by kernel_rfl) rfl;have hbel:∀k,Below w.heap.size w (w.iter t k):=fun k=>(Below.refl _ w).alloc (Nat.le_refl _) _;have hg0:t.get! 0=t[0]'hne:=by
  have:=get_at t 0 hne;simpa using this
 go_enter h207,Tryz.ntmps207
 go_wp2
 go_loopg [2] t.size (fun g s2 wx=>g≤t.size∧wx=w.iter t (t.size-g))
 case atStart=>exact⟨Nat.le_refl _,by rw[Nat.sub_self]⟩
 case round=>
  obtain⟨hg,rfl⟩:=hrel;by_cases h0:gk=0
  ·subst h0;rw[Nat.sub_zero];have hnx:=fun ty=>run_next_end (P:=P) w t t.size ty (Nat.lt_irrefl _)
   go_wp2_with (go_at_fn 241;refine (hU _ (hbel _)).mono ?_)
   rintro e W1 ⟨T,N,rfl,hW⟩
   go_wp2
   go_region_o
   all_goals go_wp2
   all_goals (go_ret2;refine⟨?_,hW.drew⟩;rfl)
  have hk:t.size-gk<t.size:=by omega
  have hdig:=hd (t.size-gk) hk;have hnx:=fun ty=>run_next_ascii (P:=P) w t (t.size-gk) ty hk (by omega);have hD:∀w,Calls P 120 #[.int .i32 ((t[t.size-gk]'hk).toNat:Int)] w fun e w'=>e=.returned (.bool true)∧w'=w:=EK TY h120 _ (by omega) (by omega);have hrel':w.iter t (t.size-gk+1)=w.iter t (t.size-(gk-1)):=by rw[show t.size-(gk-1)=t.size-gk+1 by omega]
  generalize (t[t.size-gk]'hk).toNat=n at *;generalize hp:t.size-gk=p at *
  go_wp2_with (go_at_fn 120;refine (hD _).mono ?_;rintro e w' ⟨rfl,rfl⟩)
  go_wp2
  go_roundg (gk-1)
  case measure=>omega
  case rel=>exact⟨by omega,rfl⟩
end Go.Proofs
end
namespace Go.AM
open Go.Proofs Go.Shelf
variable {M:dm} {P:Program} {w w':World} {c c1:dk} {σ τ:aw}
theorem aa7:∀(l:List UInt8) (a:Nat),(∀c∈l,48≤c.toNat∧c.toNat≤57)→Lib.parseUintM 9223372036854775807 a l=match Cl a l with
  |some n=>.ok n
  |none=>.range
 |[],a,_=>rfl
 |c::r,a,h=>by
  have b:=h c (by simp);unfold Lib.parseUintM Cl;rw[if_pos b];split
  ·rfl
  split
  ·rfl
  exact aa7 r _ fun x d=>h x (by simp[d])
theorem aaM{n0:Nat}{a:Int}{b:Bool}:RF M n0 w' c (.tup [.int .u64 a,.bool b]) (.tuple #[.int .u64 a,.bool b]):=by
 refine .r (.tup (fun i=>if i=0 then .int .u64 a else .bool b) rfl ?_ ?_)
 ·intro i hi
  match i with
  |0=>rfl
  |1=>rfl
  |i+2=>simp at hi;omega
 intro i hi
 match i with
 |0=>exact .int
 |1=>exact .bool
 |i+2=>simp at hi;omega
theorem V7{ρ:Ren}(L:LaysPu.n14 P ρ)(U:Fq P)(o:P.funcs[207]?=some Tryz.f207)(m:P.funcs[120]?=some Tryz.f120)(Q:ρ.f 14=241)(A:∀args w,(callFunc 241 args).run P w=.ok (.enter 241 args) w)
  (hE:∀w s,M.tabs w s→∃T S,w.cell? ⟨ρ.g 1,0,none⟩=some (.iface T S))
  {f:Nat} (hf:M.fm f=207) (z:∀args w,(callFunc 207 args).run P w=.ok (.enter 207 args) w):BF M P f fun _=>wt:=by
 intro C hC hR args σ v ag h F n0 w c l hF hs hg ha;refine⟨.inl ⟨by rw[hf];exact z _ _,?_⟩,fun _ u w'=>by rw[hf];exact z u w'⟩;rw[xp hF,hf];replace h:wt args σ=some (v,ag):=h;unfold wt at h;split at h
 rotate_left
 ·cases h
 rename_i b s;obtain⟨x0,e0,r0⟩:=ha.2 0 (by simp);have y:l=#[x0]:=by
  apply eN;intro i;have hz:l.size=1:=ha.1
  match i with
  |0=>rw[e0];rfl
  |i+1=>rw[dq (by omega),dq (by simp)]
 subst y;cases r0 with|@str _ _ t a=>
 have B:t.size=(b::s).length:=by
  rw[←a,cR];rfl
 have r:0<t.size:=by rw[B];simp
 have k:∀j (h:j<t.size),(b::s)[j]'(by omega)=t[j]'h:=fun j h=>by
  have:t.data.toList[j]?=some (t[j]'h):=by
   rw[ff];exact bF.2 ⟨h,rfl⟩
  rw[a,au (by omega)]at this;exact dW this
 have h0:t[0]'r=b:=(k 0 r).symm;split at h
 rotate_left
 ·cases h
 rename_i h8;split at h
 ·rename_i q;have d:∀c∈b::s,48≤c.toNat∧c.toNat≤57:=fun c Y=>by simpa using bd.1 q c Y
  have hd:∀j (h:j<t.size),48≤(t[j]'h).toNat∧(t[j]'h).toNat≤57:=fun j h=>by
   rw[←k j h];exact d _ (aJ _)
  have I:∀c∈t.data.toList,48≤c.toNat∧c.toNat≤57:=by rw[a];exact d
  have g:=aa7 (b::s) 0 d;rw[←a]at g;split at h
  ·rename_i n hn;cases h;rw[a,hn]at g;rw[←a]at g;refine (Rf U o m A t r (by omega) hd n w fun W E=>?_).mono fun e w' ⟨z,O⟩=>?_
   ·have:=adc L t (by omega) (by omega) I n g W;rw[Q]at this;exact this.mono fun e w' ⟨V,X⟩=>⟨V,by rw[X];exact E.trans ((Lib.bytesWorld_below _ _ _).mono E.size)⟩
   obtain⟨G,H⟩:=Ah hs O;have hb:(decide (t.size=1) || !decide ((t[0]'r).toNat=48))=(s==[] || !(b==48)):=by
    rw[h0,B];have e1:decide ((b::s).length=1)=(s==[]):=by cases s<;>simp
    have e2:decide (b.toNat=48)=(b==48):=by
     rw[eL,decide_eq_true_iff,aX,←UInt8.toNat_inj];rfl
    rw[e1,e2]
   rw[hb]at z;exact⟨_,z,c,G,H,aaM⟩
  rename_i hn;cases h;rw[a,hn]at g;rw[←a]at g;obtain⟨T,S,hv⟩:=hE w _ hg.2;have hG:=World.block_lt_of_cell? w _ hv;refine (MI U o m A t r (by omega) hd 9223372036854775807 w fun W E=>?_).mono fun e w' ⟨z,O⟩=>?_
  ·have af:W.cell? ⟨ρ.g 1,0,none⟩=some (.iface T S):=(E.cell hG).trans hv;have:=Qg L t (by omega) (by omega) I g _ W af (.inr ⟨T,S,rfl⟩);rw[Q]at this;exact this.mono fun e w' ⟨N,V,X⟩=>⟨_,_,V,E.trans (X.mono E.size)⟩
  obtain⟨G,H⟩:=Ah hs O;exact⟨_,z,c,G,H,aaM⟩
 rename_i q;cases h;have Z:∃x∈b::s,(!(decide (48≤x.toNat)&&decide (x.toNat≤57)))=true:=by
  refine fP fun ae=>q ?_;rw[bd];intro x hx;cases hq:(decide (48≤x.toNat)&&decide (x.toNat≤57)) with
  |true=>rfl
  |false=>exact absurd ⟨x,hx,by rw[hq];rfl⟩ ae
 obtain⟨D,ah,ad,K⟩:∃D,∃h:D<(b::s).length,(!(decide (48≤((b::s)[D]).toNat)&&decide (((b::s)[D]).toNat≤57)))=true∧∀j (R:j<D),(!(decide (48≤((b::s)[j]'(by omega)).toNat)&&decide (((b::s)[j]'(by omega)).toNat≤57)))=false:=
  ⟨_,bQ Z,du (p:=fun (x:UInt8)=>!(decide (48≤x.toNat)&&decide (x.toNat≤57))),fun j R=>nR.2 (by simpa using cW R)⟩
 have J:D<t.size:=by omega
 refine (SE U o m t D J (fun j R ab=>?_) (by rw[←k D J];intro Y;simp[Y]at ad) w).mono fun e w' ⟨z,O⟩=>?_
 ·rw[←k j R];simpa using K j ab
 obtain⟨G,H⟩:=Ah hs O;exact⟨_,z,c,G,H,aaM⟩
end Go.AM
namespace Go.AM
abbrev ap(n:Int):aq:=.int .i64 n
abbrev am:=aq.any
abbrev aC:=aq.bool
abbrev aH:=aq.agg
abbrev aO:=aq.str
abbrev aI:=aq.ptr
abbrev aB:=Obj.arr
abbrev fb:=aq.tup
abbrev are(n:Int):Int:=IntKind.i64.wrap n
abbrev aqN(n:Int):Int:=IntKind.u64.wrap n
end Go.AM
namespace Go.AM.P
abbrev e:=dd.env
abbrev l:=dd.loc
abbrev v:=dd.val
abbrev i(o:If):cr:=⟨o,none⟩
abbrev g(x:dd)(b:Bool)(o:If):cr:=⟨o,some (x,b)⟩
end Go.AM.P
namespace Go.AM.P
abbrev E0:=e 0
abbrev E1:=e 1
abbrev E2:=e 2
abbrev E3:=e 3
abbrev E4:=e 4
abbrev E5:=e 5
abbrev E6:=e 6
abbrev E7:=e 7
abbrev E8:=e 8
abbrev E9:=e 9
abbrev oG:=e 10
abbrev qU:=e 11
abbrev sT:=e 12
abbrev tA:=e 13
abbrev yu:=e 14
abbrev ER:=e 15
abbrev Gc:=e 16
abbrev Kg:=e 17
abbrev Q3:=e 18
abbrev PP:=e 19
abbrev E20:=e 20
abbrev PR:=e 21
abbrev NJ:=e 22
abbrev E23:=e 23
abbrev E24:=e 24
abbrev E25:=e 25
abbrev E26:=e 26
abbrev E27:=e 27
abbrev E28:=e 28
abbrev E29:=e 29
abbrev E30:=e 30
abbrev E31:=e 31
abbrev E32:=e 32
abbrev E33:=e 33
abbrev E34:=e 34
abbrev E35:=e 35
abbrev E36:=e 36
abbrev E37:=e 37
abbrev E38:=e 38
abbrev L0:=l 0
abbrev L1:=l 1
abbrev L2:=l 2
abbrev L3:=l 3
abbrev L4:=l 4
abbrev L5:=l 5
abbrev L6:=l 6
abbrev L7:=l 7
abbrev L8:=l 8
abbrev L9:=l 9
abbrev mA:=l 10
abbrev nK:=l 11
abbrev vR:=l 12
abbrev rh:=l 13
abbrev BV:=l 14
abbrev FY:=l 15
abbrev AD:=l 16
abbrev As:=l 17
abbrev TH:=l 18
abbrev PT:=l 19
abbrev L20:=l 20
abbrev L21:=l 21
abbrev PO:=l 22
abbrev L23:=l 23
abbrev L24:=l 24
abbrev L25:=l 25
abbrev L26:=l 26
abbrev L27:=l 27
abbrev L28:=l 28
abbrev L29:=l 29
abbrev L30:=l 30
abbrev L31:=l 31
abbrev L32:=l 32
abbrev L33:=l 33
abbrev L34:=l 34
abbrev L35:=l 35
abbrev L36:=l 36
abbrev L37:=l 37
abbrev L38:=l 38
abbrev L39:=l 39
abbrev L40:=l 40
abbrev L41:=l 41
abbrev V0:=v (.int .i64 0)
abbrev V1:=v (.int .i64 1)
abbrev Vt:=v (.bool true)
abbrev Vf:=v (.bool false)
abbrev Vn:=v .ai
abbrev ld (x:dd):If:=.load false 1 x
abbrev lt (x:dd):If:=.load true 1 x
abbrev n0:aq:=.int .i64 0
abbrev nf:aq:=.bool false
end Go.AM.P
