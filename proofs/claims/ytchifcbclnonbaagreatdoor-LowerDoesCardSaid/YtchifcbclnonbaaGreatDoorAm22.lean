/- Part of the proof. -/
import Derived.Test.YtchifcbclnonbaaGreatDoorAm21
import Derived.Test.YtchifcbclnonbaaGreatDoorAm15
set_option linter.unusedVariables false
set_option linter.unusedSimpArgs false
set_option linter.unusedSectionVars false
namespace Go.AM
open P
set_option maxHeartbeats 16000000
set_option maxRecDepth 8000
attribute [local simp] aF br
def nY(k:Int):Bool:=k==1 ||k==2 ||k==3
theorem ad7(k:Int):∃w,bI I.qdg [.int .i64 k]=some (.str w)∧(w==[])=!nY k:=by
 by_cases h1:k=1
 ·subst h1;exact⟨[98,111,111,108],gM (n:=20) (σ:=[]) (by kernel_rfl),rfl⟩
 by_cases h2:k=2
 ·subst h2;exact⟨[105,110,116],gM (n:=20) (σ:=[]) (by kernel_rfl),rfl⟩
 by_cases h3:k=3
 ·subst h3;exact⟨[116,101,120,116],gM (n:=20) (σ:=[]) (by kernel_rfl),rfl⟩
 refine⟨[],?_,by simp[nY,h1,h2,h3]⟩;have b1:((1:Int)==k)=false:=by rw[du];omega
 have b2:((2:Int)==k)=false:=by rw[du];omega
 have b3:((3:Int)==k)=false:=by rw[du];omega
 have b1':¬((1:Int)=k):=by omega
 have b2':¬((2:Int)=k):=by omega
 have b3':¬((3:Int)=k):=by omega
 rw[aQ ajW rfl];have w1:IntKind.i64.wrap 1=1:=rfl;have w2:IntKind.i64.wrap 2=2:=rfl;have w3:IntKind.i64.wrap 3=3:=rfl;have loop:=da (base:=0) (clr:=[1,2,5,6]) (b:=xa) (fun i=>⟨[.int .i64 k,.any,.any,gl0,.int .i64 i,.any,.any],[]⟩) 3
  (.ext 0,⟨[.int .i64 k,.any,.any,gl0,.int .i64 3,.bool false,.any],[]⟩)
  (fun i hi=>by
   match i,hi with
   |0,_=>simp[xa,b1,b1',w1,aT,bG,dp]
   |1,_=>simp[xa,b2,b2',w2,aT,bG,dp]
   |2,_=>simp[xa,b3,b3',w3,aT,bG,dp])
  (by simp[xa])
 simp only[aJ]at loop;simp[apW,aaA,loop]
theorem Wp(k:Int):∃w,bI I.qby [.int .i64 k]=some (.str w)∧(w==[])=!nY k:=by
 by_cases h1:k=1
 ·subst h1;exact⟨[98,111,111,108],gM (n:=20) (σ:=[]) (by kernel_rfl),rfl⟩
 by_cases h2:k=2
 ·subst h2;exact⟨[105,110,116],gM (n:=20) (σ:=[]) (by kernel_rfl),rfl⟩
 by_cases h3:k=3
 ·subst h3;exact⟨[116,101,120,116],gM (n:=20) (σ:=[]) (by kernel_rfl),rfl⟩
 refine⟨[],?_,by simp[nY,h1,h2,h3]⟩;have b1:(k==1)=false:=by rw[du];omega
 have b2:(k==2)=false:=by rw[du];omega
 have b3:(k==3)=false:=by rw[du];omega
 rw[aQ afK rfl];simp[apR,Z6,b1,b2,b3,h1,h2,h3]
def vC(n:Nat)(keys:List Int)(i:Nat)(k:Int):Bool:=decide (0≤k)&&decide (k<n)&&(i==0 ||decide (keys.getD (i-1) 0<k))
def F5(af:List eJ)(k:Nat)(c:eJ):Bool:=oW eJ.name af k c&&kf c.name
def rt(t:cM):Bool:=kf t.name&&decide (1≤t.af.length)&&decide (t.af.length≤4)&&ly (F5 t.af) t.af 0&&(t.af.all fun c=>nY c.kind)&&ly (vC t.af.length t.keys) t.keys 0
theorem Ih{α:Type}(p:α→Bool):∀(l:List α) (b:Bool),l.foldl (fun b x=>b&&p x) b=(b&&l.all p)
 |[],b=>by simp
 |x::l,b=>by rw[dh,Ih p l,eU,eK]
abbrev xJ(t:cM)(ok:Bool)(a4 a7 a8 a9 a10 a11 a12 a13 a14:ap):List ap:=[t.a,.ptr 0 0 0 0,.int .i64 0,.bool ok,a4,.any,.any,a7,a8,a9,a10,a11,a12,a13,a14,.any]
theorem XZ(t:cM)(hl:t.af.length≤8000)(ok:Bool) :
  cc code 1 [4,10] Au ⟨xJ t ok .any (.aa false (t.af.map eJ.a)) (.int .i64 t.af.length) (.int .i64 0) .any .any .any .any .any,[.arr 3 0 [t.a]]⟩ =
   some (.ext 0,⟨xJ t (ok&&t.af.all fun c=>nY c.kind) .any (.aa false (t.af.map eJ.a)) (.int .i64 t.af.length) (.int .i64 t.af.length) (.bool false) .any .any .any .any,[.arr 3 0 [t.a]]⟩):=by
 have hm:t.af.length≤aV:=by unfold aV;omega
 have key:=(eh (base:=1) (clr:=[4,10]) (b:=Au) t.af (fun k ok=>⟨xJ t ok .any (.aa false (t.af.map eJ.a)) (.int .i64 t.af.length) (.int .i64 k) .any .any .any .any .any,[.arr 3 0 [t.a]]⟩) (fun _ _=>True) (fun b c=>b&&nY c.kind)
  (fun ok=>(.ext 0,⟨xJ t ok .any (.aa false (t.af.map eJ.a)) (.int .i64 t.af.length) (.int .i64 t.af.length) (.bool false) .any .any .any .any,[.arr 3 0 [t.a]]⟩))
  (fun k c ok hk hy _=>by
   refine⟨?_,trivial⟩;have hg:∀h:k<t.af.length,t.af[k]'h=c:=fun h=>(ak.1 hy).2;have w2:=bJ hk hm;obtain⟨w,hw,hw2⟩:=ad7 c.kind;have hca:c.a=.agg [.str c.name,.int .i64 c.kind]:=rfl;have n1:∀fl top base σ m,fz fl top base σ (m+3) t.a=t.a:=fun fl top base σ m=>Fx.fx fl top base σ m t;have n3:aC t.a=3:=rfl;have hw3:(w != [])=nY c.kind:=by show (!(w==[]))=_;rw[hw2,Bool.not_not]
   cases ok<;>cases hkb:nY c.kind<;>rw[hkb]at hw2 hw3<;>simp[Au,hk,hy,hg,hca,hw,hw2,hw3,ej,w2,n1,n3,aT,aW,bG,dp])
  (fun ok _=>by simp[Au]) ok trivial).1
 rw[Ih (fun c:eJ=>nY c.kind)]at key;simpa using key
end Go.AM
namespace Go.AM
open P
set_option maxHeartbeats 16000000
set_option maxRecDepth 8000
attribute [local simp] aF br
theorem aaP{α:Type}(g:Nat→α→Bool):∀(l:List α) (k:Nat) (b:Bool),dm (ρ:=Empty) (fun k y b=>.inl (b&&g k y)) l k b=.inl (b&&ly g l k)
 |[],k,b=>by rw[dm,ly,fv]
 |x::l,k,b=>by
  rw[dm,ly];simp only;rw[aaP g l (k+1),eK]
theorem Zy(t:cM)(hl:t.keys.length≤8000)(hcl:t.af.length≤8000)(ok:Bool)(a9:ap)(h9:∀base σ m,fz false true base σ (m+3) a9=a9) :
  cc code 1 [5,6,14] qT ⟨xJ t ok .any (.aa false (t.af.map eJ.a)) (.int .i64 t.af.length) a9 (.bool false) (.aa false (t.keys.map (.int .i64))) (.int .i64 t.keys.length) (.int .i64 0) .any,[.arr 3 0 [t.a]]⟩ =
   some (.ext 2,⟨xJ t (ok&&ly (vC t.af.length t.keys) t.keys 0) .any (.aa false (t.af.map eJ.a)) (.int .i64 t.af.length) a9 (.bool false) (.aa false (t.keys.map (.int .i64))) (.int .i64 t.keys.length) (.int .i64 t.keys.length) (.bool false),[.arr 3 0 [t.a]]⟩):=by
 have hm:t.keys.length≤aV:=by unfold aV;omega
 have hta:t.a=.agg [.str t.name,.aa false (t.af.map eJ.a),.aa false (t.keys.map (.int .i64))]:=rfl;have key:=eL (ρ:=Empty) (base:=1) (clr:=[5,6,14]) (b:=qT) t.keys (fun k ok=>⟨xJ t ok .any (.aa false (t.af.map eJ.a)) (.int .i64 t.af.length) a9 (.bool false) (.aa false (t.keys.map (.int .i64))) (.int .i64 t.keys.length) (.int .i64 k) .any,[.arr 3 0 [t.a]]⟩) (fun _ _=>True)
  (fun k y b=>.inl (b&&vC t.af.length t.keys k y))
  (fun ok=>(.ext 2,⟨xJ t ok .any (.aa false (t.af.map eJ.a)) (.int .i64 t.af.length) a9 (.bool false) (.aa false (t.keys.map (.int .i64))) (.int .i64 t.keys.length) (.int .i64 t.keys.length) (.bool false),[.arr 3 0 [t.a]]⟩)) (fun r _=>r.elim)
  (fun k y ok hk hy _=>by
   refine⟨?_,trivial⟩;have hg:∀h:k<t.keys.length,t.keys[k]'h=y:=fun h=>(ak.1 hy).2;have w2:=bJ hk hm;have w1:IntKind.i64.wrap 1=1:=rfl;unfold vC;simp only[xJ,hta];by_cases y0:0≤y
   ·by_cases y1:y<(t.af.length:Int)
    ·by_cases k0:k=0
     ·subst k0;cases ok<;>simp[qT,hk,hy,hg,w1,w2,y0,y1,aT]
     have kb:((k:Int)==0)=false:=by simp;omega
     have kb2:(k==0)=false:=by simp[k0]
     have hk1:k-1<t.keys.length:=by omega
     have hy1:t.keys[k-1]?=some (t.keys.getD (k-1) 0):=by rw[aE,aq hk1];rfl
     have hg1:∀h:k-1<t.keys.length,t.keys[k-1]'h=t.keys.getD (k-1) 0:=fun h=>(ak.1 hy1).2;have w3:IntKind.i64.wrap ((k:Int)-1)=(k:Int)-1:=tI (by omega) (by omega);have i2:((k:Int)-1).toNat=k-1:=by omega
     have i3:(0:Int)≤(k:Int)-1:=by omega
     have i4:(1:Int)≤(k:Int):=by omega
     have i5:(1:Nat)≤k:=by omega
     have i6:(k:Int)-1<(t.keys.length:Int):=by omega
     generalize t.keys.getD (k-1) 0=z at *;by_cases yz:z<y
     ·cases ok<;>simp[qT,hk,hy,hg,w2,y0,y1,k0,kb,kb2,hk1,hy1,hg1,w3,i2,i3,i4,i5,i6,yz,aT]
     cases ok<;>simp[qT,hk,hy,hg,w2,y0,y1,k0,kb,kb2,hk1,hy1,hg1,w3,i2,i3,i4,i5,i6,yz,aT]
    cases ok<;>simp[qT,hk,hy,hg,w1,w2,y0,y1,aT]
   cases ok<;>simp[qT,hk,hy,hg,w2,y0,aT])
  (fun ok _=>by simp[qT]) ok trivial
 rw[aaP]at key;exact key.2
theorem Iy(t:cM)(hl:t.keys.length≤8000)(hcl:t.af.length≤8000):bI I.qcv [t.a]=some (.int .i64 (if rt t then 0 else 211)):=by
 rw[aQ ahe rfl];have hta:t.a=.agg [.str t.name,.aa false (t.af.map eJ.a),.aa false (t.keys.map (.int .i64))]:=rfl;have hn:=Em t.name;have ho:=aek false t.af hcl;have l1:=XZ t hcl;have l2:=fun ok=>Zy t hl hcl ok (.int .i64 t.af.length) (by simp);unfold rt;have hcg:ly (fun k t'=>oW eJ.name t.af k t'&&kf t'.name) t.af 0=ly (F5 t.af) t.af 0:=rfl;rw[hcg]at ho;simp only[xJ,hta]at l1 l2 ⊢;generalize ly (F5 t.af) t.af 0=b3 at *;generalize (t.af.all fun c=>nY c.kind)=b4 at *;generalize ly (vC t.af.length t.keys) t.keys 0=b5 at *;generalize kf t.name=b0 at *;have hf1:=l1 false;have ht1:=l1 true;have hf2:=l2 false;have ht2:=l2 true;clear l1 l2;cases b0 with
 |false=>cases b4<;>cases b5<;>simp at hf1 hf2<;>simp[aoh,Ml,hn,hf1,hf2]
 |true=>
  by_cases c1:1≤t.af.length
  ·have c1':(1:Int)≤(t.af.length:Int):=by omega
   by_cases c4:t.af.length≤4
   ·have c4':(t.af.length:Int)≤4:=by omega
    cases b3<;>cases b4<;>cases b5<;>simp at hf1 hf2 ht1 ht2<;>simp[aoh,Ml,hn,ho,c1,c1',c4,c4',hf1,hf2,ht1,ht2]
   have c4':¬(t.af.length:Int)≤4:=by omega
   cases b4<;>cases b5<;>simp at hf1 hf2<;>simp[aoh,Ml,hn,c1,c1',c4,c4',hf1,hf2]
  have c1':¬(1:Int)≤(t.af.length:Int):=by omega
  cases b4<;>cases b5<;>simp at hf1 hf2<;>simp[aoh,Ml,hn,c1,c1',hf1,hf2]
end Go.AM
namespace Go.AM
open P
set_option maxHeartbeats 16000000
set_option maxRecDepth 8000
attribute [local simp] aF br
def wr(c:List cM):Bool:=decide (c.length≤4)&&c.all rt&&ly (fun k t=>oW cM.name c k t&&kf t.name) c 0
structure Gn (t:cM):Prop where
 keys:t.keys.length≤8000
 af:t.af.length≤8000
theorem Uj(t:cM)(h:Gn t):bI I.qcw [t.a]=some (.bool (!rt t)):=by
 rw[aQ ahf rfl];have hc:=Iy t h.keys h.af;have n3:aC t.a=3∧isAgg t.a=true:=⟨rfl,rfl⟩;have n1:∀fl top base σ m,fz fl top base σ (m+3) t.a=t.a:=fun fl top base σ m=>Fx.fx fl top base σ m t;cases hb:rt t<;>rw[hb]at hc<;>simp at hc<;>simp[apO,abY,hc,n1,n3]
theorem Pv(c:List cM)(hl:c.length≤8000)(h:∀t∈c,Gn t):bI I.qcu [eZ c]=some (.int .i64 (if wr c then 0 else 210)):=by
 rw[aQ ajn rfl]
 have hC:=p7 (enc:=cM.a) (b:=false) (l:=c) (f:=.fn I.qcw [] []) (p:=fun t=>!rt t) (by unfold aV;omega) (fun _=>⟨rfl,rfl⟩) (fun σ=>by simp) (fun t ht=>by
  have n1:∀fl top base σ m,fz fl top base σ (m+3) t.a=t.a:=fun fl top base σ m=>Fx.fx fl top base σ m t;simp[Uj t (h t ht),n1])
 have hO:=acI false c hl;have hall:c.any (fun t=>!rt t)=!c.all rt:=by
  have:∀l:List cM,l.any (fun t=>!rt t)=!l.all rt:=fun l=>by
   induction l with
   |nil=>rfl
   |cons x l ih=>rw[md,ih,eU,Bool.not_and]
  exact this c
 rw[hall]at hC;unfold wr;generalize ly (fun k t=>oW cM.name c k t&&kf t.name) c 0=b2 at *;generalize c.all rt=b1 at *;by_cases h4:c.length≤4
 ·have h4':¬(4:Int)<(c.length:Int):=by omega
  cases b1<;>cases b2<;>simp at hC hO<;>simp[ao0,VV,h4,h4',hC,hO]
 have h4':(4:Int)<(c.length:Int):=by omega
 simp[ao0,VV,h4,h4']
theorem AS{α:Type}(g h:Nat→α→Bool)(p:α→Bool)(hh:∀k x,h k x=(g k x&&p x)):∀(l:List α) (k:Nat),ly h l k=(ly g l k&&l.all p)
 |[],_=>rfl
 |x::l,k=>by
  rw[ly,ly,AS g h p hh l,hh,eU];cases g k x<;>cases p x<;>cases ly g l (k+1)<;>simp
abbrev iG(t:cM)(a3 a4 a5 a6 a8 a9 a10 a11 a12:ap):List ap:=[t.a,.ptr 0 0 0 0,.any,a3,a4,a5,a6,.bool false,a8,a9,a10,a11,a12,.any]
theorem U1(t:cM)(hl:t.af.length≤8000)(i:Nat)(c:eJ)(hi:t.af[i]?=some c) :
  (oW eJ.name t.af i c=true∧cc code 2 [2,10,11] vh ⟨iG t (.int .i64 i) (.ptr 1 0 0 0) (.int .i64 0) .any (.bool true) (.bool false) .any .any .any,[.arr 3 0 [t.a],.arr 2 0 [c.a]]⟩=some (.ext 2,⟨iG t (.int .i64 i) (.ptr 1 0 0 0) (.int .i64 i) .any (.bool true) (.bool false) (.bool false) .any .any,[.arr 3 0 [t.a],.arr 2 0 [c.a]]⟩)) ∨
  (oW eJ.name t.af i c=false∧∃q,cc code 2 [2,10,11] vh ⟨iG t (.int .i64 i) (.ptr 1 0 0 0) (.int .i64 0) .any (.bool true) (.bool false) .any .any .any,[.arr 3 0 [t.a],.arr 2 0 [c.a]]⟩=some (.ret,q)∧q.env[2]?=some (.bool false)):=by
 have hm:t.af.length≤aV:=by unfold aV;omega
 have hta:t.a=.agg [.str t.name,.aa false (t.af.map eJ.a),.aa false (t.keys.map (.int .i64))]:=rfl;have hca:c.a=.agg [.str c.name,.int .i64 c.kind]:=rfl;have hil:=(ak.1 hi).1;have hlen:(t.af.take i).length=i:=by simp;omega
 have loop:=gf (base:=2) (clr:=[2,10,11]) (b:=vh) (t.af.take i) (fun k=>⟨iG t (.int .i64 i) (.ptr 1 0 0 0) (.int .i64 k) .any (.bool true) (.bool false) .any .any .any,[.arr 3 0 [t.a],.arr 2 0 [c.a]]⟩) (fun y=>y.name==c.name)
  (.ext 2,⟨iG t (.int .i64 i) (.ptr 1 0 0 0) (.int .i64 i) .any (.bool true) (.bool false) (.bool false) .any .any,[.arr 3 0 [t.a],.arr 2 0 [c.a]]⟩) (fun o=>∃q,o=(.ret,q)∧q.env[2]?=some (.bool false))
  (fun k y hk hy hp=>by
   rw[hlen]at hk;have hy2:t.af[k]?=some y:=by rw[dO]at hy;simpa [hk] using hy
   have hkl:k<t.af.length:=by omega
   have hg:∀h:k<t.af.length,t.af[k]'h=y:=fun h=>(ak.1 hy2).2;have w2:=bJ hkl hm;have hya:y.a=.agg [.str y.name,.int .i64 y.kind]:=rfl;have hk3:(k:Int)<(i:Int):=by omega
   simp only[iG,hta,hca];simp[vh,hk,hk3,hkl,hy2,hg,hya,w2,hp,ej,aT])
  (fun k y hk hy hp=>by
   rw[hlen]at hk;have hy2:t.af[k]?=some y:=by rw[dO]at hy;simpa [hk] using hy
   have hkl:k<t.af.length:=by omega
   have hg:∀h:k<t.af.length,t.af[k]'h=y:=fun h=>(ak.1 hy2).2;have hya:y.a=.agg [.str y.name,.int .i64 y.kind]:=rfl;have hk3:(k:Int)<(i:Int):=by omega
   simp only[iG,hta,hca];exact⟨_,by simp[vh,hk,hk3,hkl,hy2,hg,hya,hp,ej];rfl,_,rfl,rfl⟩)
  (by rw[hlen];simp[vh])
 unfold oW;rcases loop with⟨ha,loop⟩|⟨ha,o,loop,q,rfl,hq⟩
 ·exact .inl ⟨by rw[ha];rfl,by simpa using loop⟩
 exact .inr ⟨by rw[ha];rfl,q,by simpa using loop,hq⟩
end Go.AM
namespace Go.AM
open P
set_option maxHeartbeats 16000000
set_option maxRecDepth 8000
attribute [local simp] aF br
theorem X8(t:cM)(hl:t.af.length≤8000) :
  (ly (fun k c=>F5 t.af k c&&nY c.kind) t.af 0=true∧cc code 1 [2,4,5,8,9,10,11] qI ⟨iG t (.int .i64 0) .any .any .any .any .any .any .any .any,[.arr 3 0 [t.a]]⟩=some (.ext 0,⟨iG t (.int .i64 t.af.length) .any .any .any (.bool false) .any .any .any .any,[.arr 3 0 [t.a]]⟩)) ∨
  (ly (fun k c=>F5 t.af k c&&nY c.kind) t.af 0=false∧∃q,cc code 1 [2,4,5,8,9,10,11] qI ⟨iG t (.int .i64 0) .any .any .any .any .any .any .any .any,[.arr 3 0 [t.a]]⟩=some (.ret,q)∧q.env[2]?=some (.bool false)):=by
 have hm:t.af.length≤aV:=by unfold aV;omega
 have hta:t.a=.agg [.str t.name,.aa false (t.af.map eJ.a),.aa false (t.keys.map (.int .i64))]:=rfl;have key:=eL (base:=1) (clr:=[2,4,5,8,9,10,11]) (b:=qI) t.af (fun k (_:Unit)=>⟨iG t (.int .i64 k) .any .any .any .any .any .any .any .any,[.arr 3 0 [t.a]]⟩) (fun _ _=>True)
  (fun k c (_:Unit)=>if (F5 t.af k c&&nY c.kind) then (.inl ():Unit⊕Unit) else .inr ())
  (fun _=>(.ext 0,⟨iG t (.int .i64 t.af.length) .any .any .any (.bool false) .any .any .any .any,[.arr 3 0 [t.a]]⟩)) (fun _ o=>∃q,o=(.ret,q)∧q.env[2]?=some (.bool false))
  (fun k c _ hk hy _=>by
   have hg:∀h:k<t.af.length,t.af[k]'h=c:=fun h=>(ak.1 hy).2;have w2:=bJ hk hm;have hca:c.a=.agg [.str c.name,.int .i64 c.kind]:=rfl;have hn:=Gd c.name;obtain⟨w,hw,hw2⟩:=Wp c.kind;have hin:=U1 t hl k c hy;unfold F5;simp only[iG,hta,hca]at hin ⊢;cases hnm:kf c.name with
   |false=>
    rw[hnm]at hn;simp only[gK,gg,aH,bQ];exact⟨_,by simp[qI,hk,hy,hg,hca,hn];rfl,_,rfl,rfl⟩
   |true=>
    rw[hnm]at hn;cases hkb:nY c.kind with
    |false=>
     rw[hkb]at hw2;simp only[gK,aH,bQ];exact⟨_,by simp[qI,hk,hy,hg,hca,hn,hw,hw2,ej];rfl,_,rfl,rfl⟩
    |true=>
     rw[hkb]at hw2;rcases hin with⟨hf,hin⟩|⟨hf,q,hin,hq⟩
     ·rw[hf];simp only[fv,bU];refine⟨?_,trivial⟩;simp[qI,hk,hy,hg,hca,hn,hw,hw2,hin,ej,w2,aT,aW,bG,dp]
     rw[hf];simp only[gg,aH,bQ];exact⟨(.ret,q),by simp[qI,hk,hy,hg,hca,hn,hw,hw2,hin,ej],q,rfl,hq⟩)
  (fun _ _=>by simp only[iG,hta];simp[qI]) () trivial
 rw[pe]at key;cases hq:ly (fun k c=>F5 t.af k c&&nY c.kind) t.af 0 with
 |true=>
  rw[hq]at key;exact .inl ⟨rfl,by simpa using key.2⟩
 |false=>
  rw[hq]at key;obtain⟨o,key,q,rfl,hq2⟩:=key;exact .inr ⟨rfl,q,by simpa using key,hq2⟩
theorem Yf(t:cM)(hl:t.keys.length≤8000)(hcl:t.af.length≤8000) :
  (ly (vC t.af.length t.keys) t.keys 0=true∧cc code 1 [2,12,13] pG ⟨iG t (.int .i64 t.af.length) .any .any (.int .i64 0) (.bool false) .any .any .any .any,[.arr 3 0 [t.a]]⟩=some (.ext 4,⟨iG t (.int .i64 t.af.length) .any .any (.int .i64 t.keys.length) (.bool false) .any .any .any (.bool false),[.arr 3 0 [t.a]]⟩)) ∨
  (ly (vC t.af.length t.keys) t.keys 0=false∧∃q,cc code 1 [2,12,13] pG ⟨iG t (.int .i64 t.af.length) .any .any (.int .i64 0) (.bool false) .any .any .any .any,[.arr 3 0 [t.a]]⟩=some (.ret,q)∧q.env[2]?=some (.bool false)):=by
 have hm:t.keys.length≤aV:=by unfold aV;omega
 have hta:t.a=.agg [.str t.name,.aa false (t.af.map eJ.a),.aa false (t.keys.map (.int .i64))]:=rfl;have key:=eL (base:=1) (clr:=[2,12,13]) (b:=pG) t.keys (fun k (_:Unit)=>⟨iG t (.int .i64 t.af.length) .any .any (.int .i64 k) (.bool false) .any .any .any .any,[.arr 3 0 [t.a]]⟩) (fun _ _=>True)
  (fun k y (_:Unit)=>if vC t.af.length t.keys k y then (.inl ():Unit⊕Unit) else .inr ())
  (fun _=>(.ext 4,⟨iG t (.int .i64 t.af.length) .any .any (.int .i64 t.keys.length) (.bool false) .any .any .any (.bool false),[.arr 3 0 [t.a]]⟩)) (fun _ o=>∃q,o=(.ret,q)∧q.env[2]?=some (.bool false))
  (fun k y _ hk hy _=>by
   have hg:∀h:k<t.keys.length,t.keys[k]'h=y:=fun h=>(ak.1 hy).2;have w1:IntKind.i64.wrap 1=1:=rfl;have w2:=bJ hk hm;unfold vC;simp only[iG,hta];by_cases y0:0≤y
   ·have y0':¬y<0:=by omega
    by_cases y1:y<(t.af.length:Int)
    ·have y1':¬(t.af.length:Int)≤y:=by omega
     by_cases k0:k=0
     ·subst k0;simp[y0,y1];simp[pG,hk,hy,hg,w1,w2,y0,y0',y1,y1',aT]
     have kb:((k:Int)>0):=by omega
     have kb2:(k==0)=false:=by simp[k0]
     have hk0:0<k:=by omega
     have hk1:k-1<t.keys.length:=by omega
     have hy1:t.keys[k-1]?=some (t.keys.getD (k-1) 0):=by rw[aE,aq hk1];rfl
     have hg1:∀h:k-1<t.keys.length,t.keys[k-1]'h=t.keys.getD (k-1) 0:=fun h=>(ak.1 hy1).2;have w3:IntKind.i64.wrap ((k:Int)-1)=(k:Int)-1:=tI (by omega) (by omega);have i2:((k:Int)-1).toNat=k-1:=by omega
     have i3:(0:Int)≤(k:Int)-1:=by omega
     have i4:(1:Int)≤(k:Int):=by omega
     have i5:(1:Nat)≤k:=by omega
     have i6:(k:Int)-1<(t.keys.length:Int):=by omega
     generalize t.keys.getD (k-1) 0=z at *;by_cases yz:z<y
     ·have yz':¬y≤z:=by omega
      simp[y0,y1,kb2,yz];simp[pG,hk,hy,hg,w2,y0,y0',y1,y1',k0,kb,hk0,hk1,hy1,hg1,w3,i2,i3,i4,i5,i6,yz,yz',aT]
     have yz':y≤z:=by omega
     have hG:(decide (0≤y)&&decide (y<(t.af.length:Int))&&(k==0 ||decide (z<y)))=false:=by simp[y0,y1,kb2,yz]
     rw[hG];simp only[aH,bQ];exact⟨_,by simp[pG,hk,hy,hg,y0,y0',y1,y1',k0,kb,hk0,hk1,hy1,hg1,w3,i2,i3,i4,i5,i6,yz,yz'];rfl,_,rfl,rfl⟩
    have y1':(t.af.length:Int)≤y:=by omega
    have hG:∀b,(decide (0≤y)&&decide (y<(t.af.length:Int))&&b)=false:=fun b=>by simp[y0,y1]
    rw[hG];simp only[aH,bQ];exact⟨_,by simp[pG,hk,hy,hg,y0,y0',y1,y1'];rfl,_,rfl,rfl⟩
   have y0':y<0:=by omega
   have hG:∀b,(decide (0≤y)&&decide (y<(t.af.length:Int))&&b)=false:=fun b=>by simp[y0]
   rw[hG];simp only[aH,bQ];exact⟨_,by simp[pG,hk,hy,hg,y0,y0'];rfl,_,rfl,rfl⟩)
  (fun _ _=>by simp only[iG,hta];simp[pG]) () trivial
 rw[pe]at key;cases hq:ly (vC t.af.length t.keys) t.keys 0 with
 |true=>
  rw[hq]at key;exact .inl ⟨rfl,by simpa using key.2⟩
 |false=>
  rw[hq]at key;obtain⟨o,key,q,rfl,hq2⟩:=key;exact .inr ⟨rfl,q,by simpa using key,hq2⟩
end Go.AM
namespace Go.AM
open P
set_option maxHeartbeats 16000000
set_option maxRecDepth 8000
attribute [local simp] aF br
theorem JN(t:cM)(h:Gn t):bI I.qbx [t.a]=some (.bool (rt t)):=by
 rw[aQ ae5 rfl];have hta:t.a=.agg [.str t.name,.aa false (t.af.map eJ.a),.aa false (t.keys.map (.int .i64))]:=rfl;have hn:=Gd t.name;have hc:=X8 t h.af;have hk:=Yf t h.keys h.af;rw[AS (F5 t.af) _ (fun c=>nY c.kind) (fun _ _=>rfl)]at hc;have ht:rt t=(kf t.name&&decide (1≤t.af.length)&&decide (t.af.length≤4)&&(ly (F5 t.af) t.af 0&&t.af.all fun c=>nY c.kind)&&ly (vC t.af.length t.keys) t.keys 0):=by
  unfold rt;simp only[eK]
 rw[ht];generalize (ly (F5 t.af) t.af 0&&t.af.all fun c=>nY c.kind)=b3 at *;generalize ly (vC t.af.length t.keys) t.keys 0=b5 at *;simp only[iG,hta]at hc hk ⊢;cases hnm:kf t.name with
 |false=>
  rw[hnm]at hn;simp[anX,Et,hn]
 |true=>
  rw[hnm]at hn;by_cases c1:1≤t.af.length
  ·have c1':¬(t.af.length:Int)<1:=by omega
   by_cases c4:t.af.length≤4
   ·have c4':¬(4:Int)<(t.af.length:Int):=by omega
    rcases hc with⟨hb,hc⟩|⟨hb,q,hc,hq⟩
    ·rw[hb];rcases hk with⟨hb2,hk⟩|⟨hb2,q,hk,hq⟩
     ·rw[hb2];simp[anX,Et,hn,c1,c1',c4,c4',hc,hk]
     rw[hb2];simp[anX,Et,hn,c1,c1',c4,c4',hc,hk,hq]
    rw[hb];simp[anX,Et,hn,c1,c1',c4,c4',hc,hq]
   have c4':(4:Int)<(t.af.length:Int):=by omega
   simp[anX,Et,hn,c1,c1',c4,c4']
  have c1':(t.af.length:Int)<1:=by omega
  simp[anX,Et,hn,c1,c1']
abbrev FJ(c:List cM)(a3 a4 a6 a7 a8 a9:ap):List ap:=[eZ c,.ptr 0 0 0 0,.any,a3,a4,.bool false,a6,a7,a8,a9]
theorem Xp(c:List cM)(hl:c.length≤8000)(i:Nat)(t:cM)(hi:c[i]?=some t) :
  (oW cM.name c i t=true∧cc code 1 [2,8,9] uj ⟨FJ c (.int .i64 i) (.int .i64 0) (.bool true) (.bool false) .any .any,[.arr 1 0 [eZ c]]⟩=some (.ext 2,⟨FJ c (.int .i64 i) (.int .i64 i) (.bool true) (.bool false) (.bool false) .any,[.arr 1 0 [eZ c]]⟩)) ∨
  (oW cM.name c i t=false∧∃q,cc code 1 [2,8,9] uj ⟨FJ c (.int .i64 i) (.int .i64 0) (.bool true) (.bool false) .any .any,[.arr 1 0 [eZ c]]⟩=some (.ret,q)∧q.env[2]?=some (.bool false)):=by
 have hm:c.length≤aV:=by unfold aV;omega
 have hil:=(ak.1 hi).1;have hgi:∀h:i<c.length,c[i]'h=t:=fun h=>(ak.1 hi).2;have hta:∀t:cM,t.a=.agg [.str t.name,.aa false (t.af.map eJ.a),.aa false (t.keys.map (.int .i64))]:=fun _=>rfl;have hlen:(c.take i).length=i:=by simp;omega
 have loop:=gf (base:=1) (clr:=[2,8,9]) (b:=uj) (c.take i) (fun k=>⟨FJ c (.int .i64 i) (.int .i64 k) (.bool true) (.bool false) .any .any,[.arr 1 0 [eZ c]]⟩) (fun y=>y.name==t.name)
  (.ext 2,⟨FJ c (.int .i64 i) (.int .i64 i) (.bool true) (.bool false) (.bool false) .any,[.arr 1 0 [eZ c]]⟩) (fun o=>∃q,o=(.ret,q)∧q.env[2]?=some (.bool false))
  (fun k y hk hy hp=>by
   rw[hlen]at hk;have hy2:c[k]?=some y:=by rw[dO]at hy;simpa [hk] using hy
   have hkl:k<c.length:=by omega
   have hg:∀h:k<c.length,c[k]'h=y:=fun h=>(ak.1 hy2).2;have w2:=bJ hkl hm;have hk3:(k:Int)<(i:Int):=by omega
   have ey:=hta y;have et:=hta t;simp[uj,hk,hk3,hkl,hy2,hg,hi,hil,hgi,ey,et,w2,hp,ej,aT])
  (fun k y hk hy hp=>by
   rw[hlen]at hk;have hy2:c[k]?=some y:=by rw[dO]at hy;simpa [hk] using hy
   have hkl:k<c.length:=by omega
   have hg:∀h:k<c.length,c[k]'h=y:=fun h=>(ak.1 hy2).2;have hk3:(k:Int)<(i:Int):=by omega
   have ey:=hta y;have et:=hta t;exact⟨_,by simp[uj,hk,hk3,hkl,hy2,hg,hi,hil,hgi,ey,et,hp,ej];rfl,_,rfl,rfl⟩)
  (by rw[hlen];simp[uj])
 unfold oW;rcases loop with⟨ha,loop⟩|⟨ha,o,loop,q,rfl,hq⟩
 ·exact .inl ⟨by rw[ha];rfl,by simpa using loop⟩
 exact .inr ⟨by rw[ha];rfl,q,by simpa using loop,hq⟩
theorem Td(c:List cM)(hl:c.length≤8000)(h:∀t∈c,Gn t):bI I.qbw [eZ c]=some (.bool (wr c)):=by
 rw[aQ ah8 rfl];have hm:c.length≤aV:=by unfold aV;omega
 have key:=eL (base:=1) (clr:=[2,4,6,7,8,9]) (b:=xm) c (fun k (_:Unit)=>⟨FJ c (.int .i64 k) .any .any .any .any .any,[.arr 1 0 [eZ c]]⟩) (fun _ _=>True)
  (fun k t (_:Unit)=>if (oW cM.name c k t&&rt t) then (.inl ():Unit⊕Unit) else .inr ())
  (fun _=>(.ext 0,⟨FJ c (.int .i64 c.length) .any (.bool false) .any .any .any,[.arr 1 0 [eZ c]]⟩)) (fun _ o=>∃q,o=(.ret,q)∧q.env[2]?=some (.bool false))
  (fun k t _ hk hy _=>by
   have hg:∀h:k<c.length,c[k]'h=t:=fun h=>(ak.1 hy).2;have w2:=bJ hk hm;have hrt:=JN t (h t (aD hy));have n3:aC t.a=3∧isAgg t.a=true:=⟨rfl,rfl⟩;have n1:∀fl top base σ m,fz fl top base σ (m+3) t.a=t.a:=fun fl top base σ m=>Fx.fx fl top base σ m t;have hin:=Xp c hl k t hy;cases hb:rt t with
   |false=>
    rw[hb]at hrt;simp only[gK,aH,bQ];exact⟨_,by simp[xm,hk,hy,hg,n1,n3,hrt];rfl,_,rfl,rfl⟩
   |true=>
    rw[hb]at hrt;rcases hin with⟨hf,hin⟩|⟨hf,q,hin,hq⟩
    ·rw[hf];simp only[fv,bU];refine⟨?_,trivial⟩;simp[xm,hk,hy,hg,n1,n3,hrt,hin,w2,aT]
    rw[hf];simp only[fv,aH,bQ];exact⟨(.ret,q),by simp[xm,hk,hy,hg,n1,n3,hrt,hin],q,rfl,hq⟩)
  (fun _ _=>by simp[xm]) () trivial
 rw[pe]at key;have e1:=AS (fun k t=>oW cM.name c k t) (fun k t=>oW cM.name c k t&&rt t) rt (fun _ _=>rfl) c 0;have e2:=AS (fun k t=>oW cM.name c k t) (fun k t=>oW cM.name c k t&&kf t.name) (fun t=>kf t.name) (fun _ _=>rfl) c 0;have e3:c.all rt=true→(c.all fun t=>kf t.name)=true:=fun h=>by
  rw[aI]at h ⊢;intro t ht;have:=h t ht;unfold rt at this;simp only[am]at this;exact this.1.1.1.1.1
 have e4:wr c=(decide (c.length≤4)&&ly (fun k t=>oW cM.name c k t&&rt t) c 0):=by
  unfold wr;rw[e1,e2];cases hA:c.all rt with
  |false=>simp
  |true=>rw[e3 hA];simp
 rw[e4];by_cases h4:c.length≤4
 ·have h4':¬(4:Int)<(c.length:Int):=by omega
  cases hq:ly (fun k t=>oW cM.name c k t&&rt t) c 0 with
  |true=>
   rw[hq]at key;have key:=key.2;simp only[aJ]at key;simp[aow,R6,h4,h4',key]
  |false=>
   rw[hq]at key;obtain⟨o,key,q,rfl,hq2⟩:=key;simp only[aJ]at key;simp[aow,R6,h4,h4',key,hq2]
 have h4':(4:Int)<(c.length:Int):=by omega
 simp[aow,R6,h4,h4']
end Go.AM
namespace Go.AM
open P
set_option maxHeartbeats 4000000
set_option maxRecDepth 8000
theorem gD{α:Type}{l:List α}{n:Nat}(h:n<l.length)(h0:n≠0):l.take n≠[]:=List.ne_nil_of_length_pos (by simp;omega)
theorem adr{α:Type}{enc:α→ap}[Nc enc 3 true](b:Bool)(l:List α)(n:Nat)(h0:n≠0)(hn:n≤1000)(σ:aw) :
  ∃ep,db code I.qat [.aa b (l.map enc),.int .i64 (n:Int)] σ=some (.sl σ.length ep 0 (l.take n).length,σ++[.arr 3 ep ((l.take n).map enc)]):=by
 rw[dq ahV rfl];have hnc:∀(k:List α),∀a∈k.map enc,aC a=3:=fun k a ha=>by
  obtain⟨y,_,rfl⟩:=bK.1 ha;exact Nc.nc y
 have hnx:∀x:α,aC (enc x)=3:=fun x=>Nc.nc x;have hng:¬((n:Int)<0):=by omega
 by_cases h:n<l.length
 ·have hi:((n:Int)<l.length):=by omega
  have h1:min n l.length=n:=by omega
  have h2:l.take n≠[]:=gD h h0;have h4:n≤l.length:=by omega
  have h7:=hnc l;have h8:=hnc (l.take n);have h9:n≤aV:=by unfold aV;omega
  have h10:l≠[]:=by intro e;simp[e]at h
  refine⟨1,?_⟩;simp only[dH]at h8;simp[aoD,RN,hi,hnx,hng,append,h0,h1,h2,h4,h9,h10,if_pos h7,if_pos h8]
 have hi:¬((n:Int)<l.length):=by omega
 have e0:l.take n=l:=ay (by omega);have h7:=hnc l;rw[e0];by_cases he:l=[]
 ·subst he;refine⟨0,?_⟩;simp[aoD,RN,append,hnx,hng]
 have h9:l.length≤aV:=by unfold aV;omega
 refine⟨1,?_⟩;simp[aoD,RN,hi,hnx,hng,append,he,if_pos h7,h9]
theorem Zt{α:Type}{enc:α→ap}[Nc enc 9 true](b:Bool)(l:List α)(n:Nat)(h0:n≠0)(hn:n≤1000)(σ:aw) :
  ∃ep,db code I.qao [.aa b (l.map enc),.int .i64 (n:Int)] σ=some (.sl σ.length ep 0 (l.take n).length,σ++[.arr 9 ep ((l.take n).map enc)]):=by
 rw[dq ahZ rfl];have hnc:∀(k:List α),∀a∈k.map enc,aC a=9:=fun k a ha=>by
  obtain⟨y,_,rfl⟩:=bK.1 ha;exact Nc.nc y
 have hnx:∀x:α,aC (enc x)=9:=fun x=>Nc.nc x;have hng:¬((n:Int)<0):=by omega
 by_cases h:n<l.length
 ·have hi:((n:Int)<l.length):=by omega
  have h1:min n l.length=n:=by omega
  have h2:l.take n≠[]:=gD h h0;have h4:n≤l.length:=by omega
  have h7:=hnc l;have h8:=hnc (l.take n);have h9:n≤aV:=by unfold aV;omega
  have h10:l≠[]:=by intro e;simp[e]at h
  refine⟨1,?_⟩;simp only[dH]at h8;simp[aoA,P8,hi,hnx,hng,append,h0,h1,h2,h4,h9,h10,if_pos h7,if_pos h8]
 have hi:¬((n:Int)<l.length):=by omega
 have e0:l.take n=l:=ay (by omega);have h7:=hnc l;rw[e0];by_cases he:l=[]
 ·subst he;refine⟨0,?_⟩;simp[aoA,P8,append,hnx,hng]
 have h9:l.length≤aV:=by unfold aV;omega
 refine⟨1,?_⟩;simp[aoA,P8,hi,hnx,hng,append,he,if_pos h7,h9]
theorem Ue{α:Type}{enc:α→ap}[Nc enc 2 true](b:Bool)(l:List α)(n:Nat)(h0:n≠0)(hn:n≤1000)(σ:aw) :
  ∃ep,db code I.qan [.aa b (l.map enc),.int .i64 (n:Int)] σ=some (.sl σ.length ep 0 (l.take n).length,σ++[.arr 2 ep ((l.take n).map enc)]):=by
 rw[dq ajd rfl];have hnc:∀(k:List α),∀a∈k.map enc,aC a=2:=fun k a ha=>by
  obtain⟨y,_,rfl⟩:=bK.1 ha;exact Nc.nc y
 have hnx:∀x:α,aC (enc x)=2:=fun x=>Nc.nc x;have hng:¬((n:Int)<0):=by omega
 by_cases h:n<l.length
 ·have hi:((n:Int)<l.length):=by omega
  have h1:min n l.length=n:=by omega
  have h2:l.take n≠[]:=gD h h0;have h4:n≤l.length:=by omega
  have h7:=hnc l;have h8:=hnc (l.take n);have h9:n≤aV:=by unfold aV;omega
  have h10:l≠[]:=by intro e;simp[e]at h
  refine⟨1,?_⟩;simp only[dH]at h8;simp[aov,RR,hi,hnx,hng,append,h0,h1,h2,h4,h9,h10,if_pos h7,if_pos h8]
 have hi:¬((n:Int)<l.length):=by omega
 have e0:l.take n=l:=ay (by omega);have h7:=hnc l;rw[e0];by_cases he:l=[]
 ·subst he;refine⟨0,?_⟩;simp[aov,RR,append,hnx,hng]
 have h9:l.length≤aV:=by unfold aV;omega
 refine⟨1,?_⟩;simp[aov,RR,hi,hnx,hng,append,he,if_pos h7,h9]
theorem adk{α:Type}{enc:α→ap}[Nc enc 2 true](b:Bool)(l:List α)(n:Nat)(h0:n≠0)(hn:n≤1000)(σ:aw) :
  ∃ep,db code I.qam [.aa b (l.map enc),.int .i64 (n:Int)] σ=some (.sl σ.length ep 0 (l.take n).length,σ++[.arr 2 ep ((l.take n).map enc)]):=by
 rw[dq afn rfl];have hnc:∀(k:List α),∀a∈k.map enc,aC a=2:=fun k a ha=>by
  obtain⟨y,_,rfl⟩:=bK.1 ha;exact Nc.nc y
 have hnx:∀x:α,aC (enc x)=2:=fun x=>Nc.nc x;have hng:¬((n:Int)<0):=by omega
 by_cases h:n<l.length
 ·have hi:((n:Int)<l.length):=by omega
  have h1:min n l.length=n:=by omega
  have h2:l.take n≠[]:=gD h h0;have h4:n≤l.length:=by omega
  have h7:=hnc l;have h8:=hnc (l.take n);have h9:n≤aV:=by unfold aV;omega
  have h10:l≠[]:=by intro e;simp[e]at h
  refine⟨1,?_⟩;simp only[dH]at h8;simp[aox,Q1,hi,hnx,hng,append,h0,h1,h2,h4,h9,h10,if_pos h7,if_pos h8]
 have hi:¬((n:Int)<l.length):=by omega
 have e0:l.take n=l:=ay (by omega);have h7:=hnc l;rw[e0];by_cases he:l=[]
 ·subst he;refine⟨0,?_⟩;simp[aox,Q1,append,hnx,hng]
 have h9:l.length≤aV:=by unfold aV;omega
 refine⟨1,?_⟩;simp[aox,Q1,hi,hnx,hng,append,he,if_pos h7,h9]
theorem Ya{α:Type}{enc:α→ap}[Nc enc 1 true](b:Bool)(l:List α)(n:Nat)(h0:n≠0)(hn:n≤1000)(σ:aw) :
  ∃ep,db code I.qar [.aa b (l.map enc),.int .i64 (n:Int)] σ=some (.sl σ.length ep 0 (l.take n).length,σ++[.arr 1 ep ((l.take n).map enc)]):=by
 rw[dq ajA rfl];have hnc:∀(k:List α),∀a∈k.map enc,aC a=1:=fun k a ha=>by
  obtain⟨y,_,rfl⟩:=bK.1 ha;exact Nc.nc y
 have hnx:∀x:α,aC (enc x)=1:=fun x=>Nc.nc x;have hng:¬((n:Int)<0):=by omega
 by_cases h:n<l.length
 ·have hi:((n:Int)<l.length):=by omega
  have h1:min n l.length=n:=by omega
  have h2:l.take n≠[]:=gD h h0;have h4:n≤l.length:=by omega
  have h7:=hnc l;have h8:=hnc (l.take n);have h9:n≤aV:=by unfold aV;omega
  have h10:l≠[]:=by intro e;simp[e]at h
  refine⟨1,?_⟩;simp only[dH]at h8;simp[aol,R4,hi,hnx,hng,append,h0,h1,h2,h4,h9,h10,if_pos h7,if_pos h8]
 have hi:¬((n:Int)<l.length):=by omega
 have e0:l.take n=l:=ay (by omega);have h7:=hnc l;rw[e0];by_cases he:l=[]
 ·subst he;refine⟨0,?_⟩;simp[aol,R4,append,hnx,hng]
 have h9:l.length≤aV:=by unfold aV;omega
 refine⟨1,?_⟩;simp[aol,R4,hi,hnx,hng,append,he,if_pos h7,h9]
theorem IA{α:Type}{enc:α→ap}[Nc enc 1 false][Fx enc](b:Bool)(l:List α)(n:Nat)(h0:n≠0)(hn:n≤1000) :
  bI I.qau [.aa b (l.map enc),.int .i64 (n:Int)]=some (.aa false ((l.take n).map enc)):=by
 rw[aQ akl rfl];have hnc:∀(k:List α),∀a∈k.map enc,aC a=1:=fun k a ha=>by
  obtain⟨y,_,rfl⟩:=bK.1 ha;exact Nc.nc y
 have hfx:∀(k:List α) fl top base σ m,∀a∈k.map enc,fz fl top base σ (m+3) a=a:=fun k fl top base σ m a ha=>by
  obtain⟨y,_,rfl⟩:=bK.1 ha;exact Fx.fx fl top base σ m y
 have hfr:=fun (k:List α) (σ:aw) (ep:Nat) (h:σ[0]?=some (.arr 1 ep (k.map enc)))=>kR (f:=enc) (m:=1) k 0 ep σ h;have hnx:∀x:α,aC (enc x)=1:=fun x=>Nc.nc x;have hng:¬((n:Int)<0):=by omega
 by_cases h:n<l.length
 ·have hi:((n:Int)<l.length):=by omega
  have h1:min n l.length=n:=by omega
  have h2:l.take n≠[]:=gD h h0;have h4:n≤l.length:=by omega
  have h7:=hnc l;have h8:=hnc (l.take n);have h9:n≤aV:=by unfold aV;omega
  have h10:l≠[]:=by intro e;simp[e]at h
  have h11:=hfr (l.take n) [.arr 1 1 ((l.take n).map enc)] 1 rfl;have h12:=hfx (l.take n);have h13:((l.take n).map enc).take n=(l.take n).map enc:=ay (by simp;omega);rw[show (l.take n).length=n by simp;omega]at h11;simp only[dH]at h8 h11 h12 h13;have h14:∀top base σ m,List.map (fz false top base σ (m+3)) (List.take n (List.map enc l))=List.take n (List.map enc l):=fun top base σ m=>by
   conv=>rhs;rw[←List.map_id (List.take n (List.map enc l))]
   exact aU fun a ha=>h12 false top base σ m a ha
  simp[aon,Rj,hi,hnx,hng,append,h0,h1,h2,h4,h9,h10,if_pos h7,if_pos h8,h11,h13,h14];exact fun a ha=>by rw[h12 _ _ _ _ 16 a ha]
 have hi:¬((n:Int)<l.length):=by omega
 have e0:l.take n=l:=ay (by omega);have h7:=hnc l;rw[e0];by_cases he:l=[]
 ·subst he;have h11:=hfr [] [.arr 1 0 []] 0 rfl;simp at h11;simp[aon,Rj,append,hnx,hng,h11]
 have h9:l.length≤aV:=by unfold aV;omega
 have h11:=hfr l [.arr 1 1 (l.map enc)] 1 rfl;simp[aon,Rj,hi,hnx,hng,append,he,if_pos h7,h9,h11];exact fun a ha=>by rw[hfx l _ _ _ _ 16 (enc a) (gb ha),hnx]
theorem ad3{α:Type}{enc:α→ap}[Nc enc 1 false][Fx enc](b:Bool)(l:List α)(n:Nat)(h0:n≠0)(hn:n≤1000) :
  bI I.qav [.aa b (l.map enc),.int .i64 (n:Int)]=some (.aa false ((l.take n).map enc)):=by
 rw[aQ aiY rfl];have hnc:∀(k:List α),∀a∈k.map enc,aC a=1:=fun k a ha=>by
  obtain⟨y,_,rfl⟩:=bK.1 ha;exact Nc.nc y
 have hfx:∀(k:List α) fl top base σ m,∀a∈k.map enc,fz fl top base σ (m+3) a=a:=fun k fl top base σ m a ha=>by
  obtain⟨y,_,rfl⟩:=bK.1 ha;exact Fx.fx fl top base σ m y
 have hfr:=fun (k:List α) (σ:aw) (ep:Nat) (h:σ[0]?=some (.arr 1 ep (k.map enc)))=>kR (f:=enc) (m:=1) k 0 ep σ h;have hnx:∀x:α,aC (enc x)=1:=fun x=>Nc.nc x;have hng:¬((n:Int)<0):=by omega
 by_cases h:n<l.length
 ·have hi:((n:Int)<l.length):=by omega
  have h1:min n l.length=n:=by omega
  have h2:l.take n≠[]:=gD h h0;have h4:n≤l.length:=by omega
  have h7:=hnc l;have h8:=hnc (l.take n);have h9:n≤aV:=by unfold aV;omega
  have h10:l≠[]:=by intro e;simp[e]at h
  have h11:=hfr (l.take n) [.arr 1 1 ((l.take n).map enc)] 1 rfl;have h12:=hfx (l.take n);have h13:((l.take n).map enc).take n=(l.take n).map enc:=ay (by simp;omega);rw[show (l.take n).length=n by simp;omega]at h11;simp only[dH]at h8 h11 h12 h13;have h14:∀top base σ m,List.map (fz false top base σ (m+3)) (List.take n (List.map enc l))=List.take n (List.map enc l):=fun top base σ m=>by
   conv=>rhs;rw[←List.map_id (List.take n (List.map enc l))]
   exact aU fun a ha=>h12 false top base σ m a ha
  simp[aot,Qn,hi,hnx,hng,append,h0,h1,h2,h4,h9,h10,if_pos h7,if_pos h8,h11,h13,h14];exact fun a ha=>by rw[h12 _ _ _ _ 16 a ha]
 have hi:¬((n:Int)<l.length):=by omega
 have e0:l.take n=l:=ay (by omega);have h7:=hnc l;rw[e0];by_cases he:l=[]
 ·subst he;have h11:=hfr [] [.arr 1 0 []] 0 rfl;simp at h11;simp[aot,Qn,append,hnx,hng,h11]
 have h9:l.length≤aV:=by unfold aV;omega
 have h11:=hfr l [.arr 1 1 (l.map enc)] 1 rfl;simp[aot,Qn,hi,hnx,hng,append,he,if_pos h7,h9,h11];exact fun a ha=>by rw[hfx l _ _ _ _ 16 (enc a) (gb ha),hnx]
theorem YA{α:Type}{enc:α→ap}[Nc enc 2 true][Fx enc](b:Bool)(l:List α)(n:Nat)(h0:n≠0)(hn:n≤1000) :
  bI I.qas [.aa b (l.map enc),.int .i64 (n:Int)]=some (.aa false ((l.take n).map enc)):=by
 rw[aQ agI rfl];have hnc:∀(k:List α),∀a∈k.map enc,aC a=2:=fun k a ha=>by
  obtain⟨y,_,rfl⟩:=bK.1 ha;exact Nc.nc y
 have hfx:∀(k:List α) fl top base σ m,∀a∈k.map enc,fz fl top base σ (m+3) a=a:=fun k fl top base σ m a ha=>by
  obtain⟨y,_,rfl⟩:=bK.1 ha;exact Fx.fx fl top base σ m y
 have hfr:=fun (k:List α) (σ:aw) (ep:Nat) (h:σ[0]?=some (.arr 2 ep (k.map enc)))=>kR (f:=enc) (m:=2) k 0 ep σ h;have hnx:∀x:α,aC (enc x)=2:=fun x=>Nc.nc x;have hng:¬((n:Int)<0):=by omega
 by_cases h:n<l.length
 ·have hi:((n:Int)<l.length):=by omega
  have h1:min n l.length=n:=by omega
  have h2:l.take n≠[]:=gD h h0;have h4:n≤l.length:=by omega
  have h7:=hnc l;have h8:=hnc (l.take n);have h9:n≤aV:=by unfold aV;omega
  have h10:l≠[]:=by intro e;simp[e]at h
  have h11:=hfr (l.take n) [.arr 2 1 ((l.take n).map enc)] 1 rfl;have h12:=hfx (l.take n);have h13:((l.take n).map enc).take n=(l.take n).map enc:=ay (by simp;omega);rw[show (l.take n).length=n by simp;omega]at h11;simp only[dH]at h8 h11 h12 h13;have h14:∀top base σ m,List.map (fz false top base σ (m+3)) (List.take n (List.map enc l))=List.take n (List.map enc l):=fun top base σ m=>by
   conv=>rhs;rw[←List.map_id (List.take n (List.map enc l))]
   exact aU fun a ha=>h12 false top base σ m a ha
  simp[aok,QU,hi,hnx,hng,append,h0,h1,h2,h4,h9,h10,if_pos h7,if_pos h8,h11,h13,h14];exact fun a ha=>by rw[h12 _ _ _ _ 16 a ha]
 have hi:¬((n:Int)<l.length):=by omega
 have e0:l.take n=l:=ay (by omega);have h7:=hnc l;rw[e0];by_cases he:l=[]
 ·subst he;have h11:=hfr [] [.arr 2 0 []] 0 rfl;simp at h11;simp[aok,QU,append,hnx,hng,h11]
 have h9:l.length≤aV:=by unfold aV;omega
 have h11:=hfr l [.arr 2 1 (l.map enc)] 1 rfl;simp[aok,QU,hi,hnx,hng,append,he,if_pos h7,h9,h11];exact fun a ha=>by rw[hfx l _ _ _ _ 16 (enc a) (gb ha),hnx]
theorem acD{α:Type}{enc:α→ap}[Nc enc 2 true][Fx enc](b:Bool)(l:List α)(n:Nat)(h0:n≠0)(hn:n≤1000) :
  bI I.qap [.aa b (l.map enc),.int .i64 (n:Int)]=some (.aa false ((l.take n).map enc)):=by
 rw[aQ ajQ rfl];have hnc:∀(k:List α),∀a∈k.map enc,aC a=2:=fun k a ha=>by
  obtain⟨y,_,rfl⟩:=bK.1 ha;exact Nc.nc y
 have hfx:∀(k:List α) fl top base σ m,∀a∈k.map enc,fz fl top base σ (m+3) a=a:=fun k fl top base σ m a ha=>by
  obtain⟨y,_,rfl⟩:=bK.1 ha;exact Fx.fx fl top base σ m y
 have hfr:=fun (k:List α) (σ:aw) (ep:Nat) (h:σ[0]?=some (.arr 2 ep (k.map enc)))=>kR (f:=enc) (m:=2) k 0 ep σ h;have hnx:∀x:α,aC (enc x)=2:=fun x=>Nc.nc x;have hng:¬((n:Int)<0):=by omega
 by_cases h:n<l.length
 ·have hi:((n:Int)<l.length):=by omega
  have h1:min n l.length=n:=by omega
  have h2:l.take n≠[]:=gD h h0;have h4:n≤l.length:=by omega
  have h7:=hnc l;have h8:=hnc (l.take n);have h9:n≤aV:=by unfold aV;omega
  have h10:l≠[]:=by intro e;simp[e]at h
  have h11:=hfr (l.take n) [.arr 2 1 ((l.take n).map enc)] 1 rfl;have h12:=hfx (l.take n);have h13:((l.take n).map enc).take n=(l.take n).map enc:=ay (by simp;omega);rw[show (l.take n).length=n by simp;omega]at h11;simp only[dH]at h8 h11 h12 h13;have h14:∀top base σ m,List.map (fz false top base σ (m+3)) (List.take n (List.map enc l))=List.take n (List.map enc l):=fun top base σ m=>by
   conv=>rhs;rw[←List.map_id (List.take n (List.map enc l))]
   exact aU fun a ha=>h12 false top base σ m a ha
  simp[aos,P4,hi,hnx,hng,append,h0,h1,h2,h4,h9,h10,if_pos h7,if_pos h8,h11,h13,h14];exact fun a ha=>by rw[h12 _ _ _ _ 16 a ha]
 have hi:¬((n:Int)<l.length):=by omega
 have e0:l.take n=l:=ay (by omega);have h7:=hnc l;rw[e0];by_cases he:l=[]
 ·subst he;have h11:=hfr [] [.arr 2 0 []] 0 rfl;simp at h11;simp[aos,P4,append,hnx,hng,h11]
 have h9:l.length≤aV:=by unfold aV;omega
 have h11:=hfr l [.arr 2 1 (l.map enc)] 1 rfl;simp[aos,P4,hi,hnx,hng,append,he,if_pos h7,h9,h11];exact fun a ha=>by rw[hfx l _ _ _ _ 16 (enc a) (gb ha),hnx]
theorem TI{α:Type}{enc:α→ap}[Nc enc 8 true][Fx enc](b:Bool)(l:List α)(n:Nat)(h0:n≠0)(hn:n≤1000) :
  bI I.qaq [.aa b (l.map enc),.int .i64 (n:Int)]=some (.frs 8 ((l.take n).map enc)):=by
 rw[aQ afD rfl];have hnc:∀(k:List α),∀a∈k.map enc,aC a=8:=fun k a ha=>by
  obtain⟨y,_,rfl⟩:=bK.1 ha;exact Nc.nc y
 have hfx:∀(k:List α) fl top base σ m,∀a∈k.map enc,fz fl top base σ (m+3) a=a:=fun k fl top base σ m a ha=>by
  obtain⟨y,_,rfl⟩:=bK.1 ha;exact Fx.fx fl top base σ m y
 have hfr:=fun (k:List α) (σ:aw) (ep:Nat) (h:σ[0]?=some (.arr 8 ep (k.map enc)))=>kR (f:=enc) (m:=8) k 0 ep σ h;have hnx:∀x:α,aC (enc x)=8:=fun x=>Nc.nc x;have hng:¬((n:Int)<0):=by omega
 by_cases h:n<l.length
 ·have hi:((n:Int)<l.length):=by omega
  have h1:min n l.length=n:=by omega
  have h2:l.take n≠[]:=gD h h0;have h4:n≤l.length:=by omega
  have h7:=hnc l;have h8:=hnc (l.take n);have h9:n≤aV:=by unfold aV;omega
  have h10:l≠[]:=by intro e;simp[e]at h
  have h11:=hfr (l.take n) [.arr 8 1 ((l.take n).map enc)] 1 rfl;have h12:=hfx (l.take n);have h13:((l.take n).map enc).take n=(l.take n).map enc:=ay (by simp;omega);rw[show (l.take n).length=n by simp;omega]at h11;simp only[dH]at h8 h11 h12 h13;have h14:∀top base σ m,List.map (fz false top base σ (m+3)) (List.take n (List.map enc l))=List.take n (List.map enc l):=fun top base σ m=>by
   conv=>rhs;rw[←List.map_id (List.take n (List.map enc l))]
   exact aU fun a ha=>h12 false top base σ m a ha
  simp[aoq,Ra,hi,hnx,hng,append,h0,h1,h2,h4,h9,h10,if_pos h7,if_pos h8,h11,h13,h14]
 have hi:¬((n:Int)<l.length):=by omega
 have e0:l.take n=l:=ay (by omega);have h7:=hnc l;rw[e0];by_cases he:l=[]
 ·subst he;have h11:=hfr [] [.arr 8 0 []] 0 rfl;simp at h11;simp[aoq,Ra,append,hnx,hng,h11]
 have h9:l.length≤aV:=by unfold aV;omega
 have h11:=hfr l [.arr 8 1 (l.map enc)] 1 rfl;simp[aoq,Ra,hi,hnx,hng,append,he,if_pos h7,h9,h11]
end Go.AM
namespace Go.AM
open P
set_option maxHeartbeats 8000000
set_option maxRecDepth 8000
attribute [local simp] aF br
def ajb(v:nQ):nQ:={ v with s:=v.s.take 41 }
def wz{α:Type}(f:α→α)(l:List α)(i:Nat):List α:=(l.take i).map f++l.drop i
section
variable {α:Type} (f:α→α)
theorem tR(l:List α):wz f l 0=l:=by simp[wz]
theorem xh(l:List α):wz f l l.length=l.map f:=by simp[wz]
@[simp] theorem yZ(l:List α)(i:Nat):(wz f l i).length=l.length:=by simp[wz];omega
theorem xg{l:List α}{i:Nat}{y:α}(enc:α→ap)(h:l[i]?=some y):((wz f l i).map enc)[i]?=some (enc y):=by
 obtain⟨hl,hy⟩:=ak.1 h;unfold wz;rw[bR,bY (by simp;omega)];simp[show i-min i l.length=0 by omega,hl,hy]
theorem xE{l:List α}{i:Nat}{y:α}(enc:α→ap)(h:l[i]?=some y):((wz f l i).map enc).set i (enc (f y))=(wz f l (i+1)).map enc:=by
 obtain⟨hl,hy⟩:=ak.1 h;have e1:l.drop i=y::l.drop (i+1):=by rw[←hy];exact kJ hl
 have e2:l.take (i+1)=l.take i++[y]:=by rw[←hy];exact cV hl
 unfold wz;rw[e1,e2];simp only[bR,cH,cE];rw[List.set_append_right _ _ (by simp;omega)];simp[show i-min i l.length=0 by omega]
end
def GR(e:EN):EN:={ e with v:=ajb e.v }
def lA(l:List EN):List EN:=(l.take 120).map GR
theorem OO(e0:ap)(A B:Obj)(R:List EN)(hn:R.length≤aV) :
  cc code 4 [4,5,8] xi ⟨[e0,.ptr 0 0 0 0,.ptr 1 0 0 0,.ptr 3 0 0 0,.any,.any,.int .i64 R.length,.int .i64 0,.any],[A,B,.arr 8 0 (R.map EN.a),.arr 1 0 [.agg [.sl 2 0 0 R.length]]]⟩ =
   some (.ext 0,⟨[e0,.ptr 0 0 0 0,.ptr 1 0 0 0,.ptr 3 0 0 0,.any,.any,.int .i64 R.length,.int .i64 R.length,.bool false],[A,B,.arr 8 0 ((R.map GR).map EN.a),.arr 1 0 [.agg [.sl 2 0 0 R.length]]]⟩):=by
 have h:=eh (base:=4) (clr:=[4,5,8]) (b:=xi) R (fun i (_:Unit)=>⟨[e0,.ptr 0 0 0 0,.ptr 1 0 0 0,.ptr 3 0 0 0,.any,.any,.int .i64 R.length,.int .i64 i,.any],[A,B,.arr 8 0 ((wz GR R i).map EN.a),.arr 1 0 [.agg [.sl 2 0 0 R.length]]]⟩)
  (fun _ _=>True) (fun _ _=>()) (fun _=>(.ext 0,⟨[e0,.ptr 0 0 0 0,.ptr 1 0 0 0,.ptr 3 0 0 0,.any,.any,.int .i64 R.length,.int .i64 R.length,.bool false],[A,B,.arr 8 0 ((R.map GR).map EN.a),.arr 1 0 [.agg [.sl 2 0 0 R.length]]]⟩))
  (fun i y _ hi hy _=>by
   have aj:((i:Int)<(R.length:Int)):=by omega
   have h1:=xg GR EN.a hy;have h2:=xE GR EN.a hy;rw[←h2];obtain⟨hlm,h1⟩:=ak.1 h1;have hlm':i<R.length:=hi;obtain⟨t,l,r,c,⟨k,n,u,s⟩⟩:=y;generalize (wz GR R i).map EN.a=M at *;simp only[EN.a,GR,ajb]at h1 ⊢;refine⟨?_,trivial⟩;by_cases hs:41<s.length
   ·have is:((41:Int)<(s.length:Int)):=by omega
    have is':(41:Nat)≤s.length:=by omega
    simp[xi,aj,h1,hlm,hlm',is,is',bJ hi hn,aT]
   have is:¬((41:Int)<(s.length:Int)):=by omega
   have e3:s.take 41=s:=ay (by omega);simp[xi,aj,h1,hlm,hlm',is,e3,bJ hi hn,aT])
  (fun _ _=>by simp[xi,xh]) () trivial
 have h:=h.1;rw[tR]at h;simpa using h
theorem rA(b:Bool)(l:List EN):bI I.qba [.agg [.aa b (l.map EN.a)]]=some (.agg [.aa false ((lA l).map EN.a)]):=by
 rw[aQ ait rfl];have hc:=TI (enc:=EN.a) b l 120 (by decide) (by decide);have hn:(l.take 120).length≤aV:=by simp;unfold aV;omega
 unfold lA;generalize l.take 120=R at hc hn ⊢;have hl:=fun A B e0=>OO e0 A B R hn;have hlen:(R.map GR).length=R.length:=by simp
 generalize R.map GR=R' at hl hlen ⊢;have htk:List.take R.length (R'.map EN.a)=R'.map EN.a:=by rw[←hlen];exact ma R' EN.a
 simp at hc hl;simp[apq,aa6,hc,hl,hlen,htk]
end Go.AM
namespace Go.AM
open P
set_option maxHeartbeats 16000000
set_option maxRecDepth 8000
attribute [local simp] aF br
def GD(g:ew):ew:=⟨g.tag,false,lA g.arg⟩
def GN(e:kh):kh:=⟨false,lA e.l⟩
structure JI where
 left:Bool
 b:Bool
 on:List EN
def JI.a(j:JI):ap:=.agg [.bool j.left,.aa j.b (j.on.map EN.a)]
instance:Nc JI.a 2 true:=⟨fun _=>rfl,fun _=>rfl⟩
instance:Ft JI.a:=⟨fun fl top base σ n y h=>by cases fl<;>cases top<;>simp_all[JI.a]⟩
def jO(j:JI):JI:=⟨j.left,false,lA j.on⟩
structure sG where
 bt:Bool
 tables:List Int
 bj:Bool
 joins:List JI
 bw:Bool
 whr:List EN
 bh:Bool
 having:List EN
 grouped:Bool
 distinct:Bool
 bk:Bool
 keys:List Int
 bg:Bool
 ah:List ew
 bi:Bool
 items:List kh
def sG.a(s:sG):ap:=.agg [.aa s.bt (s.tables.map (.int .i64)),.aa s.bj (s.joins.map JI.a),.aa s.bw (s.whr.map EN.a),.aa s.bh (s.having.map EN.a),.bool s.grouped,.bool s.distinct,.aa s.bk (s.keys.map (.int .i64)),.aa s.bg (s.ah.map ew.a),.aa s.bi (s.items.map kh.a)]
instance:Nc sG.a 9 true:=⟨fun _=>rfl,fun _=>rfl⟩
instance:Ft sG.a:=⟨fun fl top base σ n y h=>by cases fl<;>cases top<;>simp_all[sG.a]⟩
def vK(s:sG):jJ:=⟨s.tables.take 5,(s.joins.take 5).map fun j=>⟨j.left,lA j.on⟩,lA s.whr,lA s.having,s.grouped,s.distinct,s.keys.take 5,(s.ah.take 14).map GD,(s.items.take 17).map GN⟩
theorem VM(l:List JI):(l.map fun j=>(⟨j.left,lA j.on⟩:JX)).map JX.a=(l.map jO).map JI.a:=by
 rw[bD,bD];exact aU fun j _=>by simp[JX.a,JI.a,jO]
theorem Ui(l:List ew):(l.map GD).map nE=(l.map GD).map ew.a:=by
 rw[bD,bD];exact aU fun j _=>by simp[nE,ew.a,GD]
theorem Uv(l:List kh):(l.map GN).map nv=(l.map GN).map kh.a:=by
 rw[bD,bD];exact aU fun j _=>by simp[nv,kh.a,GN]
abbrev zS:ap:=.agg [.ai,.ai,.ai,.ai,.bool false,.bool false,.ai,.ai,.ai]
abbrev Xe(s:sG)(e2 m2 e3 m3 e4 m4:Nat):Obj:=.arr 9 0 [.agg [.aa false ((s.tables.take 5).map (.int .i64)),.sl 2 e2 0 m2,.aa s.bw (s.whr.map EN.a),.aa s.bh (s.having.map EN.a),.bool s.grouped,.bool s.distinct,.aa false ((s.keys.take 5).map (.int .i64)),.sl 3 e3 0 m3,.sl 4 e4 0 m4]]
abbrev xG(s:sG)(e2 e3 e4:Nat)(J:List JI)(G:List ew)(I:List kh):aw:=[Xe s e2 J.length e3 G.length e4 I.length,.arr 9 0 [zS],.arr 2 e2 (J.map JI.a),.arr 2 e3 (G.map ew.a),.arr 1 e4 (I.map kh.a)]
theorem Tq(s:sG)(e2 e3 e4:Nat)(J:List JI)(G:List ew)(I:List kh)(hn:J.length≤aV) :
  cc code 5 [3,4,12] zx ⟨[s.a,.ptr 0 0 0 0,.ptr 1 0 0 0,.any,.any,.any,.any,.any,.any,.sl 2 e2 0 J.length,.int .i64 J.length,.int .i64 0,.any,.any,.any,.any,.any,.any,.any,.any,.any],xG s e2 e3 e4 J G I⟩=some (.ext 0,⟨[s.a,.ptr 0 0 0 0,.ptr 1 0 0 0,.any,.any,.any,.any,.any,.any,.sl 2 e2 0 J.length,.int .i64 J.length,.int .i64 J.length,.bool false,.any,.any,.any,.any,.any,.any,.any,.any],xG s e2 e3 e4 (J.map jO) G I⟩):=by
 have hk:=eh (base:=5) (clr:=[3,4,12]) (b:=zx) J (fun i (_:Unit)=>⟨[s.a,.ptr 0 0 0 0,.ptr 1 0 0 0,.any,.any,.any,.any,.any,.any,.sl 2 e2 0 J.length,.int .i64 J.length,.int .i64 i,.any,.any,.any,.any,.any,.any,.any,.any,.any],xG s e2 e3 e4 (wz jO J i) G I⟩)
  (fun _ _=>True) (fun _ _=>()) (fun _=>(.ext 0,⟨[s.a,.ptr 0 0 0 0,.ptr 1 0 0 0,.any,.any,.any,.any,.any,.any,.sl 2 e2 0 J.length,.int .i64 J.length,.int .i64 J.length,.bool false,.any,.any,.any,.any,.any,.any,.any,.any],xG s e2 e3 e4 (J.map jO) G I⟩))
  (fun i y _ hi hy _=>by
   have aj:((i:Int)<(J.length:Int)):=by omega
   have h1:=xg jO JI.a hy;have h2:=xE jO JI.a hy;obtain⟨hlm,h1⟩:=ak.1 h1;have hfa:∀base σ m,fz false true base σ (m+3) s.a=s.a:=fun base σ m=>Ft.ft false true base σ m s rfl;have hs:=rA y.b y.on;refine⟨?_,trivial⟩;have hlm':i<J.length:=hi;have hset:∀x,List.map (bG 5 x) (List.map JI.a (wz jO J (i+1)))=List.map JI.a (wz jO J (i+1)):=fun x=>by simp
   simp only[xG,Xe,yZ];rw[←h2]at hset;rw[←h2];obtain⟨lf,bb,arg⟩:=y;generalize (wz jO J i).map JI.a=M at *;simp only[JI.a,jO]at h1 hset hs ⊢;simp[zx,aj,h1,hlm,hlm',hs,bJ hi hn,aT,aW,hset,hfa])
  (fun _ _=>by simp[zx,xh]) () trivial
 have hk:=hk.1;rw[tR]at hk;simpa using hk
theorem VG(s:sG)(e2 e3 e4:Nat)(J:List JI)(G:List ew)(I:List kh)(hn:G.length≤aV) :
  cc code 5 [5,6,16] zl ⟨[s.a,.ptr 0 0 0 0,.ptr 1 0 0 0,.any,.any,.any,.any,.any,.any,.sl 2 e2 0 J.length,.int .i64 J.length,.int .i64 J.length,.bool false,.sl 3 e3 0 G.length,.int .i64 G.length,.int .i64 0,.any,.any,.any,.any,.any],xG s e2 e3 e4 J G I⟩=some (.ext 2,⟨[s.a,.ptr 0 0 0 0,.ptr 1 0 0 0,.any,.any,.any,.any,.any,.any,.sl 2 e2 0 J.length,.int .i64 J.length,.int .i64 J.length,.bool false,.sl 3 e3 0 G.length,.int .i64 G.length,.int .i64 G.length,.bool false,.any,.any,.any,.any],xG s e2 e3 e4 J (G.map GD) I⟩):=by
 have hk:=eh (base:=5) (clr:=[5,6,16]) (b:=zl) G (fun i (_:Unit)=>⟨[s.a,.ptr 0 0 0 0,.ptr 1 0 0 0,.any,.any,.any,.any,.any,.any,.sl 2 e2 0 J.length,.int .i64 J.length,.int .i64 J.length,.bool false,.sl 3 e3 0 G.length,.int .i64 G.length,.int .i64 i,.any,.any,.any,.any,.any],xG s e2 e3 e4 J (wz GD G i) I⟩)
  (fun _ _=>True) (fun _ _=>()) (fun _=>(.ext 2,⟨[s.a,.ptr 0 0 0 0,.ptr 1 0 0 0,.any,.any,.any,.any,.any,.any,.sl 2 e2 0 J.length,.int .i64 J.length,.int .i64 J.length,.bool false,.sl 3 e3 0 G.length,.int .i64 G.length,.int .i64 G.length,.bool false,.any,.any,.any,.any],xG s e2 e3 e4 J (G.map GD) I⟩))
  (fun i y _ hi hy _=>by
   have aj:((i:Int)<(G.length:Int)):=by omega
   have h1:=xg GD ew.a hy;have h2:=xE GD ew.a hy;obtain⟨hlm,h1⟩:=ak.1 h1;have hfa:∀base σ m,fz false true base σ (m+3) s.a=s.a:=fun base σ m=>Ft.ft false true base σ m s rfl;have hs:=rA y.b y.arg;refine⟨?_,trivial⟩;have hlm':i<G.length:=hi;have hset:∀x,List.map (bG 5 x) (List.map ew.a (wz GD G (i+1)))=List.map ew.a (wz GD G (i+1)):=fun x=>by simp
   simp only[xG,Xe,yZ];rw[←h2]at hset;rw[←h2];obtain⟨t,bb,arg⟩:=y;generalize (wz GD G i).map ew.a=M at *;simp only[ew.a,GD]at h1 hset hs ⊢;simp[zl,aj,h1,hlm,hlm',hs,bJ hi hn,aT,aW,hset,hfa])
  (fun _ _=>by simp[zl,xh]) () trivial
 have hk:=hk.1;rw[tR]at hk;simpa using hk
theorem SN(s:sG)(e2 e3 e4:Nat)(J:List JI)(G:List ew)(I:List kh)(hn:I.length≤aV) :
  cc code 5 [7,8,20] zk ⟨[s.a,.ptr 0 0 0 0,.ptr 1 0 0 0,.any,.any,.any,.any,.any,.any,.sl 2 e2 0 J.length,.int .i64 J.length,.int .i64 J.length,.bool false,.sl 3 e3 0 G.length,.int .i64 G.length,.int .i64 G.length,.bool false,.sl 4 e4 0 I.length,.int .i64 I.length,.int .i64 0,.any],xG s e2 e3 e4 J G I⟩=some (.ext 4,⟨[s.a,.ptr 0 0 0 0,.ptr 1 0 0 0,.any,.any,.any,.any,.any,.any,.sl 2 e2 0 J.length,.int .i64 J.length,.int .i64 J.length,.bool false,.sl 3 e3 0 G.length,.int .i64 G.length,.int .i64 G.length,.bool false,.sl 4 e4 0 I.length,.int .i64 I.length,.int .i64 I.length,.bool false],xG s e2 e3 e4 J G (I.map GN)⟩):=by
 have hk:=eh (base:=5) (clr:=[7,8,20]) (b:=zk) I (fun i (_:Unit)=>⟨[s.a,.ptr 0 0 0 0,.ptr 1 0 0 0,.any,.any,.any,.any,.any,.any,.sl 2 e2 0 J.length,.int .i64 J.length,.int .i64 J.length,.bool false,.sl 3 e3 0 G.length,.int .i64 G.length,.int .i64 G.length,.bool false,.sl 4 e4 0 I.length,.int .i64 I.length,.int .i64 i,.any],xG s e2 e3 e4 J G (wz GN I i)⟩)
  (fun _ _=>True) (fun _ _=>()) (fun _=>(.ext 4,⟨[s.a,.ptr 0 0 0 0,.ptr 1 0 0 0,.any,.any,.any,.any,.any,.any,.sl 2 e2 0 J.length,.int .i64 J.length,.int .i64 J.length,.bool false,.sl 3 e3 0 G.length,.int .i64 G.length,.int .i64 G.length,.bool false,.sl 4 e4 0 I.length,.int .i64 I.length,.int .i64 I.length,.bool false],xG s e2 e3 e4 J G (I.map GN)⟩))
  (fun i y _ hi hy _=>by
   have aj:((i:Int)<(I.length:Int)):=by omega
   have h1:=xg GN kh.a hy;have h2:=xE GN kh.a hy;obtain⟨hlm,h1⟩:=ak.1 h1;have hfa:∀base σ m,fz false true base σ (m+3) s.a=s.a:=fun base σ m=>Ft.ft false true base σ m s rfl;have hs:=rA y.b y.l;refine⟨?_,trivial⟩;have hlm':i<I.length:=hi;have hset:∀x,List.map (bG 5 x) (List.map kh.a (wz GN I (i+1)))=List.map kh.a (wz GN I (i+1)):=fun x=>by simp
   simp only[xG,Xe,yZ];rw[←h2]at hset;rw[←h2];obtain⟨bb,arg⟩:=y;generalize (wz GN I i).map kh.a=M at *;simp only[kh.a,GN]at h1 hset hs ⊢;simp[zk,aj,h1,hlm,hlm',hs,bJ hi hn,aT,aW,hset,hfa])
  (fun _ _=>by simp[zk,xh]) () trivial
 have hk:=hk.1;rw[tR]at hk;simpa using hk
end Go.AM
namespace Go.AM
open P
set_option maxHeartbeats 16000000
set_option maxRecDepth 8000
attribute [local simp] aF br
theorem agj(l:List JI)(top:Bool)(base:Nat)(σ:aw)(m:Nat):List.map (fz false top base σ (m+3)) ((l.map jO).map JI.a)=(l.map jO).map JI.a:=by
 rw[bD,bD,bD];exact aU fun y _=>by simp[JI.a,jO]
theorem acq(l:List ew)(top:Bool)(base:Nat)(σ:aw)(m:Nat):List.map (fz false top base σ (m+3)) ((l.map GD).map ew.a)=(l.map GD).map ew.a:=by
 rw[bD,bD,bD];exact aU fun y _=>by simp[ew.a,GD]
theorem acY(l:List kh)(top:Bool)(base:Nat)(σ:aw)(m:Nat):List.map (fz false top base σ (m+3)) ((l.map GN).map kh.a)=(l.map GN).map kh.a:=by
 rw[bD,bD,bD];exact aU fun y _=>by simp[kh.a,GN]
theorem aiv(g:JI)(fl top:Bool)(base:Nat)(σ:aw)(m:Nat):aC (fz fl top base σ (m+1) (JI.a g))=aC (JI.a g):=by simp[JI.a]
theorem YC(g:ew)(fl top:Bool)(base:Nat)(σ:aw)(m:Nat):aC (fz fl top base σ (m+1) (ew.a g))=aC (ew.a g):=by simp[ew.a]
theorem adU(g:kh)(fl top:Bool)(base:Nat)(σ:aw)(m:Nat):aC (fz fl top base σ (m+1) (kh.a g))=aC (kh.a g):=by simp[kh.a]
theorem PO(s:sG):bI I.qaz [s.a]=some (vK s).a:=by
 have hck:=IA (enc:=.int .i64) s.bt s.tables 5 (by decide) (by decide);have hcy:=IA (enc:=.int .i64) s.bk s.keys 5 (by decide) (by decide);obtain⟨e2,hcj⟩:=Ue (enc:=JI.a) s.bj s.joins 5 (by decide) (by decide) [.arr 9 0 [s.a],.arr 9 0 [zS]];obtain⟨e3,hca⟩:=adk (enc:=ew.a) s.bg s.ah 14 (by decide) (by decide) [.arr 9 0 [s.a],.arr 9 0 [zS],.arr 2 e2 ((s.joins.take 5).map JI.a)];obtain⟨e4,hci⟩:=Ya (enc:=kh.a) s.bi s.items 17 (by decide) (by decide) [.arr 9 0 [s.a],.arr 9 0 [zS],.arr 2 e2 ((s.joins.take 5).map JI.a),.arr 2 e3 ((s.ah.take 14).map ew.a)];have hl1:=Tq s e2 e3 e4 (s.joins.take 5) (s.ah.take 14) (s.items.take 17) (by simp;unfold aV;omega);have hl2:=VG s e2 e3 e4 ((s.joins.take 5).map jO) (s.ah.take 14) (s.items.take 17) (by simp;unfold aV;omega);have hl3:=SN s e2 e3 e4 ((s.joins.take 5).map jO) ((s.ah.take 14).map GD) (s.items.take 17) (by simp;unfold aV;omega);have hs1:=rA s.bw s.whr;have hs2:=rA s.bh s.having;have hfj:=agj (s.joins.take 5);have hfa:=acq (s.ah.take 14);have hfi:=acY (s.items.take 17);have hlj:((s.joins.take 5).map jO).length=(s.joins.take 5).length:=by simp
 have hla:((s.ah.take 14).map GD).length=(s.ah.take 14).length:=by simp
 have hli:((s.items.take 17).map GN).length=(s.items.take 17).length:=by simp
 have hr:(vK s).a=.agg [.aa false ((s.tables.take 5).map (.int .i64)),.aa false (((s.joins.take 5).map jO).map JI.a),.aa false ((lA s.whr).map EN.a),.aa false ((lA s.having).map EN.a),.bool s.grouped,.bool s.distinct,.aa false ((s.keys.take 5).map (.int .i64)),.aa false (((s.ah.take 14).map GD).map ew.a),.aa false (((s.items.take 17).map GN).map kh.a)]:=by
  rw[←VM,←Ui,←Uv];rfl
 rw[hr];have hsa:s.a=.agg [.aa s.bt (s.tables.map (.int .i64)),.aa s.bj (s.joins.map JI.a),.aa s.bw (s.whr.map EN.a),.aa s.bh (s.having.map EN.a),.bool s.grouped,.bool s.distinct,.aa s.bk (s.keys.map (.int .i64)),.aa s.bg (s.ah.map ew.a),.aa s.bi (s.items.map kh.a)]:=rfl;rw[aQ ajz rfl];simp only[xG,Xe,aJ,hlj,hla,hli]at hl1 hl2 hl3;generalize (s.joins.take 5).map jO=J' at *;generalize (s.ah.take 14).map GD=G' at *;generalize (s.items.take 17).map GN=I' at *;have htJ:List.take (s.joins.take 5).length (J'.map JI.a)=J'.map JI.a:=by rw[←hlj];exact ma J' JI.a
 have htG:List.take (s.ah.take 14).length (G'.map ew.a)=G'.map ew.a:=by rw[←hla];exact ma G' ew.a
 have htI:List.take (s.items.take 17).length (I'.map kh.a)=I'.map kh.a:=by rw[←hli];exact ma I' kh.a
 simp only[hsa]at hcj hca hci hl1 hl2 hl3 ⊢;simp[-List.length_take]at hck hcy hcj hca hci;simp only[dH]at hl1 hl2 hl3;generalize (s.joins.take 5).length=nj at *;generalize (s.ah.take 14).length=ng at *;generalize (s.items.take 17).length=ni at *;simp[apf,ab9,hck,hcy,hcj,hca,hci,hl1,hl2,hl3,hs1,hs2,hfj,hfa,hfi,hlj,hla,hli,htJ,htG,htI,aiv,YC,adU,-List.length_take]
end Go.AM
namespace Go.AM
open P
set_option maxHeartbeats 16000000
set_option maxRecDepth 8000
attribute [local simp] aF br
structure zi where
 bs:Bool
 selects:List sG
 bn:Bool
 names:List (List UInt8)
 bk:Bool
 ac:List Int
 bo:Bool
 order:List (Int×Bool)
 limit:Int
def zi.a(b:zi):ap:=.agg [.aa b.bs (b.selects.map sG.a),.aa b.bn (b.names.map .str),.aa b.bk (b.ac.map (.int .i64)),.aa b.bo (b.order.map fU),.int .i64 b.limit]
instance:Nc zi.a 5 true:=⟨fun _=>rfl,fun _=>rfl⟩
instance:Ft zi.a:=⟨fun fl top base σ n y h=>by cases fl<;>cases top<;>simp_all[zi.a]⟩
def tU(s:sG):sG:=⟨false,s.tables.take 5,false,(s.joins.take 5).map jO,false,lA s.whr,false,lA s.having,s.grouped,s.distinct,false,s.keys.take 5,false,(s.ah.take 14).map GD,false,(s.items.take 17).map GN⟩
theorem NT(s:sG):(tU s).a=(vK s).a:=by
 have hr:(vK s).a=.agg [.aa false ((s.tables.take 5).map (.int .i64)),.aa false (((s.joins.take 5).map jO).map JI.a),.aa false ((lA s.whr).map EN.a),.aa false ((lA s.having).map EN.a),.bool s.grouped,.bool s.distinct,.aa false ((s.keys.take 5).map (.int .i64)),.aa false (((s.ah.take 14).map GD).map ew.a),.aa false (((s.items.take 17).map GN).map kh.a)]:=by
  rw[←VM,←Ui,←Uv];rfl
 rw[hr];rfl
def pQ(b:zi):xU:=⟨(b.selects.take 4).map vK,b.names.take 20,b.ac.take 20,b.order.take 5,b.limit⟩
abbrev zB:ap:=.agg [.ai,.ai,.ai,.ai,.int .i64 0]
abbrev S3(b:zi)(ep n:Nat)(M:List ap):aw:=[.arr 5 0 [.agg [.sl 2 ep 0 n,.aa false ((b.names.take 20).map .str),.aa false ((b.ac.take 20).map (.int .i64)),.aa false ((b.order.take 5).map fU),.int .i64 b.limit]],.arr 5 0 [zB],.arr 9 ep M]
theorem U3(b:zi)(ep:Nat)(L:List sG)(hn:L.length≤8000) :
  cc code 3 [3,4,8] zK ⟨[b.a,.ptr 0 0 0 0,.ptr 1 0 0 0,.any,.any,.sl 2 ep 0 L.length,.int .i64 L.length,.int .i64 0,.any],S3 b ep L.length (L.map sG.a)⟩ =
   some (.ext 0,⟨[b.a,.ptr 0 0 0 0,.ptr 1 0 0 0,.any,.any,.sl 2 ep 0 L.length,.int .i64 L.length,.int .i64 L.length,.bool false],S3 b ep L.length ((L.map tU).map sG.a)⟩):=by
 have hm:L.length≤aV:=by unfold aV;omega
 have hk:=eh (base:=3) (clr:=[3,4,8]) (b:=zK) L (fun i (_:Unit)=>⟨[b.a,.ptr 0 0 0 0,.ptr 1 0 0 0,.any,.any,.sl 2 ep 0 L.length,.int .i64 L.length,.int .i64 i,.any],S3 b ep L.length ((wz tU L i).map sG.a)⟩)
  (fun _ _=>True) (fun _ _=>()) (fun _=>(.ext 0,⟨[b.a,.ptr 0 0 0 0,.ptr 1 0 0 0,.any,.any,.sl 2 ep 0 L.length,.int .i64 L.length,.int .i64 L.length,.bool false],S3 b ep L.length ((L.map tU).map sG.a)⟩))
  (fun i y _ hi hy _=>by
   have aj:((i:Int)<(L.length:Int)):=by omega
   have h1:=xg tU sG.a hy;have h2:=xE tU sG.a hy;obtain⟨hlm,h1⟩:=ak.1 h1;have hfa:∀base σ m,fz false true base σ (m+3) b.a=b.a:=fun base σ m=>Ft.ft false true base σ m b rfl;have hfy:∀base σ m,fz true false base σ (m+3) y.a=y.a:=fun base σ m=>Ft.ft true false base σ m y rfl;have hs:=PO y;rw[←NT]at hs;refine⟨?_,trivial⟩;have hlm':i<L.length:=hi;have hset:∀x,List.map (bG 3 x) (List.map sG.a (wz tU L (i+1)))=List.map sG.a (wz tU L (i+1)):=fun x=>by simp
   have hnc:(List.map sG.a (wz tU L (i+1))).map aC=(List.map sG.a (wz tU L (i+1))).map aC:=rfl;rw[←h2]at hset;rw[←h2];have n3:aC y.a=9∧isAgg y.a=true:=⟨rfl,rfl⟩;obtain⟨sc,hsc,hsl⟩:∃sc,(tU y).a=.agg sc∧sc.length=9:=⟨_,rfl,rfl⟩;rw[hsc]at hs hset h2 ⊢;generalize (wz tU L i).map sG.a=M at *;simp only[S3];simp[zK,aj,h1,hlm,hlm',hs,hfy,n3,hsl,bJ hi hm,aT,aW,hset,hfa])
  (fun _ _=>by simp[zK,xh]) () trivial
 have hk:=hk.1;rw[tR]at hk;simpa using hk
theorem afm(b:zi):bI I.qaw [b.a]=some (pQ b).a:=by
 have hcs:=ad3 (enc:=.str) b.bn b.names 20 (by decide) (by decide);have hck:=IA (enc:=.int .i64) b.bk b.ac 20 (by decide) (by decide);have hco:=YA (enc:=fU) b.bo b.order 5 (by decide) (by decide);obtain⟨ep,hcb⟩:=Zt (enc:=sG.a) b.bs b.selects 4 (by decide) (by decide) [.arr 5 0 [b.a],.arr 5 0 [zB]];have hl:=U3 b ep (b.selects.take 4) (by simp;omega);have hr:(pQ b).a=.agg [.aa false (((b.selects.take 4).map tU).map sG.a),.aa false ((b.names.take 20).map .str),.aa false ((b.ac.take 20).map (.int .i64)),.aa false ((b.order.take 5).map fU),.int .i64 b.limit]:=by
  have:((b.selects.take 4).map tU).map sG.a=((b.selects.take 4).map vK).map jJ.a:=by
   rw[bD,bD];exact aU fun s _=>NT s
  rw[this];rfl
 have hba:b.a=.agg [.aa b.bs (b.selects.map sG.a),.aa b.bn (b.names.map .str),.aa b.bk (b.ac.map (.int .i64)),.aa b.bo (b.order.map fU),.int .i64 b.limit]:=rfl;have hfz:∀top base σ m,List.map (fz false top base σ (m+3)) (((b.selects.take 4).map tU).map sG.a)=((b.selects.take 4).map tU).map sG.a:=fun top base σ m=>by
  rw[bD,bD,bD];exact aU fun s _=>by
   show fz false top base σ (m+3) (tU s).a=(tU s).a;rw[NT];exact Fx.fx false top base σ m _
 have hnc:∀(g:sG) (fl top:Bool) (base:Nat) (σ:aw) (m:Nat),aC (fz fl top base σ (m+1) (sG.a g))=aC (sG.a g):=fun g fl top base σ m=>by simp[sG.a]
 have hls:((b.selects.take 4).map tU).length=(b.selects.take 4).length:=by simp
 rw[hr,aQ ajf rfl];simp only[S3,aJ]at hl;generalize (b.selects.take 4).map tU=L' at *;have htL:List.take (b.selects.take 4).length (L'.map sG.a)=L'.map sG.a:=by rw[←hls];exact ma L' sG.a
 simp only[hba]at hcb hl ⊢;simp[-List.length_take]at hcs hck hco hcb;simp only[dH]at hl;generalize (b.selects.take 4).length=nl at *;simp[apl,aat,hcs,hck,hco,hcb,hl,hfz,hls,htL,hnc,-List.length_take]
end Go.AM
namespace Go.AM
open P
set_option maxHeartbeats 16000000
set_option maxRecDepth 8000
attribute [local simp] aF br
structure gE where
 name:List UInt8
 bc:Bool
 af:List eJ
 bk:Bool
 keys:List Int
def gE.a(t:gE):ap:=.agg [.str t.name,.aa t.bc (t.af.map eJ.a),.aa t.bk (t.keys.map (.int .i64))]
instance:Nc gE.a 3 true:=⟨fun _=>rfl,fun _=>rfl⟩
instance:Ft gE.a:=⟨fun fl top base σ n y h=>by cases fl<;>cases top<;>simp_all[gE.a]⟩
def KS(t:gE):gE:=⟨t.name,false,t.af.take 5,false,t.keys.take 5⟩
def smF(t:gE):cM:=⟨t.name,t.af.take 5,t.keys.take 5⟩
theorem abg(t:gE):(KS t).a=(smF t).a:=rfl
def uY(c:List gE):List cM:=(c.take 5).map smF
abbrev R7(A:ap)(ep n:Nat)(M:List ap):aw:=[.arr 1 0 [A],.arr 1 0 [.agg [.ai]],.arr 3 ep M,.arr 1 0 [.agg [.sl 2 ep 0 n]]]
theorem Pb(bt:Bool)(c:List gE)(ep:Nat)(L:List gE)(hn:L.length≤8000) :
  cc code 4 [4,5,9] zL ⟨[.agg [.aa bt (c.map gE.a)],.ptr 0 0 0 0,.ptr 1 0 0 0,.ptr 3 0 0 0,.any,.any,.sl 2 ep 0 L.length,.int .i64 L.length,.int .i64 0,.any],R7 (.agg [.aa bt (c.map gE.a)]) ep L.length (L.map gE.a)⟩ =
   some (.ext 0,⟨[.agg [.aa bt (c.map gE.a)],.ptr 0 0 0 0,.ptr 1 0 0 0,.ptr 3 0 0 0,.any,.any,.sl 2 ep 0 L.length,.int .i64 L.length,.int .i64 L.length,.bool false],R7 (.agg [.aa bt (c.map gE.a)]) ep L.length ((L.map KS).map gE.a)⟩):=by
 have hm:L.length≤aV:=by unfold aV;omega
 have hk:=eh (base:=4) (clr:=[4,5,9]) (b:=zL) L (fun i (_:Unit)=>⟨[.agg [.aa bt (c.map gE.a)],.ptr 0 0 0 0,.ptr 1 0 0 0,.ptr 3 0 0 0,.any,.any,.sl 2 ep 0 L.length,.int .i64 L.length,.int .i64 i,.any],R7 (.agg [.aa bt (c.map gE.a)]) ep L.length ((wz KS L i).map gE.a)⟩)
  (fun _ _=>True) (fun _ _=>()) (fun _=>(.ext 0,⟨[.agg [.aa bt (c.map gE.a)],.ptr 0 0 0 0,.ptr 1 0 0 0,.ptr 3 0 0 0,.any,.any,.sl 2 ep 0 L.length,.int .i64 L.length,.int .i64 L.length,.bool false],R7 (.agg [.aa bt (c.map gE.a)]) ep L.length ((L.map KS).map gE.a)⟩))
  (fun i y _ hi hy _=>by
   have aj:((i:Int)<(L.length:Int)):=by omega
   have h1:=xg KS gE.a hy;have h2:=xE KS gE.a hy;obtain⟨hlm,h1⟩:=ak.1 h1;have hcc:=acD (enc:=eJ.a) y.bc y.af 5 (by decide) (by decide);have hck:=IA (enc:=.int .i64) y.bk y.keys 5 (by decide) (by decide);refine⟨?_,trivial⟩;have hlm':i<L.length:=hi;have hset:∀x,List.map (bG 4 x) (List.map gE.a (wz KS L (i+1)))=List.map gE.a (wz KS L (i+1)):=fun x=>by simp
   rw[←h2]at hset;rw[←h2];have hya:y.a=.agg [.str y.name,.aa y.bc (y.af.map eJ.a),.aa y.bk (y.keys.map (.int .i64))]:=rfl;have hso:(KS y).a=.agg [.str y.name,.aa false ((y.af.take 5).map eJ.a),.aa false ((y.keys.take 5).map (.int .i64))]:=rfl;rw[hso]at hset ⊢;rw[hya]at h1;generalize (wz KS L i).map gE.a=M at *;simp only[R7];simp at hcc hck hset;simp[zL,aj,h1,hlm,hlm',hcc,hck,bJ hi hm,aT,aW,hset])
  (fun _ _=>by simp[zL,xh]) () trivial
 have hk:=hk.1;rw[tR]at hk;simpa using hk
theorem Y4(bt:Bool)(c:List gE):bI I.qbb [.agg [.aa bt (c.map gE.a)]]=some (eZ (uY c)):=by
 obtain⟨ep,hcb⟩:=adr (enc:=gE.a) bt c 5 (by decide) (by decide) [.arr 1 0 [.agg [.aa bt (c.map gE.a)]],.arr 1 0 [.agg [.ai]]];have hl:=Pb bt c ep (c.take 5) (by simp;omega);have hr:eZ (uY c)=.agg [.aa false (((c.take 5).map KS).map gE.a)]:=by
  have:((c.take 5).map KS).map gE.a=((c.take 5).map smF).map cM.a:=by
   rw[bD,bD];exact aU fun s _=>abg s
  rw[this];rfl
 have hfz:∀top base σ m,List.map (fz false top base σ (m+3)) (((c.take 5).map KS).map gE.a)=((c.take 5).map KS).map gE.a:=fun top base σ m=>by
  rw[bD,bD,bD];exact aU fun s _=>by
   show fz false top base σ (m+3) (KS s).a=(KS s).a;rw[abg];exact Fx.fx false top base σ m _
 have hnc:∀(g:gE) (fl top:Bool) (base:Nat) (σ:aw) (m:Nat),aC (fz fl top base σ (m+1) (gE.a g))=aC (gE.a g):=fun g fl top base σ m=>by simp[gE.a]
 have hls:((c.take 5).map KS).length=(c.take 5).length:=by simp
 rw[hr,aQ agm rfl];simp only[R7,aJ]at hl;generalize (c.take 5).map KS=L' at *;have htL:List.take (c.take 5).length (L'.map gE.a)=L'.map gE.a:=by rw[←hls];exact ma L' gE.a
 simp[-List.length_take]at hcb;simp only[dH]at hl;generalize (c.take 5).length=nl at *;cases bt<;>simp[apT,aa1,hcb,hl,hfz,hls,htL,hnc,-List.length_take]
end Go.AM
namespace Go.AM
open P
set_option maxHeartbeats 16000000
set_option maxRecDepth 8000
attribute [local simp] aF br
abbrev sZ(s:jJ):ap:=.agg [.aa false (s.tables.map (.int .i64)),.aa false (s.joins.map JX.a),.aa false (s.whr.map EN.a),.aa false (s.having.map EN.a),.bool s.grouped,.bool s.distinct,.aa false (s.keys.map (.int .i64)),.aa false (s.ah.map nE),.aa false (s.items.map nv)]
theorem IG(s:jJ)(hs:xZ s):bI I.qcb [s.a,s.a]=some (.bool true):=by
 rw[aQ ako rfl];have hz:s.a=sZ s:=rfl;have i1:=wO false false s.tables s.tables hs.tl;have i2:=wO false false s.keys s.keys hs.keys;have s1:=rH false s.whr hs.whr;have s2:=rH false s.having hs.having;have s3:=Cv false s.items hs.items hs.exprs;have loop1:=da (base:=2) (clr:=[4,5,10,11]) (b:=DZ)
  (fun k=>⟨[sZ s,sZ s,.ptr 0 0 0 0,.ptr 1 0 0 0,.any,.any,.any,.bool false,.int .i64 s.joins.length,.int .i64 k,.any,.any,.any,.any,.any,.any],[.arr 9 0 [sZ s],.arr 9 0 [sZ s]]⟩) s.joins.length
  (.ext 0,⟨[sZ s,sZ s,.ptr 0 0 0 0,.ptr 1 0 0 0,.any,.any,.any,.bool false,.int .i64 s.joins.length,.int .i64 s.joins.length,.bool false,.any,.any,.any,.any,.any],[.arr 9 0 [sZ s],.arr 9 0 [sZ s]]⟩)
  (fun k hk=>by
   have hy:s.joins[k]?=some s.joins[k]:=aq hk;have hgg:∀h:k<s.joins.length,s.joins[k]'h=s.joins[k]'hk:=fun _=>rfl;have hsm:=rH false (s.joins[k]).on (hs.ons _ (aO hk));have hm:s.joins.length≤aV:=by have:=hs.jl;unfold aV;omega
   generalize s.joins[k]=g at *;have hga:g.a=.agg [.bool g.left,.aa false (g.on.map EN.a)]:=rfl;cases hgl:g.left<;>rw[hgl]at hga<;>simp[sZ,DZ,hk,hy,hgg,hga,hsm,bJ hk hm,aT])
  (by simp[DZ])
 have loop2:=da (base:=2) (clr:=[4,6,14,15]) (b:=DL)
  (fun k=>⟨[sZ s,sZ s,.ptr 0 0 0 0,.ptr 1 0 0 0,.any,.any,.any,.bool false,.int .i64 s.joins.length,.int .i64 s.joins.length,.bool false,.any,.int .i64 s.ah.length,.int .i64 k,.any,.any],[.arr 9 0 [sZ s],.arr 9 0 [sZ s]]⟩) s.ah.length
  (.ext 2,⟨[sZ s,sZ s,.ptr 0 0 0 0,.ptr 1 0 0 0,.any,.any,.any,.bool false,.int .i64 s.joins.length,.int .i64 s.joins.length,.bool false,.any,.int .i64 s.ah.length,.int .i64 s.ah.length,.bool false,.any],[.arr 9 0 [sZ s],.arr 9 0 [sZ s]]⟩)
  (fun k hk=>by
   have hy:s.ah[k]?=some s.ah[k]:=aq hk;have hgg:∀h:k<s.ah.length,s.ah[k]'h=s.ah[k]'hk:=fun _=>rfl;have hsm:=rH false (s.ah[k]).arg (hs.args _ (aO hk));have hm:s.ah.length≤aV:=by have:=hs.ah;unfold aV;omega
   generalize s.ah[k]=g at *;simp[sZ,DL,hk,hy,hgg,nE,hsm,bJ hk hm,aT])
  (by simp[DL])
 simp only[aJ]at loop1 loop2;rw[hz];simp at i1 i2;cases hg:s.grouped<;>cases hd:s.distinct<;>simp only[sZ,hg,hd]at loop1 loop2 ⊢<;>simp[apG,abw,i1,i2,s1,s2,s3,loop1,loop2]
abbrev bZ(b:xU):ap:=.agg [.aa false (b.selects.map jJ.a),.aa false (b.names.map .str),.aa false (b.ac.map (.int .i64)),.aa false (b.order.map fU),.int .i64 b.limit]
theorem WP(b:xU)(hb:GG b):bI I.qbz [b.a,b.a]=some (.bool true):=by
 rw[aQ aga rfl];have hz:b.a=bZ b:=rfl;have i1:=wO false false b.ac b.ac hb.kl;have loop1:=da (base:=2) (clr:=[4,5,11,12]) (b:=Du)
  (fun k=>⟨[bZ b,bZ b,.ptr 0 0 0 0,.ptr 1 0 0 0,.any,.any,.any,.any,.bool false,.int .i64 b.selects.length,.int .i64 k,.any,.any,.any,.any,.any,.any,.any,.any,.any,.any],[.arr 5 0 [bZ b],.arr 5 0 [bZ b]]⟩) b.selects.length
  (.ext 0,⟨[bZ b,bZ b,.ptr 0 0 0 0,.ptr 1 0 0 0,.any,.any,.any,.any,.bool false,.int .i64 b.selects.length,.int .i64 b.selects.length,.bool false,.any,.any,.any,.any,.any,.any,.any,.any,.any],[.arr 5 0 [bZ b],.arr 5 0 [bZ b]]⟩)
  (fun k hk=>by
   have hy:b.selects[k]?=some b.selects[k]:=aq hk;have hgg:∀h:k<b.selects.length,b.selects[k]'h=b.selects[k]'hk:=fun _=>rfl;have hsm:=IG b.selects[k] (hb.sel _ (aO hk));have hm:b.selects.length≤aV:=by have:=hb.sl;unfold aV;omega
   generalize b.selects[k]=g at *;have n3:aC g.a=9∧isAgg g.a=true:=⟨rfl,rfl⟩;have n1:∀fl top base σ m,fz fl top base σ (m+3) g.a=g.a:=fun fl top base σ m=>Fx.fx fl top base σ m g;simp[bZ,Du,hk,hy,hgg,n1,n3,hsm,bJ hk hm,aT])
  (by simp[Du])
 have loop2:=da (base:=2) (clr:=[4,6,15,16]) (b:=De)
  (fun k=>⟨[bZ b,bZ b,.ptr 0 0 0 0,.ptr 1 0 0 0,.any,.any,.any,.any,.bool false,.int .i64 b.selects.length,.int .i64 b.selects.length,.bool false,.any,.int .i64 b.names.length,.int .i64 k,.any,.any,.any,.any,.any,.any],[.arr 5 0 [bZ b],.arr 5 0 [bZ b]]⟩) b.names.length
  (.ext 2,⟨[bZ b,bZ b,.ptr 0 0 0 0,.ptr 1 0 0 0,.any,.any,.any,.any,.bool false,.int .i64 b.selects.length,.int .i64 b.selects.length,.bool false,.any,.int .i64 b.names.length,.int .i64 b.names.length,.bool false,.any,.any,.any,.any,.any],[.arr 5 0 [bZ b],.arr 5 0 [bZ b]]⟩)
  (fun k hk=>by
   have hy:b.names[k]?=some b.names[k]:=aq hk;have hgg:∀h:k<b.names.length,b.names[k]'h=b.names[k]'hk:=fun _=>rfl;have hm:b.names.length≤aV:=by have:=hb.nl;unfold aV;omega
   generalize b.names[k]=g at *;simp[bZ,De,hk,hy,hgg,ej,bJ hk hm,aT])
  (by simp[De])
 have loop3:=da (base:=2) (clr:=[4,7,19,20]) (b:=DX)
  (fun k=>⟨[bZ b,bZ b,.ptr 0 0 0 0,.ptr 1 0 0 0,.any,.any,.any,.any,.bool false,.int .i64 b.selects.length,.int .i64 b.selects.length,.bool false,.any,.int .i64 b.names.length,.int .i64 b.names.length,.bool false,.any,.int .i64 b.order.length,.int .i64 k,.any,.any],[.arr 5 0 [bZ b],.arr 5 0 [bZ b]]⟩) b.order.length
  (.ext 4,⟨[bZ b,bZ b,.ptr 0 0 0 0,.ptr 1 0 0 0,.any,.any,.any,.any,.bool false,.int .i64 b.selects.length,.int .i64 b.selects.length,.bool false,.any,.int .i64 b.names.length,.int .i64 b.names.length,.bool false,.any,.int .i64 b.order.length,.int .i64 b.order.length,.bool false,.any],[.arr 5 0 [bZ b],.arr 5 0 [bZ b]]⟩)
  (fun k hk=>by
   have hy:b.order[k]?=some b.order[k]:=aq hk;have hgg:∀h:k<b.order.length,b.order[k]'h=b.order[k]'hk:=fun _=>rfl;have hm:b.order.length≤aV:=by have:=hb.ol;unfold aV;omega
   generalize b.order[k]=g at *;obtain⟨gc,gd⟩:=g;simp[bZ,DX,hk,hy,hgg,fU,eqa,d7,tm,lE,neg,bJ hk hm,aT])
  (by simp[DX])
 simp only[aJ]at loop1 loop2 loop3;rw[hz];simp at i1;simp[ap2,abG,i1,loop1,loop2,loop3]
end Go.AM
namespace Go.AM
open P
set_option maxHeartbeats 8000000
set_option maxRecDepth 8000
theorem tX(l:List EN):(lA l).length≤wJ:=by
 unfold lA;have:120≤wJ:=by decide
 simp;omega
theorem acO(s:sG):xZ (vK s) where
 tl:=by simp[vK];omega
 jl:=by simp[vK];omega
 ons:=fun j hj=>by
  simp only[vK,bK]at hj;obtain⟨a,_,rfl⟩:=hj;exact tX _
 whr:=tX _
 having:=tX _
 keys:=by simp[vK];omega
 ah:=by simp[vK];omega
 items:=by simp[vK];omega
 args:=fun g hg=>by
  simp only[vK,bK]at hg;obtain⟨a,_,rfl⟩:=hg;exact tX _
 exprs:=fun g hg=>by
  simp only[vK,bK]at hg;obtain⟨a,_,rfl⟩:=hg;exact tX _
 agb:=fun g hg=>by
  simp only[vK,bK]at hg;obtain⟨a,_,rfl⟩:=hg;rfl
 exb:=fun g hg=>by
  simp only[vK,bK]at hg;obtain⟨a,_,rfl⟩:=hg;rfl
theorem acU(b:zi):GG (pQ b) where
 sel:=fun s hs=>by
  simp only[pQ,bK]at hs;obtain⟨a,_,rfl⟩:=hs;exact acO a
 sl:=by simp[pQ];omega
 nl:=by simp[pQ];omega
 kl:=by simp[pQ];omega
 ol:=by simp[pQ];omega
theorem Vg(c:List gE):(uY c).length≤8000∧∀t∈uY c,Gn t:=by
 refine⟨by simp[uY];omega,fun t ht=>?_⟩;simp only[uY,bK]at ht;obtain⟨a,_,rfl⟩:=ht;exact⟨by simp[smF];omega,by simp[smF];omega⟩
theorem MB{w:List bB}(hO:fB (some w))(hl:(kj w).isSome):bI I.qci [.agg [.aa false (w.map bB.a)],.agg [.aa false (w.map bB.a)]]=some (.bool true):=by
 have hr:ko w=true:=by rw[←(mV w).1];exact hl
 refine T7 w (fun n hn=>?_) hO.len;have h1:=LW hr n hn;exact⟨hO.ns n hn,h1.1,h1.2,(hO.own n hn).z⟩
theorem Tp{c:List cM}{s:jJ}{w:List bB}(h:fh c s=some w):(kj w).isSome:=by
 unfold fh qD at h;split at h
 ·exact rG h
 exact rG h
theorem Sg{c:List cM}(hc:∀tb∈c,tb.af.length≤8000){l:List jJ}(hl:∀s∈l,xZ s)(h0:l≠[]):fB (qr c l):=by
 have hk:∀(l:List jJ) (k:Nat) (o:Option (List bB)),(∀s∈l,xZ s)→(k=0→l≠[])→(k≠0→fB o)→fB (FZ c l k o):=by
  intro l;induction l with
  |nil=>
   intro k o _ h0 h;rw[FZ];exact h fun e=>absurd rfl (h0 e)
  |cons s l ih=>
   intro k o hl _ h;rw[FZ];refine ih _ _ (fun s hs=>hl s (bq _ hs)) (fun h=>by omega) (fun _=>?_);have hX:=D5 hc (hl s (by simp));unfold JH;split
   ·exact hX
   rename_i k0;exact rp qL.1 qL.2 (h k0) hX
 have:=hk l 0 none hl (fun _=>h0) (fun h=>absurd rfl h);rw[Nz c l 0 none (fun _=>h0)]at this;exact this
theorem N7{c:List cM}(hc:∀tb∈c,tb.af.length≤8000){b:xU}(hb:GG b){w:List bB}(h:tt c b=some w):bI I.qci [.agg [.aa false (w.map bB.a)],.agg [.aa false (w.map bB.a)]]=some (.bool true):=by
 unfold tt at h;split at h
 ·cases h
 rename_i hl;split at h
 ·have h0:b.selects≠[]:=fun e=>by rw[e]at hl;simp at hl
  have hon:=Dt b.limit hb.ol;have hO:=fS hon.1 hon.2 (Sg hc hb.sel h0);rw[h]at hO;exact MB hO (rG h)
 cases h
theorem Sr{c:List cM}(hc:∀tb∈c,tb.af.length≤8000){s:jJ}(hs:xZ s){w:List bB}(h:fh c s=some w):bI I.qci [.agg [.aa false (w.map bB.a)],.agg [.aa false (w.map bB.a)]]=some (.bool true):=by
 have hO:=D5 hc hs;rw[h]at hO;exact MB hO (Tp h)
end Go.AM
namespace Go.AM
open P
set_option maxHeartbeats 16000000
set_option maxRecDepth 8000
attribute [local simp] aF br
abbrev Cf(X:ap)(bl:Bool)(l:List zi)(i:Nat)(b:xU)(n10:Int)(o12 o26:Bool)(x27 x28:ap)(k:Nat):List ap:=[X,.aa bl (l.map zi.a),.ptr 0 0 0 0,.any,.ptr 1 0 0 0,.bool true,.int .i64 i,.ptr 2 0 0 0,.ptr 3 0 0 0,.ptr 4 0 0 0,.int .i64 n10,.ptr 5 0 0 0,.bool o12,.any,.any,.any,.any,.any,.bool false,.aa bl (l.map zi.a),.int .i64 l.length,.int .i64 i,.bool true,.bool false,.bool false,.any,.bool o26,x27,x28,.aa false (b.selects.map jJ.a),.int .i64 b.selects.length,.int .i64 k,.any,.any,.any]
abbrev MK(X:ap)(c:List cM)(y:zi)(b:xU)(g w:List ap):aw:=[.arr 1 0 [X],.arr 1 0 [eZ c],.arr 5 0 [y.a],.arr 5 0 [b.a],.arr 1 0 [.agg [.aa false g]],.arr 1 0 [.agg [.aa false w]]]
theorem Z1(X:ap)(hX:∀base σ m,fz false true base σ (m+3) X=X)(hXn:aC X=1)(bl:Bool)(l:List zi)(i:Nat)(c:List cM)(hc:wl c)(y:zi)(b:xU)(hb:GG b)(n10:Int)(o12 o26:Bool)(x27 x28:ap)(h27:∀base σ m,fz false true base σ (m+3) x27=x27)(h28:∀base σ m,fz false true base σ (m+3) x28=x28)(g w:List ap) :
  cc code 6 [3,13,14,15,16,17,32,33] xw ⟨Cf X bl l i b n10 o12 o26 x27 x28 0,MK X c y b g w⟩=some (.ext 3,⟨(Cf X bl l i b n10 o12 o26 x27 x28 b.selects.length).set 32 (.bool false),MK X c y b g w⟩):=by
 have hm:b.selects.length≤aV:=by have:=hb.sl;unfold aV;omega
 have loop:=da (base:=6) (clr:=[3,13,14,15,16,17,32,33]) (b:=xw) (fun k=>⟨Cf X bl l i b n10 o12 o26 x27 x28 k,MK X c y b g w⟩) b.selects.length
  (.ext 3,⟨(Cf X bl l i b n10 o12 o26 x27 x28 b.selects.length).set 32 (.bool false),MK X c y b g w⟩)
  (fun k hk=>by
   have hy:b.selects[k]?=some b.selects[k]:=aq hk;have hgg:∀h:k<b.selects.length,b.selects[k]'h=b.selects[k]'hk:=fun _=>rfl;have hs:=hb.sel _ (aO hk);have h1:=Wq c hc b.selects[k] hs;have h2:=EH c hc.af b.selects[k] hs;have h3:∀w,fh c b.selects[k]=some w→_:=fun w h=>Sr hc.af hs h;generalize b.selects[k]=s at *;have n3:aC s.a=9∧isAgg s.a=true:=⟨rfl,rfl⟩;have n1:∀fl top base σ m,fz fl top base σ (m+3) s.a=s.a:=fun fl top base σ m=>Fx.fx fl top base σ m s;have nb1:∀fl top base σ m,fz fl top base σ (m+3) b.a=b.a:=fun fl top base σ m=>Fx.fx fl top base σ m b;have nb3:aC b.a=5:=rfl;have ny1:∀base σ m,fz false true base σ (m+3) y.a=y.a:=fun base σ m=>Ft.ft false true base σ m y rfl;have ny3:aC y.a=5:=rfl;unfold JV at h1;unfold GF at h2;cases ht:fh c s with
   |none=>
    rw[ht]at h1 h2;simp at h1 h2;simp[xw,Cf,MK,hk,hy,hgg,n1,n3,nb1,nb3,ny1,ny3,hX,hXn,h27,h28,h1,h2,bJ hk hm,aT,aW,bG,dp]
   |some t=>
    have h3:=h3 t ht;rw[ht]at h1 h2;simp at h1 h2;generalize t.map bB.a=tv at *;simp[xw,Cf,MK,hk,hy,hgg,n1,n3,nb1,nb3,ny1,ny3,hX,hXn,h27,h28,h1,h2,h3,bJ hk hm,aT,aW,bG,dp])
  (by simp[xw])
 simpa using loop
end Go.AM
namespace Go.AM
open P
set_option maxHeartbeats 32000000
set_option maxRecDepth 8000
attribute [local simp] aF br
abbrev mN(X:ap)(bl:Bool)(l:List zi)(r:Bool)(i:Nat):List ap:=[X,.aa bl (l.map zi.a),.ptr 0 0 0 0,.any,.ptr 1 0 0 0,.bool r,.any,.any,.any,.any,.any,.any,.any,.any,.any,.any,.any,.any,.bool false,.aa bl (l.map zi.a),.int .i64 l.length,.int .i64 i,.any,.any,.any,.any,.any,.any,.any,.any,.any,.any,.any,.any,.any]
abbrev qe(X:ap)(c:List cM):aw:=[.arr 1 0 [X],.arr 1 0 [eZ c]]
theorem Il(X:ap)(hX:∀base σ m,fz false true base σ (m+3) X=X)(hXn:aC X=1)(bl:Bool)(l:List zi)(c:List cM)(hcl:c.length≤8000)(hct:∀t∈c,Gn t)(i:Nat)(y:zi)(hi:i<l.length)(hy:l[i]?=some y)(h6:i<6) :
  dE 2 [3,6,7,8,9,10,11,12,13,14,15,16,17,22,23,24,25,26,27,28,29,30,31,32,33,34] mI (run code mI ⟨mN X bl l (wr c) i,qe X c⟩) =
   cc code 2 [3,6,7,8,9,10,11,12,13,14,15,16,17,22,23,24,25,26,27,28,29,30,31,32,33,34] mI ⟨mN X bl l (wr c) (i+1),qe X c⟩:=by
 have hg:∀h:i<l.length,l[i]'h=y:=fun h=>(ak.1 hy).2;have n3:aC y.a=5∧isAgg y.a=true:=⟨rfl,rfl⟩;have n1:∀base σ m,fz true false base σ (m+3) y.a=y.a:=fun base σ m=>Ft.ft true false base σ m y rfl;have hfw:=afm y;have hb:=acU y;have hcols:∀tb∈c,tb.af.length≤8000:=fun t ht=>(hct t ht).af;have hck:=Pv c hcl hct;have h14:=S0 c hcols (pQ y) hb;have hsame:∀w,tt c (pQ y)=some w→_:=fun w h=>N7 hcols hb h;have hs12:=WP (pQ y) hb;have i6:((i:Int)==6)=false:=by rw[du];omega
 have w2:IntKind.i64.wrap ((i:Int)+1)=(i:Int)+1:=tI (by omega) (by omega);have hlow:wr c=true→bI I.qfp [eZ c,(pQ y).a]=some (JV 240 (tt c (pQ y))):=fun h=>Zn c ⟨by rw[hck,h];rfl,hcols⟩ (pQ y) hb;have hbad:wr c=false→bI I.qfp [eZ c,(pQ y).a]=some (.tup [.agg [.aa false []],.int .i64 210]):=fun h=>SP c (pQ y) 210 (by decide) (by rw[hck,h];rfl);have hin:wr c=true→∀n10 o12 o26 x27 x28 h27 h28 g w,_:=fun h n10 o12 o26 x27 x28 h27 h28 g w=>Z1 X hX hXn bl l i c ⟨by rw[hck,h];rfl,hcols⟩ y (pQ y) hb n10 o12 o26 x27 x28 h27 h28 g w;unfold GF at h14;obtain⟨bc,hbc,hbl⟩:∃bc,(pQ y).a=.agg bc∧bc.length=5:=⟨_,rfl,rfl⟩;have hba:(pQ y).a=.agg [.aa false ((pQ y).selects.map jJ.a),.aa false ((pQ y).names.map .str),.aa false ((pQ y).ac.map (.int .i64)),.aa false ((pQ y).order.map fU),.int .i64 (pQ y).limit]:=rfl;cases hr:wr c with
 |false=>
  have hbad:=hbad hr;generalize tt c (pQ y)=o at *;generalize (o.getD []).map bB.a=tv at *;rw[hba]at hfw h14 hbad hs12;simp[mI,mN,qe,hi,hy,hg,n1,n3,hX,hXn,i6,w2,hfw,h14,hbad,aT,aW,bG,dp]
 |true=>
  have hlow:=hlow hr;have hin:=hin hr;unfold JV at hlow;cases ho:tt c (pQ y) with
  |none=>
   rw[ho]at hlow h14;simp at hlow h14;have hin:=hin 240 false true (.bool false) .any (by simp) (by simp) [] [];simp only[Cf,MK,hba,aJ,List.set]at hin hfw h14 hlow hs12;simp[mI,mN,qe,hi,hy,hg,n1,n3,hX,hXn,i6,w2,hfw,h14,hlow,hin,hs12,aT,aW,bG,dp]
  |some w=>
   have hsm:=hsame w ho;rw[ho]at hlow h14;simp at hlow h14;have hin:=hin 0 true false .any (.bool false) (by simp) (by simp) (w.map bB.a) (w.map bB.a);simp only[Cf,MK,hba,aJ,List.set]at hin hfw h14 hlow hs12;generalize w.map bB.a=wv at *;simp[mI,mN,qe,hi,hy,hg,n1,n3,hX,hXn,i6,w2,hfw,h14,hlow,hin,hsm,hs12,aT,aW,bG,dp]
end Go.AM
namespace Go.AM
open P
set_option maxHeartbeats 32000000
set_option maxRecDepth 8000
attribute [local simp] aF br
theorem Vw(X:ap)(hX:∀base σ m,fz false true base σ (m+3) X=X)(hXn:aC X=1)(bl:Bool)(l:List zi)(c:List cM)(hcl:c.length≤8000)(hct:∀t∈c,Gn t) :
  ∃q,cc code 2 [3,6,7,8,9,10,11,12,13,14,15,16,17,22,23,24,25,26,27,28,29,30,31,32,33,34] mI ⟨mN X bl l (wr c) 0,qe X c⟩=some (.ext 0,q)∧q.env.length=35:=by
 by_cases h6:l.length≤6
 ·have:=da (base:=2) (clr:=[3,6,7,8,9,10,11,12,13,14,15,16,17,22,23,24,25,26,27,28,29,30,31,32,33,34]) (b:=mI) (fun i=>⟨mN X bl l (wr c) i,qe X c⟩) l.length
   (.ext 0,⟨(mN X bl l (wr c) l.length).set 22 (.bool false),qe X c⟩)
   (fun i hi=>Il X hX hXn bl l c hcl hct i _ hi (aq hi) (by omega))
   (by simp[mI])
  exact⟨_,this,rfl⟩
 have hl6:6<l.length:=by omega
 have hy:l[6]?=some l[6]:=aq hl6;have hg:∀h:6<l.length,l[6]'h=l[6]'hl6:=fun _=>rfl;have hI:(6:Int)<(l.length:Int):=by omega
 generalize l[6]=y at *;have n3:aC y.a=5∧isAgg y.a=true:=⟨rfl,rfl⟩;have:=da (base:=2) (clr:=[3,6,7,8,9,10,11,12,13,14,15,16,17,22,23,24,25,26,27,28,29,30,31,32,33,34]) (b:=mI) (fun i=>⟨mN X bl l (wr c) i,qe X c⟩) 6
  (.ext 0,⟨(((mN X bl l (wr c) 6).set 22 (.bool true)).set 23 (.bool true)).set 7 (.ptr 2 0 0 0) |>.set 6 (.int .i64 6),qe X c++[.arr 5 0 [y.a]]⟩)
  (fun i hi=>Il X hX hXn bl l c hcl hct i _ (by omega) (aq (by omega)) hi)
  (by simp[mI,mN,qe,hl6,hI,hy,hg,n3])
 exact⟨_,this,rfl⟩
theorem GJ(hw:bI I.qbc []=some (.bool true))(bt bl:Bool)(c:List gE)(l:List zi):bI I.qal [.agg [.aa bt (c.map gE.a)],.aa bl (l.map zi.a)]=some (.bool true):=by
 rw[aQ aan rfl];have hs:=fun bt=>Y4 bt c;obtain⟨hcl,hct⟩:=Vg c;have hr:=Td (uY c) hcl hct;obtain⟨q,hl,hq⟩:=Vw (.agg [.aa bt (c.map gE.a)]) (by simp) rfl bl l (uY c) hcl hct;have hs1:=hs bt;have hs2:=hs true;generalize wr (uY c)=r at *;simp only[mN,qe,aJ]at hl;obtain⟨env,st⟩:=q;simp only at hq;simp[apV,ab0,hw,hs1,hs2,hr,hl];have:(env.set 3 (.bool true))[3]?=some (.bool true):=by rw[cr];omega
 rw[this];simp
end Go.AM
namespace Go.AM
theorem gB.sl_inv{a:Bool}{cs:List Sh}{x:ap}(h:gB (.sl a cs) x):∃xs,x=.aa true xs∧xs.length≤maxLen∧(∀x∈xs,isAgg x=a∧(cellsOf x).length=cs.length∧aC x=cs.length) ∧
  ∀x∈xs,∀i (h:i<cs.length) (h':i<(cellsOf x).length),gB cs[i] (cellsOf x)[i]:=by
 cases h with
 |sl h1 h2 h3=>exact⟨_,rfl,h1,h2,h3⟩
theorem RC{α:Type}(f:α→ap):∀{l:List ap},(∀x∈l,∃a,x=f a)→∃m:List α,l=m.map f
 |[],_=>⟨[],rfl⟩
 |x::l,h=>by
  obtain⟨a,rfl⟩:=h x (cQ ..);obtain⟨m,rfl⟩:=RC f fun y hy=>h y (bq _ hy);exact⟨a::m,rfl⟩
theorem LA{cs:List Sh}{x:ap}(h:isAgg x=true∧(cellsOf x).length=cs.length∧aC x=cs.length)(h':∀i (h:i<cs.length) (h':i<(cellsOf x).length),gB cs[i] (cellsOf x)[i]) :
  ∃ys,x=.agg ys∧ys.length=cs.length∧∀i (h:i<cs.length) (h':i<ys.length),gB cs[i] ys[i]:=by
 cases x with
 |agg ys=>exact⟨ys,rfl,h.2.1,h'⟩
 |_=>cases h.1
theorem K4{s:Sh}{x:ap}(h:isAgg x=false∧(cellsOf x).length=[s].length∧aC x=[s].length)(h':∀i (h:i < [s].length) (h':i<(cellsOf x).length),gB [s][i] (cellsOf x)[i]):gB s x:=by
 have hc:cellsOf x=[x]:=by
  cases x with
  |agg ys=>cases h.1
  |_=>rfl
 have:=h' 0 (by simp) (by rw[hc];simp);simpa only [hc,cC] using this
end Go.AM
namespace Go.AM
def ah1:List ap:=[.str [83,69,76,69,67,84,32,98,32,70,82,79,77,32,116,32,87,72,69,82,69,32,97,32,61,32,49]]
def agq:ap:=.tup [.agg [.aa false [.agg [.bool false,.bool false,.aa false [.agg [.aa false [.agg [.int .i64 2,.int .i64 (-1),.int .i64 (-1),.int .i64 0,.int .i64 0,.int .u64 0,.str [],.str [],.str [98]]],.str []]],.str [116],.str [],.aa false [],.aa false [.agg [.int .i64 2,.int .i64 (-1),.int .i64 (-1),.int .i64 0,.int .i64 0,.int .u64 0,.str [],.str [],.str [97]],.agg [.int .i64 1,.int .i64 (-1),.int .i64 (-1),.int .i64 2,.int .i64 1,.int .u64 0,.str [],.str [],.str []],.agg [.int .i64 16,.int .i64 0,.int .i64 1,.int .i64 0,.int .i64 0,.int .u64 0,.str [],.str [],.str []]],.aa false [],.aa false []]],.aa false [],.int .i64 (-1)],.int .i64 0,.int .i64 0]
def aku:List ap:=[.str [83,69,76,69,67,84,32,122,32,70,82,79,77,32,116]]
def ake:ap:=.tup [.agg [.aa false [.agg [.bool false,.bool false,.aa false [.agg [.aa false [.agg [.int .i64 2,.int .i64 (-1),.int .i64 (-1),.int .i64 0,.int .i64 0,.int .u64 0,.str [],.str [],.str [122]]],.str []]],.str [116],.str [],.aa false [],.aa false [],.aa false [],.aa false []]],.aa false [],.int .i64 (-1)],.int .i64 0,.int .i64 0]
def ajT:List ap:=[.agg [.aa false [.agg [.str [116],.aa false [.agg [.str [97],.int .i64 2],.agg [.str [98],.int .i64 3]],.aa false []],.agg [.str [117],.aa false [.agg [.str [97],.int .i64 2]],.aa false []]]],.agg [.aa false [.agg [.bool false,.bool false,.aa false [.agg [.aa false [.agg [.int .i64 2,.int .i64 (-1),.int .i64 (-1),.int .i64 0,.int .i64 0,.int .u64 0,.str [],.str [],.str [98]]],.str []]],.str [116],.str [],.aa false [],.aa false [.agg [.int .i64 2,.int .i64 (-1),.int .i64 (-1),.int .i64 0,.int .i64 0,.int .u64 0,.str [],.str [],.str [97]],.agg [.int .i64 1,.int .i64 (-1),.int .i64 (-1),.int .i64 2,.int .i64 1,.int .u64 0,.str [],.str [],.str []],.agg [.int .i64 16,.int .i64 0,.int .i64 1,.int .i64 0,.int .i64 0,.int .u64 0,.str [],.str [],.str []]],.aa false [],.aa false []]],.aa false [],.int .i64 (-1)]]
def ahN:ap:=.tup [.agg [.aa false [.agg [.aa false [.int .i64 0],.aa false [],.aa false [.agg [.int .i64 2,.int .i64 (-1),.int .i64 (-1),.int .i64 0,.int .i64 0,.int .i64 0,.int .u64 0,.str []],.agg [.int .i64 1,.int .i64 (-1),.int .i64 (-1),.int .i64 0,.int .i64 2,.int .i64 1,.int .u64 0,.str []],.agg [.int .i64 16,.int .i64 0,.int .i64 1,.int .i64 0,.int .i64 0,.int .i64 0,.int .u64 0,.str []]],.aa false [],.bool false,.bool false,.aa false [],.aa false [],.aa false [.agg [.aa false [.agg [.int .i64 2,.int .i64 (-1),.int .i64 (-1),.int .i64 1,.int .i64 0,.int .i64 0,.int .u64 0,.str []]]]]]],.aa false [.str [98]],.aa false [.int .i64 3],.aa false [],.int .i64 (-1)],.int .i64 0,.int .i64 0]
def afT:List ap:=[.agg [.aa false [.agg [.str [116],.aa false [.agg [.str [97],.int .i64 2],.agg [.str [98],.int .i64 3]],.aa false []],.agg [.str [117],.aa false [.agg [.str [97],.int .i64 2]],.aa false []]]],.agg [.aa false [.agg [.bool false,.bool false,.aa false [.agg [.aa false [.agg [.int .i64 2,.int .i64 (-1),.int .i64 (-1),.int .i64 0,.int .i64 0,.int .u64 0,.str [],.str [],.str [122]]],.str []]],.str [116],.str [],.aa false [],.aa false [],.aa false [],.aa false []]],.aa false [],.int .i64 (-1)]]
def ago:ap:=.tup [.agg [.aa false [],.aa false [],.aa false [],.aa false [],.int .i64 0],.int .i64 4,.int .i64 222]
def aii:List ap:=[.agg [.aa false [.agg [.str [116],.aa false [.agg [.str [97],.int .i64 2],.agg [.str [98],.int .i64 3]],.aa false []],.agg [.str [117],.aa false [.agg [.str [97],.int .i64 2]],.aa false []]]],.agg [.aa false [.agg [.aa false [.int .i64 0],.aa false [],.aa false [.agg [.int .i64 2,.int .i64 (-1),.int .i64 (-1),.int .i64 0,.int .i64 0,.int .i64 0,.int .u64 0,.str []],.agg [.int .i64 1,.int .i64 (-1),.int .i64 (-1),.int .i64 0,.int .i64 2,.int .i64 1,.int .u64 0,.str []],.agg [.int .i64 16,.int .i64 0,.int .i64 1,.int .i64 0,.int .i64 0,.int .i64 0,.int .u64 0,.str []]],.aa false [],.bool false,.bool false,.aa false [],.aa false [],.aa false [.agg [.aa false [.agg [.int .i64 2,.int .i64 (-1),.int .i64 (-1),.int .i64 1,.int .i64 0,.int .i64 0,.int .u64 0,.str []]]]]]],.aa false [.str [98]],.aa false [.int .i64 3],.aa false [],.int .i64 (-1)]]
def afw:ap:=.tup [.agg [.aa false [.agg [.int .i64 1,.int .i64 (-1),.int .i64 (-1),.int .i64 0,.aa false [.int .i64 2,.int .i64 3],.bool false,.aa false [],.aa false [],.aa false [],.aa false [],.aa false [],.int .i64 0],.agg [.int .i64 3,.int .i64 0,.int .i64 (-1),.int .i64 0,.aa false [],.bool false,.aa false [.agg [.int .i64 2,.int .i64 (-1),.int .i64 (-1),.int .i64 0,.int .i64 0,.int .i64 0,.int .u64 0,.str []],.agg [.int .i64 1,.int .i64 (-1),.int .i64 (-1),.int .i64 0,.int .i64 2,.int .i64 1,.int .u64 0,.str []],.agg [.int .i64 16,.int .i64 0,.int .i64 1,.int .i64 0,.int .i64 0,.int .i64 0,.int .u64 0,.str []]],.aa false [],.aa false [],.aa false [],.aa false [],.int .i64 0],.agg [.int .i64 5,.int .i64 1,.int .i64 (-1),.int .i64 0,.aa false [],.bool false,.aa false [],.aa false [],.aa false [],.aa false [.agg [.aa false [.agg [.int .i64 2,.int .i64 (-1),.int .i64 (-1),.int .i64 1,.int .i64 0,.int .i64 0,.int .u64 0,.str []]]]],.aa false [],.int .i64 0],.agg [.int .i64 8,.int .i64 2,.int .i64 (-1),.int .i64 0,.aa false [],.bool false,.aa false [],.aa false [],.aa false [],.aa false [],.aa false [],.int .i64 (-1)]]],.int .i64 0]
end Go.AM
namespace Go.AM
def Ee(P:Code)(C:gl)(n:Nat):gl:=fun f args σ=>match P.fns f with
 |.none=>none
 |.prim k=>P.prims k C args σ
 |.fn g=>nq C n g args σ
 |.nilfn g=>match args with
  |x::rest=>
   if ip σ x then (nq C n g (.emp true::rest) σ).bind fun r=>(nq C n g (.emp false::rest) σ).bind fun q=>if same r.1 q.1&&oL r.2 q.2 then some r else none
   else nq C n g args σ
  |[]=>none
 |.round g=>match args with
  |.frs l _::rest=>
   match σ[l]? with
   |some (.pend false none)=>
    if (rest.drop g.nenv).length=g.params.length then
     (exec C n g.pre ⟨td (rest.take g.nenv) g.params (rest.drop g.nenv),σ⟩).bind (mH C n l g.body)
    else none
   |_=>none
  |_=>none
theorem ER(P:Code)(n:Nat)(f:Nat)(args:List ap)(σ:aw):dG P (n+1) f args σ=Ee P (dG P n) n f args σ:=by
 simp only[dG,Ee];rfl
theorem PE{P:Code}(hP:P.Good){C D:gl}{n m:Nat}(hC:Sz C D)(hm:n≤m):Sz (Ee P C n) (Ee P D m):=fun f args σ r h=>by
 unfold Ee at h ⊢;split at h
 ·cases h
 ·exact hP _ _ _ _ _ _ hC h
 ·exact kr hC hm h
 ·split at h
  ·split at h
   ·rename_i hc;rw[if_pos hc];rw[aA]at h ⊢;obtain⟨x,hx,hr⟩:=h;refine⟨x,kr hC hm hx,?_⟩;rw[aA]at hr ⊢;obtain⟨y,hy,hr⟩:=hr;exact⟨y,kr hC hm hy,hr⟩
   rename_i hc;rw[if_neg hc];exact kr hC hm h
  cases h
 split at h
 ·split at h
  ·split at h
   ·rename_i hl;rw[if_pos hl];rw[aA]at h ⊢;obtain⟨x,hx,hr⟩:=h;exact⟨x,fR hC hm hx,uA hC hm hr⟩
   cases h
  cases h
 cases h
structure vB where
 f:Nat
 args:List ap
 out:ap
def abq(m:List vB)(f:Nat)(args:List ap):Option ap:=(m.find? fun e=>e.f==f&&nS e.args args).map (·.out)
def AL(P:Code)(m:List vB):Nat→gl
 |0=>fun _ _ _=>none
 |n+1=>fun f args σ=>match abq m f (args.map (iC σ)) with
  |some v=>some (v,σ)
  |none=>Ee P (AL P m n) n f args σ
def Fd:jq→Bool
 |.fn g=>g.mode.isPure
 |_=>false
def vB.Ok(P:Code)(N:Nat)(e:vB):Prop:=Fd (P.fns e.f)=true∧dG P N e.f e.args []=some (e.out,[])
theorem OM{P:Code}{N f:Nat}(hp:Fd (P.fns f)=true){args:List ap}{σ:aw}{v:ap}(h:dG P N f (args.map (iC σ)) []=some (v,[])):dG P N f args σ=some (v,σ):=by
 cases N with
 |zero=>cases h
 |succ n=>
  cases hf:P.fns f with
  |fn g=>
   rw[hf]at hp;have hm:g.mode.isPure=true:=hp;rw[ER]at h ⊢;unfold Ee at h ⊢;rw[hf]at h ⊢;dsimp only at h ⊢;unfold nq at h ⊢;have he:enter g args σ=enter g (args.map (iC σ)) []:=by
    have h1:((args.map (iC σ)).take g.np).map (iC [])=(args.take g.np).map (iC σ):=by
     rw[←List.map_take,bD];exact aU fun x _=>pg σ [] x
    unfold enter;cases hg:g.mode<;>rw[hg]at hm<;>first|exact absurd hm (by decide)|(simp only[h1])
   rw[he];rw[aA]at h ⊢;obtain⟨r,hr,hl⟩:=h;refine⟨r,hr,?_⟩;obtain⟨e,s⟩:=r;have key:(results s g.res).map (fun v=>gq g.mode [] s v)=some (v,[])→(results s g.res).map (fun v=>gq g.mode σ s v)=some (v,σ):=fun h=>by
    cases hq:results s g.res with
    |none=>rw[hq]at h;cases h
    |some x=>
     rw[hq]at h;cases hg:g.mode<;>rw[hg]at hm h<;>first|exact absurd hm (by decide)|(simp only[cL,az,gq,dx]at h ⊢;exact⟨h.1,trivial⟩)
   cases e with
   |ext _=>cases hl
   |nrm=>exact key hl
   |ret=>exact key hl
  |_=>rw[hf]at hp;cases hp
theorem sf{P:Code}(hP:P.Good){m:List vB}{N:Nat}(hm:∀e∈m,e.Ok P N):∀n,Sz (AL P m n) (dG P (n+N))
 |0=>fun _ _ _ _ h=>by cases h
 |n+1=>fun f args σ r h=>by
  have ih:=sf hP hm n;unfold AL at h;split at h
  ·rename_i v hv;cases h;unfold abq at hv;rw[aK]at hv;obtain⟨e,he,hv⟩:=hv;subst hv;have hin:=List.mem_of_find?_eq_some he;have hp:=List.find?_some he;simp only[am,aG]at hp;obtain⟨rfl,h2⟩:=hp;have h2:=kD h2;obtain⟨k1,k2⟩:=hm e hin;rw[h2]at k2;have:=OM k1 k2;have hmo:=(ku hP e.f args σ).le (show N≤n+1+N by omega) this;exact hmo
  rw[show n+1+N=(n+N)+1 by omega,ER];exact PE hP ih (Nat.le_add_right n N) f args σ r h
theorem vB.Ok.mono{N N':Nat}{e:vB}{P:Code}(hP:P.Good)(h:e.Ok P N)(hn:N≤N'):e.Ok P N':=⟨h.1,(ku hP e.f e.args []).le hn h.2⟩
end Go.AM
section
set_option maxRecDepth 100000
namespace Go.AM
def YP:List vB:=[
 ⟨86,[.agg [.aa false [.agg [.str [116],.aa false [.agg [.str [97],.int .i64 2],.agg [.str [98],.int .i64 3]],.aa false []],.agg [.str [117],.aa false [.agg [.str [97],.int .i64 2]],.aa false []]]]],.int .i64 0⟩,
 ⟨11,[.str [116]],.bool true⟩,
 ⟨11,[.str [97]],.bool true⟩,
 ⟨11,[.str [98]],.bool true⟩,
 ⟨11,[.str [117]],.bool true⟩,
 ⟨11,[.str [122]],.bool true⟩,
 ⟨41,[.agg [.aa false [.agg [.int .i64 2,.int .i64 (-1),.int .i64 (-1),.int .i64 0,.int .i64 0,.int .i64 0,.int .u64 0,.str []],.agg [.int .i64 1,.int .i64 (-1),.int .i64 (-1),.int .i64 0,.int .i64 2,.int .i64 1,.int .u64 0,.str []],.agg [.int .i64 16,.int .i64 0,.int .i64 1,.int .i64 0,.int .i64 0,.int .i64 0,.int .u64 0,.str []]]],.aa false [.int .i64 2,.int .i64 3]],.tup [.int .i64 1,.int .i64 0]⟩,
 ⟨41,[.agg [.aa false [.agg [.int .i64 2,.int .i64 (-1),.int .i64 (-1),.int .i64 1,.int .i64 0,.int .i64 0,.int .u64 0,.str []]]],.aa false [.int .i64 2,.int .i64 3]],.tup [.int .i64 3,.int .i64 0]⟩]
noncomputable def okB(N:Nat)(e:vB):Bool:=Fd (code.fns e.f)&&match dG code N e.f e.args [] with
 |some (v,[])=>same v e.out
 |_=>false
theorem aea{N:Nat}{e:vB}(h:okB N e=true):e.Ok code N:=by
 unfold okB at h;simp only[am]at h;refine⟨h.1,?_⟩;have h2:=h.2;split at h2
 ·rename_i v hv;rw[hv,qU h2]
 cases h2
theorem aiU:(YP.all fun e=>okB 40 e)=true:=by kernel_rfl
theorem BN:∀e∈YP,e.Ok code 40:=fun e he=>aea (aI.1 aiU e he)
end Go.AM
end
section
set_option maxRecDepth 100000
namespace Go.AM
theorem XQ:AL code YP 60 122 ah1 []=some (agq,[]):=by kernel_rfl
end Go.AM
end
section
set_option maxRecDepth 100000
namespace Go.AM
theorem Yt:AL code YP 60 122 aku []=some (ake,[]):=by kernel_rfl
end Go.AM
end
section
set_option maxRecDepth 100000
namespace Go.AM
theorem YN:AL code YP 60 134 ajT []=some (ahN,[]):=by kernel_rfl
end Go.AM
end
section
set_option maxRecDepth 100000
namespace Go.AM
theorem Ye:AL code YP 60 134 afT []=some (ago,[]):=by kernel_rfl
end Go.AM
end
section
set_option maxRecDepth 100000
namespace Go.AM
theorem Y6:AL code YP 60 171 aii []=some (afw,[]):=by kernel_rfl
end Go.AM
end
section
set_option maxRecDepth 100000
namespace Go.AM
def kq2:List vB:=[⟨122,ah1,agq⟩,⟨122,aku,ake⟩,⟨134,ajT,ahN⟩,⟨134,afT,ago⟩,⟨171,aii,afw⟩]
theorem adH:∀e∈kq2,e.Ok code 100:=fun e he=>by
 simp only[kq2,d4,List.not_mem_nil,or_false]at he;rcases he with rfl|rfl|rfl|rfl|rfl
 ·exact⟨rfl,sf gz BN 60 _ _ _ _ XQ⟩
 ·exact⟨rfl,sf gz BN 60 _ _ _ _ Yt⟩
 ·exact⟨rfl,sf gz BN 60 _ _ _ _ YN⟩
 ·exact⟨rfl,sf gz BN 60 _ _ _ _ Ye⟩
 exact⟨rfl,sf gz BN 60 _ _ _ _ Y6⟩
theorem N8:AL code (kq2++YP) 60 I.qbc [] []=some (.bool true,[]):=by kernel_rfl
theorem ZE:∀e∈kq2++YP,e.Ok code 100:=fun e he=>by
 rcases cq.1 he with h|h
 ·exact adH e h
 exact vB.Ok.mono gz (BN e h) (by decide)
theorem Sl:dG code 160 I.qbc [] []=some (.bool true,[]):=sf gz ZE 60 _ _ _ _ N8
end Go.AM
end
namespace Go.AM
theorem mb{α:Type}{cs:List Sh}{f:α→ap}(hd:∀ys:List ap,ys.length=cs.length→(∀i (h:i<cs.length) (h':i<ys.length),gB cs[i] ys[i])→∃a,ap.agg ys=f a){x:ap}(h:gB (.sl true cs) x):∃l:List α,x=.aa true (l.map f):=by
 obtain⟨xs,rfl,hn,h1,h2⟩:=h.sl_inv;obtain⟨m,rfl⟩:=RC f (l:=xs) fun x hx=>by
  obtain⟨ys,rfl,hl,hy⟩:=LA (h1 x hx) (h2 x hx);exact hd ys hl hy
 exact⟨m,rfl⟩
theorem AD{x:ap}(h:gB (.sl false [.int .i64]) x):∃l:List Int,x=.aa true (l.map (.int .i64)):=by
 obtain⟨xs,rfl,hn,h1,h2⟩:=h.sl_inv;obtain⟨m,rfl⟩:=RC (.int .i64) (l:=xs) fun x hx=>by
  obtain⟨a,rfl,_⟩:=(K4 (h1 x hx) (h2 x hx)).int_inv;exact⟨a,rfl⟩
 exact⟨m,rfl⟩
abbrev enX:List Sh:=[.int .i64,.int .i64,.int .i64,.int .i64,.int .i64,.int .i64,.int .u64,.str]
theorem FG(ys:List ap)(hl:ys.length=enX.length)(hy:∀i (h:i<enX.length) (h':i<ys.length),gB enX[i] ys[i]):∃a,ap.agg ys=EN.a a:=by
 match ys,hl,hy with
 |[y0,y1,y2,y3,y4,y5,y6,y7],_,hy=>
  obtain⟨v0,rfl,_⟩:=(hy 0 (by simp) (by simp)).int_inv;obtain⟨v1,rfl,_⟩:=(hy 1 (by simp) (by simp)).int_inv;obtain⟨v2,rfl,_⟩:=(hy 2 (by simp) (by simp)).int_inv;obtain⟨v3,rfl,_⟩:=(hy 3 (by simp) (by simp)).int_inv;obtain⟨v4,rfl,_⟩:=(hy 4 (by simp) (by simp)).int_inv;obtain⟨v5,rfl,_⟩:=(hy 5 (by simp) (by simp)).int_inv;obtain⟨v6,rfl,_⟩:=(hy 6 (by simp) (by simp)).int_inv;obtain⟨v7,rfl,_⟩:=(hy 7 (by simp) (by simp)).str_inv;exact⟨⟨v0,v1,v2,v3,⟨v4,v5,v6,v7⟩⟩,rfl⟩
abbrev exX:List Sh:=[.sl true enX]
theorem adu(ys:List ap)(hl:ys.length=exX.length)(hy:∀i (h:i<exX.length) (h':i<ys.length),gB exX[i] ys[i]):∃a,ap.agg ys=kh.a a:=by
 match ys,hl,hy with
 |[y0],_,hy=>
  obtain⟨v0,rfl⟩:=mb FG (hy 0 (by simp) (by simp));exact⟨⟨true,v0⟩,rfl⟩
abbrev agX:List Sh:=[.int .i64,.sl true enX]
theorem adm(ys:List ap)(hl:ys.length=agX.length)(hy:∀i (h:i<agX.length) (h':i<ys.length),gB agX[i] ys[i]):∃a,ap.agg ys=ew.a a:=by
 match ys,hl,hy with
 |[y0,y1],_,hy=>
  obtain⟨v0,rfl,_⟩:=(hy 0 (by simp) (by simp)).int_inv;obtain⟨v1,rfl⟩:=mb FG (hy 1 (by simp) (by simp));exact⟨⟨v0,true,v1⟩,rfl⟩
abbrev orX:List Sh:=[.int .i64,.bool]
theorem adL(ys:List ap)(hl:ys.length=orX.length)(hy:∀i (h:i<orX.length) (h':i<ys.length),gB orX[i] ys[i]):∃a,ap.agg ys=fU a:=by
 match ys,hl,hy with
 |[y0,y1],_,hy=>
  obtain⟨v0,rfl,_⟩:=(hy 0 (by simp) (by simp)).int_inv;obtain⟨v1,rfl⟩:=(hy 1 (by simp) (by simp)).bool_inv;exact⟨(v0,v1),rfl⟩
theorem YG{x:ap}(h:gB (.sl false [.str]) x):∃l:List (List UInt8),x=.aa true (l.map .str):=by
 obtain⟨xs,rfl,_,h1,h2⟩:=h.sl_inv;obtain⟨m,rfl⟩:=RC ap.str (l:=xs) fun x hx=>by
  obtain⟨v,rfl,_⟩:=(K4 (h1 x hx) (h2 x hx)).str_inv;exact⟨v,rfl⟩
 exact⟨m,rfl⟩
abbrev coX:List Sh:=[.str,.int .i64]
theorem acV(ys:List ap)(hl:ys.length=coX.length)(hy:∀i (h:i<coX.length) (h':i<ys.length),gB coX[i] ys[i]):∃a,ap.agg ys=eJ.a a:=by
 match ys,hl,hy with
 |[y0,y1],_,hy=>
  obtain⟨v0,rfl,_⟩:=(hy 0 (by simp) (by simp)).str_inv;obtain⟨v1,rfl,_⟩:=(hy 1 (by simp) (by simp)).int_inv;exact⟨⟨v0,v1⟩,rfl⟩
abbrev taX:List Sh:=[.str,.sl true coX,.sl false [.int .i64]]
theorem adj(ys:List ap)(hl:ys.length=taX.length)(hy:∀i (h:i<taX.length) (h':i<ys.length),gB taX[i] ys[i]):∃a,ap.agg ys=gE.a a:=by
 match ys,hl,hy with
 |[y0,y1,y2],_,hy=>
  obtain⟨v0,rfl,_⟩:=(hy 0 (by simp) (by simp)).str_inv;obtain⟨v1,rfl⟩:=mb acV (hy 1 (by simp) (by simp));obtain⟨v2,rfl⟩:=AD (hy 2 (by simp) (by simp));exact⟨⟨v0,true,v1,true,v2⟩,rfl⟩
abbrev joX:List Sh:=[.bool,.sl true enX]
theorem adD(ys:List ap)(hl:ys.length=joX.length)(hy:∀i (h:i<joX.length) (h':i<ys.length),gB joX[i] ys[i]):∃a,ap.agg ys=JI.a a:=by
 match ys,hl,hy with
 |[y0,y1],_,hy=>
  obtain⟨v0,rfl⟩:=(hy 0 (by simp) (by simp)).bool_inv;obtain⟨v1,rfl⟩:=mb FG (hy 1 (by simp) (by simp));exact⟨⟨v0,true,v1⟩,rfl⟩
abbrev bsX:List Sh:=[.sl false [.int .i64],.sl true joX,.sl true enX,.sl true enX,.bool,.bool,.sl false [.int .i64],.sl true agX,.sl true exX]
theorem ad6(ys:List ap)(hl:ys.length=bsX.length)(hy:∀i (h:i<bsX.length) (h':i<ys.length),gB bsX[i] ys[i]):∃a,ap.agg ys=sG.a a:=by
 match ys,hl,hy with
 |[y0,y1,y2,y3,y4,y5,y6,y7,y8],_,hy=>
  obtain⟨v0,rfl⟩:=AD (hy 0 (by simp) (by simp));obtain⟨v1,rfl⟩:=mb adD (hy 1 (by simp) (by simp));obtain⟨v2,rfl⟩:=mb FG (hy 2 (by simp) (by simp));obtain⟨v3,rfl⟩:=mb FG (hy 3 (by simp) (by simp));obtain⟨v4,rfl⟩:=(hy 4 (by simp) (by simp)).bool_inv;obtain⟨v5,rfl⟩:=(hy 5 (by simp) (by simp)).bool_inv;obtain⟨v6,rfl⟩:=AD (hy 6 (by simp) (by simp));obtain⟨v7,rfl⟩:=mb adm (hy 7 (by simp) (by simp));obtain⟨v8,rfl⟩:=mb adu (hy 8 (by simp) (by simp));exact⟨⟨true,v0,true,v1,true,v2,true,v3,v4,v5,true,v6,true,v7,true,v8⟩,rfl⟩
abbrev bdX:List Sh:=[.sl true bsX,.sl false [.str],.sl false [.int .i64],.sl true orX,.int .i64]
theorem acA(ys:List ap)(hl:ys.length=bdX.length)(hy:∀i (h:i<bdX.length) (h':i<ys.length),gB bdX[i] ys[i]):∃a,ap.agg ys=zi.a a:=by
 match ys,hl,hy with
 |[y0,y1,y2,y3,y4],_,hy=>
  obtain⟨v0,rfl⟩:=mb ad6 (hy 0 (by simp) (by simp));obtain⟨v1,rfl⟩:=YG (hy 1 (by simp) (by simp));obtain⟨v2,rfl⟩:=AD (hy 2 (by simp) (by simp));obtain⟨v3,rfl⟩:=mb adL (hy 3 (by simp) (by simp));obtain⟨v4,rfl,_⟩:=(hy 4 (by simp) (by simp)).int_inv;exact⟨⟨true,v0,true,v1,true,v2,true,v3,v4⟩,rfl⟩
abbrev acv:List Sh:=[.sl true taX]
theorem Zz{x:ap}(h:Hc (true,acv) x):∃l:List gE,x=.agg [.aa true (l.map gE.a)]:=by
 obtain⟨ys,rfl,hl,hy⟩:=LA (cs:=acv) ⟨h.1,h.2.1,h.2.2.1⟩ h.2.2.2
 match ys,hl,hy with
 |[y0],_,hy=>
  obtain⟨v0,rfl⟩:=mb adj (hy 0 (by simp) (by simp));exact⟨v0,rfl⟩
theorem Ol{x:ap}(h:gB (.sl true bdX) x):∃l:List zi,x=.aa true (l.map zi.a):=by
 obtain⟨v0,rfl⟩:=mb acA h;exact⟨v0,rfl⟩
theorem Zc:bI I.qbc []=some (.bool true):=gM (n:=160) (σ:=[]) Sl
end Go.AM
