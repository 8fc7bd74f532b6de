/- Part of the proof. -/
import Derived.Test.YtmpmbfpkpannjaaGreatDoorBm18
set_option linter.unusedVariables false
set_option linter.unusedSimpArgs false
set_option linter.unusedSectionVars false
namespace Go.AM
open P
set_option maxHeartbeats 64000000
set_option maxRecDepth 40000
structure LQ (t:yg):Prop where
 own:∀n∈t.l,mS n
 ns:∀n∈t.l,NS n
 len:t.l.length≤8000
theorem LQ.ok{t:yg}(h:LQ t):TOk t:=⟨fun n a=>(h.own n a).fl,fun n a=>(h.own n a).fit,fun b n a=>by
 obtain⟨s,c⟩:=cS.1 b;have:=(wY c).2.2.2 n a;exact⟨this.l,this.r⟩⟩
theorem Uy{n:cL}(h:NS n)(b:nz n)(a:Int):NS (gH a n):=⟨(tR b h.fit a).fit,h.keys,h.ah,h.items⟩
theorem abw{k:Nat}{t:yg}{s s':List cL×Int×Int}(b:LQ t)(d:∀m∈s.1,NS m)(h:oZ k t s=.inl s'):∀m∈s'.1,NS m:=by
 unfold oZ at h;split at h
 ·cases h;intro m a;rcases aY.1 a with a|a
  ·exact d m a
  obtain⟨n,c,rfl⟩:=bM.1 a;exact Uy (b.ns n c) (b.own n c).fl _
 cases h
theorem Jn{d σ ρ:Type}{g:Nat→d→σ→σ⊕ρ}(yl:Nat→σ→Prop):∀(l:List d) (k:Nat) (s:σ),yl k s→(∀k y s s',y∈l→yl k s→g k y s=.inl s'→yl (k+1) s')→∀s',dA g l k s=.inl s'→yl (k+l.length) s'
 |[],k,s,a,_,s',h=>by rw[dA]at h;cases h;exact a
 |y::l,k,s,a,b,s',h=>by
  rw[dA]at h;cases hy:g k y s with
  |inr r=>rw[hy]at h;cases h
  |inl c=>
   rw[hy]at h;have:=Jn yl l (k+1) c (b k y s c (by simp) a hy) (fun k y s s' e=>b k y s s' (bZ _ e)) s' h;simpa [dB,g9 1] using this
theorem Zb{b:List yg}(d:∀t∈b,LQ t){s:List cL×Int×Int}(h:dA oZ b 0 ([],-1,-1)=.inl s):abl b.length s∧∀m∈s.1,NS m:=by
 have:=Jn (g:=oZ) (fun k s=>abl k s∧∀m∈s.1,NS m) b 0 ([],-1,-1) ⟨⟨by simp,fun m a=>by simp at a,by simp,by simp⟩,fun m a=>by simp at a⟩
  (fun k y s s' a c e=>⟨KA (d y a).ok c.1 e,abw (d y a) c.2 e⟩) s h
 simpa using this
theorem ahT{n:cL}(b:nz n)(a:NS n)(l r:Int):nz (eZ n l r)∧NS (eZ n l r):=⟨⟨b.ag,b.ex⟩,⟨⟨a.fit.ac,a.fit.cond,a.fit.keys,a.fit.ah,a.fit.args,a.fit.items,a.fit.exprs,a.fit.ords⟩,a.keys,a.ah,a.items⟩⟩
theorem R3{n:cL}(j:nz n)(k:NS n){b:List yg}(l:b.length≤100)(i:∀t∈b,LQ t)(w:List cL)(h:iw n b=some w):LQ ⟨false,w⟩:=by
 unfold iw at h;cases hf':dA oZ b 0 ([],-1,-1) with
 |inr u=>rw[hf']at h;cases h
 |inl s=>
  rw[hf']at h;simp only at h;split at h
  ·cases h;obtain⟨d,c⟩:=Zb i hf';obtain⟨f,g⟩:=ahT j k s.2.1 s.2.2;have e:=d.len;refine⟨fun m a=>?_,fun m a=>?_,by simp;omega⟩
   ·rcases aY.1 a with a|a
    ·exact d.own m a
    rw[aP.1 a];exact tR f g.fit 0
   rcases aY.1 a with a|a
   ·exact c m a
   rw[aP.1 a];exact Uy g f 0
  cases h
end Go.AM
namespace Go.AM
open P
set_option maxHeartbeats 64000000
set_option maxRecDepth 40000
attribute [local simp] aG bj
structure fE where
 name:List UInt8
 kind:Int
 deriving DecidableEq
def fE.a(c:fE):aq:=aH [aO c.name,ap c.kind]
structure cN where
 name:List UInt8
 af:List fE
 keys:List Int
def cN.a(t:cN):aq:=aH [aO t.name,.aa false (t.af.map fE.a),.aa false (t.keys.map (.int .i64))]
instance:Nc fE.a 2 true:=⟨fun _=>rfl,fun _=>rfl⟩
instance:Fx fE.a:=⟨fun fl top base σ n y=>by simp[fE.a]⟩
instance:Nc cN.a 3 true:=⟨fun _=>rfl,fun _=>rfl⟩
instance:Fx cN.a:=⟨fun fl top base σ n y=>by simp[cN.a]⟩
abbrev nB(c:List cN):aq:=aH [.aa false (c.map cN.a)]
def cN.ac(t:cN):List Int:=t.af.map fE.kind
abbrev AI(c:List cN)(L:aq)(acc:List Int)(i:Nat)(e5 e10:aq)(af:aq)(len idx:aq):List aq:=
 [nB c,L,aI 0 0 0 0,.ai,.sl 1 acc.length 0 acc.length,e5,am,L,ap 1,ap i,e10,af,len,idx,am]
abbrev JE(c:List cN)(acc:List Int):aw:=[aB 1 0 [nB c],aB 1 acc.length (cT acc)]
theorem OT(c:List cN)(d:Bool)(ls:List aq)(p:∀base σ m,fz false true base σ (m+3) (.aa d ls)=.aa d ls)(t:Int)(a:List fE)(s:a.length≤8000)(f:Bool) :
  bU code 2 [6,14] HV ⟨AI c (.aa d ls) [] 0 (ap t) (aC true) (.aa f (a.map fE.a)) (ap a.length) (ap 0),JE c []⟩ =
   some (.ext 2,⟨(AI c (.aa d ls) (a.map fE.kind) 0 (ap t) (aC true) (.aa f (a.map fE.a)) (ap a.length) (ap a.length)).set 14 (aC false),JE c (a.map fE.kind)⟩):=by
 have loop:=cX (base:=2) (clr:=[6,14]) (b:=HV)
  (fun k=>⟨AI c (.aa d ls) ((a.take k).map fE.kind) 0 (ap t) (aC true) (.aa f (a.map fE.a)) (ap a.length) (ap k),JE c ((a.take k).map fE.kind)⟩) a.length
  (.ext 2,⟨(AI c (.aa d ls) (a.map fE.kind) 0 (ap t) (aC true) (.aa f (a.map fE.a)) (ap a.length) (ap a.length)).set 14 (aC false),JE c (a.map fE.kind)⟩)
  (fun k i=>by
   have o:a[k]?=some a[k]:=au i;have g:∀h:k<a.length,a[k]'h=a[k]'i:=fun _=>rfl;have q:(a.take (k+1)).map fE.kind=(a.take k).map fE.kind++[a[k].kind]:=by rw[eY,o,df];rfl
   have e:((a.take k).map fE.kind).length=k:=by simp;omega
   generalize (a.take k).map fE.kind=cs at *;generalize a[k]=n at *;rw[q];have j:k+1≤bC:=by unfold bC;omega
   have r:IntKind.i64.wrap ((k:Int)+1)=(k:Int)+1:=qL (by omega) (by omega);have l:List.take k (cs.map (aq.int .i64))=cs.map (aq.int .i64):=ay (by simp[e]);simp[AI,JE,HV,i,o,g,fE.a,r,append,j,l,e,bR,bA,cr,dH])
  (by simp[HV])
 simpa using loop
theorem ado(c:List cN)(t:Int)(tb:cN)(m:0≤t)(f:c[t.toNat]?=some tb)(n:tb.af.length≤8000)(a:Bool):bw I.qw [nB c,.aa a [ap t]]=some (.aa false (cT tb.ac)):=by
 have i:=OT c a [ap t] (by simp) t tb.af n false;have l:t.toNat < c.length:=(ak.1 f).1;have d:∀h:t.toNat < c.length,c[t.toNat]'h=tb:=fun h=>(ak.1 f).2;have e:t<(c.length:Int):=by omega
 have n3:aM tb.a=3∧isAgg tb.a=true:=⟨rfl,rfl⟩;have o:IntKind.i64.wrap 1=1:=rfl;have j:tb.af.map fE.kind=tb.ac:=rfl;simp only[AI,JE,j]at i;have loop:=cX (base:=2) (clr:=[5,6,10,11,12,13,14]) (b:=K0)
  (fun k=>⟨AI c (.aa a [ap t]) (if k=0 then [] else tb.ac) k am am am am am,JE c (if k=0 then [] else tb.ac)⟩) 1
  (.ext 0,⟨(AI c (.aa a [ap t]) tb.ac 1 am (aC false) am am am),JE c tb.ac⟩)
  (fun k p=>by
   obtain rfl:k=0:=by omega
   simp at i;simp[AI,JE,K0,m,l,f,d,e,n3,cN.a,i,o,bR,bA,cr,dH])
  (by simp[K0])
 rw[aS apz rfl];simp[AI,JE]at loop;have g:List.take tb.ac.length (tb.ac.map (aq.int .i64))=tb.ac.map (aq.int .i64):=ay (by simp);simp[auS,aob,loop,g]
theorem Q8(c:List cN)(t:Int)(b:Bool):bw I.qp [ap t,.cptr b (nB c) 0]=some (aC (decide (t<0) ||decide ((c.length:Int)≤t))):=by
 rw[aS ap3 rfl];cases b<;>simp[auB,al8]<;>(repeat' (split<;>(try simp_all)))<;>omega
theorem V2(c:List cN)(i:bw I.qbb [nB c]=some (ap 0))(k:∀tb∈c,tb.af.length≤8000)(t:Int)(e:Bool) :
  bw I.qo [nB c,.aa e [ap t]]=some (if 0≤t∧t<c.length then fb [.aa false (cT ((c[t.toNat]?.map cN.ac).getD [])),ap 0] else fb [.aa false [],ap 4]):=by
 rw[aS ao4 rfl]
 have a:=rc (enc:=.int .i64) (b:=e) (l:=[t]) (f:=snap [aB 1 0 [nB c]] (.fn I.qp [] [aI 0 0 0 0])) (p:=fun t=>decide (t<0) ||decide ((c.length:Int)≤t)) (by simp;unfold bC;omega) (fun _=>⟨rfl,rfl⟩) (fun σ=>pI _ _ _) (fun c _=>by
  simp[Q8])
 simp only[iz,List.any_nil,oB]at a;by_cases h:0≤t∧t<c.length
 ·have d:t.toNat < c.length:=by omega
  have j:c[t.toNat]?=some c[t.toNat]:=au d;have m:=aJ d;have o:∀h:t.toNat < c.length,c[t.toNat]'h=c[t.toNat]'d:=fun _=>rfl;have n:=ado c t c[t.toNat] h.1 j (k _ m) e;generalize c[t.toNat]=tb at *;have g:(decide (t<0) ||decide ((c.length:Int)≤t))=false:=by simp;omega
  rw[g]at a;simp at a;rw[if_pos h,j];simp[asR,ail,i,a,n]
 have g:(decide (t<0) ||decide ((c.length:Int)≤t))=true:=by simp;omega
 rw[g]at a;simp at a;rw[if_neg h];simp[asR,ail,i,a]
structure JX where
 left:Bool
 on:List EN
def JX.a(j:JX):aq:=aH [aC j.left,.aa false (j.on.map EN.a)]
instance:Nc JX.a 2 true:=⟨fun _=>rfl,fun _=>rfl⟩
instance:Fx JX.a:=⟨fun fl top base σ n y=>by simp[JX.a]⟩
structure tH where
 tables:List Int
 joins:List JX
 whr:List EN
 having:List EN
 grouped:Bool
 distinct:Bool
 keys:List Int
 ah:List lf
 items:List Al
def tH.c(s:tH):List aq:=[.aa false (s.tables.map (.int .i64)),.aa false (s.joins.map JX.a),.aa false (s.whr.map EN.a),.aa false (s.having.map EN.a),aC s.grouped,aC s.distinct,.aa false (s.keys.map (.int .i64)),.aa false (s.ah.map vw),.aa false (s.items.map xM)]
def tH.a(s:tH):aq:=aH s.c
instance:Nc tH.a 9 true:=⟨fun _=>rfl,fun _=>rfl⟩
instance:Fx tH.a:=⟨fun fl top base σ n y=>by simp[tH.a,tH.c]⟩
abbrev Bt(o:Option (List cL)):aq:=.aa false ((o.getD []).map cL.a)
abbrev MI(cv f0 f1 f2 f3 f4 f5 f6 f7 f8 tv:aq)(bad:Bool):aq:=aH [cv,f0,f1,f2,f3,f4,f5,f6,f7,f8,tv,aC bad]
theorem Bx(id:Nat)(cv c d f g i j k l m n t:aq)(bad:Bool)(e:Int)(σ:aw)(h:σ[id]?=some (aB 12 0 [MI cv c d f g i j k l m n bad]))(v:aM t=1) :
  cC code I.qep [aI id 0 0 0,aH [t],ap e] σ=some (fb [],(σ.set id (aB 12 0 [MI cv c d f g i j k l m t (bad ||e != 0)]))++[aB 1 0 [aH [t]]]):=by
 rw[cw alX rfl];have a:=(ak.1 h).1;have p:∀X,(σ++[X])[id]?=some (aB 12 0 [MI cv c d f g i j k l m n bad]):=fun X=>by rw[aU a,h]
 have q:∀X t,(σ.set id X++t)[id]?=some X:=fun X t=>by rw[aU (by simpa using a)];simp[a]
 have r:∀X Y,(σ++[X]).set id Y=σ.set id Y++[X]:=fun X Y=>by rw[cF _ _ a]
 have s:∀X Y Z,(σ.set id X++[Z]).set id Y=σ.set id Y++[Z]:=fun X Y Z=>by rw[cF _ _ (by simpa using a),ew]
 have o:id<σ.length+1:=by omega
 have u:∀h,σ[id]'h=aB 12 0 [MI cv c d f g i j k l m n bad]:=fun _=>(ak.1 h).2;cases bad<;>cases he:(e==0)<;>have b:(e != 0)=!(e==0):=rfl<;>rw[he]at b<;>simp[aug,aeL,v,h,u,p,q,r,s,a,o,he,b]
theorem IU:lookF []=none:=by unfold lookF;rw[if_pos (.inl (by simp))]
theorem JZ(n:cL)(b:Bool)(a:List yg):iw n (⟨b,[]⟩::a)=none:=by
 unfold iw;have:dA oZ (⟨b,[]⟩::a) 0 ([],-1,-1)=.inr ():=by rw[dA];unfold oZ;rw[IU];rfl
 rw[this]
theorem Wk(n:cL)(t:yg)(b:Bool):iw n [t,⟨b,[]⟩]=none:=by
 unfold iw;have:dA oZ [t,⟨b,[]⟩] 0 ([],-1,-1)=.inr ():=by
  rw[dA];cases oZ 0 t ([],-1,-1) with
  |inr _=>rfl
  |inl s=>simp only;rw[dA];unfold oZ;rw[IU];rfl
 rw[this]
def dY(n:cL)(o:Option (List cL)):Option (List cL):=o.bind fun t=>iw n [⟨false,t⟩]
def kX(n:cL)(o x:Option (List cL)):Option (List cL):=o.bind fun t=>x.bind fun u=>iw n [⟨false,t⟩,⟨false,u⟩]
theorem Oz(n:cL)(o:Option (List cL)):iw n [⟨false,o.getD []⟩]=dY n o:=by
 cases o with
 |none=>exact JZ n false []
 |some t=>rfl
theorem Pe(n:cL)(o x:Option (List cL)):iw n [⟨false,o.getD []⟩,⟨false,x.getD []⟩]=kX n o x:=by
 cases o with
 |none=>exact JZ n false _
 |some t=>
  cases x with
  |none=>exact Wk n _ false
  |some u=>rfl
def mQ(o:Option (List cL)):Prop:=LQ ⟨false,o.getD []⟩
theorem rZ:mQ none:=⟨fun n h=>by simp at h,fun n h=>by simp at h,by simp⟩
theorem Hf{n:cL}(d:mS n)(c:NS n){a:List yg}(e:a.length≤100)(b:∀t∈a,LQ t):mQ (iw n a):=by
 have h:=R3 d.fl c e b;cases hl:iw n a with
 |none=>exact rZ
 |some w=>exact h w hl
theorem mI{n:cL}(b:mS n)(a:NS n){o:Option (List cL)}(h:mQ o):mQ (dY n o):=by
 rw[←Oz];exact Hf b a (by simp) fun t c=>by rw[aP.1 c];exact h
theorem Kg{n:cL}(c:mS n)(b:NS n){o x:Option (List cL)}(h:mQ o)(d:mQ x):mQ (kX n o x):=by
 rw[←Pe]
 exact Hf c b (by simp) fun t a=>by
  rcases dW.1 a with rfl|a
  ·exact h
  rw[aP.1 a];exact d
theorem Y9(x:Option (List cL)):(false ||(if x.isSome then (0:Int) else 230) != 0)=x.isNone:=by cases x<;>rfl
theorem HS(id:Nat)(cv a b c d e f g i j N:aq)(n l:cL)(o:Option (List cL))(σ:aw)(h:σ[id]?=some (aB 12 0 [MI cv a b c d e f g i j (Bt o) o.isNone]))
  (w:∀σ,fz true false 0 σ 20 N=l.a) (y:aM N=12∧isAgg N=true) (A:nz l) (C:ub l) (z:∀u,iw l u=iw n u) (x:mQ o) :
  cC code I.qel [aI id 0 0 0,N,.ai] σ=some (fb [],(σ.set id (aB 12 0 [MI cv a b c d e f g i j (Bt (dY n o)) (dY n o).isNone]))++[aB 12 0 [N],aB 1 0 [aH [Bt (dY n o)]]]):=by
 rw[cw afD rfl];have p:=(ak.1 h).1;have r:∀X,(σ++[X])[id]?=some (aB 12 0 [MI cv a b c d e f g i j (Bt o) o.isNone]):=fun X=>by rw[aU p,h]
 have B:∀h,σ[id]'h=aB 12 0 [MI cv a b c d e f g i j (Bt o) o.isNone]:=fun _=>(ak.1 h).2;have v:∀X Y,(σ++[X]).set id Y=σ.set id Y++[X]:=fun X Y=>by rw[cF _ _ p]
 have m:=aof l A C ⟨false,o.getD []⟩ x.ok;rw[z,Oz]at m;have k:(o.isNone ||(if (dY n o).isSome then (0:Int) else 230) != 0)=(dY n o).isNone:=by
  cases o with
  |none=>rfl
  |some t=>exact Y9 _
 have s:=Bx id cv a b c d e f g i j (Bt o) (Bt (dY n o)) o.isNone (if (dY n o).isSome then 0 else 230) (σ++[aB 12 0 [N]]) (r _) rfl;rw[k,v]at s;have q:(yg.a ⟨false,o.getD []⟩)=aH [Bt o]:=rfl;unfold Pc at m;rw[q]at m;generalize dY n o=o' at *;simp only[Bt]at *;generalize (o.getD []).map cL.a=F at *;generalize o.isNone=bad at *;generalize (o'.getD []).map cL.a=D at *;generalize (if o'.isSome then (0:Int) else 230)=E at *;simp[asn,XH,y,p,B,r,w,m,s]
theorem Ec(id:Nat)(cv a b c d e f g i j N:aq)(n:cL)(o:Option (List cL))(σ:aw)(h:σ[id]?=some (aB 12 0 [MI cv a b c d e f g i j (Bt o) o.isNone]))
  (k:∀σ,fz true false 0 σ 20 N=n.a) (m:aM N=12∧isAgg N=true) (q:mS n) (p:NS n) (l:mQ o) :
  cC code I.qel [aI id 0 0 0,N,.ai] σ=some (fb [],(σ.set id (aB 12 0 [MI cv a b c d e f g i j (Bt (dY n o)) (dY n o).isNone]))++[aB 12 0 [N],aB 1 0 [aH [Bt (dY n o)]]]):=
 HS id cv a b c d e f g i j N n n o σ h k m q.fl p.fit (fun _=>rfl) l
theorem GY(id:Nat)(cv a b c d e f g i j N:aq)(n:cL)(o x:Option (List cL))(σ:aw)(h:σ[id]?=some (aB 12 0 [MI cv a b c d e f g i j (Bt o) (o.isNone ||x.isNone)]))
  (z:∀σ,fz true false 0 σ 20 N=n.a) (C:aM N=12∧isAgg N=true) (v:mS n) (H:NS n) (A:mQ o) (B:mQ x) :
  cC code I.qel [aI id 0 0 0,N,.lst [aH [Bt x]]] σ=some (fb [],(σ.set id (aB 12 0 [MI cv a b c d e f g i j (Bt (kX n o x)) (kX n o x).isNone]))++[aB 12 0 [N],aB 1 0 [aH [Bt (kX n o x)]]]):=by
 rw[cw afD rfl];have p:=(ak.1 h).1;have s:∀X,(σ++[X])[id]?=some (aB 12 0 [MI cv a b c d e f g i j (Bt o) (o.isNone ||x.isNone)]):=fun X=>by rw[aU p,h]
 have E:∀h,σ[id]'h=aB 12 0 [MI cv a b c d e f g i j (Bt o) (o.isNone ||x.isNone)]:=fun _=>(ak.1 h).2;have y:∀X Y,(σ++[X]).set id Y=σ.set id Y++[X]:=fun X Y=>by rw[cF _ _ p]
 have l:=aos n v.fl v.fit ⟨false,o.getD []⟩ ⟨false,x.getD []⟩ A.ok B.ok;rw[Pe]at l;have k:((o.isNone ||x.isNone) ||(if (kX n o x).isSome then (0:Int) else 230) != 0)=(kX n o x).isNone:=by
  cases o with
  |none=>rfl
  |some t=>
   cases x with
   |none=>rfl
   |some u=>exact Y9 _
 have w:=Bx id cv a b c d e f g i j (Bt o) (Bt (kX n o x)) (o.isNone ||x.isNone) (if (kX n o x).isSome then 0 else 230) (σ++[aB 12 0 [N]]) (s _) rfl;rw[k,y]at w;have q:(yg.a ⟨false,o.getD []⟩)=aH [Bt o]:=rfl;have r:(yg.a ⟨false,x.getD []⟩)=aH [Bt x]:=rfl;have D:∀σ m,fz true false 0 σ (m+3) (aH [Bt x])=aH [Bt x]:=fun σ m=>by simp
 unfold Pc at l;rw[q,r]at l;generalize kX n o x=o' at *;simp only[Bt]at *;generalize (o.getD []).map cL.a=J at *;generalize (x.getD []).map cL.a=K at *;generalize (o.isNone ||x.isNone)=bad at *;generalize (o'.getD []).map cL.a=F at *;generalize (if o'.isSome then (0:Int) else 230)=G at *;simp[asn,XH,C,p,E,s,z,l,w]
def dz:cL:=⟨0,0,0,0,false,[],false,false,[],false,[],false,[],false,[],false,[],0⟩
def kg(t:Int)(ks:List Int):cL:={ dz with op:=1,tab:=t,ac:=ks }
def kf(j:JX):cL:={ dz with op:=2,left:=j.left,cond:=j.on }
def rk(e:List EN):cL:={ dz with op:=3,cond:=e }
def jk(ks:List Int)(gs:List lf):cL:={ dz with op:=4,keys:=ks,ah:=gs }
def mz(es:List Al):cL:={ dz with op:=5,items:=es }
def vS:cL:={ dz with op:=6 }
def rt:cL:={ dz with op:=7 }
def jm(o:List (Int×Bool))(l:Int):cL:={ dz with op:=8,ords:=o,limit:=l }
structure Qa (s:tH):Prop where
 tl:s.tables.length≤8000
 jl:s.joins.length≤8000
 ons:∀j∈s.joins,j.on.length≤uP
 whr:s.whr.length≤uP
 having:s.having.length≤uP
 keys:s.keys.length≤8000
 ah:s.ah.length≤8000
 items:s.items.length≤8000
 args:∀g∈s.ah,g.arg.length≤uP
 exprs:∀e∈s.items,e.l.length≤uP
 agb:∀g∈s.ah,g.b=false
 exb:∀e∈s.items,e.b=false
theorem yW{n:cL}(f:nz n)(j:n.bk=false)(l:n.bc=false)(m:n.by'=false)(o:n.bg=false)(p:n.bi=false)(q:n.bo=false)
  (k:n.ac.length≤8000) (c:n.cond.length≤uP) (h:n.keys.length≤8000) (b:n.ah.length≤8000) (i:∀g∈n.ah,g.arg.length≤uP) (it:n.items.length≤8000) (ex:∀e∈n.items,e.l.length≤uP) (r:n.ords.length≤8000):mS n∧NS n:=by
 have a:8000≤uP:=by decide
 have d:ub n:=⟨bH k a,c,bH h a,bH b a,i,bH it a,ex,bH r a⟩;refine⟨⟨f,d,?_⟩,⟨d,h,b,it⟩⟩;unfold cL.a tI;rw[j,l,m,o,p,q,f.ags,f.exs]
theorem Iq(t:Int){ks:List Int}(h:ks.length≤8000):mS (kg t ks)∧NS (kg t ks):=yW ⟨by simp[kg,dz],by simp[kg,dz]⟩ rfl rfl rfl rfl rfl rfl h (by simp[kg,dz]) (by simp[kg,dz]) (by simp[kg,dz]) (by simp[kg,dz]) (by simp[kg,dz]) (by simp[kg,dz]) (by simp[kg,dz])
theorem G3{j:JX}(h:j.on.length≤uP):mS (kf j)∧NS (kf j):=yW ⟨by simp[kf,dz],by simp[kf,dz]⟩ rfl rfl rfl rfl rfl rfl (by simp[kf,dz]) h (by simp[kf,dz]) (by simp[kf,dz]) (by simp[kf,dz]) (by simp[kf,dz]) (by simp[kf,dz]) (by simp[kf,dz])
theorem Dc{e:List EN}(h:e.length≤uP):mS (rk e)∧NS (rk e):=yW ⟨by simp[rk,dz],by simp[rk,dz]⟩ rfl rfl rfl rfl rfl rfl (by simp[rk,dz]) h (by simp[rk,dz]) (by simp[rk,dz]) (by simp[rk,dz]) (by simp[rk,dz]) (by simp[rk,dz]) (by simp[rk,dz])
theorem Ms{ks:List Int}{gs:List lf}(a:ks.length≤8000)(b:gs.length≤8000)(c:∀g∈gs,g.arg.length≤uP)(d:∀g∈gs,g.b=false):mS (jk ks gs)∧NS (jk ks gs):=
 yW ⟨d,by simp[jk,dz]⟩ rfl rfl rfl rfl rfl rfl (by simp[jk,dz]) (by simp[jk,dz]) a b c (by simp[jk,dz]) (by simp[jk,dz]) (by simp[jk,dz])
theorem Ik{es:List Al}(a:es.length≤8000)(b:∀e∈es,e.l.length≤uP)(c:∀e∈es,e.b=false):mS (mz es)∧NS (mz es):=
 yW ⟨by simp[mz,dz],c⟩ rfl rfl rfl rfl rfl rfl (by simp[mz,dz]) (by simp[mz,dz]) (by simp[mz,dz]) (by simp[mz,dz]) (by simp[mz,dz]) a b (by simp[mz,dz])
theorem Aq:mS vS∧NS vS:=yW ⟨by simp[vS,dz],by simp[vS,dz]⟩ rfl rfl rfl rfl rfl rfl (by simp[vS,dz]) (by simp[vS,dz]) (by simp[vS,dz]) (by simp[vS,dz]) (by simp[vS,dz]) (by simp[vS,dz]) (by simp[vS,dz]) (by simp[vS,dz])
theorem zI:mS rt∧NS rt:=yW ⟨by simp[rt,dz],by simp[rt,dz]⟩ rfl rfl rfl rfl rfl rfl (by simp[rt,dz]) (by simp[rt,dz]) (by simp[rt,dz]) (by simp[rt,dz]) (by simp[rt,dz]) (by simp[rt,dz]) (by simp[rt,dz]) (by simp[rt,dz])
theorem Np{o:List (Int×Bool)}(l:Int)(h:o.length≤8000):mS (jm o l)∧NS (jm o l):=yW ⟨by simp[jm,dz],by simp[jm,dz]⟩ rfl rfl rfl rfl rfl rfl (by simp[jm,dz]) (by simp[jm,dz]) (by simp[jm,dz]) (by simp[jm,dz]) (by simp[jm,dz]) (by simp[jm,dz]) (by simp[jm,dz]) h
structure AC (c:List cN):Prop where
 chk:bw I.qbb [nB c]=some (ap 0)
 af:∀tb∈c,tb.af.length≤8000
def jz(c:List cN)(t:Int):Option (List cL):=if 0≤t∧t<c.length then iw (kg t ((c[t.toNat]?.map cN.ac).getD [])) [] else none
theorem Ks{c:List cN}(h:∀tb∈c,tb.af.length≤8000)(t:Nat):((c[t]?.map cN.ac).getD []).length≤8000:=by
 cases hy:c[t]? with
 |none=>simp
 |some tb=>simpa [cN.ac] using h tb (aN hy)
theorem DM{c:List cN}(h:∀tb∈c,tb.af.length≤8000)(t:Int):mQ (jz c t):=by
 unfold jz;split
 ·have:=Iq t (Ks h t.toNat);exact Hf this.1 this.2 (by simp) (fun t h=>by simp at h)
 exact rZ
def Hh(c:List cN)(t:Int):Int:=if 0≤t∧t<c.length then (if (jz c t).isSome then 0 else 230) else 4
theorem OW(c:List cN)(t:Int):(Hh c t != 0)=(jz c t).isNone:=by
 unfold Hh jz;split
 ·cases iw (kg t ((c[t.toNat]?.map cN.ac).getD [])) []<;>rfl
 rfl
abbrev bS(c:List cN)(s:tH)(tv:aq)(bad:Bool):aq:=MI (.aa false (c.map cN.a)) (.aa false (s.tables.map (.int .i64))) (.aa false (s.joins.map JX.a)) (.aa false (s.whr.map EN.a)) (.aa false (s.having.map EN.a)) (aC s.grouped) (aC s.distinct) (.aa false (s.keys.map (.int .i64))) (.aa false (s.ah.map vw)) (.aa false (s.items.map xM)) tv bad
theorem YT(c:List cN)(e:AC c)(s:tH)(xs:List aq)(bad b:Bool)(t:Int):bw I.qeo [.cptr b (bS c s (.aa false xs) bad) 0,ap t]=some (fb [aH [Bt (jz c t)],ap (Hh c t)]):=by
 rw[aS akg rfl];have a:=V2 c e.chk e.af t true;have g:=Iq t (Ks e.af t.toNat);unfold Hh jz;by_cases h:0≤t∧t<c.length
 ·have d:=ahS _ g.1.fl g.1.fit;simp only[if_pos h]at a ⊢;unfold Pc at d;generalize ((c[t.toNat]?.map cN.ac).getD [])=ks at *;generalize iw (kg t ks) []=o at *;have f:(kg t ks).a=aH [ap 1,ap 0,ap 0,ap t,.aa false (cT ks),aC false,.aa false [],.aa false [],.aa false [],.aa false [],.aa false [],ap 0]:=rfl;rw[f]at d;simp only[Bt]at *;generalize (if o.isSome then (0:Int) else 230)=i at *;cases b<;>simp[asD,aax,a,d]
 simp only[if_neg h]at a ⊢;cases b<;>simp[asD,aax,a]
abbrev uR(c:List cN)(s:tH)(tv:aq)(bad:Bool):aw:=[aB 1 0 [nB c],aB 9 0 [s.a],aB 1 0 [aH [.ai]],aB 12 0 [bS c s tv bad]]
abbrev CF(s:tH)(k:Nat):List aq:=[aI 3 0 0 0,.aa false (s.tables.map (.int .i64)),am,am,am,am,aC false,.aa false (s.joins.map JX.a),ap s.joins.length,ap k,am]
theorem NW(c:List cN)(y:AC c)(s:tH)(r:Qa s)(I:s.joins.length+1=s.tables.length)(w:List aq)(k:Nat)(j:JX)(t:Int)(o:Option (List cL))(B:k<s.joins.length)(a:s.joins[k]?=some j)(l:s.tables[k+1]?=some t)(A:mQ o) :
  dg 5 [2,3,4,5,10] vk (run code vk ⟨CF s k,uR c s (Bt o) o.isNone++[aB 1 0 [aH [.aa false w]]]⟩) =
   bU code 5 [2,3,4,5,10] vk ⟨CF s (k+1),uR c s (Bt (kX (kf j) o (jz c t))) (kX (kf j) o (jz c t)).isNone++[aB 1 0 [aH [.aa false w]]]⟩:=by
 have u:=YT c y s ((o.getD []).map cL.a) o.isNone true t;have e:=G3 (r.ons j (aN a));have b:=GY 3 (.aa false (c.map cN.a)) (.aa false (s.tables.map (.int .i64))) (.aa false (s.joins.map JX.a)) (.aa false (s.whr.map EN.a)) (.aa false (s.having.map EN.a)) (aC s.grouped) (aC s.distinct) (.aa false (s.keys.map (.int .i64))) (.aa false (s.ah.map vw)) (.aa false (s.items.map xM))
  (aH [ap 2,ap 0,ap 0,ap 0,.ai,aC j.left,.aa false (j.on.map EN.a),.ai,.ai,.ai,.ai,ap 0]) (kf j) o (jz c t)
  (uR c s (Bt o) (o.isNone ||(jz c t).isNone)++[aB 1 0 [aH [.aa false w]],aB 2 0 [j.a],aB 1 0 [aH [Bt (jz c t)]]]) rfl
  (fun σ=>by
   have:(kf j).a=aH [ap 2,ap 0,ap 0,ap 0,.aa false [],aC j.left,.aa false (j.on.map EN.a),.aa false [],.aa false [],.aa false [],.aa false [],ap 0]:=rfl;rw[this];simp) ⟨rfl,rfl⟩ e.1 e.2 A (DM y.af t)
 have v:=OW c t;have z:k+1<s.tables.length:=by omega
 have n:((k:Int)+1)<(s.tables.length:Int):=by omega
 have q:∀h:k+1<s.tables.length,s.tables[k+1]'h=t:=fun h=>(ak.1 l).2;have p:∀h:k<s.joins.length,s.joins[k]'h=j:=fun h=>(ak.1 a).2;have F:IntKind.i64.wrap ((k:Int)+1)=(k:Int)+1:=qL (by have:=r.jl;omega) (by have:=r.jl;omega);have C:((k:Int)+1).toNat=k+1:=by omega
 have D:(0:Int)≤(k:Int)+1:=by omega
 have d:j.a=aH [aC j.left,.aa false (j.on.map EN.a)]:=rfl;have f:s.a=aH s.c:=rfl;have g:s.c.length=9:=rfl;have i:∀fl top base σ m,(s.c.map (fz fl top base σ (m+2)))=s.c:=fun fl top base σ m=>by simp[tH.c]
 simp only[uR,Bt,bY,bX,List.set]at *;rw[d,f]at b;rw[f];generalize kX (kf j) o (jz c t)=o' at *;generalize Hh c t=H at *;generalize (jz c t).isNone=G at *;generalize ((jz c t).getD []).map cL.a=K at *;generalize (o.getD []).map cL.a=J at *;generalize (o'.getD []).map cL.a=E at *;generalize o.isNone=bad at *;generalize o'.isNone=x at *;generalize s.c=sc at *;cases bad<;>cases G<;>simp only[Bool.or_self,Bool.or_true,Bool.true_or,oB,jE]at b<;>simp[vk,CF,B,a,p,d,z,n,l,q,C,D,F,u,v,b,g,i,bR,bA,cr,dH]
def pR(c:List cN)(s:tH):Option (List cL):=
 if s.tables.length<1∨3<s.tables.length∨s.joins.length+1≠s.tables.length then none
 else (s.joins.zip s.tables.tail).foldl (fun o p=>kX (kf p.1) o (jz c p.2)) (jz c (s.tables.headD 0))
theorem QQ(c:List cN)(l:AC c)(s:tH)(m:Qa s)(n:s.joins.length+1=s.tables.length)(e:List aq)(o:Option (List cL))(f:mQ o) :
  bU code 5 [2,3,4,5,10] vk ⟨CF s 0,uR c s (Bt o) o.isNone++[aB 1 0 [aH [.aa false e]]]⟩ =
   some (.ext 0,⟨(CF s s.joins.length).set 10 (aC false),uR c s (Bt ((s.joins.zip s.tables.tail).foldl (fun o p=>kX (kf p.1) o (jz c p.2)) o)) ((s.joins.zip s.tables.tail).foldl (fun o p=>kX (kf p.1) o (jz c p.2)) o).isNone++[aB 1 0 [aH [.aa false e]]]⟩) ∧
  mQ ((s.joins.zip s.tables.tail).foldl (fun o p=>kX (kf p.1) o (jz c p.2)) o):=by
 have d:(s.joins.zip s.tables.tail).length=s.joins.length:=by simp;omega
 have key:=gB (base:=5) (clr:=[2,3,4,5,10]) (b:=vk) (s.joins.zip s.tables.tail) (fun k o=>⟨CF s k,uR c s (Bt o) o.isNone++[aB 1 0 [aH [.aa false e]]]⟩) (fun _ o=>mQ o)
  (fun o p=>kX (kf p.1) o (jz c p.2)) (fun o=>(.ext 0,⟨(CF s s.joins.length).set 10 (aC false),uR c s (Bt o) o.isNone++[aB 1 0 [aH [.aa false e]]]⟩))
  (fun k p o r q f=>by
   obtain⟨j,t⟩:=p;have g:k<s.joins.length:=by omega
   obtain⟨h,i⟩:=eT.1 q;rw[List.getElem?_tail]at i;have a:=G3 (m.ons j (aN h));exact⟨NW c l s m n e k j t o g h i f,Kg a.1 a.2 f (DM l.af t)⟩)
  (fun o _=>by
   rw[d];simp[CF,uR,vk]) o f
 exact key
theorem Qv(c:List cN)(k:AC c)(s:tH)(v:Qa s) :
  mQ (pR c s)∧∃w J,cC code I.qen [aI 3 0 0 0] (uR c s .ai false)=some (fb [],uR c s w (pR c s).isNone++J)∧((pR c s).isSome→w=Bt (pR c s)):=by
 have x:IntKind.i64.wrap ((s.tables.length:Int)-1)=(s.tables.length:Int)-1:=qL (by omega) (by have:=v.tl;omega);by_cases h:s.tables.length<1∨3<s.tables.length∨s.joins.length+1≠s.tables.length
 ·have q:pR c s=none:=by unfold pR;rw[if_pos h]
  rw[q];refine⟨rZ,.ai,[],?_,fun h=>by cases h⟩;rw[cw afN rfl];by_cases C:s.tables.length<1
  ·have a:(s.tables.length:Int)<1:=by omega
   simp[arY,NB,a]
  have a:¬(s.tables.length:Int)<1:=by omega
  by_cases D:3<s.tables.length
  ·have b:(3:Int)<(s.tables.length:Int):=by omega
   simp[arY,NB,a,b]
  have b:¬(3:Int)<(s.tables.length:Int):=by omega
  have j:((s.joins.length:Int) != (s.tables.length:Int)-1)=true:=by simp;omega
  simp[arY,NB,a,b,j,x]
 have a:¬(s.tables.length:Int)<1:=by omega
 have b:¬(3:Int)<(s.tables.length:Int):=by omega
 have j:((s.joins.length:Int) != (s.tables.length:Int)-1)=false:=by simp;omega
 have q:pR c s=(s.joins.zip s.tables.tail).foldl (fun o p=>kX (kf p.1) o (jz c p.2)) (jz c (s.tables.headD 0)):=by unfold pR;rw[if_neg h]
 have z:=DM k.af (s.tables.headD 0);obtain⟨loop,e⟩:=QQ c k s v (by omega) (((jz c (s.tables.headD 0)).getD []).map cL.a) (jz c (s.tables.headD 0)) z;rw[←q]at loop e;refine⟨e,Bt (pR c s),[aB 1 0 [aH [Bt (jz c (s.tables.headD 0))]]],?_,fun _=>rfl⟩;have f:=YT c k s [] false true (s.tables.headD 0);have r:=OW c (s.tables.headD 0);have d:=Bx 3 (.aa false (c.map cN.a)) (.aa false (s.tables.map (.int .i64))) (.aa false (s.joins.map JX.a)) (.aa false (s.whr.map EN.a)) (.aa false (s.having.map EN.a)) (aC s.grouped) (aC s.distinct) (.aa false (s.keys.map (.int .i64))) (.aa false (s.ah.map vw)) (.aa false (s.items.map xM)) .ai
  (Bt (jz c (s.tables.headD 0))) false (Hh c (s.tables.headD 0)) (uR c s .ai false) rfl rfl
 rw[r]at d;obtain⟨t,i,g⟩:∃t i,s.tables=t::i:=by
  cases g:s.tables with
  |nil=>rw[g]at h;simp at h
  |cons t i=>exact⟨t,i,rfl⟩
 have n:s.tables.headD 0=t:=by rw[g];rfl
 have y:0<s.tables.length:=by omega
 have l:∀h:0<s.tables.length,s.tables[0]'h=t:=fun h=>by simp[g]
 have m:s.tables[0]?=some t:=by simp[g]
 simp only[n]at f d loop ⊢;simp only[uR,Bt,bY,bX,List.set,jE,CF,bd]at *;rw[cw afN rfl];generalize pR c s=o' at *;generalize Hh c t=B at *;generalize (jz c t).isNone=E at *;generalize ((jz c t).getD []).map cL.a=F at *;generalize (o'.getD []).map cL.a=A at *;generalize o'.isNone=u at *;simp[arY,NB,a,b,j,x,y,l,m,f,d,loop]
theorem Ew(id:Nat)(cv b c d e f g i j k N:aq)(n:cL)(o:Option (List cL))(σ:aw)(h:σ[id]?=some (aB 12 0 [MI cv b c d e f g i j k (Bt o) o.isNone]))
  (r:∀σ,fz true false 0 σ 20 N=n.a) (l:aM N=12∧isAgg N=true) (u:mS n) (t:NS n) (s:mQ o) :
  cC code I.qeq [aI id 0 0 0,aC true,N] σ=some (fb [],(σ.set id (aB 12 0 [MI cv b c d e f g i j k (Bt (dY n o)) (dY n o).isNone]))++[aB 12 0 [N],aB 12 0 [N],aB 1 0 [aH [Bt (dY n o)]]]):=by
 rw[cw agR rfl];have m:=(ak.1 h).1;have p:∀X,(σ++[X])[id]?=some (aB 12 0 [MI cv b c d e f g i j k (Bt o) o.isNone]):=fun X=>by rw[aU m,h]
 have q:∀X Y,(σ++[X]).set id Y=σ.set id Y++[X]:=fun X Y=>by rw[cF _ _ m]
 have a:=Ec id cv b c d e f g i j k N n o (σ++[aB 12 0 [N]]) (p _) r l u t s;rw[q]at a;generalize dY n o=o' at *;simp[asz,Xj,l,a]
theorem Bd(p N:aq)(a:aM N=12∧isAgg N=true)(σ:aw):cC code I.qeq [p,aC false,N] σ=some (fb [],σ++[aB 12 0 [N]]):=by
 rw[cw agR rfl];simp[asz,Xj,a]
def yE(s:tH)(o:Option (List cL)):Option (List cL):=if s.whr=[] then o else dY (rk s.whr) o
theorem Z0{s:tH}(b:Qa s){o:Option (List cL)}(a:mQ o):mQ (yE s o):=by
 unfold yE;split
 ·exact a
 have:=Dc b.whr;exact mI this.1 this.2 a
abbrev FN(e:List EN):aq:=aH [ap 3,ap 0,ap 0,ap 0,.ai,aC false,.aa false (e.map EN.a),.ai,.ai,.ai,.ai,ap 0]
theorem S9(e:List EN)(σ:aw):fz true false 0 σ 20 (FN e)=(rk e).a:=by
 have:(rk e).a=aH [ap 3,ap 0,ap 0,ap 0,.aa false [],aC false,.aa false (e.map EN.a),.aa false [],.aa false [],.aa false [],.aa false [],ap 0]:=rfl;rw[this];simp
theorem MG(c:List cN)(s:tH)(g:Qa s)(o:Option (List cL))(f:mQ o) :
  ∃J,cC code I.qej [aI 3 0 0 0] (uR c s (Bt o) o.isNone)=some (fb [],uR c s (Bt (yE s o)) (yE s o).isNone++J):=by
 rw[cw aj3 rfl];unfold yE;by_cases h:s.whr=[]
 ·have d:¬(0:Int)<(s.whr.length:Int):=by rw[h];simp
  rw[if_pos h];exact⟨_,by simp[asN,abo,h,Bd];rfl⟩
 have a:0<s.whr.length:=eV.2 h;have d:(0:Int)<(s.whr.length:Int):=by have:=eV.2 h;omega
 rw[if_neg h];have e:=Dc g.whr;have i:=Ew 3 (.aa false (c.map cN.a)) (.aa false (s.tables.map (.int .i64))) (.aa false (s.joins.map JX.a)) (.aa false (s.whr.map EN.a)) (.aa false (s.having.map EN.a)) (aC s.grouped) (aC s.distinct) (.aa false (s.keys.map (.int .i64))) (.aa false (s.ah.map vw)) (.aa false (s.items.map xM))
  (FN s.whr) (rk s.whr) o (uR c s (Bt o) o.isNone) rfl (S9 s.whr) ⟨rfl,rfl⟩ e.1 e.2 f
 refine⟨[aB 12 0 [FN s.whr],aB 12 0 [FN s.whr],aB 1 0 [aH [Bt (dY (rk s.whr) o)]]],?_⟩;simp only[uR,Bt,bY,bX,List.set]at *;generalize dY (rk s.whr) o=o' at *;generalize (o.getD []).map cL.a=k at *;generalize (o'.getD []).map cL.a=j at *;generalize o.isNone=bad at *;generalize o'.isNone=b at *;simp[asN,abo,d,a,i]
def AH(s:tH)(o:Option (List cL)):Option (List cL):=if s.distinct then dY vS (dY (mz s.items) o) else dY (mz s.items) o
theorem aac{s:tH}(b:Qa s){o:Option (List cL)}(c:mQ o):mQ (AH s o):=by
 have a:=Ik b.items b.exprs b.exb;unfold AH;split
 ·exact mI Aq.1 Aq.2 (mI a.1 a.2 c)
 exact mI a.1 a.2 c
abbrev aiG:aq:=aH [ap 6,ap 0,ap 0,ap 0,.ai,aC false,.ai,.ai,.ai,.ai,.ai,ap 0]
theorem acv(σ:aw):fz true false 0 σ 20 aiG=vS.a:=by
 have:vS.a=aH [ap 6,ap 0,ap 0,ap 0,.aa false [],aC false,.aa false [],.aa false [],.aa false [],.aa false [],.aa false [],ap 0]:=rfl;rw[this];simp
abbrev aaV(es:List Al):aq:=aH [ap 5,ap 0,ap 0,ap 0,.ai,aC false,.ai,.ai,.ai,.aa false (es.map xM),.ai,ap 0]
theorem Ys(es:List Al)(h:∀e∈es,e.b=false)(σ:aw):fz true false 0 σ 20 (aaV es)=(mz es).a:=by
 have a:es.map Al.a=es.map xM:=aT fun e a=>by simp[Al.a,xM,h e a]
 have:(mz es).a=aH [ap 5,ap 0,ap 0,ap 0,.aa false [],aC false,.aa false [],.aa false [],.aa false [],.aa false (es.map Al.a),.aa false [],ap 0]:=rfl;rw[this,a];simp
theorem Jr(c:List cN)(s:tH)(e:Qa s)(o:Option (List cL))(l:mQ o) :
  ∃J,cC code I.qem [aI 3 0 0 0] (uR c s (Bt o) o.isNone)=some (fb [],uR c s (Bt (AH s o)) (AH s o).isNone++J):=by
 rw[cw akp rfl];have d:=Ik e.items e.exprs e.exb;have f:=mI d.1 d.2 l;have a:=Ec 3 (.aa false (c.map cN.a)) (.aa false (s.tables.map (.int .i64))) (.aa false (s.joins.map JX.a)) (.aa false (s.whr.map EN.a)) (.aa false (s.having.map EN.a)) (aC s.grouped) (aC s.distinct) (.aa false (s.keys.map (.int .i64))) (.aa false (s.ah.map vw)) (.aa false (s.items.map xM))
   (aaV s.items) (mz s.items) o (uR c s (Bt o) o.isNone) rfl (Ys s.items e.exb) ⟨rfl,rfl⟩ d.1 d.2 l
 have b:=Ew 3 (.aa false (c.map cN.a)) (.aa false (s.tables.map (.int .i64))) (.aa false (s.joins.map JX.a)) (.aa false (s.whr.map EN.a)) (.aa false (s.having.map EN.a)) (aC s.grouped) (aC s.distinct) (.aa false (s.keys.map (.int .i64))) (.aa false (s.ah.map vw)) (.aa false (s.items.map xM))
   aiG vS (dY (mz s.items) o) (uR c s (Bt (dY (mz s.items) o)) (dY (mz s.items) o).isNone++[aB 12 0 [aaV s.items],aB 1 0 [aH [Bt (dY (mz s.items) o)]]]) rfl acv ⟨rfl,rfl⟩ Aq.1 Aq.2 f
 have i:=fun σ=>Bd (aI 3 0 0 0) aiG ⟨rfl,rfl⟩ σ;unfold AH;simp only[uR,bS,Bt,bY,bX,List.set]at *;generalize dY vS (dY (mz s.items) o)=n at *;generalize dY (mz s.items) o=m at *;generalize (o.getD []).map cL.a=r at *;generalize g:(m.getD []).map cL.a=p at *;generalize o.isNone=bad at *;generalize h:m.isNone=j at *;cases hd:s.distinct with
 |true=>
  rw[hd]at a b;simp only[cz];generalize (n.getD []).map cL.a=q at *;generalize n.isNone=k at *;exact⟨_,by simp[aso,aao,a,b];rfl⟩
 |false=>
  rw[hd]at a;simp only[bq,cH];rw[g,h];exact⟨_,by simp[aso,aao,a,i];rfl⟩
def jQ(s:tH):List lf:=if s.keys.length+s.ah.length=0 then [⟨1,false,[]⟩] else s.ah
def rY(s:tH)(o:Option (List cL)):Option (List cL):=
 if s.grouped then (if s.having=[] then dY (jk s.keys (jQ s)) o else dY (rk s.having) (dY (jk s.keys (jQ s)) o))
 else if 0<s.keys.length+s.ah.length∨s.having≠[] then none else o
theorem aaB{s:tH}(a:Qa s):mS (jk s.keys (jQ s))∧NS (jk s.keys (jQ s)):=by
 unfold jQ;split
 ·exact Ms a.keys (by simp) (fun g b=>by rw[aP.1 b];simp) (fun g b=>by rw[aP.1 b])
 exact Ms a.keys a.ah a.args a.agb
theorem Xq{s:tH}(d:Qa s){o:Option (List cL)}(b:mQ o):mQ (rY s o):=by
 have a:=aaB d;have c:=Dc d.having;unfold rY
 repeat' split
 ·exact mI a.1 a.2 b
 ·exact mI c.1 c.2 (mI a.1 a.2 b)
 ·exact rZ
 exact b
abbrev Mr(ks:List Int)(gs:List lf):aq:=aH [ap 4,ap 0,ap 0,ap 0,.ai,aC false,.ai,.aa false (ks.map (.int .i64)),.aa false (gs.map vw),.ai,.ai,ap 0]
theorem aeq(ks:List Int)(gs:List lf)(h:∀g∈gs,g.b=false)(σ:aw):fz true false 0 σ 20 (Mr ks gs)=(jk ks gs).a:=by
 have a:gs.map lf.a=gs.map vw:=aT fun e a=>by simp[lf.a,vw,h e a]
 have:(jk ks gs).a=aH [ap 4,ap 0,ap 0,ap 0,.aa false [],aC false,.aa false [],.aa false (ks.map (.int .i64)),.aa false (gs.map lf.a),.aa false [],.aa false [],ap 0]:=rfl;rw[this,a];simp
abbrev LW(ks:List Int):aq:=aH [ap 4,ap 0,ap 0,ap 0,.ai,aC false,.ai,.aa false (ks.map (.int .i64)),.lst [aH [ap 1,.ai]],.ai,.ai,ap 0]
def Ay(ks:List Int):cL:={ jk ks [⟨1,false,[]⟩] with bg:=true }
theorem acL(ks:List Int)(σ:aw):fz true false 0 σ 20 (LW ks)=(Ay ks).a:=by
 have:(Ay ks).a=aH [ap 4,ap 0,ap 0,ap 0,.aa false [],aC false,.aa false [],.aa false (ks.map (.int .i64)),.aa true [aH [ap 1,.aa false []]],.aa false [],.aa false [],ap 0]:=rfl;rw[this];simp
theorem Ws(ks:List Int)(a:List yg):iw (Ay ks) a=iw (jk ks [⟨1,false,[]⟩]) a:=rfl
theorem ad2{ks:List Int}(h:ks.length≤8000):nz (Ay ks)∧ub (Ay ks):=by
 have c:8000≤uP:=by decide
 exact⟨⟨fun g a=>by simp[Ay,jk]at a;simp[a],fun e b=>by simp[Ay,jk,dz]at b⟩,⟨by simp[Ay,jk,dz],by simp[Ay,jk,dz],by simp[Ay,jk,dz];omega,by simp[Ay,jk,dz];omega,fun g a=>by simp[Ay,jk]at a;simp[a],by simp[Ay,jk,dz],by simp[Ay,jk,dz],by simp[Ay,jk,dz]⟩⟩
theorem OM(c:List cN)(s:tH)(v:Qa s)(t:List cL)(H:mQ (some t)) :
  ∃m J,cC code I.qek [aI 3 0 0 0] (uR c s (Bt (some t)) false)=some (fb [],uR c s m (rY s (some t)).isNone++J)∧((rY s (some t)).isSome→m=Bt (rY s (some t))):=by
 rw[cw aky rfl];have f:s.a=aH s.c:=rfl;have g:s.c=[.aa false (s.tables.map (.int .i64)),.aa false (s.joins.map JX.a),.aa false (s.whr.map EN.a),.aa false (s.having.map EN.a),aC s.grouped,aC s.distinct,.aa false (s.keys.map (.int .i64)),.aa false (s.ah.map vw),.aa false (s.items.map xM)]:=rfl;have R:=v.keys;have Q:=v.ah;have u:IntKind.i64.wrap ((s.keys.length:Int)+(s.ah.length:Int))=(s.keys.length:Int)+(s.ah.length:Int):=qL (by omega) (by omega);by_cases j:s.grouped=true
 ·have A:=aaB v;have y:=Dc v.having;have D:=mI A.1 A.2 H;refine⟨Bt (rY s (some t)),?_⟩;unfold rY;rw[if_pos j];have k:∀(N:aq) (w:cL) (τ:aw) (G:∀σ,fz true false 0 σ 20 N=w.a) (L:aM N=12∧isAgg N=true) (y:nz w) (O:ub w) (M:∀B,iw w B=iw (jk s.keys (jQ s)) B),cC code I.qel [aI 3 0 0 0,N,.ai] (uR c s (Bt (some t)) false++τ)=some (fb [],uR c s (Bt (dY (jk s.keys (jQ s)) (some t))) (dY (jk s.keys (jQ s)) (some t)).isNone++(τ++[aB 12 0 [N],aB 1 0 [aH [Bt (dY (jk s.keys (jQ s)) (some t))]]])):=fun N w τ G L y O M=>by
   have:=HS 3 (.aa false (c.map cN.a)) (.aa false (s.tables.map (.int .i64))) (.aa false (s.joins.map JX.a)) (.aa false (s.whr.map EN.a)) (.aa false (s.having.map EN.a)) (aC s.grouped) (aC s.distinct) (.aa false (s.keys.map (.int .i64))) (.aa false (s.ah.map vw)) (.aa false (s.items.map xM))
    N (jk s.keys (jQ s)) w (some t) (uR c s (Bt (some t)) false++τ) rfl G L y O M H
   rw[this];simp[uR]
  have i:=fun τ=>Ew 3 (.aa false (c.map cN.a)) (.aa false (s.tables.map (.int .i64))) (.aa false (s.joins.map JX.a)) (.aa false (s.whr.map EN.a)) (.aa false (s.having.map EN.a)) (aC s.grouped) (aC s.distinct) (.aa false (s.keys.map (.int .i64))) (.aa false (s.ah.map vw)) (.aa false (s.items.map xM))
   (FN s.having) (rk s.having) (dY (jk s.keys (jQ s)) (some t)) (uR c s (Bt (dY (jk s.keys (jQ s)) (some t))) (dY (jk s.keys (jQ s)) (some t)).isNone++τ) rfl (S9 s.having) ⟨rfl,rfl⟩ y.1 y.2 D
  have z:=fun σ=>Bd (aI 3 0 0 0) (FN s.having) ⟨rfl,rfl⟩ σ;have l:(s.having=[]∧decide (0<s.having.length)=false)∨(s.having≠[]∧decide (0<s.having.length)=true):=by
   cases s.having<;>simp
  by_cases p:s.keys.length+s.ah.length=0
  ·have K:=ad2 v.keys;have b:=k (LW s.keys) (Ay s.keys) [aB 9 0 [s.a],aB 12 0 [LW s.keys]] (acL s.keys) ⟨rfl,rfl⟩ K.1 K.2
    (fun B=>by unfold jQ;rw[if_pos p];exact Ws s.keys B)
   have a:¬(0:Int)<(s.keys.length:Int)+(s.ah.length:Int):=by omega
   have b:=b;clear k;have x:cellsOf (.lst [aH [ap 1,.ai]])=[.lst [aH [ap 1,.ai]]]:=rfl;rcases l with⟨n,o⟩|⟨n,o⟩
   ·rw[if_pos n];generalize dY (jk s.keys (jQ s)) (some t)=d at *;refine⟨[aB 9 0 [s.a],aB 12 0 [LW s.keys],aB 12 0 [LW s.keys],aB 1 0 [aH [Bt d]],aB 12 0 [FN s.having]],?_,fun _=>rfl⟩;simp only[uR,bS,Bt,bY,bX,List.set]at *;generalize (d.getD []).map cL.a=r at *;generalize ((some t).getD []).map cL.a=m at *;generalize d.isNone=C at *;rw[f,g]at *;simp only[j]at *;simp[arF,Fy,u,a,o,b,x,z]
   rw[if_neg n];have i:=i [aB 9 0 [s.a],aB 12 0 [LW s.keys],aB 12 0 [LW s.keys],aB 1 0 [aH [Bt (dY (jk s.keys (jQ s)) (some t))]]];generalize dY (rk s.having) (dY (jk s.keys (jQ s)) (some t))=q at *;generalize dY (jk s.keys (jQ s)) (some t)=d at *;refine⟨[aB 9 0 [s.a],aB 12 0 [LW s.keys],aB 12 0 [LW s.keys],aB 1 0 [aH [Bt d]],aB 12 0 [FN s.having],aB 12 0 [FN s.having],aB 1 0 [aH [Bt q]]],?_,fun _=>rfl⟩;simp only[uR,bS,Bt,bY,bX,List.set]at *;generalize (d.getD []).map cL.a=r at *;generalize (q.getD []).map cL.a=F at *;generalize ((some t).getD []).map cL.a=m at *;generalize d.isNone=C at *;generalize q.isNone=P at *;rw[f,g]at *;simp only[j]at *;simp[arF,Fy,u,a,o,b,x,i]
  have a:(0:Int)<(s.keys.length:Int)+(s.ah.length:Int):=by omega
  have b:=k (Mr s.keys s.ah) (jk s.keys (jQ s)) [aB 9 0 [s.a],aB 12 0 [Mr s.keys s.ah]] (by
   unfold jQ;rw[if_neg p];exact aeq s.keys s.ah v.agb) ⟨rfl,rfl⟩ A.1.fl A.1.fit (fun _=>rfl)
  clear k;rcases l with⟨n,o⟩|⟨n,o⟩
  ·rw[if_pos n];generalize dY (jk s.keys (jQ s)) (some t)=d at *;refine⟨[aB 9 0 [s.a],aB 12 0 [Mr s.keys s.ah],aB 12 0 [Mr s.keys s.ah],aB 1 0 [aH [Bt d]],aB 12 0 [FN s.having]],?_,fun _=>rfl⟩;simp only[uR,bS,Bt,bY,bX,List.set]at *;generalize (d.getD []).map cL.a=r at *;generalize ((some t).getD []).map cL.a=m at *;generalize d.isNone=C at *;rw[f,g]at *;simp only[j]at *;simp[arF,Fy,u,a,o,b,z]
  rw[if_neg n];have i:=i [aB 9 0 [s.a],aB 12 0 [Mr s.keys s.ah],aB 12 0 [Mr s.keys s.ah],aB 1 0 [aH [Bt (dY (jk s.keys (jQ s)) (some t))]]];generalize dY (rk s.having) (dY (jk s.keys (jQ s)) (some t))=q at *;generalize dY (jk s.keys (jQ s)) (some t)=d at *;refine⟨[aB 9 0 [s.a],aB 12 0 [Mr s.keys s.ah],aB 12 0 [Mr s.keys s.ah],aB 1 0 [aH [Bt d]],aB 12 0 [FN s.having],aB 12 0 [FN s.having],aB 1 0 [aH [Bt q]]],?_,fun _=>rfl⟩;simp only[uR,bS,Bt,bY,bX,List.set]at *;generalize (d.getD []).map cL.a=r at *;generalize (q.getD []).map cL.a=F at *;generalize ((some t).getD []).map cL.a=m at *;generalize d.isNone=C at *;generalize q.isNone=P at *;rw[f,g]at *;simp only[j]at *;simp[arF,Fy,u,a,o,b,i]
 have j:s.grouped=false:=by simpa using j
 unfold rY;rw[if_neg (by rw[j];simp)];by_cases p:0<s.keys.length+s.ah.length∨s.having≠[]
 ·rw[if_pos p];refine⟨Bt (some t),[aB 9 0 [s.a]],?_,fun h=>by cases h⟩;simp only[uR,bS,Bt,bY,bX,List.set]at *;generalize ((some t).getD []).map cL.a=m at *;rw[f,g]at *;simp only[j]at *;by_cases E:0<s.keys.length+s.ah.length
  ·have a:(0:Int)<(s.keys.length:Int)+(s.ah.length:Int):=by omega
   simp[arF,Fy,u,a]
  have a:¬(0:Int)<(s.keys.length:Int)+(s.ah.length:Int):=by omega
  have l:decide (0<s.having.length)=true:=by
   have:=p.resolve_left E;simpa using eV.2 this
  simp[arF,Fy,u,a,l]
 rw[if_neg p];refine⟨Bt (some t),[aB 9 0 [s.a]],?_,fun _=>rfl⟩;have a:¬(0:Int)<(s.keys.length:Int)+(s.ah.length:Int):=by omega
 have l:s.having=[]:=fO fun e=>p (.inr e);have l:decide (0<s.having.length)=false:=by rw[l];rfl
 simp only[uR,bS,Bt,bY,bX,List.set]at *;generalize ((some t).getD []).map cL.a=m at *;rw[f,g]at *;simp only[j]at *;simp[arF,Fy,u,a,l]
def sK(c:List cN)(s:tH):Option (List cL):=AH s (rY s (yE s (pR c s)))
abbrev xT(c:List cN)(s:tH)(k:Nat):List aq:=[nB c,s.a,aI 0 0 0 0,aI 1 0 0 0,aI 2 0 0 0,am,aI 3 0 0 0,am,aH [.fn I.qen [aI 3 0 0 0] [],.fn I.qej [aI 3 0 0 0] [],.fn I.qek [aI 3 0 0 0] [],.fn I.qem [aI 3 0 0 0] []],ap k,am,am]
theorem zM(c:List cN)(s:tH)(k f:Nat)(j:(k=0∧f=I.qen)∨(k=1∧f=I.qej)∨(k=2∧f=I.qek)∨(k=3∧f=I.qem))(i d:aq)(b:Bool)(J:aw)
  (a:cC code f [aI 3 0 0 0] (uR c s i false)=some (fb [],uR c s d b++J)) :
  (b=true→∃q,bU code 4 [5,7,10,11] tG ⟨xT c s k,uR c s i false⟩=some (.ret,q)∧q.st[2]?=some (aB 1 0 [aH [.ai]])∧q.env[4]?=some (aI 2 0 0 0)∧q.env[5]?=some (ap 240)) ∧
  (b=false→(∀base σ m,fz false true base σ (m+3) d=d)→bU code 4 [5,7,10,11] tG ⟨xT c s k,uR c s i false⟩=bU code 4 [5,7,10,11] tG ⟨xT c s (k+1),uR c s d false⟩):=by
 have e:s.a=aH s.c:=rfl;have g:s.c=[.aa false (s.tables.map (.int .i64)),.aa false (s.joins.map JX.a),.aa false (s.whr.map EN.a),.aa false (s.having.map EN.a),aC s.grouped,aC s.distinct,.aa false (s.keys.map (.int .i64)),.aa false (s.ah.map vw),.aa false (s.items.map xM)]:=rfl;have n:IntKind.i64.wrap 1=1:=rfl;have o:IntKind.i64.wrap 2=2:=rfl;have p:IntKind.i64.wrap 3=3:=rfl;have r:IntKind.i64.wrap 4=4:=rfl;simp only[uR,bS,bY,bX,e,g,xT]at a ⊢;rcases j with⟨rfl,rfl⟩|⟨rfl,rfl⟩|⟨rfl,rfl⟩|⟨rfl,rfl⟩
 all_goals
  constructor
  ·intro h;subst h;rw[re good];exact⟨_,by simp[tG,xT,a,sG];rfl,rfl,rfl,rfl⟩
  intro h l;subst h;rw[re good];cases J<;>simp[tG,xT,a,n,o,p,r,l,bR,bA,cr,dH,e,g]
theorem Wz(s:tH):yE s none=none:=by unfold yE;split<;>rfl
theorem Kz(s:tH):rY s none=none:=by unfold rY;simp[dY]
theorem EA(s:tH):AH s none=none:=by unfold AH;split<;>rfl
theorem TB(o:Option (List cL)):∀base σ m,fz false true base σ (m+3) (Bt o)=Bt o:=fun base σ m=>by simp
abbrev QSl(q:St):Prop:=q.st[2]?=some (aB 1 0 [aH [.ai]])∧q.env[4]?=some (aI 2 0 0 0)∧q.env[5]?=some (ap 240)
theorem Lr(c:List cN)(G:AC c)(s:tH)(f:Qa s):mQ (sK c s)∧match sK c s with
  |none=>∃q,bU code 4 [5,7,10,11] tG ⟨xT c s 0,uR c s .ai false⟩=some (.ret,q)∧QSl q
  |some w=>bU code 4 [5,7,10,11] tG ⟨xT c s 0,uR c s .ai false⟩=some (.ext 0,⟨(xT c s 4).set 10 (.bool false),uR c s (Bt (some w)) false⟩):=by
 unfold sK;obtain⟨a,x,C,p,o⟩:=Qv c G s f;obtain⟨j,g⟩:=zM c s 0 _ (.inl ⟨rfl,rfl⟩) .ai x _ C p;revert a p o j g;cases pR c s with
 |none=>
  intro _ _ _ j _;rw[Wz,Kz,EA];exact⟨rZ,j rfl⟩
 |some t=>
  intro a p o j g;obtain rfl:=o rfl;have g:=g rfl (TB _);rw[g];have b:=Z0 f a;obtain⟨D,z⟩:=MG c s f (some t) a;obtain⟨k,h⟩:=zM c s 1 _ (.inr (.inl ⟨rfl,rfl⟩)) (Bt (some t)) _ _ D z;clear j g p o z;revert b k h;cases yE s (some t) with
  |none=>
   intro _ k _;rw[Kz,EA];exact⟨rZ,k rfl⟩
  |some u=>
   intro b k h;have h:=h rfl (TB _);rw[h];have d:=Xq f b;obtain⟨y,E,A,r⟩:=OM c s f u b;obtain⟨l,i⟩:=zM c s 2 _ (.inr (.inr (.inl ⟨rfl,rfl⟩))) (Bt (some u)) y _ E A;clear k h A;revert d l i r;cases rY s (some u) with
   |none=>
    intro _ _ l _;rw[EA];exact⟨rZ,l rfl⟩
   |some v=>
    intro d r l i;obtain rfl:=r rfl;have i:=i rfl (TB _);rw[i];have e:=aac f d;obtain⟨F,B⟩:=Jr c s f (some v) d;obtain⟨n,m⟩:=zM c s 3 _ (.inr (.inr (.inr ⟨rfl,rfl⟩))) (Bt (some v)) _ _ F B;clear l i B;revert e n m;cases AH s (some v) with
    |none=>
     intro _ n _;exact⟨rZ,n rfl⟩
    |some H=>
     intro e n m;have m:=m rfl (TB _);rw[m];refine⟨e,?_⟩;rw[re good];simp[tG,xT,sG]
theorem KL(c:List cN)(e:AC c)(s:tH)(f:Qa s):bw I.qer [nB c,s.a]=some (Pc 240 (sK c s))∧mQ (sK c s):=by
 obtain⟨d,h⟩:=Lr c e s f;refine⟨?_,d⟩;have a:s.a=aH s.c:=rfl;have b:s.c=[.aa false (s.tables.map (.int .i64)),.aa false (s.joins.map JX.a),.aa false (s.whr.map EN.a),.aa false (s.having.map EN.a),aC s.grouped,aC s.distinct,.aa false (s.keys.map (.int .i64)),.aa false (s.ah.map vw),.aa false (s.items.map xM)]:=rfl;rw[aS ams rfl];unfold Pc;revert h;cases sK c s with
 |none=>
  rintro⟨q,h,g,i,j⟩;simp only[xT,uR,bS,a,b,bd]at h ⊢;simp[ata,ZI,h,g,i,j]
 |some w=>
  intro h;simp only[xT,uR,bS,a,b,bd,List.set]at h ⊢;simp[ata,ZI,h]
theorem Tq:∀(a b:List Int),a.length=b.length→(a.zip b).any (fun p=>p.1 != p.2)=!decide (a=b)
 |[],[],_=>rfl
 |[],_::_,h=>by simp at h
 |_::_,[],h=>by simp at h
 |x::a,y::b,h=>by
  rw[fS,iz,Tq a b (by simpa using h)];by_cases e:x=y
  ·subst e;simp
  simp[e]
theorem Bu(m n:Bool)(a c:List Int)(C:a.length≤8000):bw I.qgt [.aa m (cT a),.aa n (cT c)]=some (aC (decide (a=c))):=by
 rw[aS alj rfl];have w:a.length≤bC:=by unfold bC;omega
 by_cases d:a.length=c.length
 rotate_left
 ·have l:((a.length:Int) != (c.length:Int))=true:=by simp;omega
  have i:decide (a=c)=false:=by simp;intro e;exact d (by rw[e])
  rw[i];simp[asg,TC,l]
 have A:(a.zip c).length=a.length:=by simp;omega
 have loop:=nT (base:=0) (clr:=[2,3,7,8]) (b:=CT) (a.zip c) (fun k=>⟨[.aa m (cT a),.aa n (cT c),am,am,aC false,ap a.length,ap k,am,am],[]⟩) (fun p=>p.1 != p.2)
  (.ext 0,⟨[.aa m (cT a),.aa n (cT c),am,am,aC false,ap a.length,ap a.length,aC false,am],[]⟩) (fun o=>∃q,o=(.ret,q)∧q.env[2]?=some (aC false))
  (fun k p v u j=>by
   obtain⟨x,y⟩:=p;obtain⟨f,g⟩:=eT.1 u;have k1:k<a.length:=by omega
   have k2:k<c.length:=by omega
   have r:∀h:k<a.length,a[k]'h=x:=fun h=>(ak.1 f).2;have s:∀h:k<c.length,c[k]'h=y:=fun h=>(ak.1 g).2;have B:=cW k1 w;simp only at j;simp[CT,k1,k2,f,g,r,s,B,j,bR])
  (fun k p v u j=>by
   obtain⟨x,y⟩:=p;obtain⟨f,g⟩:=eT.1 u;have k1:k<a.length:=by omega
   have k2:k<c.length:=by omega
   have r:∀h:k<a.length,a[k]'h=x:=fun h=>(ak.1 f).2;have s:∀h:k<c.length,c[k]'h=y:=fun h=>(ak.1 g).2;simp only at j;exact⟨_,by simp[CT,k1,k2,f,g,r,s,j];rfl,_,rfl,rfl⟩)
  (by rw[A];simp[CT])
 have l:((a.length:Int) != (c.length:Int))=false:=by simp;omega
 rw[Tq a c d]at loop;rcases loop with⟨t,loop⟩|⟨t,o,loop,q,rfl,z⟩
 ·have i:decide (a=c)=true:=by simpa using t
  rw[i];simp only[bd]at loop;simp[asg,TC,l,loop]
 have i:decide (a=c)=false:=by simpa using t
 rw[i];simp only[bd]at loop;simp[asg,TC,l,loop,z]
end Go.AM
namespace Go.AM
open P
set_option maxHeartbeats 64000000
set_option maxRecDepth 40000
theorem o6:afW=.seq iX iP:=rfl
end Go.AM
namespace Go.AM
open P
set_option maxHeartbeats 64000000
set_option maxRecDepth 40000
attribute [local simp] aG bj
structure BV where
 selects:List tH
 names:List (List UInt8)
 ac:List Int
 order:List (Int×Bool)
 limit:Int
def BV.c(b:BV):List aq:=[.aa false (b.selects.map tH.a),.aa false (b.names.map aO),.aa false (b.ac.map (.int .i64)),.aa false (b.order.map im),ap b.limit]
def BV.a(b:BV):aq:=aH b.c
instance:Nc (fun s=>aq.str s) 1 false:=⟨fun _=>rfl,fun _=>rfl⟩
instance:Nc aq.str 1 false:=⟨fun _=>rfl,fun _=>rfl⟩
instance:Fx aq.str:=⟨fun _ _ _ _ _ _=>rfl⟩
instance:Nc BV.a 5 true:=⟨fun _=>rfl,fun _=>rfl⟩
instance:Fx BV.a:=⟨fun fl top base σ n y=>by simp[BV.a,BV.c]⟩
structure acC (b:BV):Prop where
 sel:∀s∈b.selects,Qa s
 sl:b.selects.length≤8000
 nl:b.names.length≤8000
 kl:b.ac.length≤8000
 ol:b.order.length≤8000
def wr(c:List cN)(k:Nat)(s:tH)(o:Option (List cL)):Option (List cL)⊕Unit:=
 match sK c s with
 |none=>.inr ()
 |some x=>.inl (if k=0 then some x else kX rt o (some x))
abbrev bL(c:List cN)(tv:aq)(bad:Bool):aq:=MI (.aa false (c.map cN.a)) .ai .ai .ai .ai (aC false) (aC false) .ai .ai .ai tv bad
abbrev sF(c:List cN)(b:BV)(tv:aq)(bad:Bool):aw:=[aB 1 0 [nB c],aB 5 0 [b.a],aB 1 0 [aH [.ai]],aB 12 0 [bL c tv bad],aB 1 0 [aI 3 0 0 0]]
abbrev si(c:List cN)(b:BV)(k:Nat):List aq:=[nB c,b.a,aI 0 0 0 0,aI 1 0 0 0,aI 2 0 0 0,am,ap 0,aI 4 0 0 0,.fn I.qeg [] [aI 4 0 0 0],am,am,am,am,am,am,aC false,aC false,.aa false (b.selects.map tH.a),ap b.selects.length,ap k,am,am,am]
abbrev tvL(k:Nat)(o:Option (List cL)):aq:=if k=0 then .ai else Bt o
abbrev bdL(k:Nat)(o:Option (List cL)):Bool:=if k=0 then false else o.isNone
abbrev ahU:aq:=aH [ap 7,ap 0,ap 0,ap 0,.ai,aC false,.ai,.ai,.ai,.ai,.ai,ap 0]
theorem adf(σ:aw):fz true false 0 σ 20 ahU=rt.a:=by
 have:rt.a=aH [ap 7,ap 0,ap 0,ap 0,.aa false [],aC false,.aa false [],.aa false [],.aa false [],.aa false [],.aa false [],ap 0]:=rfl;rw[this];simp
theorem N4(c:List cN)(b:BV)(t:aq)(a:aM t=1)(J:aw):cC code I.qeg [ap 0,aH [t],aI 4 0 0 0] (sF c b .ai false++J)=some (fb [],sF c b t false++(J++[aB 1 0 [aH [t]]])):=by
 rw[cw agj rfl];simp[asM,abi,sF,a]
theorem Pv(c:List cN)(b:BV)(k:Nat)(m:k≠0)(o x:Option (List cL))(h:mQ o)(i:mQ x)(n:x.isSome)(d:aq)(j:aM d=9):∃g,cC code I.qeg [ap k,aH [Bt x],aI 4 0 0 0] (sF c b (Bt o) o.isNone++[aB 9 0 [d],aB 1 0 [aH [Bt x]]])=some (fb [],sF c b (Bt (kX rt o x)) (kX rt o x).isNone++g):=by
 rw[cw agj rfl];have k1:((k:Int)==0)=false:=by simp;omega
 have a:=GY 3 (.aa false (c.map cN.a)) .ai .ai .ai .ai (aC false) (aC false) .ai .ai .ai ahU rt o x
  (sF c b (Bt o) (o.isNone ||x.isNone)++[aB 9 0 [d],aB 1 0 [aH [Bt x]],aB 1 0 [aH [Bt x]]]) rfl adf ⟨rfl,rfl⟩ zI.1 zI.2 h i
 have e:x.isNone=false:=by cases x<;>simp_all
 rw[e,oB]at a;refine⟨[aB 9 0 [d],aB 1 0 [aH [Bt x]],aB 1 0 [aH [Bt x]],aB 12 0 [ahU],aB 1 0 [aH [Bt (kX rt o x)]]],?_⟩;simp only[sF,bL,Bt,bY,bX,List.set]at a ⊢;generalize kX rt o x=o' at *;generalize (x.getD []).map cL.a=q at *;generalize (o.getD []).map cL.a=p at *;generalize (o'.getD []).map cL.a=l at *;generalize o.isNone=bad at *;generalize o'.isNone=f at *;simp[asM,abi,k1,a]
theorem Wg(c:List cN)(v:AC c)(b:BV)(k:Nat)(s:tH)(w:Qa s)(o:Option (List cL))(l:k<b.selects.length)(C:b.selects.length≤8000)(g:b.selects[k]?=some s)(u:k≠0→mQ o) :
  match wr c k s o with
  |.inl o'=>dg 5 [5,9,10,11,12,20,21] mY (run code mY ⟨si c b k,sF c b (tvL k o) (bdL k o)⟩)=bU code 5 [5,9,10,11,12,20,21] mY ⟨si c b (k+1),sF c b (Bt o') o'.isNone⟩
  |.inr _=>∃q,dg 5 [5,9,10,11,12,20,21] mY (run code mY ⟨si c b k,sF c b (tvL k o) (bdL k o)⟩)=some (.ret,q)∧QSl q:=by
 obtain⟨a,r⟩:=KL c v s w;have j:∀h:k<b.selects.length,b.selects[k]'h=s:=fun h=>(ak.1 g).2;have n3:aM s.a=9∧isAgg s.a=true:=⟨rfl,rfl⟩;have n:∀fl top base σ m,fz fl top base σ (m+3) s.a=s.a:=fun fl top base σ m=>Fx.fx fl top base σ m s;have e:∀fl top base σ m,fz fl top base σ (m+3) b.a=b.a:=fun fl top base σ m=>Fx.fx fl top base σ m b;have f:aM b.a=5:=rfl;unfold wr;unfold Pc at a;cases hx:sK c s with
 |none=>
  rw[hx]at a;simp at a;simp only[tvL,bdL];exact⟨_,by simp[mY,si,sF,l,g,j,n,n3,a];rfl,rfl,rfl,rfl⟩
 |some x=>
  rw[hx]at a r;simp at a;by_cases i:k=0
  ·subst i;simp only[cz,tvL,bdL];have d:=N4 c b (Bt (some x)) rfl [aB 9 0 [s.a],aB 1 0 [aH [Bt (some x)]]];have z:IntKind.i64.wrap 1=1:=rfl;simp only[sF,bL,Bt,bY,bX,de]at d ⊢;generalize x.map cL.a=B at *;simp[mY,si,l,g,j,n,n3,e,f,a,d,z,bR,bA,cr,dH]
  obtain⟨t,d⟩:=Pv c b k i o (some x) (u i) r rfl s.a rfl;have A:IntKind.i64.wrap ((k:Int)+1)=(k:Int)+1:=qL (by omega) (by omega);simp only[if_neg i,tvL,bdL];simp only[sF,bL,Bt,bY,bX,de]at d ⊢;generalize kX rt o (some x)=o' at *;generalize x.map cL.a=B at *;generalize (o.getD []).map cL.a=D at *;generalize (o'.getD []).map cL.a=y at *;generalize o.isNone=bad at *;generalize o'.isNone=p at *;cases t<;>simp[mY,si,l,g,j,n,n3,e,f,a,d,A,bR,bA,cr,dH]
def uk(c:List cN)(l:List tH):Option (List cL):=match dA (wr c) l 0 none with
 |.inl o=>o
 |.inr _=>none
def Ny(o:Option (List cL)):List Int:=(o.map ldK).getD []
theorem WV{n:cL}{b:List yg}{w:List cL}(h:iw n b=some w):(lookF w).isSome:=by
 unfold iw at h;split at h
 ·split at h
  ·rename_i a;cases h;exact a
  cases h
 cases h
theorem Jg{n:cL}{o:Option (List cL)}{w:List cL}(h:dY n o=some w):(lookF w).isSome:=by
 unfold dY at h;obtain⟨t,_,h⟩:=aL.1 h;exact WV h
theorem aaW(o:Option (List cL))(g:mQ o)(j:∀w,o=some w→(lookF w).isSome):bw I.qcy [aH [Bt o]]=some (fb [.aa false (cT (Ny o)),ap (if o.isSome then 0 else 230)]):=by
 cases o with
 |none=>
  have h:=GK 1 [aB 1 0 [aH [.aa false (([]:List cL).map cL.a)]]] (.inl ⟨rfl,_,rfl⟩) (fun x d base σ m=>by simp at d;rw[d];simp) false [] (fun n b=>by simp at b);rw[IU]at h;obtain⟨k,τ,h⟩:=h;rw[aS aeO rfl];simp at h;simp[asS,XX,Ny,h]
 |some w=>
  have a:=j w rfl;obtain⟨s,c⟩:=cS.1 a;obtain⟨k1,k2,k3,_⟩:=wY c;have i:=VK false w (fun n b=>(g.own n b).fit) s c k3;have e:s.1[w.length-1]?=some s.1[w.length-1]:=au (by omega);have f:Ny (some w)=(s.1.getD (w.length-1) Y8).l:=by
   unfold Ny ldK;rw[aQ];simp[c,e]
  rw[f];exact i
theorem aaC(c:List cN)(m:AC c)(b:BV)(l:acC b)(t:b.selects≠[]):match dA (wr c) b.selects 0 none with
  |.inl o=>mQ o∧bU code 5 [5,9,10,11,12,20,21] mY ⟨si c b 0,sF c b .ai false⟩=some (.ext 0,⟨(si c b b.selects.length).set 20 (.bool false),sF c b (Bt o) o.isNone⟩)
  |.inr _=>∃q,bU code 5 [5,9,10,11,12,20,21] mY ⟨si c b 0,sF c b .ai false⟩=some (.ret,q)∧QSl q:=by
 have d:b.selects.length≠0:=fun e=>t (da.1 e);have key:=jA (base:=5) (clr:=[5,9,10,11,12,20,21]) (b:=mY) b.selects (fun k o=>⟨si c b k,sF c b (tvL k o) (bdL k o)⟩) (fun k o=>k≠0→mQ o) (wr c)
  (fun o=>(.ext 0,⟨(si c b b.selects.length).set 20 (aC false),sF c b (Bt o) o.isNone⟩)) (fun _ o=>∃q,o=(.ret,q)∧QSl q)
  (fun k s o u p j=>by
   have n:=l.sel s (aN p);have h:=Wg c m b k s n o u l.sl p j;have f:=(KL c m s n).2;have a:∀o',wr c k s o=.inl o'→mQ o':=fun o' h=>by
    unfold wr at h;cases hx:sK c s with
    |none=>rw[hx]at h;cases h
    |some x=>
     rw[hx]at h f;by_cases i:k=0
     ·simp only[i,cz]at h;cases h;exact f
     simp only[if_neg i]at h;cases h;exact Kg zI.1 zI.2 (j i) f
   revert h a;cases wr c k s o with
   |inl o'=>
    intro h a;refine⟨?_,fun _=>a o' rfl⟩;simp only[tvL,bdL,if_neg (Nat.succ_ne_zero k)]at h ⊢;exact h
   |inr r=>
    rintro⟨q,h,g⟩ _;exact⟨_,h,q,rfl,g⟩)
  (fun o _=>by
   simp only[tvL,bdL,if_neg d];simp[si,sF,mY]) none (fun h=>absurd rfl h)
 revert key;cases dA (wr c) b.selects 0 none with
 |inl o=>exact fun h=>⟨h.1 d,h.2⟩
 |inr r=>
  rintro⟨o,h,q,rfl,g⟩;exact⟨q,h,g⟩
def BL(c:List cN)(b:BV):Option (List cL):=
 if b.selects.length<1∨3<b.selects.length then none
 else if (dY (jm b.order b.limit) (uk c b.selects)).isSome∧(Ny (dY (jm b.order b.limit) (uk c b.selects))).length=b.names.length∧Ny (dY (jm b.order b.limit) (uk c b.selects))=b.ac then dY (jm b.order b.limit) (uk c b.selects) else none
abbrev alc(o:List (Int×Bool))(l:Int):aq:=aH [ap 8,ap 0,ap 0,ap 0,.ai,aC false,.ai,.ai,.ai,.ai,.aa false (o.map im),ap l]
theorem ack(o:List (Int×Bool))(l:Int)(σ:aw):fz true false 0 σ 20 (alc o l)=(jm o l).a:=by
 have:(jm o l).a=aH [ap 8,ap 0,ap 0,ap 0,.aa false [],aC false,.aa false [],.aa false [],.aa false [],.aa false [],.aa false (o.map im),ap l]:=rfl;rw[this];simp
theorem abz(c:List cN)(b:BV)(y:acC b)(o:Option (List cL))(t:mQ o):∃q,run code qG ⟨(si c b b.selects.length).set 20 (aC false),sF c b (Bt o) o.isNone⟩=some (.ret,q)∧q.env[4]?=some (aI 2 0 0 0) ∧
  (if (dY (jm b.order b.limit) o).isSome∧(Ny (dY (jm b.order b.limit) o)).length=b.names.length∧Ny (dY (jm b.order b.limit) o)=b.ac then q.st[2]?=some (aB 1 0 [aH [Bt (dY (jm b.order b.limit) o)]])∧q.env[5]?=some (ap 0)
   else q.st[2]?=some (aB 1 0 [aH [.ai]])∧q.env[5]?=some (ap 240)):=by
 have f:=Np b.limit y.ol;have m:=mI f.1 f.2 t;have d:=Ec 3 (.aa false (c.map cN.a)) .ai .ai .ai .ai (aC false) (aC false) .ai .ai .ai (alc b.order b.limit) (jm b.order b.limit) o (sF c b (Bt o) o.isNone) rfl (ack b.order b.limit) ⟨rfl,rfl⟩ f.1 f.2 t;have a:=aaW (dY (jm b.order b.limit) o) m (fun w h=>Jg h);have u:(Ny (dY (jm b.order b.limit) o)).length≤16:=by
  cases h:dY (jm b.order b.limit) o with
  |none=>simp[Ny]
  |some w=>
   unfold Ny;simpa using ab2 w
 have e:=Bu false false (Ny (dY (jm b.order b.limit) o)) b.ac (by omega);have n:b.a=aH b.c:=rfl;have p:b.c=[.aa false (b.selects.map tH.a),.aa false (b.names.map aO),.aa false (b.ac.map (.int .i64)),.aa false (b.order.map im),ap b.limit]:=rfl;have v:qG=.seq iS (.seq iV (.seq iM qD)):=rfl;have x:qD=.seq iQ iA:=rfl;rw[v,x];generalize dY (jm b.order b.limit) o=s at *;generalize Ny s=ks at *;simp only[sF,bL,si,Bt,n,p,List.set,bY,bX]at d a ⊢;have r:(((ks.length:Int) != (b.names.length:Int))=false∧ks.length=b.names.length)∨(((ks.length:Int) != (b.names.length:Int))=true∧¬ks.length=b.names.length):=by
  by_cases h:ks.length=b.names.length
  ·exact .inl ⟨by simp;omega,h⟩
  exact .inr ⟨by simp;omega,h⟩
 have A:aM (.aa false ((s.getD []).map cL.a))=1:=rfl;cases s with
 |none=>
  simp only[Option.isNone_none,Option.isSome_none,Option.getD_none,bm,bq,false_and,cH]at *;generalize (o.getD []).map cL.a=z at *;generalize o.isNone=bad at *;exact⟨_,by simp[iS,iV,iM,iQ,iA,d,a];rfl,rfl,rfl,rfl⟩
 |some w=>
  simp only[Option.isNone_some,ka,de,true_and,cz]at *;generalize (o.getD []).map cL.a=z at *;generalize o.isNone=bad at *;generalize w.map cL.a=B at *;rcases r with⟨i,k⟩|⟨i,k⟩
  ·by_cases j:ks=b.ac
   ·simp only[if_pos (And.intro k j)];have l:decide (ks=b.ac)=true:=by simpa using j
    rw[l]at e;exact⟨_,by simp[iS,iV,iM,iQ,iA,d,a,i,e];rfl,rfl,rfl,rfl⟩
   have g:¬(ks.length=b.names.length∧ks=b.ac):=fun h=>j h.2;simp only[if_neg g];have l:decide (ks=b.ac)=false:=by simpa using j
   rw[l]at e;exact⟨_,by simp[iS,iV,iM,iQ,iA,d,a,i,e];rfl,rfl,rfl,rfl⟩
  have g:¬(ks.length=b.names.length∧ks=b.ac):=fun h=>k h.1;simp only[if_neg g];exact⟨_,by simp[iS,iV,iM,iQ,iA,d,a,i];rfl,rfl,rfl,rfl⟩
theorem UY(c:List cN)(t:AC c)(b:BV)(s:acC b):bw I.qef [nB c,b.a]=some (Pc 240 (BL c b)):=by
 rw[aS am1 rfl];have j:=t.chk;have h:b.a=aH b.c:=rfl;have i:b.c=[.aa false (b.selects.map tH.a),.aa false (b.names.map aO),.aa false (b.ac.map (.int .i64)),.aa false (b.order.map im),ap b.limit]:=rfl;unfold BL Pc;by_cases n:b.selects.length<1∨3<b.selects.length
 ·simp only[if_pos n,h,i];by_cases y:b.selects.length<1
  ·have a:(b.selects.length:Int)<1:=by omega
   simp[arO,o6,iX,iP,iL,iN,iT,j,a]
  have a:¬(b.selects.length:Int)<1:=by omega
  have d:(3:Int)<(b.selects.length:Int):=by omega
  simp[arO,o6,iX,iP,iL,iN,iT,j,a,d]
 simp only[if_neg n];have a:¬(b.selects.length:Int)<1:=by omega
 have d:¬(3:Int)<(b.selects.length:Int):=by omega
 have u:b.selects≠[]:=fun e=>by rw[e]at n;simp at n
 have loop:=aaC c t b s u;unfold uk;revert loop;cases hf:dA (wr c) b.selects 0 none with
 |inr r=>
  rintro⟨q,loop,p,g,l⟩;simp only[si,sF,bL,bd,h,i]at loop ⊢;simp[arO,o6,iX,iP,iL,iN,iT,nr,mX,mZ,ny,mW,nv,j,a,d,loop,p,g,l,dY]
 |inl o=>
  rintro⟨v,loop⟩;obtain⟨q,m,p,g⟩:=abz c b s o v;simp only;generalize dY (jm b.order b.limit) o=k at *;have z:aM (Bt k)=1:=rfl;by_cases f:k.isSome∧(Ny k).length=b.names.length∧Ny k=b.ac
  ·simp only[if_pos f]at g ⊢;obtain⟨g,l⟩:=g;simp only[si,sF,bL,bd,h,i,List.set,Bt,f.1,cz]at loop m g ⊢;generalize (o.getD []).map cL.a=w at *;generalize (k.getD []).map cL.a=x at *;generalize o.isNone=bad at *;simp[arO,o6,iX,iP,iL,iN,iT,nr,mX,mZ,ny,mW,nv,j,a,d,loop,m,p,g,l]
  simp only[if_neg f]at g ⊢;obtain⟨g,l⟩:=g;simp only[si,sF,bL,bd,h,i,List.set,Bt]at loop m ⊢;generalize (o.getD []).map cL.a=w at *;generalize o.isNone=bad at *;simp[arO,o6,iX,iP,iL,iN,iT,nr,mX,mZ,ny,mW,nv,j,a,d,loop,m,p,g,l]
theorem Pd{s:List UInt8}{i:Nat}{b:UInt8}(h:s[i]?=some b):(ByteArray.mk s.toArray).get! i=b:=by
 unfold ByteArray.get!;simp[h]
theorem CB{s:List UInt8}{i:Nat}{b:UInt8}(h:s[i]?=some b)(a:b.toNat < 128):Utf8.decode ⟨s.toArray⟩ i=(b.toNat,1):=by
 unfold Utf8.decode;simp only[eJ,Pd h];rw[if_pos a]
theorem QE{s:List UInt8}{i:Nat}{b:UInt8}(h:s[i]?=some b)(a:¬b.toNat < 128):128≤(Utf8.decode ⟨s.toArray⟩ i).1:=by
 unfold Utf8.decode;simp only[eJ,Pd h];rw[if_neg a]
 repeat' split
 all_goals simp_all[Utf8.runeError]<;>omega
def uA(b:UInt8):Bool:=decide (97≤b.toNat)&&decide (b.toNat≤122)
def yx(b:UInt8):Bool:=decide (48≤b.toNat)&&decide (b.toNat≤57)
def vp(b:UInt8):Bool:=uA b ||yx b ||b.toNat==95
theorem CI(n:Int):bw I.qcw [.int .i32 n]=some (aC (decide (97≤n)&&decide (n≤122))):=by
 rw[aS ak7 rfl];simp[atP,afh]
 repeat' (split<;>(try simp_all))
 all_goals (intros;omega)
theorem Gd(n:Int):bw I.qcn [.int .i32 n]=some (aC (decide (48≤n)&&decide (n≤57))):=by
 rw[aS ano rfl];simp[atD,ahb]
 repeat' (split<;>(try simp_all))
 all_goals (intros;omega)
theorem Vz(b:Bool)(l:List (List UInt8))(s:List UInt8)(p:l.length≤8000):∃k:Int,bw I.qhg [.aa b (l.map aO),aO s]=some (ap k)∧decide (0≤k)=l.any (· == s):=by
 rw[aS afE rfl];have j:l.length≤bC:=by unfold bC;omega
 have loop:=nT (base:=0) (clr:=[2,3,6,7]) (b:=tE) l (fun k=>⟨[.aa b (l.map aO),aO s,am,am,ap l.length,ap k,am,am],[]⟩) (fun x=>x==s)
  (.ext 0,⟨[.aa b (l.map aO),aO s,am,am,ap l.length,ap l.length,aC false,am],[]⟩) (fun o=>∃q,o=(.ret,q)∧∃k:Nat,q.env[2]?=some (ap k))
  (fun k x f d c=>by
   have i:∀h:k<l.length,l[k]'h=x:=fun h=>(ak.1 d).2;have n:=cW f j;have a:(s==x)=false:=by rw[gf]at c ⊢;exact fun e=>c e.symm
   simp[tE,eR,f,d,i,n,a,bR])
  (fun k x f d c=>by
   have i:∀h:k<l.length,l[k]'h=x:=fun h=>(ak.1 d).2;have a:s=x:=by rw[aX]at c;exact c.symm
   subst a;exact⟨_,by simp[tE,eR,f,d,i];rfl,_,rfl,k,rfl⟩)
  (by simp[tE])
 rcases loop with⟨g,loop⟩|⟨g,o,loop,q,rfl,k,m⟩
 ·simp only[bd]at loop;exact⟨-1,by simp[ar0,Ob,loop],by rw[g];rfl⟩
 simp only[bd]at loop;exact⟨k,by simp[ar0,Ob,loop,m],by rw[g];simp⟩
theorem tx(b:Bool)(l:List (List UInt8))(s:List UInt8)(d:l.length≤8000):bw I.qgn [.aa b (l.map aO),aO s]=some (aC (l.any (· == s))):=by
 obtain⟨k,a,c⟩:=Vz b l s d;rw[aS al5 rfl,←c];simp[atp,aeB,a]
def so:List (List UInt8):=[[83,69,76,69,67,84],[68,73,83,84,73,78,67,84],[70,82,79,77],[76,69,70,84],[74,79,73,78],[79,78],[87,72,69,82,69],[71,82,79,85,80],[66,89],[72,65,86,73,78,71],[85,78,73,79,78],[65,76,76],[79,82,68,69,82],[76,73,77,73,84],[65,83,67],[68,69,83,67],[65,83],[65,78,68],[79,82],[78,79,84],[73,83],[78,85,76,76],[84,82,85,69],[70,65,76,83,69],[67,79,85,78,84],[83,85,77],[77,73,78],[77,65,88]]
theorem TA(s:List UInt8):bw I.qci [aO s]=some (aC (so.any (· == s))):=by
 have h:=tx false so s (by decide);have a:=tx true so s (by decide);generalize so.any (· == s)=r at *;rw[aS akT rfl];simp only[so,aW,bm]at h a;simp[atu,afr,h,a]
def PL(b:UInt8):aq:=.int .u8 b.toNat
instance:Nc PL 1 false:=⟨fun _=>rfl,fun _=>rfl⟩
instance:Fx PL:=⟨fun _ _ _ _ _ _=>rfl⟩
theorem NK(l:List UInt8):zt (l.map PL)=some l:=by
 induction l with
 |nil=>rfl
 |cons b l a=>
  have:UInt8.ofNat b.toNat=b:=by simp
  simp[zt,PL]at a ⊢;simp[a]
theorem aaq(p:UInt8→Bool)(h:((List.range 256).all fun n=>p (UInt8.ofNat n))=true)(b:UInt8):p b=true:=by
 have:=ba.1 h b.toNat (by have:=b.toNat_lt;simp;omega);simpa using this
theorem Ja{b:UInt8}(h:vp b=true):b.toNat < 128:=by
 have:=aaq (fun b=>!vp b ||decide (b.toNat < 128)) (by kernel_rfl) b;rw[h]at this;simpa using this
def iy(s:List UInt8):Bool:=match s with
 |[]=>false
 |b::_=>decide (s.length≤16)&&uA b&&s.all vp&&!(so.any (· == s.map Lib.upperB))
theorem adi{s:List UInt8}:s.any (fun b=>!vp b)=!s.all vp:=by
 induction s with
 |nil=>rfl
 |cons b s a=>simp[a]
theorem Ey{b:UInt8}:(decide (97≤(b.toNat:Int))&&decide ((b.toNat:Int)≤122))=uA b:=by
 unfold uA;rw[eK];simp;omega
theorem Kw{b:UInt8}:(decide (48≤(b.toNat:Int))&&decide ((b.toNat:Int)≤57))=yx b:=by
 unfold yx;rw[eK];simp;omega
theorem Jj(b:UInt8):(vp b=true∧(uA b=true∨(uA b=false∧yx b=true)∨(uA b=false∧yx b=false∧b.toNat=95)))∨(vp b=false∧uA b=false∧yx b=false∧b.toNat≠95):=by
 unfold vp;cases uA b<;>cases yx b<;>simp;exact (Classical.em _)
def upS(s:List UInt8):List UInt8:=if s.all (fun b=>decide (b.toNat < 128))=true then Lib.toUpperA s else Lib.toUpperD s
theorem KD(s:List UInt8)(a:s.length≤8000)(σ:aw):cC code I.strings_ToUpper [aO s] σ=some (aO (upS s),σ):=by
 refine xC good (k:=4) (n:=0) BX ?_;show Ak [aO s] σ=_;unfold Ak;simp only;rw[if_pos (show s.length<35184372088832 by omega)];rfl
theorem ad7{s:List UInt8}(h:s.all vp=true):upS s=s.map Lib.upperB:=by
 unfold upS;rw[if_pos]
 ·rfl
 rw[ba]at h ⊢;intro b a;have:=Ja (h b a);simpa using this
theorem oe(s:List UInt8):bw I.qch [aO s]=some (aC (iy s)):=by
 rw[aS akk rfl];cases hs:s with
 |nil=>simp[arB,eR,Fq,iy]
 |cons b t=>
  rw[←hs];have v:(s==[])=false:=by rw[hs];rfl
  have f:s≠[]:=by rw[hs];simp
  have N:iy s=(decide (s.length≤16)&&uA b&&s.all vp&&!(so.any (· == s.map Lib.upperB))):=by rw[hs];rfl
  rw[N];have h:s[0]?=some b:=by rw[hs];rfl
  by_cases g:s.length≤16
  rotate_left
  ·have p:(16:Int)<(s.length:Int):=by omega
   simp[arB,eR,Fq,v,f,p,g]
  have p:¬(16:Int)<(s.length:Int):=by omega
  have a:=CI b.toNat;rw[Ey]at a;have B:IntKind.i32.wrap (b.toNat:Int)=(b.toNat:Int):=by
   have:=b.toNat_lt;have l:∀n:Nat,n<256→IntKind.i32.wrap (n:Int)=(n:Int):=by
    intro n D;have:((List.range 256).all fun n=>decide (IntKind.i32.wrap ((n:Nat):Int)=((n:Nat):Int)))=true:=by kernel_rfl
    have:=ba.1 this n (by simpa using D);simpa using this
   exact l _ this
  cases z:uA b with
  |false=>
   rw[z]at a;simp[arB,eR,Fq,v,f,p,g,h,B,a]
  |true=>
   rw[z]at a;have C:=KD s (by omega);have i:=TA (upS s);have u:=@ad7 s;generalize upS s=K at *;have loop:=nT (base:=1) (clr:=[1,2,5,6,7]) (b:=vq) s (fun k=>⟨[aO s,am,am,aC false,.it 0,am,am,am],[.it s k]⟩) (fun b=>!vp b)
     (.ext 0,⟨[aO s,am,am,aC false,.it 0,fb [aC false],aC false,am],[.it s s.length]⟩) (fun o=>∃q,o=(.ret,q)∧q.env[1]?=some (aC false))
     (fun k x l E H=>by
      have D:vp x=true:=by simpa using H
      have hd:=CB E (Ja D);have c:=CI x.toNat;have e:=Gd x.toNat;rw[Ey]at c;rw[Kw]at e;rcases Jj x with⟨_,A⟩|⟨A,_⟩
      ·rcases A with m|⟨m,y⟩|⟨m,y,J⟩
       ·rw[m]at c;cases hdg:yx x<;>rw[hdg]at e<;>simp[vq,uG,l,hd,c,e,bR]
       ·rw[m]at c;rw[y]at e;simp[vq,uG,l,hd,c,e,bR]
       rw[m]at c;rw[y]at e;rw[J]at c e hd;simp at c e;simp[vq,uG,l,hd,c,e,bR]
      simp[A]at D)
     (fun k x l E H=>by
      rcases Jj x with⟨A,_⟩|⟨_,m,y,J⟩
      ·simp[A]at H
      by_cases z:x.toNat < 128
      ·have hd:=CB E z;have c:=CI x.toNat;have e:=Gd x.toNat;rw[Ey,m]at c;rw[Kw,y]at e;have F:((x.toNat:Int) != 95)=true:=by simp;omega
       exact⟨_,by simp[vq,uG,l,hd,c,e,F];rfl,_,rfl,rfl⟩
      have hd:=QE E z;generalize G:Utf8.decode ⟨s.toArray⟩ k=d at *;obtain⟨r,w⟩:=d;simp only at hd;have c:=CI r;have e:=Gd r;have L:(decide (97≤(r:Int))&&decide ((r:Int)≤122))=false:=by simp;omega
      have M:(decide (48≤(r:Int))&&decide ((r:Int)≤57))=false:=by simp;omega
      rw[L]at c;rw[M]at e;have F:((r:Int) != 95)=true:=by simp;omega
      exact⟨_,by simp[vq,uG,l,G,c,e,F];rfl,_,rfl,rfl⟩)
     (by simp[vq,uG])
   rw[adi]at loop;rcases loop with⟨j,loop⟩|⟨j,o,loop,q,rfl,O⟩
   ·have j:s.all vp=true:=by simpa using j
    have u:=u j;rw[←u,j];cases hw:so.any (· == K) with
    |true=>
     rw[hw]at i;simp[arB,eR,Fq,v,f,p,g,h,B,a,C,i]
    |false=>
     rw[hw]at i;simp[arB,eR,Fq,v,f,p,g,h,B,a,C,i,P7,loop]
   have j:s.all vp=false:=by simpa using j
   rw[j];cases hw:so.any (· == K) with
   |true=>
    rw[hw]at i;simp[arB,eR,Fq,v,f,p,g,h,B,a,C,i]
   |false=>
    rw[hw]at i;simp[arB,eR,Fq,v,f,p,g,h,B,a,C,i,P7,loop,O]
theorem Sc(s:ByteArray)(i:Nat):1≤(Utf8.decode s i).2:=by
 unfold Utf8.decode;simp only
 repeat' split
 all_goals simp
theorem ac4(n:Nat)(g:Int→Bool)(f:∀r σ,cC code n [.int .i32 r] σ=some (aC (g r),σ))(s:List UInt8):∀m pos,s.length-pos≤m →
  (∃(k:Nat) (q:St),bU code 1 [3,4,5,7,8,9] rA ⟨[aO s,.fn n [] [],aC true,am,am,am,.it 0,am,am,am],[.it s pos]⟩=some (.ret,q)∧q.env[3]?=some (ap k)∧k<s.length) ∨
  (∃p,bU code 1 [3,4,5,7,8,9] rA ⟨[aO s,.fn n [] [],aC true,am,am,am,.it 0,am,am,am],[.it s pos]⟩=some (.ext 0,⟨[aO s,.fn n [] [],aC true,am,am,am,.it 0,fb [aC false],aC false,am],[.it s p]⟩)):=by
 intro m;induction m with
 |zero=>
  intro pos h;have a:¬pos<s.length:=by omega
  refine .inr ⟨pos,?_⟩;rw[aZ];simp[rA,uG,a]
 |succ m i=>
  intro pos h;by_cases a:pos<s.length
  ·have hd:=Sc ⟨s.toArray⟩ pos;have b:=f ((Utf8.decode ⟨s.toArray⟩ pos).1:Nat);rw[aZ];generalize c:Utf8.decode ⟨s.toArray⟩ pos=d at *;obtain⟨r,w⟩:=d;simp only at hd b;cases hg:g (r:Nat) with
   |true=>
    rw[hg]at b;exact .inl ⟨pos,_,by simp[rA,uG,a,c,b];rfl,rfl,a⟩
   |false=>
    rw[hg]at b;have hi:=i (pos+w) (by omega);have e:dg 1 [3,4,5,7,8,9] rA (run code rA ⟨[aO s,.fn n [] [],aC true,am,am,am,.it 0,am,am,am],[.it s pos]⟩)=bU code 1 [3,4,5,7,8,9] rA ⟨[aO s,.fn n [] [],aC true,am,am,am,.it 0,am,am,am],[.it s (pos+w)]⟩:=by
     simp[rA,uG,a,c,b,bR]
    rw[e];exact hi
  refine .inr ⟨pos,?_⟩;rw[aZ];simp[rA,uG,a]
theorem Fu(n:Nat)(g:Int→Bool)(c:∀r σ,cC code n [.int .i32 r] σ=some (aC (g r),σ))(s:List UInt8) :
  ∃k:Int,bw I.qhj [aO s,.fn n [] []]=some (ap k)∧-1≤k∧k<s.length:=by
 have key:∃k:Int,bw I.qhk [aO s,.fn n [] [],aC true]=some (ap k)∧-1≤k∧k<s.length:=by
  rw[aS al4 rfl];rcases ac4 n g c s s.length 0 (by omega) with⟨k,q,a,b,d⟩|⟨p,a⟩
  ·exact⟨k,by simp[as8,aa7,a,b],by omega,by omega⟩
  exact⟨-1,by simp[as8,aa7,a],by omega,by omega⟩
 obtain⟨k,h,a,b⟩:=key;refine⟨k,?_,a,b⟩;rw[aS aj2 rfl];simp[auV,aeK,h]
theorem Wq(n:Int):∃t,bw I.qcm [.int .i32 n]=some (aC t):=by
 rw[aS ant rfl];by_cases a:65≤n<;>by_cases b:n≤90<;>simp[atZ,ahi,a,b]
theorem ahM(n:Int):∃t,bw I.qcq [.int .i32 n]=some (aC t):=by
 rw[aS amW rfl];have c:=Gd n;have d:=CI n;obtain⟨t,e⟩:=Wq n;generalize (decide (48≤n)&&decide (n≤57))=a at *;generalize (decide (97≤n)&&decide (n≤122))=b at *;cases a<;>cases b<;>cases t<;>simp[atS,ae5,c,d,e]
theorem Yq(n:Int):∃t,bw I.qcv [.int .i32 n]=some (aC t):=by
 rw[aS alm rfl];obtain⟨t,h⟩:=ahM n;simp[ats,afO,h]
theorem NY(n:Int):∃t,bw I.qcs [.int .i32 n]=some (aC t):=by
 rw[aS an2 rfl];by_cases a:n<32<;>by_cases b:126<n<;>simp[auo,ahg,a,b]
theorem ak6(s:List UInt8):∃k:Nat,bw I.qcu [aO s]=some (ap k)∧k≤s.length:=by
 obtain⟨g,b⟩:∃g:Int→Bool,∀n,bw I.qcv [.int .i32 n]=some (aC (g n)):=⟨fun n=>(Yq n).choose,fun n=>(Yq n).choose_spec⟩;obtain⟨k,h,c,d⟩:=Fu I.qcv g (fun r σ=>by simp[b]) s;rw[aS aoj rfl];by_cases a:0≤k
 ·refine⟨k.toNat,?_,by omega⟩;have:((k.toNat:Nat):Int)=k:=by omega
  rw[this];simp[ath,Xu,h,a]
 exact⟨s.length,by simp[ath,Xu,h,a],aF _⟩
theorem TG(s:List UInt8):∃t,bw I.qcr [aO s]=some (aC t):=by
 obtain⟨g,a⟩:∃g:Int→Bool,∀n,bw I.qcs [.int .i32 n]=some (aC (g n)):=⟨fun n=>(NY n).choose,fun n=>(NY n).choose_spec⟩;obtain⟨k,h,_⟩:=Fu I.qcs g (fun r σ=>by simp[a]) s;rw[aS amZ rfl];by_cases c:(s.length:Int)≤40<;>by_cases b:k<0<;>simp[auh,ahj,h,c,b]
end Go.AM
namespace Go.AM
open P
set_option maxHeartbeats 64000000
set_option maxRecDepth 40000
theorem Ax{s:Type}{enc:s→aq}{b:Bool}{l:List s}{f:aq}{p:s→Bool}(v:l.length≤bC)(t:∀y,aM (enc y)=1∧isAgg (enc y)=false)(x:rU f)
  (h:∀y∈l,iY code f [enc y] []=some (aC (p y),[])):bw I.qhe [.aa b (l.map enc),f]=some (ap (vX p l)):=by
 rw[aS akv rfl];have m:=x [];have c:∀k,k<l.length→∀y,l[k]?=some y→p y=false→dg 0 [2,3,6,7] sT (run code sT ⟨[.aa b (l.map enc),f,am,am,ap l.length,ap k,am,am],[]⟩) =
   bU code 0 [2,3,6,7] sT ⟨[.aa b (l.map enc),f,am,am,ap l.length,ap (k+1:Nat),am,am],[]⟩:=fun k d y o r=>by
  have q:=t y;have g:=h y (aN o);rw[r]at g;have e:((k:Int)<(l.length:Int)):=by omega
  simp[sT,o,q,g,e,cW d v,cM]
 unfold vX;by_cases n:l.any p=true
 ·have e:=bN (cB.1 n);have r:p l[l.findIdx p]=true:=dr (w:=e);have a:=cX (base:=0) (clr:=[2,3,6,7]) (b:=sT) (fun k=>⟨[.aa b (l.map enc),f,am,am,ap l.length,ap k,am,am],[]⟩) (l.findIdx p)
   (.ret,⟨[.aa b (l.map enc),f,ap (l.findIdx p),ap (l.findIdx p),ap l.length,ap (l.findIdx p),aC true,aC true],[]⟩)
   (fun k d=>c k (by omega) _ (au (by omega)) (by simpa using cV d))
   (by
    have u:l[l.findIdx p]?=some l[l.findIdx p]:=au e;have q:=t l[l.findIdx p];have g:=h _ (aJ e);rw[r]at g;have j:((l.findIdx p:Int)<(l.length:Int)):=by omega
    simp[sT,u,q,g,j])
  simp at a;simp[atf,abD,m,a,n]
 have i:∀y∈l,p y=false:=fun y o=>by simpa using cR.1 (eD _▸n) y o
 have a:=cX (base:=0) (clr:=[2,3,6,7]) (b:=sT) (fun k=>⟨[.aa b (l.map enc),f,am,am,ap l.length,ap k,am,am],[]⟩) l.length
  (.ext 0,⟨[.aa b (l.map enc),f,am,am,ap l.length,ap l.length,aC false,am],[]⟩)
  (fun k d=>c k d _ (au d) (i _ (aJ d)))
  (by simp[sT])
 simp at a;simp[atf,abD,m,a,n]
theorem v8{s:Type}{enc:s→aq}{b:Bool}{l:List s}{f:aq}{p:s→Bool}(v:l.length≤bC)(t:∀y,aM (enc y)=1∧isAgg (enc y)=true)(x:rU f)
  (h:∀y∈l,iY code f [enc y] []=some (aC (p y),[])):bw I.qhc [.aa b (l.map enc),f]=some (ap (vX p l)):=by
 rw[aS anr rfl];have m:=x [];have c:∀k,k<l.length→∀y,l[k]?=some y→p y=false→dg 0 [2,3,6,7] td (run code td ⟨[.aa b (l.map enc),f,am,am,ap l.length,ap k,am,am],[]⟩) =
   bU code 0 [2,3,6,7] td ⟨[.aa b (l.map enc),f,am,am,ap l.length,ap (k+1:Nat),am,am],[]⟩:=fun k d y o r=>by
  have q:=t y;have g:=h y (aN o);rw[r]at g;have e:((k:Int)<(l.length:Int)):=by omega
  simp[td,o,q,g,e,cW d v,cM]
 unfold vX;by_cases n:l.any p=true
 ·have e:=bN (cB.1 n);have r:p l[l.findIdx p]=true:=dr (w:=e);have a:=cX (base:=0) (clr:=[2,3,6,7]) (b:=td) (fun k=>⟨[.aa b (l.map enc),f,am,am,ap l.length,ap k,am,am],[]⟩) (l.findIdx p)
   (.ret,⟨[.aa b (l.map enc),f,ap (l.findIdx p),ap (l.findIdx p),ap l.length,ap (l.findIdx p),aC true,aC true],[]⟩)
   (fun k d=>c k (by omega) _ (au (by omega)) (by simpa using cV d))
   (by
    have u:l[l.findIdx p]?=some l[l.findIdx p]:=au e;have q:=t l[l.findIdx p];have g:=h _ (aJ e);rw[r]at g;have j:((l.findIdx p:Int)<(l.length:Int)):=by omega
    simp[td,u,q,g,j])
  simp at a;simp[asp,abF,m,a,n]
 have i:∀y∈l,p y=false:=fun y o=>by simpa using cR.1 (eD _▸n) y o
 have a:=cX (base:=0) (clr:=[2,3,6,7]) (b:=td) (fun k=>⟨[.aa b (l.map enc),f,am,am,ap l.length,ap k,am,am],[]⟩) l.length
  (.ext 0,⟨[.aa b (l.map enc),f,am,am,ap l.length,ap l.length,aC false,am],[]⟩)
  (fun k d=>c k d _ (au d) (i _ (aJ d)))
  (by simp[td])
 simp at a;simp[asp,abF,m,a,n]
theorem ut{c:Type}{enc:c→aq}{b:Bool}{l:List c}{f:aq}{p:c→Bool}(g:l.length≤bC)(e:∀y,aM (enc y)=1∧isAgg (enc y)=true)(d:rU f)
  (h:∀y∈l,iY code f [enc y] []=some (aC (p y),[])):bw I.qgl [.aa b (l.map enc),f]=some (aC (l.any p)):=by
 rw[aS amU rfl];have h:=v8 (b:=b) g e d h;have a:=d [];unfold vX at h;cases ha:l.any p<;>rw[ha]at h<;>simp[atB,agK,a,h]
theorem wc{s:Type}{enc:s→aq}{b:Bool}{l:List s}{f:aq}{p:s→Bool}(v:l.length≤bC)(t:∀y,aM (enc y)=9∧isAgg (enc y)=true)(x:rU f)
  (h:∀y∈l,iY code f [enc y] []=some (aC (p y),[])):bw I.qgy [.aa b (l.map enc),f]=some (ap (vX p l)):=by
 rw[aS am2 rfl];have m:=x [];have c:∀k,k<l.length→∀y,l[k]?=some y→p y=false→dg 0 [2,3,6,7] sR (run code sR ⟨[.aa b (l.map enc),f,am,am,ap l.length,ap k,am,am],[]⟩) =
   bU code 0 [2,3,6,7] sR ⟨[.aa b (l.map enc),f,am,am,ap l.length,ap (k+1:Nat),am,am],[]⟩:=fun k d y o r=>by
  have q:=t y;have g:=h y (aN o);rw[r]at g;have e:((k:Int)<(l.length:Int)):=by omega
  simp[sR,o,q,g,e,cW d v,cM]
 unfold vX;by_cases n:l.any p=true
 ·have e:=bN (cB.1 n);have r:p l[l.findIdx p]=true:=dr (w:=e);have a:=cX (base:=0) (clr:=[2,3,6,7]) (b:=sR) (fun k=>⟨[.aa b (l.map enc),f,am,am,ap l.length,ap k,am,am],[]⟩) (l.findIdx p)
   (.ret,⟨[.aa b (l.map enc),f,ap (l.findIdx p),ap (l.findIdx p),ap l.length,ap (l.findIdx p),aC true,aC true],[]⟩)
   (fun k d=>c k (by omega) _ (au (by omega)) (by simpa using cV d))
   (by
    have u:l[l.findIdx p]?=some l[l.findIdx p]:=au e;have q:=t l[l.findIdx p];have g:=h _ (aJ e);rw[r]at g;have j:((l.findIdx p:Int)<(l.length:Int)):=by omega
    simp[sR,u,q,g,j])
  simp at a;simp[asH,Yv,m,a,n]
 have i:∀y∈l,p y=false:=fun y o=>by simpa using cR.1 (eD _▸n) y o
 have a:=cX (base:=0) (clr:=[2,3,6,7]) (b:=sR) (fun k=>⟨[.aa b (l.map enc),f,am,am,ap l.length,ap k,am,am],[]⟩) l.length
  (.ext 0,⟨[.aa b (l.map enc),f,am,am,ap l.length,ap l.length,aC false,am],[]⟩)
  (fun k d=>c k d _ (au d) (i _ (aJ d)))
  (by simp[sR])
 simp at a;simp[asH,Yv,m,a,n]
theorem uI{c:Type}{enc:c→aq}{b:Bool}{l:List c}{f:aq}{p:c→Bool}(g:l.length≤bC)(e:∀y,aM (enc y)=9∧isAgg (enc y)=true)(d:rU f)
  (h:∀y∈l,iY code f [enc y] []=some (aC (p y),[])):bw I.qgh [.aa b (l.map enc),f]=some (aC (l.any p)):=by
 rw[aS anZ rfl];have h:=wc (b:=b) g e d h;have a:=d [];unfold vX at h;cases ha:l.any p<;>rw[ha]at h<;>simp[auc,aew,a,h]
theorem wm{s:Type}{enc:s→aq}{b:Bool}{l:List s}{f:aq}{p:s→Bool}(v:l.length≤bC)(t:∀y,aM (enc y)=2∧isAgg (enc y)=true)(x:rU f)
  (h:∀y∈l,iY code f [enc y] []=some (aC (p y),[])):bw I.qgx [.aa b (l.map enc),f]=some (ap (vX p l)):=by
 rw[aS amw rfl];have m:=x [];have c:∀k,k<l.length→∀y,l[k]?=some y→p y=false→dg 0 [2,3,6,7] ta (run code ta ⟨[.aa b (l.map enc),f,am,am,ap l.length,ap k,am,am],[]⟩) =
   bU code 0 [2,3,6,7] ta ⟨[.aa b (l.map enc),f,am,am,ap l.length,ap (k+1:Nat),am,am],[]⟩:=fun k d y o r=>by
  have q:=t y;have g:=h y (aN o);rw[r]at g;have e:((k:Int)<(l.length:Int)):=by omega
  simp[ta,o,q,g,e,cW d v,cM]
 unfold vX;by_cases n:l.any p=true
 ·have e:=bN (cB.1 n);have r:p l[l.findIdx p]=true:=dr (w:=e);have a:=cX (base:=0) (clr:=[2,3,6,7]) (b:=ta) (fun k=>⟨[.aa b (l.map enc),f,am,am,ap l.length,ap k,am,am],[]⟩) (l.findIdx p)
   (.ret,⟨[.aa b (l.map enc),f,ap (l.findIdx p),ap (l.findIdx p),ap l.length,ap (l.findIdx p),aC true,aC true],[]⟩)
   (fun k d=>c k (by omega) _ (au (by omega)) (by simpa using cV d))
   (by
    have u:l[l.findIdx p]?=some l[l.findIdx p]:=au e;have q:=t l[l.findIdx p];have g:=h _ (aJ e);rw[r]at g;have j:((l.findIdx p:Int)<(l.length:Int)):=by omega
    simp[ta,u,q,g,j])
  simp at a;simp[asV,abv,m,a,n]
 have i:∀y∈l,p y=false:=fun y o=>by simpa using cR.1 (eD _▸n) y o
 have a:=cX (base:=0) (clr:=[2,3,6,7]) (b:=ta) (fun k=>⟨[.aa b (l.map enc),f,am,am,ap l.length,ap k,am,am],[]⟩) l.length
  (.ext 0,⟨[.aa b (l.map enc),f,am,am,ap l.length,ap l.length,aC false,am],[]⟩)
  (fun k d=>c k d _ (au d) (i _ (aJ d)))
  (by simp[ta])
 simp at a;simp[asV,abv,m,a,n]
theorem tY{c:Type}{enc:c→aq}{b:Bool}{l:List c}{f:aq}{p:c→Bool}(g:l.length≤bC)(e:∀y,aM (enc y)=2∧isAgg (enc y)=true)(d:rU f)
  (h:∀y∈l,iY code f [enc y] []=some (aC (p y),[])):bw I.qgg [.aa b (l.map enc),f]=some (aC (l.any p)):=by
 rw[aS amv rfl];have h:=wm (b:=b) g e d h;have a:=d [];unfold vX at h;cases ha:l.any p<;>rw[ha]at h<;>simp[atA,ae0,a,h]
theorem sQ{s:Type}{enc:s→aq}{b:Bool}{l:List s}{f:aq}{p:s→Bool}(v:l.length≤bC)(t:∀y,aM (enc y)=9∧isAgg (enc y)=true)(x:rU f)
  (h:∀y∈l,iY code f [enc y] []=some (aC (p y),[])):bw I.qha [.aa b (l.map enc),f]=some (ap (vX p l)):=by
 rw[aS anE rfl];have m:=x [];have c:∀k,k<l.length→∀y,l[k]?=some y→p y=false→dg 0 [2,3,6,7] tJ (run code tJ ⟨[.aa b (l.map enc),f,am,am,ap l.length,ap k,am,am],[]⟩) =
   bU code 0 [2,3,6,7] tJ ⟨[.aa b (l.map enc),f,am,am,ap l.length,ap (k+1:Nat),am,am],[]⟩:=fun k d y o r=>by
  have q:=t y;have g:=h y (aN o);rw[r]at g;have e:((k:Int)<(l.length:Int)):=by omega
  simp[tJ,o,q,g,e,cW d v,cM]
 unfold vX;by_cases n:l.any p=true
 ·have e:=bN (cB.1 n);have r:p l[l.findIdx p]=true:=dr (w:=e);have a:=cX (base:=0) (clr:=[2,3,6,7]) (b:=tJ) (fun k=>⟨[.aa b (l.map enc),f,am,am,ap l.length,ap k,am,am],[]⟩) (l.findIdx p)
   (.ret,⟨[.aa b (l.map enc),f,ap (l.findIdx p),ap (l.findIdx p),ap l.length,ap (l.findIdx p),aC true,aC true],[]⟩)
   (fun k d=>c k (by omega) _ (au (by omega)) (by simpa using cV d))
   (by
    have u:l[l.findIdx p]?=some l[l.findIdx p]:=au e;have q:=t l[l.findIdx p];have g:=h _ (aJ e);rw[r]at g;have j:((l.findIdx p:Int)<(l.length:Int)):=by omega
    simp[tJ,u,q,g,j])
  simp at a;simp[asY,Zx,m,a,n]
 have i:∀y∈l,p y=false:=fun y o=>by simpa using cR.1 (eD _▸n) y o
 have a:=cX (base:=0) (clr:=[2,3,6,7]) (b:=tJ) (fun k=>⟨[.aa b (l.map enc),f,am,am,ap l.length,ap k,am,am],[]⟩) l.length
  (.ext 0,⟨[.aa b (l.map enc),f,am,am,ap l.length,ap l.length,aC false,am],[]⟩)
  (fun k d=>c k d _ (au d) (i _ (aJ d)))
  (by simp[tJ])
 simp at a;simp[asY,Zx,m,a,n]
theorem ri{c:Type}{enc:c→aq}{b:Bool}{l:List c}{f:aq}{p:c→Bool}(g:l.length≤bC)(e:∀y,aM (enc y)=9∧isAgg (enc y)=true)(d:rU f)
  (h:∀y∈l,iY code f [enc y] []=some (aC (p y),[])):bw I.qgj [.aa b (l.map enc),f]=some (aC (l.any p)):=by
 rw[aS alH rfl];have h:=sQ (b:=b) g e d h;have a:=d [];unfold vX at h;cases ha:l.any p<;>rw[ha]at h<;>simp[auj,afH,a,h]
theorem yi{s:Type}{enc:s→aq}{b:Bool}{l:List s}{f:aq}{p:s→Bool}(v:l.length≤bC)(t:∀y,aM (enc y)=2∧isAgg (enc y)=true)(x:rU f)
  (h:∀y∈l,iY code f [enc y] []=some (aC (p y),[])):bw I.qgv [.aa b (l.map enc),f]=some (ap (vX p l)):=by
 rw[aS akQ rfl];have m:=x [];have c:∀k,k<l.length→∀y,l[k]?=some y→p y=false→dg 0 [2,3,6,7] tp (run code tp ⟨[.aa b (l.map enc),f,am,am,ap l.length,ap k,am,am],[]⟩) =
   bU code 0 [2,3,6,7] tp ⟨[.aa b (l.map enc),f,am,am,ap l.length,ap (k+1:Nat),am,am],[]⟩:=fun k d y o r=>by
  have q:=t y;have g:=h y (aN o);rw[r]at g;have e:((k:Int)<(l.length:Int)):=by omega
  simp[tp,o,q,g,e,cW d v,cM]
 unfold vX;by_cases n:l.any p=true
 ·have e:=bN (cB.1 n);have r:p l[l.findIdx p]=true:=dr (w:=e);have a:=cX (base:=0) (clr:=[2,3,6,7]) (b:=tp) (fun k=>⟨[.aa b (l.map enc),f,am,am,ap l.length,ap k,am,am],[]⟩) (l.findIdx p)
   (.ret,⟨[.aa b (l.map enc),f,ap (l.findIdx p),ap (l.findIdx p),ap l.length,ap (l.findIdx p),aC true,aC true],[]⟩)
   (fun k d=>c k (by omega) _ (au (by omega)) (by simpa using cV d))
   (by
    have u:l[l.findIdx p]?=some l[l.findIdx p]:=au e;have q:=t l[l.findIdx p];have g:=h _ (aJ e);rw[r]at g;have j:((l.findIdx p:Int)<(l.length:Int)):=by omega
    simp[tp,u,q,g,j])
  simp at a;simp[asE,aaz,m,a,n]
 have i:∀y∈l,p y=false:=fun y o=>by simpa using cR.1 (eD _▸n) y o
 have a:=cX (base:=0) (clr:=[2,3,6,7]) (b:=tp) (fun k=>⟨[.aa b (l.map enc),f,am,am,ap l.length,ap k,am,am],[]⟩) l.length
  (.ext 0,⟨[.aa b (l.map enc),f,am,am,ap l.length,ap l.length,aC false,am],[]⟩)
  (fun k d=>c k d _ (au d) (i _ (aJ d)))
  (by simp[tp])
 simp at a;simp[asE,aaz,m,a,n]
end Go.AM
namespace Go.AM
open P
set_option maxHeartbeats 64000000
set_option maxRecDepth 40000
attribute [local simp] aG bj
theorem aiM(s:List UInt8)(M:s.length≤8000):∀m k (a:List UInt8),s.length-k≤m→a.length≤k →
  (∃(q:St) (t:List UInt8) (n:Nat) (ok:Bool),bU code 1 [1,2,3,6,7,8] lX ⟨[aO s,am,am,am,.sl 0 a.length 0 a.length,ap k,am,am,am],[aB 1 a.length (a.map PL)]⟩=some (.ret,q) ∧
   q.env[1]?=some (aO t)∧q.env[2]?=some (ap n)∧q.env[3]?=some (aC ok)∧0<n∧n≤s.length∧t.length≤s.length) ∨
  (∃(l K:Nat) (o:Obj),bU code 1 [1,2,3,6,7,8] lX ⟨[aO s,am,am,am,.sl 0 a.length 0 a.length,ap k,am,am,am],[aB 1 a.length (a.map PL)]⟩ =
   some (.ext 0,⟨[aO s,am,am,am,.sl 0 l 0 l,ap K,aC false,am,am],[o]⟩)):=by
 intro m;induction m with
 |zero=>
  intro k a h I;have v:¬(k:Int)<(s.length:Int):=by omega
  refine .inr ⟨a.length,k,aB 1 a.length (a.map PL),?_⟩;rw[aZ];simp[lX,v]
 |succ m H=>
  intro k a h I;by_cases v:k<s.length
  ·have i:(k:Int)<(s.length:Int):=by omega
   have A:s[k]?=some s[k]:=au v;have G:s.length≤bC:=by unfold bC;omega
   have B:=cW v G;have w:a.length+1≤bC:=by unfold bC;omega
   have j:List.take a.length (a.map PL)=a.map PL:=ay (by simp);generalize J:s[k]=c at *;have g:∀h:k<s.length,s[k]'h=c:=fun _=>J;by_cases C:c.toNat=39
   ·have f:((c.toNat:Int) != 39)=false:=by rw[C];rfl
    by_cases x:k+1<s.length
    ·have F:((k+1:Nat):Int)<(s.length:Int):=by omega
     have z:s[k+1]?=some s[k+1]:=au x;have N:=cW x G;generalize D:s[k+1]=d at *;have p:∀h:k+1<s.length,s[k+1]'h=d:=fun _=>D;have b:((k:Int)+1)<(s.length:Int):=by omega
     have y:(0:Int)≤(k:Int)+1:=by omega
     by_cases hd:d.toNat=39
     ·have u:((d.toNat:Int)==39)=true:=by rw[hd];rfl
      have hi:=H (k+2) (a++[c]) (by omega) (by simp;omega);have e:dg 1 [1,2,3,6,7,8] lX (run code lX ⟨[aO s,am,am,am,.sl 0 a.length 0 a.length,ap k,am,am,am],[aB 1 a.length (a.map PL)]⟩) =
        bU code 1 [1,2,3,6,7,8] lX ⟨[aO s,am,am,am,.sl 0 (a++[c]).length 0 (a++[c]).length,ap (k+2:Nat),am,am,am],[aB 1 (a++[c]).length ((a++[c]).map PL)]⟩:=by
       have L:IntKind.i64.wrap ((k:Int)+1+1)=(k:Int)+2:=by rw[qL (by omega) (by omega)];omega
       simp[lX,i,A,g,f,B,b,y,z,p,u,append,w,j,L,bR,PL]
      rw[aZ,e];exact hi
     have u:((d.toNat:Int)==39)=false:=by simp;omega
     obtain⟨t,E⟩:=TG a;have r:=NK a;refine .inl ?_;rw[aZ];exact⟨_,a,k+1,t,by simp[lX,i,A,g,f,B,b,y,z,p,u,E,j,r];rfl,rfl,by simp,rfl,by omega,by omega,by omega⟩
    have b:¬((k:Int)+1)<(s.length:Int):=by omega
    obtain⟨t,E⟩:=TG a;have r:=NK a;refine .inl ?_;rw[aZ];exact⟨_,a,k+1,t,by simp[lX,i,A,g,f,B,b,E,j,r];rfl,rfl,by simp,rfl,by omega,by omega,by omega⟩
   have f:((c.toNat:Int) != 39)=true:=by simp;omega
   have hi:=H (k+1) (a++[c]) (by omega) (by simp;omega);have e:dg 1 [1,2,3,6,7,8] lX (run code lX ⟨[aO s,am,am,am,.sl 0 a.length 0 a.length,ap k,am,am,am],[aB 1 a.length (a.map PL)]⟩) =
     bU code 1 [1,2,3,6,7,8] lX ⟨[aO s,am,am,am,.sl 0 (a++[c]).length 0 (a++[c]).length,ap (k+1:Nat),am,am,am],[aB 1 (a++[c]).length ((a++[c]).map PL)]⟩:=by
    simp[lX,i,A,g,f,B,append,w,j,bR,PL]
   rw[aZ,e];exact hi
  have v:¬(k:Int)<(s.length:Int):=by omega
  refine .inr ⟨a.length,k,aB 1 a.length (a.map PL),?_⟩;rw[aZ];simp[lX,v]
theorem Yy(s:List UInt8)(i:s.length≤8000):∃(t:List UInt8) (n:Nat) (ok:Bool),bw I.qct [aO s]=some (fb [aO t,ap n,aC ok])∧n≤s.length∧(ok=true→0<n)∧t.length≤s.length:=by
 rw[aS anN rfl];rcases aiM s i s.length 1 [] (by omega) (by simp) with⟨q,t,n,ok,h,a,b,c,d,f,g⟩|⟨l,j,o,h⟩
 ·simp at h;exact⟨t,n,ok,by simp[asA,Zg,h,a,b,c],f,(fun _=>d),g⟩
 simp at h;exact⟨[],0,false,by simp[asA,Zg,h],by omega,(fun e=>by cases e),by simp⟩
theorem Pm(s:List UInt8)(c:s.length≤8000)(a:s≠[])(σ:aw):∃(n:Int) (ok:Bool),cC code I.lex_number [aO s] σ=some (fb [.int .u64 n,aC ok],σ):=by
 have key:∃(n:Int) (ok:Bool),wd [aO s] σ=some (fb [.int .u64 n,aC ok],σ):=by
  cases s with
  |nil=>exact absurd rfl a
  |cons b s=>
   unfold wd;simp only;rw[if_pos c];split
   ·split
    ·exact⟨_,_,rfl⟩
    exact⟨_,_,rfl⟩
   exact⟨_,_,rfl⟩
 obtain⟨n,ok,h⟩:=key;exact⟨n,ok,xC good (k:=8) (n:=0) My h⟩
abbrev ru(k at':Int)(t:List UInt8)(n:Int):aq:=aH [ap k,ap at',aO t,.int .u64 n]
theorem Zd(s t:List UInt8):∃b,bw I.qhh [aO s,aO t]=some (aC b):=by
 have key:∃b,bw I.qcf [aO s,aO t]=some (aC b):=by
  rw[aS akH rfl];by_cases h:(t.length:Int)≤(s.length:Int)
  ·have a:t.length≤s.length:=by omega
   simp[as0,Yw,h,a,eR]
  simp[as0,Yw,h,eR]
 obtain⟨b,h⟩:=key;rw[aS amh rfl];exact⟨b,by simp[auT,agB,h]⟩
theorem Ow(x s:List UInt8)(b:Bool):∃t,bw I.qcp [aO x,.cptr b (aO s) 0]=some (aC t):=by
 rw[aS amm rfl];obtain⟨t,h⟩:=Zd s x;exact⟨t,by cases b<;>simp[auU,afv,h]⟩
def GX:List (List UInt8):=[[60,62],[60,61],[62,61],[40],[41],[44],[46],[42],[43],[45],[47],[61],[60],[62]]
theorem aie(s:List UInt8)(b a:Bool):∃k:Int,bw I.qhe [.aa a (GX.map aO),.fn I.qcp [] [.cptr b (aO s) 0]]=some (ap k)∧-1≤k∧k<14:=by
 obtain⟨g,d⟩:∃g:List UInt8→Bool,∀x,bw I.qcp [aO x,.cptr b (aO s) 0]=some (aC (g x)):=⟨fun x=>(Ow x s b).choose,fun x=>(Ow x s b).choose_spec⟩;refine⟨_,Ax (enc:=aO) (p:=g) (by decide) (fun y=>⟨rfl,rfl⟩) (fun σ=>by cases b<;>simp) (fun y _=>by cases b<;>simp[d]),?_⟩;unfold vX;split
 ·rename_i h;have:=bN (cB.1 h);have c:GX.length=14:=rfl;omega
 omega
theorem al9(s:List UInt8)(a:s.length≤8000)(σ:aw):cC code I.strings_ToUpper [aO s] σ=some (aO (upS s),σ):=KD s a σ
theorem ab4(s:List UInt8)(E:s≠[])(N:s.length≤8000):∃(k:Int) (t:List UInt8) (n:Int) (m:Nat) (ok:Bool),bw I.qco [aO s]=some (fb [ru k 0 t n,ap m,aC ok])∧m≤8000∧(ok=true→0<m)∧t.length≤8000:=by
 rw[aS aku rfl];have g:0<s.length:=eV.2 E;have i:s[0]?=some s[0]:=au g;generalize K:s[0]=c at *;have d:∀h:0<s.length,s[0]'h=c:=fun _=>K;by_cases w:c.toNat=39
 ·have f:((c.toNat:Int)==39)=true:=by rw[w];rfl
  obtain⟨t,n,ok,M,P,J,Q⟩:=Yy s N;exact⟨4,t,0,n,ok,by simp[aru,px,g,i,d,f,M],by omega,J,by omega⟩
 have f:((c.toNat:Int)==39)=false:=by simp;omega
 obtain⟨k,l,z⟩:=ak6 s;by_cases b:0<k
 ·have a:(0:Int)<(k:Int):=by omega
  have u:s.take k≠[]:=by
   intro h;rcases List.take_eq_nil_iff.1 h with h|h
   ·omega
   exact E h
  have p:(s.take k).length≤8000:=by simp;omega
  have q:¬(s.length<k):=by omega
  obtain⟨n,ok,_⟩:=Pm (s.take k) p u [];have v:∀σ,∃(n:Int) (ok:Bool),cC code I.lex_number [aO (s.take k)] σ=some (fb [.int .u64 n,aC ok],σ):=Pm (s.take k) p u;obtain⟨n,ok,A⟩:=v [aB 1 0 [aO s],aB 4 0 [ru 0 0 [] 0]];have F:=fun σ=>al9 (s.take k) p σ;have G:=TA (upS (s.take k));have B:=oe (s.take k);have C:so.any (· == upS (s.take k))=true→(upS (s.take k)).length≤8000:=fun h=>by
   obtain⟨x,O,f⟩:=cB.1 h;rw[←eq_of_beq f];exact (show ∀x∈so,x.length≤8000 by decide) x O
  generalize upS (s.take k)=H at *;generalize so.any (· == H)=isw at *;generalize iy (s.take k)=D at *;cases ok with
  |true=>exact⟨3,[],n,k,true,by simp[aru,px,g,i,d,f,l,a,b,q,z,vE,A],by omega,(fun _=>b),by simp⟩
  |false=>
   cases isw with
   |true=>exact⟨1,H,0,k,true,by simp[aru,px,g,i,d,f,l,a,b,q,z,vE,A,F,G],by omega,(fun _=>b),C rfl⟩
   |false=>exact⟨2,s.take k,0,k,D,by simp[aru,px,g,i,d,f,l,a,b,q,z,vE,A,F,G,B],by omega,(fun _=>b),p⟩
 have a:¬(0:Int)<(k:Int):=by omega
 obtain⟨j,o,j1,j2⟩:=aie s true false;have L:(gl2:aq)=aH (GX.map aO):=rfl;by_cases y:j<0
 ·refine⟨0,[],0,0,false,?_,by omega,(fun e=>by cases e),by simp⟩;simp only[GX,aW,bm]at o;simp[aru,px,g,i,d,f,l,a,b,o,y]
 have r:j=0∨j=1∨j=2∨j=3∨j=4∨j=5∨j=6∨j=7∨j=8∨j=9∨j=10∨j=11∨j=12∨j=13:=by omega
 simp only[GX,aW,bm]at o;rcases r with rfl|rfl|rfl|rfl|rfl|rfl|rfl|rfl|rfl|rfl|rfl|rfl|rfl|rfl
 ·exact⟨5,[60,62],0,2,true,by simp[aru,px,g,i,d,f,l,a,b,o],by omega,(fun _=>by omega),by simp⟩
 ·exact⟨5,[60,61],0,2,true,by simp[aru,px,g,i,d,f,l,a,b,o],by omega,(fun _=>by omega),by simp⟩
 ·exact⟨5,[62,61],0,2,true,by simp[aru,px,g,i,d,f,l,a,b,o],by omega,(fun _=>by omega),by simp⟩
 ·exact⟨5,[40],0,1,true,by simp[aru,px,g,i,d,f,l,a,b,o],by omega,(fun _=>by omega),by simp⟩
 ·exact⟨5,[41],0,1,true,by simp[aru,px,g,i,d,f,l,a,b,o],by omega,(fun _=>by omega),by simp⟩
 ·exact⟨5,[44],0,1,true,by simp[aru,px,g,i,d,f,l,a,b,o],by omega,(fun _=>by omega),by simp⟩
 ·exact⟨5,[46],0,1,true,by simp[aru,px,g,i,d,f,l,a,b,o],by omega,(fun _=>by omega),by simp⟩
 ·exact⟨5,[42],0,1,true,by simp[aru,px,g,i,d,f,l,a,b,o],by omega,(fun _=>by omega),by simp⟩
 ·exact⟨5,[43],0,1,true,by simp[aru,px,g,i,d,f,l,a,b,o],by omega,(fun _=>by omega),by simp⟩
 ·exact⟨5,[45],0,1,true,by simp[aru,px,g,i,d,f,l,a,b,o],by omega,(fun _=>by omega),by simp⟩
 ·exact⟨5,[47],0,1,true,by simp[aru,px,g,i,d,f,l,a,b,o],by omega,(fun _=>by omega),by simp⟩
 ·exact⟨5,[61],0,1,true,by simp[aru,px,g,i,d,f,l,a,b,o],by omega,(fun _=>by omega),by simp⟩
 ·exact⟨5,[60],0,1,true,by simp[aru,px,g,i,d,f,l,a,b,o],by omega,(fun _=>by omega),by simp⟩
 exact⟨5,[62],0,1,true,by simp[aru,px,g,i,d,f,l,a,b,o],by omega,(fun _=>by omega),by simp⟩
structure vb where
 k:Int
 at':Int
 t:List UInt8
 n:Int
 h:t.length≤8000
def vb.a(x:vb):aq:=ru x.k x.at' x.t x.n
instance:Nc vb.a 4 true:=⟨fun _=>rfl,fun _=>rfl⟩
instance:Fx vb.a:=⟨fun fl top base σ m x=>by simp[vb.a]⟩
abbrev PG(toks:List vb)(r1 r2 r3:aq)(o:Obj):aw:=[aB 1 0 [r1],aB 1 0 [r2],aB 1 0 [r3],aB 1 0 [.sl 4 toks.length 0 toks.length],aB 4 toks.length (toks.map vb.a),o]
abbrev MA(text:List UInt8):List aq:=[aO text,aI 0 0 0 0,aI 1 0 0 0,aI 2 0 0 0,aI 3 0 0 0,am,am,aC false,.fn I.qcl [] [.cptr false (aO text) 0],am,am,am]
theorem aek(text:List UInt8)(a:List vb)(d:a.length+1≤bC)(x:vb)(ok:Bool)(X:aw) :
  cC code I.lex_Tokens_r0 (.frs 5 []::(MA text++[x.a,aC ok])) (PG a .ai (ap 0) (ap 0) (.pend false none)++X) =
   some (aC ok,(if ok then PG (a++[x]) .ai (ap 0) (ap 0) (.pend false none) else PG a .ai (ap x.at') (ap 170) (.pend false (some .ret)))++X++[aB 4 0 [x.a]]):=by
 rw[Fk good (g:=pS) rfl];have c:List.take a.length (a.map vb.a)=a.map vb.a:=ay (by simp);have b:x.a=ru x.k x.at' x.t x.n:=rfl;cases ok
 ·simp[pS,sk,uu,sz,rS,lD,b]
 simp[pS,sk,uu,sz,rS,lD,append,d,c,b]
theorem ah1(s:List UInt8)(c:Int)(σ:aw):∃n:Int,bw I.qhi [aO s,.int .u8 c]=some (ap n):=by
 have h:∀σ,cC code I.internal_bytealg_IndexByteString [aO s,.int .u8 c] σ=some (ap (Lib.indexByte s c.toNat.toUInt8),σ):=fun σ=>xC good (k:=6) (n:=0) pj rfl;have a:bw I.qcg [aO s,.int .u8 c]=some (ap (Lib.indexByte s c.toNat.toUInt8)):=by
  rw[aS anH rfl];simp[auG,afM,h]
 rw[aS amK rfl];exact⟨_,by simp[aue,afT,a];rfl⟩
abbrev CX(text:List UInt8)(k:Nat)(c:aq):List aq:=[.yld 5 I.lex_Tokens_r0 (MA text),.cptr false (aO text) 0,ap k,am,am,am,c,am,am]
noncomputable abbrev WY(text:List UInt8)(k:Nat)(toks:List vb):Option (Ex×St):=bU code 6 [3,4,5,6,7,8] pW ⟨CX text k am,PG toks .ai (ap 0) (ap 0) (.pend false none)⟩
theorem aif(text:List UInt8)(M:text.length≤600):∀m k (b:List vb),text.length-k≤m→b.length≤k→b.length≤600→k≤8600 →
  ∃(env:List aq) (f:List vb) (X:aw),f.length≤600∧((∃a:Int,WY text k b=some (.ext 0,⟨env,PG f .ai (ap a) (ap 170) (.pend false (some .ret))++X⟩)) ∨
   WY text k b=some (.ext 0,⟨env,PG f .ai (ap 0) (ap 0) (.pend false none)++X⟩)):=by
 intro m;induction m with
 |zero=>
  intro k b h _ r _;have d:¬(k:Int)<(text.length:Int):=by omega
  refine⟨CX text k (aC false),b,[],r,.inr ?_⟩;rw[WY,aZ];simp[pW,d]
 |succ m D=>
  intro k b h G r F;by_cases C:k<text.length
  ·have d:(k:Int)<(text.length:Int):=by omega
   have z:text[k]?=some text[k]:=au C;have H:text.length≤bC:=by unfold bC;omega
   have A:=cW C H;have x:text.drop k≠[]:=by
    intro h;have:=congrArg List.length h;simp at this;omega
   obtain⟨i,t,j,v,ok,B,J,s,g⟩:=ab4 (text.drop k) x (by simp;omega);generalize E:text[k]=c at *;have p:∀h:k<text.length,text[k]'h=c:=fun _=>E;obtain⟨n,w⟩:=ah1 [32,9,10,13] c.toNat [];have o:k≤text.length:=by omega
   have u:List.take (text.length-k) (text.drop k)=text.drop k:=ay (by simp);by_cases y:0≤n
   ·have hi:=D (k+1) b (by omega) (by omega) r (by omega);have e:dg 6 [3,4,5,6,7,8] pW (run code pW ⟨CX text k am,PG b .ai (ap 0) (ap 0) (.pend false none)⟩)=WY text (k+1) b:=by
     simp only[WY,CX];simp[pW,d,z,p,w,y,A,bR]
    rw[WY,aZ,e];exact hi
   have l:=fun ok X=>aek text b (by unfold bC;omega) ⟨i,k,t,j,g⟩ ok X;have q:(vb.a ⟨i,k,t,j,g⟩)=ru i k t j:=rfl;cases ok with
   |false=>
    have l:=l false [aB 4 0 [ru i k t j]];refine⟨[.yld 5 I.lex_Tokens_r0 (MA text),.cptr false (aO text) 0,ap k,aI 6 0 0 0,ap v,aC false,aC true,aC false,aC true],b,[aB 4 0 [ru i k t j],aB 4 0 [ru i k t j]],r,.inl ⟨k,?_⟩⟩;rw[WY,aZ];simp only[PG,MA,q,bY,bX,bq,cH]at l ⊢;simp[pW,d,z,p,w,y,A,vE,o,u,B,l,po]
   |true=>
    have l:=l true [aB 4 0 [ru i k t j]];have L:=s rfl;have hi:=D (k+v) (b++[⟨i,k,t,j,g⟩]) (by omega) (by simp;omega) (by simp;omega) (by omega);have K:IntKind.i64.wrap ((k:Int)+(v:Int))=((k+v:Nat):Int):=by rw[qL (by omega) (by omega)];omega
    have e:dg 6 [3,4,5,6,7,8] pW (run code pW ⟨CX text k am,PG b .ai (ap 0) (ap 0) (.pend false none)⟩)=WY text (k+v) (b++[⟨i,k,t,j,g⟩]):=by
     simp only[WY,CX,PG,MA,q,bY,bX,cz]at l ⊢;simp[pW,d,z,p,w,y,A,K,vE,o,u,B,l,po,bR,bA,cr,dH,PV,q]
    rw[WY,aZ,e];exact hi
  have d:¬(k:Int)<(text.length:Int):=by omega
  refine⟨CX text k (aC false),b,[],r,.inr ?_⟩;rw[WY,aZ];simp[pW,d]
theorem alW(text:List UInt8)(b:Bool):bw I.qck [aO text]=some (.fn I.qcl [] [.cptr false (aO text) 0]):=by
 rw[aS anu rfl];simp[auE,age]
theorem Zc(text:List UInt8)(j:text.length≤600):∃(b:List vb) (a e:Int),b.length≤600∧bw I.qcj [aO text]=some (fb [.aa false (b.map vb.a),ap a,ap e]):=by
 have h:¬(600:Int)<(text.length:Int):=by omega
 have g:=alW text false;obtain⟨env,b,X,i,d⟩:=aif text j text.length 0 [] (by omega) (by simp) (by simp) (by omega);rcases d with⟨a,d⟩|d
 ·refine⟨[],a,170,by simp,?_⟩;have c:cC code I.qcl [.yld 5 I.lex_Tokens_r0 (MA text),.cptr false (aO text) 0] (PG [] .ai (ap 0) (ap 0) (.pend false none))=some (fb [],PG b .ai (ap a) (ap 170) (.pend false (some .ret))++X):=by
   rw[cw aeX rfl];simp only[WY,CX,bd]at d;simp[atd,abg,d]
  rw[aS agG rfl];simp only[PG,MA,bm,bD,bY,bX]at c;simp[asP,ZE,h,g,c,sG]
 refine⟨b,0,0,i,?_⟩;have c:cC code I.qcl [.yld 5 I.lex_Tokens_r0 (MA text),.cptr false (aO text) 0] (PG [] .ai (ap 0) (ap 0) (.pend false none))=some (fb [],PG b .ai (ap 0) (ap 0) (.pend false none)++X):=by
  rw[cw aeX rfl];simp only[WY,CX,bd]at d;simp[atd,abg,d]
 rw[aS agG rfl];have f:List.take b.length (b.map vb.a)=b.map vb.a:=ay (by simp);simp only[PG,MA,bm,bD,bY,bX]at c;have k:∀(x:vb) σ,fz false false 0 σ 18 x.a=x.a:=fun x σ=>Fx.fx false false 0 σ 15 x;simp[asP,ZE,h,g,c,sG,f,k]
abbrev aiv(σ:aw):Prop:=∀τ b,σ.length≤b→σ.map (bA b τ)=σ
def rE(σ τ:aw)(v:aq):aq×aw:=if τ.length=σ.length then (v,τ) else (cr σ.length τ v,(τ.take σ.length).map (bA σ.length τ))
theorem Ot{σ:aw}(h:aiv σ)(o:Obj)(t:aw)(v:aq):rE σ (σ++o::t) v=(cr σ.length (σ++o::t) v,σ):=by
 unfold rE;rw[if_neg (by simp)];rw[fY rfl,h _ _ (aF _)]
def Ad(σ:aw)(res:List OL)(r:Option (Ex×St)):Option (aq×aw):=r.bind fun r=>match r.1 with
 |.ext _=>none
 |_=>(results r.2 res).map fun v=>rE σ r.2.st v
@[simp] theorem abQ(σ:aw)(a:List OL)(s:St):Ad σ a (some (.ret,s))=(results s a).map fun v=>rE σ s.st v:=rfl
@[simp] theorem abO(σ:aw)(a:List OL)(s:St):Ad σ a (some (.nrm,s))=(results s a).map fun v=>rE σ s.st v:=rfl
theorem cY{f:Nat}{g:br}(h:code.fns f=.fn g)(a:g.mode=.trunc)(args:List aq)(σ:aw) :
  cC code f args σ=Ad σ g.res (run code g.body ⟨args.take g.np++List.replicate (g.nenv-g.np) am,σ⟩):=by
 rw[ze good h];have b:enter g args σ=⟨args.take g.np++List.replicate (g.nenv-g.np) am,σ⟩:=by unfold enter;rw[a]
 rw[b];unfold Ad;congr 1;funext r;obtain⟨e,s⟩:=r;unfold qU ij rE;rw[a];cases e<;>rfl
structure fV where
 toks:List vb
 en:Int
 at':Int
 er:Int
def fV.v(r:fV):aq:=aH [.aa false (r.toks.map vb.a),ap r.en,ap r.at',ap r.er]
abbrev gw(r:fV):Obj:=aB 4 0 [r.v]
theorem fV.v_is(r:fV):r.v=aH [.aa false (r.toks.map vb.a),ap r.en,ap r.at',ap r.er]:=rfl
theorem eE(r:fV)(fl top:Bool)(base:Nat)(σ:aw)(m:Nat):fz fl top base σ (m+3) r.v=r.v:=by simp[fV.v]
def uQ(r:fV)(kind:Int)(ts:List (List UInt8)):Bool:=match r.toks with
 |[]=>false
 |t::_=>r.er==0&&t.k==kind&&(ts.isEmpty ||ts.any (· == t.t))
def fV.nx(r:fV):fV:=⟨r.toks.tail,r.en,r.at',r.er⟩
def gT(r:fV):Int:=match r.toks with
 |[]=>r.en
 |t::_=>t.at'
def nW(r:fV)(e a:Int):fV:=if r.er=0 then ⟨r.toks,r.en,a,e⟩ else r
theorem ad3(l:Bool)(r:fV)(b:Int)(g:List (List UInt8))(k:g.length≤8000):bw I.qfd [.cptr true r.v 0,ap b,.aa l (g.map aO)]=some (aC (uQ r b g)):=by
 rw[aS anG rfl];obtain⟨a,en,at',m⟩:=r;unfold uQ;simp only[fV.v];by_cases f:m=0
 ·cases a with
  |nil=>simp[arM,KS,f]
  |cons t a=>
   have d:t.a=ru t.k t.at' t.t t.n:=rfl;have i:=tx l g t.t k;have c:¬((a.length:Int)+1=0):=by omega
   by_cases j:t.k=b
   ·cases hz:g with
    |nil=>simp[arM,KS,f,d,j,c]
    |cons s h=>
     have n:¬((h.length:Int)+1=0):=by omega
     rw[hz]at i;generalize e:(s::h).any (· == t.t)=an at *;simp only[iz]at e;simp only[aW]at i;simp[arM,KS,f,d,j,n,c,i];exact e.symm
   simp[arM,KS,f,d,j,c]
 cases a<;>simp[arM,KS,f]
theorem sS(r:fV):bw I.qfn [.cptr true r.v 0]=some (ap (gT r)):=by
 rw[aS akS rfl];obtain⟨a,en,at',d⟩:=r;unfold gT;simp only[fV.v];cases a with
 |nil=>simp[asw,aba]
 |cons t a=>
  have b:t.a=ru t.k t.at' t.t t.n:=rfl;have c:¬((a.length:Int)+1=0):=by omega
  simp[asw,aba,b,c]
structure At (σ:aw) (id:Nat) (r:fV):Prop where
 get:σ[id]?=some (gw r)
 firm:aiv σ
theorem At.lt{σ:aw}{id:Nat}{r:fV}(h:At σ id r):id<σ.length:=(ak.1 h.get).1
theorem IE(r:fV)(b:Nat)(τ:aw):bA b τ (gw r)=gw r:=by
 simp[bA,cr,dH,eE]
theorem At.set{σ:aw}{id:Nat}{r:fV}(h:At σ id r)(a:fV):At (σ.set id (gw a)) id a:=
 ⟨by simp[h.lt],fun τ b c=>by rw[List.map_set,h.firm τ b (by simpa using c),IE]⟩
theorem At.app{σ:aw}{id:Nat}{r:fV}(h:At σ id r)(t:aw)(c:∀τ b,σ.length+t.length≤b→t.map (bA b τ)=t):At (σ++t) id r:=
 ⟨by rw[aU h.lt,h.get],fun τ b a=>by
  rw[cn]at a;rw[df,h.firm τ b (by omega),c τ b a]⟩
theorem At.same{σ:aw}{id:Nat}{r:fV}(h:At σ id r):σ.set id (gw r)=σ:=by
 apply eX;intro i;by_cases hi:id=i
 ·subst hi;simp[h.lt,←h.get]
 rw[aD hi]
theorem At.snap{σ:aw}{id:Nat}{r:fV}(h:At σ id r):snap σ (aI id 0 0 0)=.cptr true r.v 0:=by
 have a:=h.get;simp[Go.AM.snap,dH,a,eE,jT]
theorem dM{σ:aw}{id:Nat}{r:fV}(h:At σ id r)(a:fV)(o:Obj)(t:aw)(v:aq):rE σ (σ.set id (gw a)++o::t) v=(cr σ.length (σ.set id (gw a)++o::t) v,σ.set id (gw a)):=by
 have:=Ot (h.set a).firm o t v;unfold rE at *;rw[gc]at this;exact this
theorem fA{σ τ:aw}(h:τ.length=σ.length)(v:aq):rE σ τ v=(v,τ):=by unfold rE;rw[if_pos h]
theorem NN(r:fV)(a:Int):bw I.qfd [.cptr true r.v 0,ap a,.aa false []]=some (aC (uQ r a [])):=ad3 false r a [] (by simp)
theorem Jp(r:fV)(a:Int)(s:List UInt8):bw I.qfd [.cptr true r.v 0,ap a,.aa true [aO s]]=some (aC (uQ r a [s])):=ad3 true r a [s] (by simp)
theorem LG{σ:aw}{id:Nat}{r:fV}(h:At σ id r)(X:aw):(σ++X)[id]?=some (gw r):=by rw[aU h.lt,h.get]
theorem oF{σ:aw}{id:Nat}{r:fV}(h:At σ id r)(o:Obj)(X:aw):(σ.set id o++X)[id]?=some o:=by
 rw[aU (by simpa using h.lt)];simp[h.lt]
theorem tC{σ:aw}{id:Nat}{r:fV}(h:At σ id r)(o:Obj)(X:aw):(σ++X).set id o=σ.set id o++X:=by rw[cF _ _ h.lt]
theorem set_set{σ:aw}{id:Nat}{r:fV}(h:At σ id r)(o o':Obj)(X:aw):(σ.set id o++X).set id o'=σ.set id o'++X:=by rw[cF _ _ (by simpa using h.lt),ew]
theorem oI{σ:aw}{id:Nat}{r:fV}(h:At σ id r)(e a:Int):cC code I.qfc [aI id 0 0 0,ap e,ap a] σ=some (fb [],σ.set id (gw (nW r e a))):=by
 have j:=h.same;rw[cY ak8 rfl];have d:=h.get;have i:=h.lt;obtain⟨c,en,at',f⟩:=r;unfold nW;simp only[fV.v]at *;have b:∀h,σ[id]'h=aB 4 0 [aH [.aa false (c.map vb.a),ap en,ap at',ap f]]:=fun _=>(ak.1 d).2;by_cases g:f=0
 ·subst g;simp[asq,YF,d,b,i,fA,gw,fV.v]
 simp[asq,YF,d,b,i,g,fA,j]
theorem wi{σ:aw}{id:Nat}{r:fV}(h:At σ id r)(t:vb)(c:List vb)(l:r.toks=t::c):cC code I.qfj [aI id 0 0 0] σ=some (t.a,σ.set id (gw r.nx)):=by
 rw[cY amX rfl];have a:=fun n o t v=>dM h n o t v;have b:=h.get;have g:=h.lt;obtain⟨m,en,at',d⟩:=r;simp only at l;subst l;simp only[fV.v,fV.nx,List.tail_cons,aW,gw]at *;have a:=a ⟨c,en,at',d⟩;simp only at a;have k:t.a=ru t.k t.at' t.t t.n:=rfl;rw[k]at b ⊢;have f:∀h,σ[id]'h=aB 4 0 [aH [.aa false (ru t.k t.at' t.t t.n::c.map vb.a),ap en,ap at',ap d]]:=fun _=>(ak.1 b).2;have e:∀X,(σ++X)[id]?=some (aB 4 0 [aH [.aa false (ru t.k t.at' t.t t.n::c.map vb.a),ap en,ap at',ap d]]):=fun X=>by rw[aU g,b]
 have j:∀X Y,(σ++X).set id Y=σ.set id Y++X:=fun X Y=>by rw[cF _ _ g]
 have i:∀x:vb,aM x.a=4:=fun _=>rfl;simp[auY,agu,i,b,f,g,e,j,a,cr,dH]
end Go.AM
