/- Part of the proof. -/
import Derived.Test.YtmpmbfpkpannjaaGreatDoorAm18
set_option linter.unusedVariables false
set_option linter.unusedSimpArgs false
set_option linter.unusedSectionVars false
namespace Go.AM
open P
set_option maxHeartbeats 64000000
set_option maxRecDepth 40000
structure Pr (t:xh):Prop where
 own:∀n∈t.l,nH n
 ns:∀n∈t.l,NS n
 len:t.l.length≤8000
theorem Pr.ok{t:xh}(h:Pr t):TOk t:=⟨fun n a=>(h.own n a).fl,fun n a=>(h.own n a).fit,fun c n a=>by
 obtain⟨s,b⟩:=dc.1 c;have:=(BQ b).2.2.2 n a;exact⟨this.l,this.r⟩⟩
theorem UI{n:cJ}(h:NS n)(b:oU n)(a:Int):NS (gD a n):=⟨(tT b h.fit a).fit,h.keys,h.ah,h.items⟩
theorem ZW{k:Nat}{t:xh}{s s':List cJ×Int×Int}(c:Pr t)(d:∀m∈s.1,NS m)(h:om k t s=.inl s'):∀m∈s'.1,NS m:=by
 unfold om at h;split at h
 ·cases h;intro m a;rcases ba.1 a with a|a
  ·exact d m a
  obtain⟨n,b,rfl⟩:=bK.1 a;exact UI (c.ns n b) (c.own n b).fl _
 cases h
theorem IY{b σ ρ:Type}{g:Nat→b→σ→σ⊕ρ}(yq:Nat→σ→Prop):∀(l:List b) (k:Nat) (s:σ),yq k s→(∀k y s s',y∈l→yq k s→g k y s=.inl s'→yq (k+1) s')→∀s',dp g l k s=.inl s'→yq (k+l.length) s'
 |[],k,s,a,_,s',h=>by rw[dp]at h;cases h;exact a
 |y::l,k,s,a,d,s',h=>by
  rw[dp]at h;cases hy:g k y s with
  |inr r=>rw[hy]at h;cases h
  |inl c=>
   rw[hy]at h;have:=IY yq l (k+1) c (d k y s c (by simp) a hy) (fun k y s s' e=>d k y s s' (cf _ e)) s' h;simpa [dA,iu 1] using this
theorem aaX{b:List xh}(c:∀t∈b,Pr t){s:List cJ×Int×Int}(h:dp om b 0 ([],-1,-1)=.inl s):X5 b.length s∧∀m∈s.1,NS m:=by
 have:=IY (g:=om) (fun k s=>X5 k s∧∀m∈s.1,NS m) b 0 ([],-1,-1) ⟨⟨by simp,fun m a=>by simp at a,by simp,by simp⟩,fun m a=>by simp at a⟩
  (fun k y s s' a d e=>⟨JG (c y a).ok d.1 e,ZW (c y a) d.2 e⟩) s h
 simpa using this
theorem aiX{n:cJ}(b:oU n)(a:NS n)(l r:Int):oU (eU n l r)∧NS (eU n l r):=⟨⟨b.ag,b.ex⟩,⟨⟨a.fit.ac,a.fit.cond,a.fit.keys,a.fit.ah,a.fit.args,a.fit.items,a.fit.exprs,a.fit.ords⟩,a.keys,a.ah,a.items⟩⟩
theorem Rm{n:cJ}(j:oU n)(i:NS n){b:List xh}(l:b.length≤100)(k:∀t∈b,Pr t)(w:List cJ)(h:ij n b=some w):Pr ⟨false,w⟩:=by
 unfold ij at h;cases hf':dp om b 0 ([],-1,-1) with
 |inr u=>rw[hf']at h;cases h
 |inl s=>
  rw[hf']at h;simp only at h;split at h
  ·cases h;obtain⟨d,c⟩:=aaX k hf';obtain⟨f,g⟩:=aiX j i s.2.1 s.2.2;have e:=d.len;refine⟨fun m a=>?_,fun m a=>?_,by simp;omega⟩
   ·rcases ba.1 a with a|a
    ·exact d.own m a
    rw[aP.1 a];exact tT f g.fit 0
   rcases ba.1 a with a|a
   ·exact c m a
   rw[aP.1 a];exact UI g f 0
  cases h
end Go.AM
namespace Go.AM
open P
set_option maxHeartbeats 64000000
set_option maxRecDepth 40000
attribute [local simp] aG bd
structure fG where
 name:List UInt8
 kind:Int
 deriving DecidableEq
def fG.a(c:fG):aq:=aI [aO c.name,ap c.kind]
structure cL where
 name:List UInt8
 af:List fG
 keys:List Int
def cL.a(t:cL):aq:=aI [aO t.name,.aa false (t.af.map fG.a),.aa false (t.keys.map (.int .i64))]
instance:Nc fG.a 2 true:=⟨fun _=>rfl,fun _=>rfl⟩
instance:Fx fG.a:=⟨fun fl top base σ n y=>by simp[fG.a]⟩
instance:Nc cL.a 3 true:=⟨fun _=>rfl,fun _=>rfl⟩
instance:Fx cL.a:=⟨fun fl top base σ n y=>by simp[cL.a]⟩
abbrev mN(c:List cL):aq:=aI [.aa false (c.map cL.a)]
def cL.ac(t:cL):List Int:=t.af.map fG.kind
abbrev AL(c:List cL)(L:aq)(acc:List Int)(i:Nat)(e5 e10:aq)(af:aq)(len idx:aq):List aq:=
 [mN c,L,aH 0 0 0 0,.ai,.sl 1 acc.length 0 acc.length,e5,am,L,ap 1,ap i,e10,af,len,idx,am]
abbrev Jq(c:List cL)(acc:List Int):aw:=[aB 1 0 [mN c],aB 1 acc.length (cG acc)]
theorem Ph(c:List cL)(d:Bool)(ls:List aq)(q:∀base σ m,fz false true base σ (m+3) (.aa d ls)=.aa d ls)(t:Int)(a:List fG)(s:a.length≤8000)(f:Bool) :
  bU code 2 [6,14] Hz ⟨AL c (.aa d ls) [] 0 (ap t) (aC true) (.aa f (a.map fG.a)) (ap a.length) (ap 0),Jq c []⟩ =
   some (.ext 2,⟨(AL c (.aa d ls) (a.map fG.kind) 0 (ap t) (aC true) (.aa f (a.map fG.a)) (ap a.length) (ap a.length)).set 14 (aC false),Jq c (a.map fG.kind)⟩):=by
 have loop:=dl (base:=2) (clr:=[6,14]) (b:=Hz)
  (fun k=>⟨AL c (.aa d ls) ((a.take k).map fG.kind) 0 (ap t) (aC true) (.aa f (a.map fG.a)) (ap a.length) (ap k),Jq c ((a.take k).map fG.kind)⟩) a.length
  (.ext 2,⟨(AL c (.aa d ls) (a.map fG.kind) 0 (ap t) (aC true) (.aa f (a.map fG.a)) (ap a.length) (ap a.length)).set 14 (aC false),Jq c (a.map fG.kind)⟩)
  (fun k l=>by
   have o:a[k]?=some a[k]:=au l;have i:∀h:k<a.length,a[k]'h=a[k]'l:=fun _=>rfl;have r:(a.take (k+1)).map fG.kind=(a.take k).map fG.kind++[a[k].kind]:=by rw[eH,o,df];rfl
   have e:((a.take k).map fG.kind).length=k:=by simp;omega
   generalize (a.take k).map fG.kind=cs at *;generalize a[k]=n at *;rw[r];have g:k+1≤bC:=by unfold bC;omega
   have p:IntKind.i64.wrap ((k:Int)+1)=(k:Int)+1:=rJ (by omega) (by omega);have j:List.take k (cs.map (aq.int .i64))=cs.map (aq.int .i64):=ay (by simp[e]);simp[AL,Jq,Hz,l,o,i,fG.a,p,append,g,j,e,bQ,bw,cn,dE])
  (by simp[Hz])
 simpa using loop
theorem acD(c:List cL)(t:Int)(tb:cL)(l:0≤t)(e:c[t.toNat]?=some tb)(m:tb.af.length≤8000)(a:Bool):bB I.qw [mN c,.aa a [ap t]]=some (.aa false (cG tb.ac)):=by
 have f:=Ph c a [ap t] (by simp) t tb.af m false;have o:t.toNat < c.length:=(ak.1 e).1;have d:∀h:t.toNat < c.length,c[t.toNat]'h=tb:=fun h=>(ak.1 e).2;have i:t<(c.length:Int):=by omega
 have n3:aM tb.a=3∧isAgg tb.a=true:=⟨rfl,rfl⟩;have n:IntKind.i64.wrap 1=1:=rfl;have j:tb.af.map fG.kind=tb.ac:=rfl;simp only[AL,Jq,j]at f;have loop:=dl (base:=2) (clr:=[5,6,10,11,12,13,14]) (b:=Mo)
  (fun k=>⟨AL c (.aa a [ap t]) (if k=0 then [] else tb.ac) k am am am am am,Jq c (if k=0 then [] else tb.ac)⟩) 1
  (.ext 0,⟨(AL c (.aa a [ap t]) tb.ac 1 am (aC false) am am am),Jq c tb.ac⟩)
  (fun k p=>by
   obtain rfl:k=0:=by omega
   simp at f;simp[AL,Jq,Mo,l,o,e,d,i,n3,cL.a,f,n,bQ,bw,cn,dE])
  (by simp[Mo])
 rw[aT apU rfl];simp[AL,Jq]at loop;have g:List.take tb.ac.length (tb.ac.map (aq.int .i64))=tb.ac.map (aq.int .i64):=ay (by simp);simp[auk,aj4,loop,g]
theorem Qv(c:List cL)(t:Int)(b:Bool):bB I.qp [ap t,.cptr b (mN c) 0]=some (aC (decide (t<0) ||decide ((c.length:Int)≤t))):=by
 rw[aT apf rfl];cases b<;>simp[auc,amv]<;>(repeat' (split<;>(try simp_all)))<;>omega
theorem VX(c:List cL)(j:bB I.qbb [mN c]=some (ap 0))(k:∀tb∈c,tb.af.length≤8000)(t:Int)(d:Bool) :
  bB I.qo [mN c,.aa d [ap t]]=some (if 0≤t∧t<c.length then fy [.aa false (cG ((c[t.toNat]?.map cL.ac).getD [])),ap 0] else fy [.aa false [],ap 4]):=by
 rw[aT apJ rfl]
 have a:=rD (enc:=.int .i64) (b:=d) (l:=[t]) (f:=snap [aB 1 0 [mN c]] (.fn I.qp [] [aH 0 0 0 0])) (p:=fun t=>decide (t<0) ||decide ((c.length:Int)≤t)) (by simp;unfold bC;omega) (fun _=>⟨rfl,rfl⟩) (fun σ=>pK _ _ _) (fun c _=>by
  simp[Qv])
 simp only[iI,List.any_nil,oL]at a;by_cases h:0≤t∧t<c.length
 ·have g:t.toNat < c.length:=by omega
  have i:c[t.toNat]?=some c[t.toNat]:=au g;have n:=aJ g;have o:∀h:t.toNat < c.length,c[t.toNat]'h=c[t.toNat]'g:=fun _=>rfl;have m:=acD c t c[t.toNat] h.1 i (k _ n) d;generalize c[t.toNat]=tb at *;have e:(decide (t<0) ||decide ((c.length:Int)≤t))=false:=by simp;omega
  rw[e]at a;simp at a;rw[if_pos h,i];simp[asS,ah2,j,a,m]
 have e:(decide (t<0) ||decide ((c.length:Int)≤t))=true:=by simp;omega
 rw[e]at a;simp at a;rw[if_neg h];simp[asS,ah2,j,a]
structure JX where
 left:Bool
 on:List EN
def JX.a(j:JX):aq:=aI [aC j.left,.aa false (j.on.map EN.a)]
instance:Nc JX.a 2 true:=⟨fun _=>rfl,fun _=>rfl⟩
instance:Fx JX.a:=⟨fun fl top base σ n y=>by simp[JX.a]⟩
structure nG where
 tables:List Int
 joins:List JX
 whr:List EN
 having:List EN
 grouped:Bool
 distinct:Bool
 keys:List Int
 ah:List ll
 items:List yK
def nG.c(s:nG):List aq:=[.aa false (s.tables.map (.int .i64)),.aa false (s.joins.map JX.a),.aa false (s.whr.map EN.a),.aa false (s.having.map EN.a),aC s.grouped,aC s.distinct,.aa false (s.keys.map (.int .i64)),.aa false (s.ah.map xK),.aa false (s.items.map yv)]
def nG.a(s:nG):aq:=aI s.c
instance:Nc nG.a 9 true:=⟨fun _=>rfl,fun _=>rfl⟩
instance:Fx nG.a:=⟨fun fl top base σ n y=>by simp[nG.a,nG.c]⟩
abbrev Bt(o:Option (List cJ)):aq:=.aa false ((o.getD []).map cJ.a)
abbrev K0(cv f0 f1 f2 f3 f4 f5 f6 f7 f8 tv:aq)(bad:Bool):aq:=aI [cv,f0,f1,f2,f3,f4,f5,f6,f7,f8,tv,aC bad]
theorem Bq(id:Nat)(cv f i g l k j c m d n t:aq)(bad:Bool)(e:Int)(σ:aw)(h:σ[id]?=some (aB 12 0 [K0 cv f i g l k j c m d n bad]))(r:aM t=1) :
  cC code I.qep [aH id 0 0 0,aI [t],ap e] σ=some (fy [],(σ.set id (aB 12 0 [K0 cv f i g l k j c m d t (bad ||e != 0)]))++[aB 1 0 [aI [t]]]):=by
 rw[cz amf rfl];have a:=(ak.1 h).1;have v:∀X,(σ++[X])[id]?=some (aB 12 0 [K0 cv f i g l k j c m d n bad]):=fun X=>by rw[aS a,h]
 have p:∀X t,(σ.set id X++t)[id]?=some X:=fun X t=>by rw[aS (by simpa using a)];simp[a]
 have s:∀X Y,(σ++[X]).set id Y=σ.set id Y++[X]:=fun X Y=>by rw[cF _ _ a]
 have u:∀X Y Z,(σ.set id X++[Z]).set id Y=σ.set id Y++[Z]:=fun X Y Z=>by rw[cF _ _ (by simpa using a),ew]
 have q:id<σ.length+1:=by omega
 have o:∀h,σ[id]'h=aB 12 0 [K0 cv f i g l k j c m d n bad]:=fun _=>(ak.1 h).2;cases bad<;>cases he:(e==0)<;>have b:(e != 0)=!(e==0):=rfl<;>rw[he]at b<;>simp[auw,afc,r,h,o,v,p,s,u,a,q,he,b]
theorem Ip:lookF []=none:=by unfold lookF;rw[if_pos (.inl (by simp))]
theorem JR(n:cJ)(b:Bool)(a:List xh):ij n (⟨b,[]⟩::a)=none:=by
 unfold ij;have:dp om (⟨b,[]⟩::a) 0 ([],-1,-1)=.inr ():=by rw[dp];unfold om;rw[Ip];rfl
 rw[this]
theorem WA(n:cJ)(t:xh)(b:Bool):ij n [t,⟨b,[]⟩]=none:=by
 unfold ij;have:dp om [t,⟨b,[]⟩] 0 ([],-1,-1)=.inr ():=by
  rw[dp];cases om 0 t ([],-1,-1) with
  |inr _=>rfl
  |inl s=>simp only;rw[dp];unfold om;rw[Ip];rfl
 rw[this]
def dR(n:cJ)(o:Option (List cJ)):Option (List cJ):=o.bind fun t=>ij n [⟨false,t⟩]
def jJ(n:cJ)(o x:Option (List cJ)):Option (List cJ):=o.bind fun t=>x.bind fun u=>ij n [⟨false,t⟩,⟨false,u⟩]
theorem Ps(n:cJ)(o:Option (List cJ)):ij n [⟨false,o.getD []⟩]=dR n o:=by
 cases o with
 |none=>exact JR n false []
 |some t=>rfl
theorem Pb(n:cJ)(o x:Option (List cJ)):ij n [⟨false,o.getD []⟩,⟨false,x.getD []⟩]=jJ n o x:=by
 cases o with
 |none=>exact JR n false _
 |some t=>
  cases x with
  |none=>exact WA n _ false
  |some u=>rfl
def mF(o:Option (List cJ)):Prop:=Pr ⟨false,o.getD []⟩
theorem so:mF none:=⟨fun n h=>by simp at h,fun n h=>by simp at h,by simp⟩
theorem II{n:cJ}(b:nH n)(c:NS n){a:List xh}(e:a.length≤100)(d:∀t∈a,Pr t):mF (ij n a):=by
 have h:=Rm b.fl c e d;cases hl:ij n a with
 |none=>exact so
 |some w=>exact h w hl
theorem mQ{n:cJ}(a:nH n)(b:NS n){o:Option (List cJ)}(h:mF o):mF (dR n o):=by
 rw[←Ps];exact II a b (by simp) fun t c=>by rw[aP.1 c];exact h
theorem Kq{n:cJ}(b:nH n)(c:NS n){o x:Option (List cJ)}(h:mF o)(d:mF x):mF (jJ n o x):=by
 rw[←Pb]
 exact II b c (by simp) fun t a=>by
  rcases dY.1 a with rfl|a
  ·exact h
  rw[aP.1 a];exact d
theorem aah(x:Option (List cJ)):(false ||(if x.isSome then (0:Int) else 230) != 0)=x.isNone:=by cases x<;>rfl
theorem G9(id:Nat)(cv c f d k j g a l b N:aq)(n i:cJ)(o:Option (List cJ))(σ:aw)(h:σ[id]?=some (aB 12 0 [K0 cv c f d k j g a l b (Bt o) o.isNone]))
  (D:∀σ,fz true false 0 σ 20 N=i.a) (A:aM N=12∧isAgg N=true) (C:oU i) (v:sZ i) (z:∀r,ij i r=ij n r) (w:mF o) :
  cC code I.qel [aH id 0 0 0,N,.ai] σ=some (fy [],(σ.set id (aB 12 0 [K0 cv c f d k j g a l b (Bt (dR n o)) (dR n o).isNone]))++[aB 12 0 [N],aB 1 0 [aI [Bt (dR n o)]]]):=by
 rw[cz af9 rfl];have q:=(ak.1 h).1;have u:∀X,(σ++[X])[id]?=some (aB 12 0 [K0 cv c f d k j g a l b (Bt o) o.isNone]):=fun X=>by rw[aS q,h]
 have y:∀h,σ[id]'h=aB 12 0 [K0 cv c f d k j g a l b (Bt o) o.isNone]:=fun _=>(ak.1 h).2;have B:∀X Y,(σ++[X]).set id Y=σ.set id Y++[X]:=fun X Y=>by rw[cF _ _ q]
 have m:=an3 i C v ⟨false,o.getD []⟩ w.ok;rw[z,Ps]at m;have e:(o.isNone ||(if (dR n o).isSome then (0:Int) else 230) != 0)=(dR n o).isNone:=by
  cases o with
  |none=>rfl
  |some t=>exact aah _
 have s:=Bq id cv c f d k j g a l b (Bt o) (Bt (dR n o)) o.isNone (if (dR n o).isSome then 0 else 230) (σ++[aB 12 0 [N]]) (u _) rfl;rw[e,B]at s;have p:(xh.a ⟨false,o.getD []⟩)=aI [Bt o]:=rfl;unfold PQ at m;rw[p]at m;generalize dR n o=o' at *;simp only[Bt]at *;generalize (o.getD []).map cJ.a=E at *;generalize o.isNone=bad at *;generalize (o'.getD []).map cJ.a=x at *;generalize (if o'.isSome then (0:Int) else 230)=F at *;simp[asL,aa6,A,q,y,u,D,m,s]
theorem Eb(id:Nat)(cv c e d i g f a j b N:aq)(n:cJ)(o:Option (List cJ))(σ:aw)(h:σ[id]?=some (aB 12 0 [K0 cv c e d i g f a j b (Bt o) o.isNone]))
  (p:∀σ,fz true false 0 σ 20 N=n.a) (k:aM N=12∧isAgg N=true) (q:nH n) (l:NS n) (m:mF o) :
  cC code I.qel [aH id 0 0 0,N,.ai] σ=some (fy [],(σ.set id (aB 12 0 [K0 cv c e d i g f a j b (Bt (dR n o)) (dR n o).isNone]))++[aB 12 0 [N],aB 1 0 [aI [Bt (dR n o)]]]):=
 G9 id cv c e d i g f a j b N n n o σ h p k q.fl l.fit (fun _=>rfl) m
theorem HP(id:Nat)(cv b d c f e j a k g N:aq)(n:cJ)(o x:Option (List cJ))(σ:aw)(h:σ[id]?=some (aB 12 0 [K0 cv b d c f e j a k g (Bt o) (o.isNone ||x.isNone)]))
  (C:∀σ,fz true false 0 σ 20 N=n.a) (B:aM N=12∧isAgg N=true) (v:nH n) (G:NS n) (D:mF o) (E:mF x) :
  cC code I.qel [aH id 0 0 0,N,.lst [aI [Bt x]]] σ=some (fy [],(σ.set id (aB 12 0 [K0 cv b d c f e j a k g (Bt (jJ n o x)) (jJ n o x).isNone]))++[aB 12 0 [N],aB 1 0 [aI [Bt (jJ n o x)]]]):=by
 rw[cz af9 rfl];have r:=(ak.1 h).1;have w:∀X,(σ++[X])[id]?=some (aB 12 0 [K0 cv b d c f e j a k g (Bt o) (o.isNone ||x.isNone)]):=fun X=>by rw[aS r,h]
 have z:∀h,σ[id]'h=aB 12 0 [K0 cv b d c f e j a k g (Bt o) (o.isNone ||x.isNone)]:=fun _=>(ak.1 h).2;have F:∀X Y,(σ++[X]).set id Y=σ.set id Y++[X]:=fun X Y=>by rw[cF _ _ r]
 have l:=ano n v.fl v.fit ⟨false,o.getD []⟩ ⟨false,x.getD []⟩ D.ok E.ok;rw[Pb]at l;have i:((o.isNone ||x.isNone) ||(if (jJ n o x).isSome then (0:Int) else 230) != 0)=(jJ n o x).isNone:=by
  cases o with
  |none=>rfl
  |some t=>
   cases x with
   |none=>rfl
   |some u=>exact aah _
 have s:=Bq id cv b d c f e j a k g (Bt o) (Bt (jJ n o x)) (o.isNone ||x.isNone) (if (jJ n o x).isSome then 0 else 230) (σ++[aB 12 0 [N]]) (w _) rfl;rw[i,F]at s;have q:(xh.a ⟨false,o.getD []⟩)=aI [Bt o]:=rfl;have p:(xh.a ⟨false,x.getD []⟩)=aI [Bt x]:=rfl;have A:∀σ m,fz true false 0 σ (m+3) (aI [Bt x])=aI [Bt x]:=fun σ m=>by simp
 unfold PQ at l;rw[q,p]at l;generalize jJ n o x=o' at *;simp only[Bt]at *;generalize (o.getD []).map cJ.a=K at *;generalize (x.getD []).map cJ.a=J at *;generalize (o.isNone ||x.isNone)=bad at *;generalize (o'.getD []).map cJ.a=y at *;generalize (if o'.isSome then (0:Int) else 230)=H at *;simp[asL,aa6,B,r,z,w,C,l,s]
def dz:cJ:=⟨0,0,0,0,false,[],false,false,[],false,[],false,[],false,[],false,[],0⟩
def kA(t:Int)(ks:List Int):cJ:={ dz with op:=1,tab:=t,ac:=ks }
def jV(j:JX):cJ:={ dz with op:=2,left:=j.left,cond:=j.on }
def rp(e:List EN):cJ:={ dz with op:=3,cond:=e }
def jr(ks:List Int)(gs:List ll):cJ:={ dz with op:=4,keys:=ks,ah:=gs }
def mG(es:List yK):cJ:={ dz with op:=5,items:=es }
def vJ:cJ:={ dz with op:=6 }
def qW:cJ:={ dz with op:=7 }
def jA(o:List (Int×Bool))(l:Int):cJ:={ dz with op:=8,ords:=o,limit:=l }
structure PU (s:nG):Prop where
 tl:s.tables.length≤8000
 jl:s.joins.length≤8000
 ons:∀j∈s.joins,j.on.length≤uZ
 whr:s.whr.length≤uZ
 having:s.having.length≤uZ
 keys:s.keys.length≤8000
 ah:s.ah.length≤8000
 items:s.items.length≤8000
 args:∀g∈s.ah,g.arg.length≤uZ
 exprs:∀e∈s.items,e.l.length≤uZ
 agb:∀g∈s.ah,g.b=false
 exb:∀e∈s.items,e.b=false
theorem zr{n:cJ}(f:oU n)(o:n.bk=false)(r:n.bc=false)(p:n.by'=false)(m:n.bg=false)(q:n.bi=false)(j:n.bo=false)
  (k:n.ac.length≤8000) (c:n.cond.length≤uZ) (h:n.keys.length≤8000) (b:n.ah.length≤8000) (l:∀g∈n.ah,g.arg.length≤uZ) (it:n.items.length≤8000) (ex:∀e∈n.items,e.l.length≤uZ) (i:n.ords.length≤8000):nH n∧NS n:=by
 have a:8000≤uZ:=by decide
 have d:sZ n:=⟨bR k a,c,bR h a,bR b a,l,bR it a,ex,bR i a⟩;refine⟨⟨f,d,?_⟩,⟨d,h,b,it⟩⟩;unfold cJ.a B4;rw[o,r,p,m,q,j,f.ags,f.exs]
theorem Hc(t:Int){ks:List Int}(h:ks.length≤8000):nH (kA t ks)∧NS (kA t ks):=zr ⟨by simp[kA,dz],by simp[kA,dz]⟩ rfl rfl rfl rfl rfl rfl h (by simp[kA,dz]) (by simp[kA,dz]) (by simp[kA,dz]) (by simp[kA,dz]) (by simp[kA,dz]) (by simp[kA,dz]) (by simp[kA,dz])
theorem HB{j:JX}(h:j.on.length≤uZ):nH (jV j)∧NS (jV j):=zr ⟨by simp[jV,dz],by simp[jV,dz]⟩ rfl rfl rfl rfl rfl rfl (by simp[jV,dz]) h (by simp[jV,dz]) (by simp[jV,dz]) (by simp[jV,dz]) (by simp[jV,dz]) (by simp[jV,dz]) (by simp[jV,dz])
theorem CM{e:List EN}(h:e.length≤uZ):nH (rp e)∧NS (rp e):=zr ⟨by simp[rp,dz],by simp[rp,dz]⟩ rfl rfl rfl rfl rfl rfl (by simp[rp,dz]) h (by simp[rp,dz]) (by simp[rp,dz]) (by simp[rp,dz]) (by simp[rp,dz]) (by simp[rp,dz]) (by simp[rp,dz])
theorem LG{ks:List Int}{gs:List ll}(c:ks.length≤8000)(b:gs.length≤8000)(a:∀g∈gs,g.arg.length≤uZ)(d:∀g∈gs,g.b=false):nH (jr ks gs)∧NS (jr ks gs):=
 zr ⟨d,by simp[jr,dz]⟩ rfl rfl rfl rfl rfl rfl (by simp[jr,dz]) (by simp[jr,dz]) c b a (by simp[jr,dz]) (by simp[jr,dz]) (by simp[jr,dz])
theorem GV{es:List yK}(b:es.length≤8000)(a:∀e∈es,e.l.length≤uZ)(c:∀e∈es,e.b=false):nH (mG es)∧NS (mG es):=
 zr ⟨by simp[mG,dz],c⟩ rfl rfl rfl rfl rfl rfl (by simp[mG,dz]) (by simp[mG,dz]) (by simp[mG,dz]) (by simp[mG,dz]) (by simp[mG,dz]) b a (by simp[mG,dz])
theorem Ai:nH vJ∧NS vJ:=zr ⟨by simp[vJ,dz],by simp[vJ,dz]⟩ rfl rfl rfl rfl rfl rfl (by simp[vJ,dz]) (by simp[vJ,dz]) (by simp[vJ,dz]) (by simp[vJ,dz]) (by simp[vJ,dz]) (by simp[vJ,dz]) (by simp[vJ,dz]) (by simp[vJ,dz])
theorem Ar:nH qW∧NS qW:=zr ⟨by simp[qW,dz],by simp[qW,dz]⟩ rfl rfl rfl rfl rfl rfl (by simp[qW,dz]) (by simp[qW,dz]) (by simp[qW,dz]) (by simp[qW,dz]) (by simp[qW,dz]) (by simp[qW,dz]) (by simp[qW,dz]) (by simp[qW,dz])
theorem Lv{o:List (Int×Bool)}(l:Int)(h:o.length≤8000):nH (jA o l)∧NS (jA o l):=zr ⟨by simp[jA,dz],by simp[jA,dz]⟩ rfl rfl rfl rfl rfl rfl (by simp[jA,dz]) (by simp[jA,dz]) (by simp[jA,dz]) (by simp[jA,dz]) (by simp[jA,dz]) (by simp[jA,dz]) (by simp[jA,dz]) h
structure A4 (c:List cL):Prop where
 chk:bB I.qbb [mN c]=some (ap 0)
 af:∀tb∈c,tb.af.length≤8000
def iP(c:List cL)(t:Int):Option (List cJ):=if 0≤t∧t<c.length then ij (kA t ((c[t.toNat]?.map cL.ac).getD [])) [] else none
theorem JZ{c:List cL}(h:∀tb∈c,tb.af.length≤8000)(t:Nat):((c[t]?.map cL.ac).getD []).length≤8000:=by
 cases hy:c[t]? with
 |none=>simp
 |some tb=>simpa [cL.ac] using h tb (aN hy)
theorem Eu{c:List cL}(h:∀tb∈c,tb.af.length≤8000)(t:Int):mF (iP c t):=by
 unfold iP;split
 ·have:=Hc t (JZ h t.toNat);exact II this.1 this.2 (by simp) (fun t h=>by simp at h)
 exact so
def Hy(c:List cL)(t:Int):Int:=if 0≤t∧t<c.length then (if (iP c t).isSome then 0 else 230) else 4
theorem Oc(c:List cL)(t:Int):(Hy c t != 0)=(iP c t).isNone:=by
 unfold Hy iP;split
 ·cases ij (kA t ((c[t.toNat]?.map cL.ac).getD [])) []<;>rfl
 rfl
abbrev bS(c:List cL)(s:nG)(tv:aq)(bad:Bool):aq:=K0 (.aa false (c.map cL.a)) (.aa false (s.tables.map (.int .i64))) (.aa false (s.joins.map JX.a)) (.aa false (s.whr.map EN.a)) (.aa false (s.having.map EN.a)) (aC s.grouped) (aC s.distinct) (.aa false (s.keys.map (.int .i64))) (.aa false (s.ah.map xK)) (.aa false (s.items.map yv)) tv bad
theorem aaF(c:List cL)(d:A4 c)(s:nG)(xs:List aq)(bad b:Bool)(t:Int):bB I.qeo [.cptr b (bS c s (.aa false xs) bad) 0,ap t]=some (fy [aI [Bt (iP c t)],ap (Hy c t)]):=by
 rw[aT anP rfl];have a:=VX c d.chk d.af t true;have g:=Hc t (JZ d.af t.toNat);unfold Hy iP;by_cases h:0≤t∧t<c.length
 ·have e:=aii _ g.1.fl g.1.fit;simp only[if_pos h]at a ⊢;unfold PQ at e;generalize ((c[t.toNat]?.map cL.ac).getD [])=ks at *;generalize ij (kA t ks) []=o at *;have f:(kA t ks).a=aI [ap 1,ap 0,ap 0,ap t,.aa false (cG ks),aC false,.aa false [],.aa false [],.aa false [],.aa false [],.aa false [],ap 0]:=rfl;rw[f]at e;simp only[Bt]at *;generalize (if o.isSome then (0:Int) else 230)=i at *;cases b<;>simp[asx,abz,a,e]
 simp only[if_neg h]at a ⊢;cases b<;>simp[asx,abz,a]
abbrev uT(c:List cL)(s:nG)(tv:aq)(bad:Bool):aw:=[aB 1 0 [mN c],aB 9 0 [s.a],aB 1 0 [aI [.ai]],aB 12 0 [bS c s tv bad]]
abbrev Dc(s:nG)(k:Nat):List aq:=[aH 3 0 0 0,.aa false (s.tables.map (.int .i64)),am,am,am,am,aC false,.aa false (s.joins.map JX.a),ap s.joins.length,ap k,am]
theorem OK(c:List cL)(x:A4 c)(s:nG)(r:PU s)(J:s.joins.length+1=s.tables.length)(q:List aq)(k:Nat)(j:JX)(t:Int)(o:Option (List cJ))(G:k<s.joins.length)(a:s.joins[k]?=some j)(g:s.tables[k+1]?=some t)(A:mF o) :
  dh 5 [2,3,4,5,10] vH (run code vH ⟨Dc s k,uT c s (Bt o) o.isNone++[aB 1 0 [aI [.aa false q]]]⟩) =
   bU code 5 [2,3,4,5,10] vH ⟨Dc s (k+1),uT c s (Bt (jJ (jV j) o (iP c t))) (jJ (jV j) o (iP c t)).isNone++[aB 1 0 [aI [.aa false q]]]⟩:=by
 have v:=aaF c x s ((o.getD []).map cJ.a) o.isNone true t;have l:=HB (r.ons j (aN a));have b:=HP 3 (.aa false (c.map cL.a)) (.aa false (s.tables.map (.int .i64))) (.aa false (s.joins.map JX.a)) (.aa false (s.whr.map EN.a)) (.aa false (s.having.map EN.a)) (aC s.grouped) (aC s.distinct) (.aa false (s.keys.map (.int .i64))) (.aa false (s.ah.map xK)) (.aa false (s.items.map yv))
  (aI [ap 2,ap 0,ap 0,ap 0,.ai,aC j.left,.aa false (j.on.map EN.a),.ai,.ai,.ai,.ai,ap 0]) (jV j) o (iP c t)
  (uT c s (Bt o) (o.isNone ||(iP c t).isNone)++[aB 1 0 [aI [.aa false q]],aB 2 0 [j.a],aB 1 0 [aI [Bt (iP c t)]]]) rfl
  (fun σ=>by
   have:(jV j).a=aI [ap 2,ap 0,ap 0,ap 0,.aa false [],aC j.left,.aa false (j.on.map EN.a),.aa false [],.aa false [],.aa false [],.aa false [],ap 0]:=rfl;rw[this];simp) ⟨rfl,rfl⟩ l.1 l.2 A (Eu x.af t)
 have w:=Oc c t;have F:k+1<s.tables.length:=by omega
 have u:((k:Int)+1)<(s.tables.length:Int):=by omega
 have p:∀h:k+1<s.tables.length,s.tables[k+1]'h=t:=fun h=>(ak.1 g).2;have n:∀h:k<s.joins.length,s.joins[k]'h=j:=fun h=>(ak.1 a).2;have E:IntKind.i64.wrap ((k:Int)+1)=(k:Int)+1:=rJ (by have:=r.jl;omega) (by have:=r.jl;omega);have D:((k:Int)+1).toNat=k+1:=by omega
 have B:(0:Int)≤(k:Int)+1:=by omega
 have i:j.a=aI [aC j.left,.aa false (j.on.map EN.a)]:=rfl;have f:s.a=aI s.c:=rfl;have e:s.c.length=9:=rfl;have d:∀fl top base σ m,(s.c.map (fz fl top base σ (m+2)))=s.c:=fun fl top base σ m=>by simp[nG.c]
 simp only[uT,Bt,bX,bT,List.set]at *;rw[i,f]at b;rw[f];generalize jJ (jV j) o (iP c t)=o' at *;generalize Hy c t=I at *;generalize (iP c t).isNone=C at *;generalize ((iP c t).getD []).map cJ.a=K at *;generalize (o.getD []).map cJ.a=H at *;generalize (o'.getD []).map cJ.a=z at *;generalize o.isNone=bad at *;generalize o'.isNone=y at *;generalize s.c=sc at *;cases bad<;>cases C<;>simp only[Bool.or_self,Bool.or_true,Bool.true_or,oL,jO]at b<;>simp[vH,Dc,G,a,n,i,F,u,g,p,D,B,E,v,w,b,e,d,bQ,bw,cn,dE]
def oE(c:List cL)(s:nG):Option (List cJ):=
 if s.tables.length<1∨3<s.tables.length∨s.joins.length+1≠s.tables.length then none
 else (s.joins.zip s.tables.tail).foldl (fun o p=>jJ (jV p.1) o (iP c p.2)) (iP c (s.tables.headD 0))
theorem RR(c:List cL)(h:A4 c)(s:nG)(l:PU s)(n:s.joins.length+1=s.tables.length)(e:List aq)(o:Option (List cJ))(f:mF o) :
  bU code 5 [2,3,4,5,10] vH ⟨Dc s 0,uT c s (Bt o) o.isNone++[aB 1 0 [aI [.aa false e]]]⟩ =
   some (.ext 0,⟨(Dc s s.joins.length).set 10 (aC false),uT c s (Bt ((s.joins.zip s.tables.tail).foldl (fun o p=>jJ (jV p.1) o (iP c p.2)) o)) ((s.joins.zip s.tables.tail).foldl (fun o p=>jJ (jV p.1) o (iP c p.2)) o).isNone++[aB 1 0 [aI [.aa false e]]]⟩) ∧
  mF ((s.joins.zip s.tables.tail).foldl (fun o p=>jJ (jV p.1) o (iP c p.2)) o):=by
 have d:(s.joins.zip s.tables.tail).length=s.joins.length:=by simp;omega
 have key:=gL (base:=5) (clr:=[2,3,4,5,10]) (b:=vH) (s.joins.zip s.tables.tail) (fun k o=>⟨Dc s k,uT c s (Bt o) o.isNone++[aB 1 0 [aI [.aa false e]]]⟩) (fun _ o=>mF o)
  (fun o p=>jJ (jV p.1) o (iP c p.2)) (fun o=>(.ext 0,⟨(Dc s s.joins.length).set 10 (aC false),uT c s (Bt o) o.isNone++[aB 1 0 [aI [.aa false e]]]⟩))
  (fun k p o r q f=>by
   obtain⟨j,t⟩:=p;have g:k<s.joins.length:=by omega
   obtain⟨i,m⟩:=eW.1 q;rw[List.getElem?_tail]at m;have a:=HB (l.ons j (aN i));exact⟨OK c h s l n e k j t o g i m f,Kq a.1 a.2 f (Eu h.af t)⟩)
  (fun o _=>by
   rw[d];simp[Dc,uT,vH]) o f
 exact key
theorem R2(c:List cL)(l:A4 c)(s:nG)(w:PU s) :
  mF (oE c s)∧∃u J,cC code I.qen [aH 3 0 0 0] (uT c s .ai false)=some (fy [],uT c s u (oE c s).isNone++J)∧((oE c s).isSome→u=Bt (oE c s)):=by
 have v:IntKind.i64.wrap ((s.tables.length:Int)-1)=(s.tables.length:Int)-1:=rJ (by omega) (by have:=w.tl;omega);by_cases h:s.tables.length<1∨3<s.tables.length∨s.joins.length+1≠s.tables.length
 ·have n:oE c s=none:=by unfold oE;rw[if_pos h]
  rw[n];refine⟨so,.ai,[],?_,fun h=>by cases h⟩;rw[cz agP rfl];by_cases D:s.tables.length<1
  ·have a:(s.tables.length:Int)<1:=by omega
   simp[ar5,Oq,a]
  have a:¬(s.tables.length:Int)<1:=by omega
  by_cases F:3<s.tables.length
  ·have b:(3:Int)<(s.tables.length:Int):=by omega
   simp[ar5,Oq,a,b]
  have b:¬(3:Int)<(s.tables.length:Int):=by omega
  have k:((s.joins.length:Int) != (s.tables.length:Int)-1)=true:=by simp;omega
  simp[ar5,Oq,a,b,k,v]
 have a:¬(s.tables.length:Int)<1:=by omega
 have b:¬(3:Int)<(s.tables.length:Int):=by omega
 have k:((s.joins.length:Int) != (s.tables.length:Int)-1)=false:=by simp;omega
 have n:oE c s=(s.joins.zip s.tables.tail).foldl (fun o p=>jJ (jV p.1) o (iP c p.2)) (iP c (s.tables.headD 0)):=by unfold oE;rw[if_neg h]
 have z:=Eu l.af (s.tables.headD 0);obtain⟨loop,e⟩:=RR c l s w (by omega) (((iP c (s.tables.headD 0)).getD []).map cJ.a) (iP c (s.tables.headD 0)) z;rw[←n]at loop e;refine⟨e,Bt (oE c s),[aB 1 0 [aI [Bt (iP c (s.tables.headD 0))]]],?_,fun _=>rfl⟩;have g:=aaF c l s [] false true (s.tables.headD 0);have r:=Oc c (s.tables.headD 0);have d:=Bq 3 (.aa false (c.map cL.a)) (.aa false (s.tables.map (.int .i64))) (.aa false (s.joins.map JX.a)) (.aa false (s.whr.map EN.a)) (.aa false (s.having.map EN.a)) (aC s.grouped) (aC s.distinct) (.aa false (s.keys.map (.int .i64))) (.aa false (s.ah.map xK)) (.aa false (s.items.map yv)) .ai
  (Bt (iP c (s.tables.headD 0))) false (Hy c (s.tables.headD 0)) (uT c s .ai false) rfl rfl
 rw[r]at d;obtain⟨t,i,f⟩:∃t i,s.tables=t::i:=by
  cases f:s.tables with
  |nil=>rw[f]at h;simp at h
  |cons t i=>exact⟨t,i,rfl⟩
 have q:s.tables.headD 0=t:=by rw[f];rfl
 have A:0<s.tables.length:=by omega
 have j:∀h:0<s.tables.length,s.tables[0]'h=t:=fun h=>by simp[f]
 have m:s.tables[0]?=some t:=by simp[f]
 simp only[q]at g d loop ⊢;simp only[uT,Bt,bX,bT,List.set,jO,Dc,bj]at *;rw[cz agP rfl];generalize oE c s=o' at *;generalize Hy c t=B at *;generalize (iP c t).isNone=C at *;generalize ((iP c t).getD []).map cJ.a=E at *;generalize (o'.getD []).map cJ.a=y at *;generalize o'.isNone=x at *;simp[ar5,Oq,a,b,k,v,A,j,m,g,d,loop]
theorem D7(id:Nat)(cv d f e j i g b k c N:aq)(n:cJ)(o:Option (List cJ))(σ:aw)(h:σ[id]?=some (aB 12 0 [K0 cv d f e j i g b k c (Bt o) o.isNone]))
  (s:∀σ,fz true false 0 σ 20 N=n.a) (l:aM N=12∧isAgg N=true) (t:nH n) (p:NS n) (q:mF o) :
  cC code I.qeq [aH id 0 0 0,aC true,N] σ=some (fy [],(σ.set id (aB 12 0 [K0 cv d f e j i g b k c (Bt (dR n o)) (dR n o).isNone]))++[aB 12 0 [N],aB 12 0 [N],aB 1 0 [aI [Bt (dR n o)]]]):=by
 rw[cz af2 rfl];have m:=(ak.1 h).1;have u:∀X,(σ++[X])[id]?=some (aB 12 0 [K0 cv d f e j i g b k c (Bt o) o.isNone]):=fun X=>by rw[aS m,h]
 have r:∀X Y,(σ++[X]).set id Y=σ.set id Y++[X]:=fun X Y=>by rw[cF _ _ m]
 have a:=Eb id cv d f e j i g b k c N n o (σ++[aB 12 0 [N]]) (u _) s l t p q;rw[r]at a;generalize dR n o=o' at *;simp[asr,YG,l,a]
theorem Bd(p N:aq)(a:aM N=12∧isAgg N=true)(σ:aw):cC code I.qeq [p,aC false,N] σ=some (fy [],σ++[aB 12 0 [N]]):=by
 rw[cz af2 rfl];simp[asr,YG,a]
def vC(s:nG)(o:Option (List cJ)):Option (List cJ):=if s.whr=[] then o else dR (rp s.whr) o
theorem abI{s:nG}(b:PU s){o:Option (List cJ)}(a:mF o):mF (vC s o):=by
 unfold vC;split
 ·exact a
 have:=CM b.whr;exact mQ this.1 this.2 a
abbrev F0(e:List EN):aq:=aI [ap 3,ap 0,ap 0,ap 0,.ai,aC false,.aa false (e.map EN.a),.ai,.ai,.ai,.ai,ap 0]
theorem Vw(e:List EN)(σ:aw):fz true false 0 σ 20 (F0 e)=(rp e).a:=by
 have:(rp e).a=aI [ap 3,ap 0,ap 0,ap 0,.aa false [],aC false,.aa false (e.map EN.a),.aa false [],.aa false [],.aa false [],.aa false [],ap 0]:=rfl;rw[this];simp
theorem Ns(c:List cL)(s:nG)(i:PU s)(o:Option (List cJ))(g:mF o) :
  ∃J,cC code I.qej [aH 3 0 0 0] (uT c s (Bt o) o.isNone)=some (fy [],uT c s (Bt (vC s o)) (vC s o).isNone++J):=by
 rw[cz an5 rfl];unfold vC;by_cases h:s.whr=[]
 ·have b:¬(0:Int)<(s.whr.length:Int):=by rw[h];simp
  rw[if_pos h];exact⟨_,by simp[ati,aaC,h,Bd];rfl⟩
 have a:0<s.whr.length:=eY.2 h;have b:(0:Int)<(s.whr.length:Int):=by have:=eY.2 h;omega
 rw[if_neg h];have d:=CM i.whr;have j:=D7 3 (.aa false (c.map cL.a)) (.aa false (s.tables.map (.int .i64))) (.aa false (s.joins.map JX.a)) (.aa false (s.whr.map EN.a)) (.aa false (s.having.map EN.a)) (aC s.grouped) (aC s.distinct) (.aa false (s.keys.map (.int .i64))) (.aa false (s.ah.map xK)) (.aa false (s.items.map yv))
  (F0 s.whr) (rp s.whr) o (uT c s (Bt o) o.isNone) rfl (Vw s.whr) ⟨rfl,rfl⟩ d.1 d.2 g
 refine⟨[aB 12 0 [F0 s.whr],aB 12 0 [F0 s.whr],aB 1 0 [aI [Bt (dR (rp s.whr) o)]]],?_⟩;simp only[uT,Bt,bX,bT,List.set]at *;generalize dR (rp s.whr) o=o' at *;generalize (o.getD []).map cJ.a=k at *;generalize (o'.getD []).map cJ.a=f at *;generalize o.isNone=bad at *;generalize o'.isNone=e at *;simp[ati,aaC,b,a,j]
def wu(s:nG)(o:Option (List cJ)):Option (List cJ):=if s.distinct then dR vJ (dR (mG s.items) o) else dR (mG s.items) o
theorem Yt{s:nG}(b:PU s){o:Option (List cJ)}(c:mF o):mF (wu s o):=by
 have a:=GV b.items b.exprs b.exb;unfold wu;split
 ·exact mQ Ai.1 Ai.2 (mQ a.1 a.2 c)
 exact mQ a.1 a.2 c
abbrev ajm:aq:=aI [ap 6,ap 0,ap 0,ap 0,.ai,aC false,.ai,.ai,.ai,.ai,.ai,ap 0]
theorem adC(σ:aw):fz true false 0 σ 20 ajm=vJ.a:=by
 have:vJ.a=aI [ap 6,ap 0,ap 0,ap 0,.aa false [],aC false,.aa false [],.aa false [],.aa false [],.aa false [],.aa false [],ap 0]:=rfl;rw[this];simp
abbrev XD(es:List yK):aq:=aI [ap 5,ap 0,ap 0,ap 0,.ai,aC false,.ai,.ai,.ai,.aa false (es.map yv),.ai,ap 0]
theorem Xi(es:List yK)(h:∀e∈es,e.b=false)(σ:aw):fz true false 0 σ 20 (XD es)=(mG es).a:=by
 have a:es.map yK.a=es.map yv:=aW fun e a=>by simp[yK.a,yv,h e a]
 have:(mG es).a=aI [ap 5,ap 0,ap 0,ap 0,.aa false [],aC false,.aa false [],.aa false [],.aa false [],.aa false (es.map yK.a),.aa false [],ap 0]:=rfl;rw[this,a];simp
theorem JF(c:List cL)(s:nG)(d:PU s)(o:Option (List cJ))(j:mF o) :
  ∃J,cC code I.qem [aH 3 0 0 0] (uT c s (Bt o) o.isNone)=some (fy [],uT c s (Bt (wu s o)) (wu s o).isNone++J):=by
 rw[cz amD rfl];have e:=GV d.items d.exprs d.exb;have i:=mQ e.1 e.2 j;have a:=Eb 3 (.aa false (c.map cL.a)) (.aa false (s.tables.map (.int .i64))) (.aa false (s.joins.map JX.a)) (.aa false (s.whr.map EN.a)) (.aa false (s.having.map EN.a)) (aC s.grouped) (aC s.distinct) (.aa false (s.keys.map (.int .i64))) (.aa false (s.ah.map xK)) (.aa false (s.items.map yv))
   (XD s.items) (mG s.items) o (uT c s (Bt o) o.isNone) rfl (Xi s.items d.exb) ⟨rfl,rfl⟩ e.1 e.2 j
 have b:=D7 3 (.aa false (c.map cL.a)) (.aa false (s.tables.map (.int .i64))) (.aa false (s.joins.map JX.a)) (.aa false (s.whr.map EN.a)) (.aa false (s.having.map EN.a)) (aC s.grouped) (aC s.distinct) (.aa false (s.keys.map (.int .i64))) (.aa false (s.ah.map xK)) (.aa false (s.items.map yv))
   ajm vJ (dR (mG s.items) o) (uT c s (Bt (dR (mG s.items) o)) (dR (mG s.items) o).isNone++[aB 12 0 [XD s.items],aB 1 0 [aI [Bt (dR (mG s.items) o)]]]) rfl adC ⟨rfl,rfl⟩ Ai.1 Ai.2 i
 have f:=fun σ=>Bd (aH 3 0 0 0) ajm ⟨rfl,rfl⟩ σ;unfold wu;simp only[uT,bS,Bt,bX,bT,List.set]at *;generalize dR vJ (dR (mG s.items) o)=k at *;generalize dR (mG s.items) o=n at *;generalize (o.getD []).map cJ.a=r at *;generalize h:(n.getD []).map cJ.a=p at *;generalize o.isNone=bad at *;generalize g:n.isNone=m at *;cases hd:s.distinct with
 |true=>
  rw[hd]at a b;simp only[cw];generalize (k.getD []).map cJ.a=q at *;generalize k.isNone=l at *;exact⟨_,by simp[asQ,Ye,a,b];rfl⟩
 |false=>
  rw[hd]at a;simp only[bq,cI];rw[h,g];exact⟨_,by simp[asQ,Ye,a,f];rfl⟩
def jP(s:nG):List ll:=if s.keys.length+s.ah.length=0 then [⟨1,false,[]⟩] else s.ah
def pG(s:nG)(o:Option (List cJ)):Option (List cJ):=
 if s.grouped then (if s.having=[] then dR (jr s.keys (jP s)) o else dR (rp s.having) (dR (jr s.keys (jP s)) o))
 else if 0<s.keys.length+s.ah.length∨s.having≠[] then none else o
theorem abw{s:nG}(a:PU s):nH (jr s.keys (jP s))∧NS (jr s.keys (jP s)):=by
 unfold jP;split
 ·exact LG a.keys (by simp) (fun g b=>by rw[aP.1 b];simp) (fun g b=>by rw[aP.1 b])
 exact LG a.keys a.ah a.args a.agb
theorem YX{s:nG}(c:PU s){o:Option (List cJ)}(b:mF o):mF (pG s o):=by
 have a:=abw c;have d:=CM c.having;unfold pG
 repeat' split
 ·exact mQ a.1 a.2 b
 ·exact mQ d.1 d.2 (mQ a.1 a.2 b)
 ·exact so
 exact b
abbrev Lm(ks:List Int)(gs:List ll):aq:=aI [ap 4,ap 0,ap 0,ap 0,.ai,aC false,.ai,.aa false (ks.map (.int .i64)),.aa false (gs.map xK),.ai,.ai,ap 0]
theorem aco(ks:List Int)(gs:List ll)(h:∀g∈gs,g.b=false)(σ:aw):fz true false 0 σ 20 (Lm ks gs)=(jr ks gs).a:=by
 have a:gs.map ll.a=gs.map xK:=aW fun e a=>by simp[ll.a,xK,h e a]
 have:(jr ks gs).a=aI [ap 4,ap 0,ap 0,ap 0,.aa false [],aC false,.aa false [],.aa false (ks.map (.int .i64)),.aa false (gs.map ll.a),.aa false [],.aa false [],ap 0]:=rfl;rw[this,a];simp
abbrev No(ks:List Int):aq:=aI [ap 4,ap 0,ap 0,ap 0,.ai,aC false,.ai,.aa false (ks.map (.int .i64)),.lst [aI [ap 1,.ai]],.ai,.ai,ap 0]
def AF(ks:List Int):cJ:={ jr ks [⟨1,false,[]⟩] with bg:=true }
theorem ad0(ks:List Int)(σ:aw):fz true false 0 σ 20 (No ks)=(AF ks).a:=by
 have:(AF ks).a=aI [ap 4,ap 0,ap 0,ap 0,.aa false [],aC false,.aa false [],.aa false (ks.map (.int .i64)),.aa true [aI [ap 1,.aa false []]],.aa false [],.aa false [],ap 0]:=rfl;rw[this];simp
theorem VN(ks:List Int)(a:List xh):ij (AF ks) a=ij (jr ks [⟨1,false,[]⟩]) a:=rfl
theorem acY{ks:List Int}(h:ks.length≤8000):oU (AF ks)∧sZ (AF ks):=by
 have c:8000≤uZ:=by decide
 exact⟨⟨fun g a=>by simp[AF,jr]at a;simp[a],fun e b=>by simp[AF,jr,dz]at b⟩,⟨by simp[AF,jr,dz],by simp[AF,jr,dz],by simp[AF,jr,dz];omega,by simp[AF,jr,dz];omega,fun g a=>by simp[AF,jr]at a;simp[a],by simp[AF,jr,dz],by simp[AF,jr,dz],by simp[AF,jr,dz]⟩⟩
theorem OI(c:List cL)(s:nG)(w:PU s)(t:List cJ)(G:mF (some t)) :
  ∃l J,cC code I.qek [aH 3 0 0 0] (uT c s (Bt (some t)) false)=some (fy [],uT c s l (pG s (some t)).isNone++J)∧((pG s (some t)).isSome→l=Bt (pG s (some t))):=by
 rw[cz amX rfl];have g:s.a=aI s.c:=rfl;have i:s.c=[.aa false (s.tables.map (.int .i64)),.aa false (s.joins.map JX.a),.aa false (s.whr.map EN.a),.aa false (s.having.map EN.a),aC s.grouped,aC s.distinct,.aa false (s.keys.map (.int .i64)),.aa false (s.ah.map xK),.aa false (s.items.map yv)]:=rfl;have R:=w.keys;have P:=w.ah;have q:IntKind.i64.wrap ((s.keys.length:Int)+(s.ah.length:Int))=(s.keys.length:Int)+(s.ah.length:Int):=rJ (by omega) (by omega);by_cases j:s.grouped=true
 ·have B:=abw w;have y:=CM w.having;have D:=mQ B.1 B.2 G;refine⟨Bt (pG s (some t)),?_⟩;unfold pG;rw[if_pos j];have k:∀(N:aq) (v:cJ) (τ:aw) (O:∀σ,fz true false 0 σ 20 N=v.a) (M:aM N=12∧isAgg N=true) (y:oU v) (H:sZ v) (L:∀A,ij v A=ij (jr s.keys (jP s)) A),cC code I.qel [aH 3 0 0 0,N,.ai] (uT c s (Bt (some t)) false++τ)=some (fy [],uT c s (Bt (dR (jr s.keys (jP s)) (some t))) (dR (jr s.keys (jP s)) (some t)).isNone++(τ++[aB 12 0 [N],aB 1 0 [aI [Bt (dR (jr s.keys (jP s)) (some t))]]])):=fun N v τ O M y H L=>by
   have:=G9 3 (.aa false (c.map cL.a)) (.aa false (s.tables.map (.int .i64))) (.aa false (s.joins.map JX.a)) (.aa false (s.whr.map EN.a)) (.aa false (s.having.map EN.a)) (aC s.grouped) (aC s.distinct) (.aa false (s.keys.map (.int .i64))) (.aa false (s.ah.map xK)) (.aa false (s.items.map yv))
    N (jr s.keys (jP s)) v (some t) (uT c s (Bt (some t)) false++τ) rfl O M y H L G
   rw[this];simp[uT]
  have f:=fun τ=>D7 3 (.aa false (c.map cL.a)) (.aa false (s.tables.map (.int .i64))) (.aa false (s.joins.map JX.a)) (.aa false (s.whr.map EN.a)) (.aa false (s.having.map EN.a)) (aC s.grouped) (aC s.distinct) (.aa false (s.keys.map (.int .i64))) (.aa false (s.ah.map xK)) (.aa false (s.items.map yv))
   (F0 s.having) (rp s.having) (dR (jr s.keys (jP s)) (some t)) (uT c s (Bt (dR (jr s.keys (jP s)) (some t))) (dR (jr s.keys (jP s)) (some t)).isNone++τ) rfl (Vw s.having) ⟨rfl,rfl⟩ y.1 y.2 D
  have x:=fun σ=>Bd (aH 3 0 0 0) (F0 s.having) ⟨rfl,rfl⟩ σ;have m:(s.having=[]∧decide (0<s.having.length)=false)∨(s.having≠[]∧decide (0<s.having.length)=true):=by
   cases s.having<;>simp
  by_cases u:s.keys.length+s.ah.length=0
  ·have K:=acY w.keys;have a:=k (No s.keys) (AF s.keys) [aB 9 0 [s.a],aB 12 0 [No s.keys]] (ad0 s.keys) ⟨rfl,rfl⟩ K.1 K.2
    (fun A=>by unfold jP;rw[if_pos u];exact VN s.keys A)
   have b:¬(0:Int)<(s.keys.length:Int)+(s.ah.length:Int):=by omega
   have a:=a;clear k;have z:cellsOf (.lst [aI [ap 1,.ai]])=[.lst [aI [ap 1,.ai]]]:=rfl;rcases m with⟨r,n⟩|⟨r,n⟩
   ·rw[if_pos r];generalize dR (jr s.keys (jP s)) (some t)=d at *;refine⟨[aB 9 0 [s.a],aB 12 0 [No s.keys],aB 12 0 [No s.keys],aB 1 0 [aI [Bt d]],aB 12 0 [F0 s.having]],?_,fun _=>rfl⟩;simp only[uT,bS,Bt,bX,bT,List.set]at *;generalize (d.getD []).map cJ.a=p at *;generalize ((some t).getD []).map cJ.a=l at *;generalize d.isNone=C at *;rw[g,i]at *;simp only[j]at *;simp[arE,FV,q,b,n,a,z,x]
   rw[if_neg r];have f:=f [aB 9 0 [s.a],aB 12 0 [No s.keys],aB 12 0 [No s.keys],aB 1 0 [aI [Bt (dR (jr s.keys (jP s)) (some t))]]];generalize dR (rp s.having) (dR (jr s.keys (jP s)) (some t))=o at *;generalize dR (jr s.keys (jP s)) (some t)=d at *;refine⟨[aB 9 0 [s.a],aB 12 0 [No s.keys],aB 12 0 [No s.keys],aB 1 0 [aI [Bt d]],aB 12 0 [F0 s.having],aB 12 0 [F0 s.having],aB 1 0 [aI [Bt o]]],?_,fun _=>rfl⟩;simp only[uT,bS,Bt,bX,bT,List.set]at *;generalize (d.getD []).map cJ.a=p at *;generalize (o.getD []).map cJ.a=E at *;generalize ((some t).getD []).map cJ.a=l at *;generalize d.isNone=C at *;generalize o.isNone=Q at *;rw[g,i]at *;simp only[j]at *;simp[arE,FV,q,b,n,a,z,f]
  have b:(0:Int)<(s.keys.length:Int)+(s.ah.length:Int):=by omega
  have a:=k (Lm s.keys s.ah) (jr s.keys (jP s)) [aB 9 0 [s.a],aB 12 0 [Lm s.keys s.ah]] (by
   unfold jP;rw[if_neg u];exact aco s.keys s.ah w.agb) ⟨rfl,rfl⟩ B.1.fl B.1.fit (fun _=>rfl)
  clear k;rcases m with⟨r,n⟩|⟨r,n⟩
  ·rw[if_pos r];generalize dR (jr s.keys (jP s)) (some t)=d at *;refine⟨[aB 9 0 [s.a],aB 12 0 [Lm s.keys s.ah],aB 12 0 [Lm s.keys s.ah],aB 1 0 [aI [Bt d]],aB 12 0 [F0 s.having]],?_,fun _=>rfl⟩;simp only[uT,bS,Bt,bX,bT,List.set]at *;generalize (d.getD []).map cJ.a=p at *;generalize ((some t).getD []).map cJ.a=l at *;generalize d.isNone=C at *;rw[g,i]at *;simp only[j]at *;simp[arE,FV,q,b,n,a,x]
  rw[if_neg r];have f:=f [aB 9 0 [s.a],aB 12 0 [Lm s.keys s.ah],aB 12 0 [Lm s.keys s.ah],aB 1 0 [aI [Bt (dR (jr s.keys (jP s)) (some t))]]];generalize dR (rp s.having) (dR (jr s.keys (jP s)) (some t))=o at *;generalize dR (jr s.keys (jP s)) (some t)=d at *;refine⟨[aB 9 0 [s.a],aB 12 0 [Lm s.keys s.ah],aB 12 0 [Lm s.keys s.ah],aB 1 0 [aI [Bt d]],aB 12 0 [F0 s.having],aB 12 0 [F0 s.having],aB 1 0 [aI [Bt o]]],?_,fun _=>rfl⟩;simp only[uT,bS,Bt,bX,bT,List.set]at *;generalize (d.getD []).map cJ.a=p at *;generalize (o.getD []).map cJ.a=E at *;generalize ((some t).getD []).map cJ.a=l at *;generalize d.isNone=C at *;generalize o.isNone=Q at *;rw[g,i]at *;simp only[j]at *;simp[arE,FV,q,b,n,a,f]
 have j:s.grouped=false:=by simpa using j
 unfold pG;rw[if_neg (by rw[j];simp)];by_cases u:0<s.keys.length+s.ah.length∨s.having≠[]
 ·rw[if_pos u];refine⟨Bt (some t),[aB 9 0 [s.a]],?_,fun h=>by cases h⟩;simp only[uT,bS,Bt,bX,bT,List.set]at *;generalize ((some t).getD []).map cJ.a=l at *;rw[g,i]at *;simp only[j]at *;by_cases F:0<s.keys.length+s.ah.length
  ·have b:(0:Int)<(s.keys.length:Int)+(s.ah.length:Int):=by omega
   simp[arE,FV,q,b]
  have b:¬(0:Int)<(s.keys.length:Int)+(s.ah.length:Int):=by omega
  have m:decide (0<s.having.length)=true:=by
   have:=u.resolve_left F;simpa using eY.2 this
  simp[arE,FV,q,b,m]
 rw[if_neg u];refine⟨Bt (some t),[aB 9 0 [s.a]],?_,fun _=>rfl⟩;have b:¬(0:Int)<(s.keys.length:Int)+(s.ah.length:Int):=by omega
 have m:s.having=[]:=fT fun e=>u (.inr e);have m:decide (0<s.having.length)=false:=by rw[m];rfl
 simp only[uT,bS,Bt,bX,bT,List.set]at *;generalize ((some t).getD []).map cJ.a=l at *;rw[g,i]at *;simp only[j]at *;simp[arE,FV,q,b,m]
def pQ(c:List cL)(s:nG):Option (List cJ):=wu s (pG s (vC s (oE c s)))
abbrev ye(c:List cL)(s:nG)(k:Nat):List aq:=[mN c,s.a,aH 0 0 0 0,aH 1 0 0 0,aH 2 0 0 0,am,aH 3 0 0 0,am,aI [.fn I.qen [aH 3 0 0 0] [],.fn I.qej [aH 3 0 0 0] [],.fn I.qek [aH 3 0 0 0] [],.fn I.qem [aH 3 0 0 0] []],ap k,am,am]
theorem zK(c:List cL)(s:nG)(k f:Nat)(p:(k=0∧f=I.qen)∨(k=1∧f=I.qej)∨(k=2∧f=I.qek)∨(k=3∧f=I.qem))(h d:aq)(b:Bool)(J:aw)
  (a:cC code f [aH 3 0 0 0] (uT c s h false)=some (fy [],uT c s d b++J)) :
  (b=true→∃q,bU code 4 [5,7,10,11] sY ⟨ye c s k,uT c s h false⟩=some (.ret,q)∧q.st[2]?=some (aB 1 0 [aI [.ai]])∧q.env[4]?=some (aH 2 0 0 0)∧q.env[5]?=some (ap 240)) ∧
  (b=false→(∀base σ m,fz false true base σ (m+3) d=d)→bU code 4 [5,7,10,11] sY ⟨ye c s k,uT c s h false⟩=bU code 4 [5,7,10,11] sY ⟨ye c s (k+1),uT c s d false⟩):=by
 have e:s.a=aI s.c:=rfl;have g:s.c=[.aa false (s.tables.map (.int .i64)),.aa false (s.joins.map JX.a),.aa false (s.whr.map EN.a),.aa false (s.having.map EN.a),aC s.grouped,aC s.distinct,.aa false (s.keys.map (.int .i64)),.aa false (s.ah.map xK),.aa false (s.items.map yv)]:=rfl;have r:IntKind.i64.wrap 1=1:=rfl;have j:IntKind.i64.wrap 2=2:=rfl;have l:IntKind.i64.wrap 3=3:=rfl;have o:IntKind.i64.wrap 4=4:=rfl;simp only[uT,bS,bX,bT,e,g,ye]at a ⊢;rcases p with⟨rfl,rfl⟩|⟨rfl,rfl⟩|⟨rfl,rfl⟩|⟨rfl,rfl⟩
 all_goals
  constructor
  ·intro i;subst i;rw[ru good];exact⟨_,by simp[sY,ye,a,sJ];rfl,rfl,rfl,rfl⟩
  intro i n;subst i;rw[ru good];cases J<;>simp[sY,ye,a,r,j,l,o,n,bQ,bw,cn,dE,e,g]
theorem Wd(s:nG):vC s none=none:=by unfold vC;split<;>rfl
theorem Kh(s:nG):pG s none=none:=by unfold pG;simp[dR]
theorem DO(s:nG):wu s none=none:=by unfold wu;split<;>rfl
theorem TL(o:Option (List cJ)):∀base σ m,fz false true base σ (m+3) (Bt o)=Bt o:=fun base σ m=>by simp
abbrev QSl(q:St):Prop:=q.st[2]?=some (aB 1 0 [aI [.ai]])∧q.env[4]?=some (aH 2 0 0 0)∧q.env[5]?=some (ap 240)
theorem MZ(c:List cL)(E:A4 c)(s:nG)(f:PU s):mF (pQ c s)∧match pQ c s with
  |none=>∃q,bU code 4 [5,7,10,11] sY ⟨ye c s 0,uT c s .ai false⟩=some (.ret,q)∧QSl q
  |some w=>bU code 4 [5,7,10,11] sY ⟨ye c s 0,uT c s .ai false⟩=some (.ext 0,⟨(ye c s 4).set 10 (.bool false),uT c s (Bt (some w)) false⟩):=by
 unfold pQ;obtain⟨b,u,D,p,o⟩:=R2 c E s f;obtain⟨k,h⟩:=zK c s 0 _ (.inl ⟨rfl,rfl⟩) .ai u _ D p;revert b p o k h;cases oE c s with
 |none=>
  intro _ _ _ k _;rw[Wd,Kh,DO];exact⟨so,k rfl⟩
 |some t=>
  intro b p o k h;obtain rfl:=o rfl;have h:=h rfl (TL _);rw[h];have a:=abI f b;obtain⟨G,B⟩:=Ns c s f (some t) b;obtain⟨j,g⟩:=zK c s 1 _ (.inr (.inl ⟨rfl,rfl⟩)) (Bt (some t)) _ _ G B;clear k h p o B;revert a j g;cases vC s (some t) with
  |none=>
   intro _ j _;rw[Kh,DO];exact⟨so,j rfl⟩
  |some y=>
   intro a j g;have g:=g rfl (TL _);rw[g];have d:=YX f a;obtain⟨v,C,z,r⟩:=OI c s f y a;obtain⟨l,i⟩:=zK c s 2 _ (.inr (.inr (.inl ⟨rfl,rfl⟩))) (Bt (some y)) v _ C z;clear j g z;revert d l i r;cases pG s (some y) with
   |none=>
    intro _ _ l _;rw[DO];exact⟨so,l rfl⟩
   |some x=>
    intro d r l i;obtain rfl:=r rfl;have i:=i rfl (TL _);rw[i];have e:=Yt f d;obtain⟨F,A⟩:=JF c s f (some x) d;obtain⟨n,m⟩:=zK c s 3 _ (.inr (.inr (.inr ⟨rfl,rfl⟩))) (Bt (some x)) _ _ F A;clear l i A;revert e n m;cases wu s (some x) with
    |none=>
     intro _ n _;exact⟨so,n rfl⟩
    |some H=>
     intro e n m;have m:=m rfl (TL _);rw[m];refine⟨e,?_⟩;rw[ru good];simp[sY,ye,sJ]
theorem KP(c:List cL)(d:A4 c)(s:nG)(f:PU s):bB I.qer [mN c,s.a]=some (PQ 240 (pQ c s))∧mF (pQ c s):=by
 obtain⟨g,h⟩:=MZ c d s f;refine⟨?_,g⟩;have a:s.a=aI s.c:=rfl;have b:s.c=[.aa false (s.tables.map (.int .i64)),.aa false (s.joins.map JX.a),.aa false (s.whr.map EN.a),.aa false (s.having.map EN.a),aC s.grouped,aC s.distinct,.aa false (s.keys.map (.int .i64)),.aa false (s.ah.map xK),.aa false (s.items.map yv)]:=rfl;rw[aT alT rfl];unfold PQ;revert h;cases pQ c s with
 |none=>
  rintro⟨q,h,i,j,e⟩;simp only[ye,uT,bS,a,b,bj]at h ⊢;simp[as0,abo,h,i,j,e]
 |some w=>
  intro h;simp only[ye,uT,bS,a,b,bj,List.set]at h ⊢;simp[as0,abo,h]
theorem UL:∀(a b:List Int),a.length=b.length→(a.zip b).any (fun p=>p.1 != p.2)=!decide (a=b)
 |[],[],_=>rfl
 |[],_::_,h=>by simp at h
 |_::_,[],h=>by simp at h
 |x::a,y::b,h=>by
  rw[fV,iI,UL a b (by simpa using h)];by_cases e:x=y
  ·subst e;simp
  simp[e]
theorem BH(n m:Bool)(a c:List Int)(C:a.length≤8000):bB I.qgt [.aa n (cG a),.aa m (cG c)]=some (aC (decide (a=c))):=by
 rw[aT anL rfl];have B:a.length≤bC:=by unfold bC;omega
 by_cases d:a.length=c.length
 rotate_left
 ·have l:((a.length:Int) != (c.length:Int))=true:=by simp;omega
  have g:decide (a=c)=false:=by simp;intro e;exact d (by rw[e])
  rw[g];simp[asi,TE,l]
 have w:(a.zip c).length=a.length:=by simp;omega
 have loop:=oA (base:=0) (clr:=[2,3,7,8]) (b:=Cr) (a.zip c) (fun k=>⟨[.aa n (cG a),.aa m (cG c),am,am,aC false,ap a.length,ap k,am,am],[]⟩) (fun p=>p.1 != p.2)
  (.ext 0,⟨[.aa n (cG a),.aa m (cG c),am,am,aC false,ap a.length,ap a.length,aC false,am],[]⟩) (fun o=>∃q,o=(.ret,q)∧q.env[2]?=some (aC false))
  (fun k p A t j=>by
   obtain⟨x,y⟩:=p;obtain⟨i,f⟩:=eW.1 t;have k1:k<a.length:=by omega
   have k2:k<c.length:=by omega
   have s:∀h:k<a.length,a[k]'h=x:=fun h=>(ak.1 i).2;have r:∀h:k<c.length,c[k]'h=y:=fun h=>(ak.1 f).2;have v:=cW k1 B;simp only at j;simp[Cr,k1,k2,i,f,s,r,v,j,bQ])
  (fun k p A t j=>by
   obtain⟨x,y⟩:=p;obtain⟨i,f⟩:=eW.1 t;have k1:k<a.length:=by omega
   have k2:k<c.length:=by omega
   have s:∀h:k<a.length,a[k]'h=x:=fun h=>(ak.1 i).2;have r:∀h:k<c.length,c[k]'h=y:=fun h=>(ak.1 f).2;simp only at j;exact⟨_,by simp[Cr,k1,k2,i,f,s,r,j];rfl,_,rfl,rfl⟩)
  (by rw[w];simp[Cr])
 have l:((a.length:Int) != (c.length:Int))=false:=by simp;omega
 rw[UL a c d]at loop;rcases loop with⟨u,loop⟩|⟨u,o,loop,q,rfl,z⟩
 ·have g:decide (a=c)=true:=by simpa using u
  rw[g];simp only[bj]at loop;simp[asi,TE,l,loop]
 have g:decide (a=c)=false:=by simpa using u
 rw[g];simp only[bj]at loop;simp[asi,TE,l,loop,z]
end Go.AM
namespace Go.AM
open P
set_option maxHeartbeats 64000000
set_option maxRecDepth 40000
theorem pj:ag2=.seq jc iS:=rfl
end Go.AM
namespace Go.AM
open P
set_option maxHeartbeats 64000000
set_option maxRecDepth 40000
attribute [local simp] aG bd
structure B2 where
 selects:List nG
 names:List (List UInt8)
 ac:List Int
 order:List (Int×Bool)
 limit:Int
def B2.c(b:B2):List aq:=[.aa false (b.selects.map nG.a),.aa false (b.names.map aO),.aa false (b.ac.map (.int .i64)),.aa false (b.order.map iq),ap b.limit]
def B2.a(b:B2):aq:=aI b.c
instance:Nc (fun s=>aq.str s) 1 false:=⟨fun _=>rfl,fun _=>rfl⟩
instance:Nc aq.str 1 false:=⟨fun _=>rfl,fun _=>rfl⟩
instance:Fx aq.str:=⟨fun _ _ _ _ _ _=>rfl⟩
instance:Nc B2.a 5 true:=⟨fun _=>rfl,fun _=>rfl⟩
instance:Fx B2.a:=⟨fun fl top base σ n y=>by simp[B2.a,B2.c]⟩
structure adR (b:B2):Prop where
 sel:∀s∈b.selects,PU s
 sl:b.selects.length≤8000
 nl:b.names.length≤8000
 kl:b.ac.length≤8000
 ol:b.order.length≤8000
def rj(c:List cL)(k:Nat)(s:nG)(o:Option (List cJ)):Option (List cJ)⊕Unit:=
 match pQ c s with
 |none=>.inr ()
 |some x=>.inl (if k=0 then some x else jJ qW o (some x))
abbrev bL(c:List cL)(tv:aq)(bad:Bool):aq:=K0 (.aa false (c.map cL.a)) .ai .ai .ai .ai (aC false) (aC false) .ai .ai .ai tv bad
abbrev sR(c:List cL)(b:B2)(tv:aq)(bad:Bool):aw:=[aB 1 0 [mN c],aB 5 0 [b.a],aB 1 0 [aI [.ai]],aB 12 0 [bL c tv bad],aB 1 0 [aH 3 0 0 0]]
abbrev rY(c:List cL)(b:B2)(k:Nat):List aq:=[mN c,b.a,aH 0 0 0 0,aH 1 0 0 0,aH 2 0 0 0,am,ap 0,aH 4 0 0 0,.fn I.qeg [] [aH 4 0 0 0],am,am,am,am,am,am,aC false,aC false,.aa false (b.selects.map nG.a),ap b.selects.length,ap k,am,am,am]
abbrev tvL(k:Nat)(o:Option (List cJ)):aq:=if k=0 then .ai else Bt o
abbrev bdL(k:Nat)(o:Option (List cJ)):Bool:=if k=0 then false else o.isNone
abbrev ahE:aq:=aI [ap 7,ap 0,ap 0,ap 0,.ai,aC false,.ai,.ai,.ai,.ai,.ai,ap 0]
theorem adZ(σ:aw):fz true false 0 σ 20 ahE=qW.a:=by
 have:qW.a=aI [ap 7,ap 0,ap 0,ap 0,.aa false [],aC false,.aa false [],.aa false [],.aa false [],.aa false [],.aa false [],ap 0]:=rfl;rw[this];simp
theorem N3(c:List cL)(b:B2)(t:aq)(a:aM t=1)(J:aw):cC code I.qeg [ap 0,aI [t],aH 4 0 0 0] (sR c b .ai false++J)=some (fy [],sR c b t false++(J++[aB 1 0 [aI [t]]])):=by
 rw[cz ae5 rfl];simp[as4,Z4,sR,a]
theorem Ny(c:List cL)(b:B2)(k:Nat)(p:k≠0)(o x:Option (List cJ))(h:mF o)(j:mF x)(n:x.isSome)(d:aq)(i:aM d=9):∃l,cC code I.qeg [ap k,aI [Bt x],aH 4 0 0 0] (sR c b (Bt o) o.isNone++[aB 9 0 [d],aB 1 0 [aI [Bt x]]])=some (fy [],sR c b (Bt (jJ qW o x)) (jJ qW o x).isNone++l):=by
 rw[cz ae5 rfl];have k1:((k:Int)==0)=false:=by simp;omega
 have a:=HP 3 (.aa false (c.map cL.a)) .ai .ai .ai .ai (aC false) (aC false) .ai .ai .ai ahE qW o x
  (sR c b (Bt o) (o.isNone ||x.isNone)++[aB 9 0 [d],aB 1 0 [aI [Bt x]],aB 1 0 [aI [Bt x]]]) rfl adZ ⟨rfl,rfl⟩ Ar.1 Ar.2 h j
 have e:x.isNone=false:=by cases x<;>simp_all
 rw[e,oL]at a;refine⟨[aB 9 0 [d],aB 1 0 [aI [Bt x]],aB 1 0 [aI [Bt x]],aB 12 0 [ahE],aB 1 0 [aI [Bt (jJ qW o x)]]],?_⟩;simp only[sR,bL,Bt,bX,bT,List.set]at a ⊢;generalize jJ qW o x=o' at *;generalize (x.getD []).map cJ.a=q at *;generalize (o.getD []).map cJ.a=m at *;generalize (o'.getD []).map cJ.a=g at *;generalize o.isNone=bad at *;generalize o'.isNone=f at *;simp[as4,Z4,k1,a]
theorem WD(c:List cL)(z:A4 c)(b:B2)(k:Nat)(s:nG)(A:PU s)(o:Option (List cJ))(n:k<b.selects.length)(D:b.selects.length≤8000)(g:b.selects[k]?=some s)(u:k≠0→mF o) :
  match rj c k s o with
  |.inl o'=>dh 5 [5,9,10,11,12,20,21] ny (run code ny ⟨rY c b k,sR c b (tvL k o) (bdL k o)⟩)=bU code 5 [5,9,10,11,12,20,21] ny ⟨rY c b (k+1),sR c b (Bt o') o'.isNone⟩
  |.inr _=>∃q,dh 5 [5,9,10,11,12,20,21] ny (run code ny ⟨rY c b k,sR c b (tvL k o) (bdL k o)⟩)=some (.ret,q)∧QSl q:=by
 obtain⟨a,p⟩:=KP c z s A;have j:∀h:k<b.selects.length,b.selects[k]'h=s:=fun h=>(ak.1 g).2;have n3:aM s.a=9∧isAgg s.a=true:=⟨rfl,rfl⟩;have l:∀fl top base σ m,fz fl top base σ (m+3) s.a=s.a:=fun fl top base σ m=>Fx.fx fl top base σ m s;have e:∀fl top base σ m,fz fl top base σ (m+3) b.a=b.a:=fun fl top base σ m=>Fx.fx fl top base σ m b;have f:aM b.a=5:=rfl;unfold rj;unfold PQ at a;cases hx:pQ c s with
 |none=>
  rw[hx]at a;simp at a;simp only[tvL,bdL];exact⟨_,by simp[ny,rY,sR,n,g,j,l,n3,a];rfl,rfl,rfl,rfl⟩
 |some x=>
  rw[hx]at a p;simp at a;by_cases i:k=0
  ·subst i;simp only[cw,tvL,bdL];have d:=N3 c b (Bt (some x)) rfl [aB 9 0 [s.a],aB 1 0 [aI [Bt (some x)]]];have w:IntKind.i64.wrap 1=1:=rfl;simp only[sR,bL,Bt,bX,bT,dd]at d ⊢;generalize x.map cJ.a=B at *;simp[ny,rY,n,g,j,l,n3,e,f,a,d,w,bQ,bw,cn,dE]
  obtain⟨v,d⟩:=Ny c b k i o (some x) (u i) p rfl s.a rfl;have y:IntKind.i64.wrap ((k:Int)+1)=(k:Int)+1:=rJ (by omega) (by omega);simp only[if_neg i,tvL,bdL];simp only[sR,bL,Bt,bX,bT,dd]at d ⊢;generalize jJ qW o (some x)=o' at *;generalize x.map cJ.a=B at *;generalize (o.getD []).map cJ.a=C at *;generalize (o'.getD []).map cJ.a=t at *;generalize o.isNone=bad at *;generalize o'.isNone=r at *;cases v<;>simp[ny,rY,n,g,j,l,n3,e,f,a,d,y,bQ,bw,cn,dE]
def sK(c:List cL)(l:List nG):Option (List cJ):=match dp (rj c) l 0 none with
 |.inl o=>o
 |.inr _=>none
def Nw(o:Option (List cJ)):List Int:=(o.map ldK).getD []
theorem Wr{n:cJ}{b:List xh}{w:List cJ}(h:ij n b=some w):(lookF w).isSome:=by
 unfold ij at h;split at h
 ·split at h
  ·rename_i a;cases h;exact a
  cases h
 cases h
theorem Hu{n:cJ}{o:Option (List cJ)}{w:List cJ}(h:dR n o=some w):(lookF w).isSome:=by
 unfold dR at h;obtain⟨t,_,h⟩:=aK.1 h;exact Wr h
theorem O9(o:Option (List cJ))(e:mF o)(j:∀w,o=some w→(lookF w).isSome):bB I.qcy [aI [Bt o]]=some (fy [.aa false (cG (Nw o)),ap (if o.isSome then 0 else 230)]):=by
 cases o with
 |none=>
  have h:=Nq 1 [aB 1 0 [aI [.aa false (([]:List cJ).map cJ.a)]]] (.inl ⟨rfl,_,rfl⟩) (fun x d base σ m=>by simp at d;rw[d];simp) false [] (fun n a=>by simp at a);rw[Ip]at h;obtain⟨k,τ,h⟩:=h;rw[aT ahg rfl];simp at h;simp[ate,aac,Nw,h]
 |some w=>
  have c:=j w rfl;obtain⟨s,b⟩:=dc.1 c;obtain⟨k1,k2,k3,_⟩:=BQ b;have i:=Wl false w (fun n a=>(e.own n a).fit) s b k3;have g:s.1[w.length-1]?=some s.1[w.length-1]:=au (by omega);have f:Nw (some w)=(s.1.getD (w.length-1) Zc).l:=by
   unfold Nw ldK;rw[aR];simp[b,g]
  rw[f];exact i
theorem Xv(c:List cL)(j:A4 c)(b:B2)(p:adR b)(t:b.selects≠[]):match dp (rj c) b.selects 0 none with
  |.inl o=>mF o∧bU code 5 [5,9,10,11,12,20,21] ny ⟨rY c b 0,sR c b .ai false⟩=some (.ext 0,⟨(rY c b b.selects.length).set 20 (.bool false),sR c b (Bt o) o.isNone⟩)
  |.inr _=>∃q,bU code 5 [5,9,10,11,12,20,21] ny ⟨rY c b 0,sR c b .ai false⟩=some (.ret,q)∧QSl q:=by
 have d:b.selects.length≠0:=fun e=>t (cS.1 e);have key:=iQ (base:=5) (clr:=[5,9,10,11,12,20,21]) (b:=ny) b.selects (fun k o=>⟨rY c b k,sR c b (tvL k o) (bdL k o)⟩) (fun k o=>k≠0→mF o) (rj c)
  (fun o=>(.ext 0,⟨(rY c b b.selects.length).set 20 (aC false),sR c b (Bt o) o.isNone⟩)) (fun _ o=>∃q,o=(.ret,q)∧QSl q)
  (fun k s o u n l=>by
   have m:=p.sel s (aN n);have h:=WD c j b k s m o u p.sl n l;have g:=(KP c j s m).2;have a:∀o',rj c k s o=.inl o'→mF o':=fun o' h=>by
    unfold rj at h;cases hx:pQ c s with
    |none=>rw[hx]at h;cases h
    |some x=>
     rw[hx]at h g;by_cases f:k=0
     ·simp only[f,cw]at h;cases h;exact g
     simp only[if_neg f]at h;cases h;exact Kq Ar.1 Ar.2 (l f) g
   revert h a;cases rj c k s o with
   |inl o'=>
    intro h a;refine⟨?_,fun _=>a o' rfl⟩;simp only[tvL,bdL,if_neg (Nat.succ_ne_zero k)]at h ⊢;exact h
   |inr r=>
    rintro⟨q,h,i⟩ _;exact⟨_,h,q,rfl,i⟩)
  (fun o _=>by
   simp only[tvL,bdL,if_neg d];simp[rY,sR,ny]) none (fun h=>absurd rfl h)
 revert key;cases dp (rj c) b.selects 0 none with
 |inl o=>exact fun h=>⟨h.1 d,h.2⟩
 |inr r=>
  rintro⟨o,h,q,rfl,i⟩;exact⟨q,h,i⟩
def BC(c:List cL)(b:B2):Option (List cJ):=
 if b.selects.length<1∨3<b.selects.length then none
 else if (dR (jA b.order b.limit) (sK c b.selects)).isSome∧(Nw (dR (jA b.order b.limit) (sK c b.selects))).length=b.names.length∧Nw (dR (jA b.order b.limit) (sK c b.selects))=b.ac then dR (jA b.order b.limit) (sK c b.selects) else none
abbrev am5(o:List (Int×Bool))(l:Int):aq:=aI [ap 8,ap 0,ap 0,ap 0,.ai,aC false,.ai,.ai,.ai,.ai,.aa false (o.map iq),ap l]
theorem acy(o:List (Int×Bool))(l:Int)(σ:aw):fz true false 0 σ 20 (am5 o l)=(jA o l).a:=by
 have:(jA o l).a=aI [ap 8,ap 0,ap 0,ap 0,.aa false [],aC false,.aa false [],.aa false [],.aa false [],.aa false [],.aa false (o.map iq),ap l]:=rfl;rw[this];simp
theorem aa5(c:List cL)(b:B2)(z:adR b)(o:Option (List cJ))(t:mF o):∃q,run code qI ⟨(rY c b b.selects.length).set 20 (aC false),sR c b (Bt o) o.isNone⟩=some (.ret,q)∧q.env[4]?=some (aH 2 0 0 0) ∧
  (if (dR (jA b.order b.limit) o).isSome∧(Nw (dR (jA b.order b.limit) o)).length=b.names.length∧Nw (dR (jA b.order b.limit) o)=b.ac then q.st[2]?=some (aB 1 0 [aI [Bt (dR (jA b.order b.limit) o)]])∧q.env[5]?=some (ap 0)
   else q.st[2]?=some (aB 1 0 [aI [.ai]])∧q.env[5]?=some (ap 240)):=by
 have f:=Lv b.limit z.ol;have s:=mQ f.1 f.2 t;have d:=Eb 3 (.aa false (c.map cL.a)) .ai .ai .ai .ai (aC false) (aC false) .ai .ai .ai (am5 b.order b.limit) (jA b.order b.limit) o (sR c b (Bt o) o.isNone) rfl (acy b.order b.limit) ⟨rfl,rfl⟩ f.1 f.2 t;have a:=O9 (dR (jA b.order b.limit) o) s (fun w h=>Hu h);have u:(Nw (dR (jA b.order b.limit) o)).length≤16:=by
  cases h:dR (jA b.order b.limit) o with
  |none=>simp[Nw]
  |some w=>
   unfold Nw;simpa using aeg w
 have e:=BH false false (Nw (dR (jA b.order b.limit) o)) b.ac (by omega);have m:b.a=aI b.c:=rfl;have k:b.c=[.aa false (b.selects.map nG.a),.aa false (b.names.map aO),.aa false (b.ac.map (.int .i64)),.aa false (b.order.map iq),ap b.limit]:=rfl;have y:qI=.seq iT (.seq iX (.seq iY qT)):=rfl;have v:qT=.seq ja iH:=rfl;rw[y,v];generalize dR (jA b.order b.limit) o=p at *;generalize Nw p=ks at *;simp only[sR,bL,rY,Bt,m,k,List.set,bX,bT]at d a ⊢;have n:(((ks.length:Int) != (b.names.length:Int))=false∧ks.length=b.names.length)∨(((ks.length:Int) != (b.names.length:Int))=true∧¬ks.length=b.names.length):=by
  by_cases h:ks.length=b.names.length
  ·exact .inl ⟨by simp;omega,h⟩
  exact .inr ⟨by simp;omega,h⟩
 have B:aM (.aa false ((p.getD []).map cJ.a))=1:=rfl;cases p with
 |none=>
  simp only[Option.isNone_none,Option.isSome_none,Option.getD_none,bm,bq,false_and,cI]at *;generalize (o.getD []).map cJ.a=x at *;generalize o.isNone=bad at *;exact⟨_,by simp[iT,iX,iY,ja,iH,d,a];rfl,rfl,rfl,rfl⟩
 |some w=>
  simp only[Option.isNone_some,ky,dd,true_and,cw]at *;generalize (o.getD []).map cJ.a=x at *;generalize o.isNone=bad at *;generalize w.map cJ.a=A at *;rcases n with⟨j,l⟩|⟨j,l⟩
  ·by_cases i:ks=b.ac
   ·simp only[if_pos (And.intro l i)];have r:decide (ks=b.ac)=true:=by simpa using i
    rw[r]at e;exact⟨_,by simp[iT,iX,iY,ja,iH,d,a,j,e];rfl,rfl,rfl,rfl⟩
   have g:¬(ks.length=b.names.length∧ks=b.ac):=fun h=>i h.2;simp only[if_neg g];have r:decide (ks=b.ac)=false:=by simpa using i
   rw[r]at e;exact⟨_,by simp[iT,iX,iY,ja,iH,d,a,j,e];rfl,rfl,rfl,rfl⟩
  have g:¬(ks.length=b.names.length∧ks=b.ac):=fun h=>l h.1;simp only[if_neg g];exact⟨_,by simp[iT,iX,iY,ja,iH,d,a,j];rfl,rfl,rfl,rfl⟩
theorem acq(c:List cL)(s:A4 c)(b:B2)(t:adR b):bB I.qef [mN c,b.a]=some (PQ 240 (BC c b)):=by
 rw[aT akg rfl];have l:=s.chk;have i:b.a=aI b.c:=rfl;have h:b.c=[.aa false (b.selects.map nG.a),.aa false (b.names.map aO),.aa false (b.ac.map (.int .i64)),.aa false (b.order.map iq),ap b.limit]:=rfl;unfold BC PQ;by_cases p:b.selects.length<1∨3<b.selects.length
 ·simp only[if_pos p,i,h];by_cases z:b.selects.length<1
  ·have a:(b.selects.length:Int)<1:=by omega
   simp[arT,pj,jc,iS,iZ,iV,jg,l,a]
  have a:¬(b.selects.length:Int)<1:=by omega
  have g:(3:Int)<(b.selects.length:Int):=by omega
  simp[arT,pj,jc,iS,iZ,iV,jg,l,a,g]
 simp only[if_neg p];have a:¬(b.selects.length:Int)<1:=by omega
 have g:¬(3:Int)<(b.selects.length:Int):=by omega
 have x:b.selects≠[]:=fun e=>by rw[e]at p;simp at p
 have loop:=Xv c s b t x;unfold sK;revert loop;cases hf:dp (rj c) b.selects 0 none with
 |inr r=>
  rintro⟨q,loop,n,f,j⟩;simp only[rY,sR,bL,bj,i,h]at loop ⊢;simp[arT,pj,jc,iS,iZ,iV,jg,nh,nu,nB,nr,nk,nD,l,a,g,loop,n,f,j,dR]
 |inl o=>
  rintro⟨u,loop⟩;obtain⟨q,m,n,f⟩:=aa5 c b t o u;simp only;generalize dR (jA b.order b.limit) o=k at *;have y:aM (Bt k)=1:=rfl;by_cases d:k.isSome∧(Nw k).length=b.names.length∧Nw k=b.ac
  ·simp only[if_pos d]at f ⊢;obtain⟨f,j⟩:=f;simp only[rY,sR,bL,bj,i,h,List.set,Bt,d.1,cw]at loop m f ⊢;generalize (o.getD []).map cJ.a=v at *;generalize (k.getD []).map cJ.a=w at *;generalize o.isNone=bad at *;simp[arT,pj,jc,iS,iZ,iV,jg,nh,nu,nB,nr,nk,nD,l,a,g,loop,m,n,f,j]
  simp only[if_neg d]at f ⊢;obtain⟨f,j⟩:=f;simp only[rY,sR,bL,bj,i,h,List.set,Bt]at loop m ⊢;generalize (o.getD []).map cJ.a=v at *;generalize o.isNone=bad at *;simp[arT,pj,jc,iS,iZ,iV,jg,nh,nu,nB,nr,nk,nD,l,a,g,loop,m,n,f,j]
theorem OP{s:List UInt8}{i:Nat}{b:UInt8}(h:s[i]?=some b):(ByteArray.mk s.toArray).get! i=b:=by
 unfold ByteArray.get!;simp[h]
theorem CV{s:List UInt8}{i:Nat}{b:UInt8}(h:s[i]?=some b)(a:b.toNat < 128):Utf8.decode ⟨s.toArray⟩ i=(b.toNat,1):=by
 unfold Utf8.decode;simp only[eX,OP h];rw[if_pos a]
theorem QH{s:List UInt8}{i:Nat}{b:UInt8}(h:s[i]?=some b)(a:¬b.toNat < 128):128≤(Utf8.decode ⟨s.toArray⟩ i).1:=by
 unfold Utf8.decode;simp only[eX,OP h];rw[if_neg a]
 repeat' split
 all_goals simp_all[Utf8.runeError]<;>omega
def uM(b:UInt8):Bool:=decide (97≤b.toNat)&&decide (b.toNat≤122)
def yC(b:UInt8):Bool:=decide (48≤b.toNat)&&decide (b.toNat≤57)
def vt(b:UInt8):Bool:=uM b ||yC b ||b.toNat==95
theorem C3(n:Int):bB I.qcw [.int .i32 n]=some (aC (decide (97≤n)&&decide (n≤122))):=by
 rw[aT aop rfl];simp[atM,aha]
 repeat' (split<;>(try simp_all))
 all_goals (intros;omega)
theorem Gy(n:Int):bB I.qcn [.int .i32 n]=some (aC (decide (48≤n)&&decide (n≤57))):=by
 rw[aT ang rfl];simp[atQ,agQ]
 repeat' (split<;>(try simp_all))
 all_goals (intros;omega)
theorem Wy(b:Bool)(l:List (List UInt8))(s:List UInt8)(p:l.length≤8000):∃k:Int,bB I.qhg [.aa b (l.map aO),aO s]=some (ap k)∧decide (0≤k)=l.any (· == s):=by
 rw[aT afh rfl];have m:l.length≤bC:=by unfold bC;omega
 have loop:=oA (base:=0) (clr:=[2,3,6,7]) (b:=s9) l (fun k=>⟨[.aa b (l.map aO),aO s,am,am,ap l.length,ap k,am,am],[]⟩) (fun x=>x==s)
  (.ext 0,⟨[.aa b (l.map aO),aO s,am,am,ap l.length,ap l.length,aC false,am],[]⟩) (fun o=>∃q,o=(.ret,q)∧∃k:Nat,q.env[2]?=some (ap k))
  (fun k x f c d=>by
   have g:∀h:k<l.length,l[k]'h=x:=fun h=>(ak.1 c).2;have j:=cW f m;have a:(s==x)=false:=by rw[gn]at d ⊢;exact fun e=>d e.symm
   simp[s9,eS,f,c,g,j,a,bQ])
  (fun k x f c d=>by
   have g:∀h:k<l.length,l[k]'h=x:=fun h=>(ak.1 c).2;have a:s=x:=by rw[aX]at d;exact d.symm
   subst a;exact⟨_,by simp[s9,eS,f,c,g];rfl,_,rfl,k,rfl⟩)
  (by simp[s9])
 rcases loop with⟨i,loop⟩|⟨i,o,loop,q,rfl,k,n⟩
 ·simp only[bj]at loop;exact⟨-1,by simp[ar0,OT,loop],by rw[i];rfl⟩
 simp only[bj]at loop;exact⟨k,by simp[ar0,OT,loop,n],by rw[i];simp⟩
theorem tt(b:Bool)(l:List (List UInt8))(s:List UInt8)(d:l.length≤8000):bB I.qgn [.aa b (l.map aO),aO s]=some (aC (l.any (· == s))):=by
 obtain⟨k,c,a⟩:=Wy b l s d;rw[aT aow rfl,←a];simp[auq,agd,c]
def sO:List (List UInt8):=[[83,69,76,69,67,84],[68,73,83,84,73,78,67,84],[70,82,79,77],[76,69,70,84],[74,79,73,78],[79,78],[87,72,69,82,69],[71,82,79,85,80],[66,89],[72,65,86,73,78,71],[85,78,73,79,78],[65,76,76],[79,82,68,69,82],[76,73,77,73,84],[65,83,67],[68,69,83,67],[65,83],[65,78,68],[79,82],[78,79,84],[73,83],[78,85,76,76],[84,82,85,69],[70,65,76,83,69],[67,79,85,78,84],[83,85,77],[77,73,78],[77,65,88]]
theorem TK(s:List UInt8):bB I.qci [aO s]=some (aC (sO.any (· == s))):=by
 have h:=tt false sO s (by decide);have a:=tt true sO s (by decide);generalize sO.any (· == s)=r at *;rw[aT anQ rfl];simp only[sO,aV,bm]at h a;simp[auO,age,h,a]
def PM(b:UInt8):aq:=.int .u8 b.toNat
instance:Nc PM 1 false:=⟨fun _=>rfl,fun _=>rfl⟩
instance:Fx PM:=⟨fun _ _ _ _ _ _=>rfl⟩
theorem Oe(l:List UInt8):yR (l.map PM)=some l:=by
 induction l with
 |nil=>rfl
 |cons b l a=>
  have:UInt8.ofNat b.toNat=b:=by simp
  simp[yR,PM]at a ⊢;simp[a]
theorem ZI(p:UInt8→Bool)(h:((List.range 256).all fun n=>p (UInt8.ofNat n))=true)(b:UInt8):p b=true:=by
 have:=aY.1 h b.toNat (by have:=b.toNat_lt;simp;omega);simpa using this
theorem GX{b:UInt8}(h:vt b=true):b.toNat < 128:=by
 have:=ZI (fun b=>!vt b ||decide (b.toNat < 128)) (by kernel_rfl) b;rw[h]at this;simpa using this
def iF(s:List UInt8):Bool:=match s with
 |[]=>false
 |b::_=>decide (s.length≤16)&&uM b&&s.all vt&&!(sO.any (· == s.map Lib.upperB))
theorem aet{s:List UInt8}:s.any (fun b=>!vt b)=!s.all vt:=by
 induction s with
 |nil=>rfl
 |cons b s a=>simp[a]
theorem DQ{b:UInt8}:(decide (97≤(b.toNat:Int))&&decide ((b.toNat:Int)≤122))=uM b:=by
 unfold uM;rw[eM];simp;omega
theorem Ky{b:UInt8}:(decide (48≤(b.toNat:Int))&&decide ((b.toNat:Int)≤57))=yC b:=by
 unfold yC;rw[eM];simp;omega
theorem Hk(b:UInt8):(vt b=true∧(uM b=true∨(uM b=false∧yC b=true)∨(uM b=false∧yC b=false∧b.toNat=95)))∨(vt b=false∧uM b=false∧yC b=false∧b.toNat≠95):=by
 unfold vt;cases uM b<;>cases yC b<;>simp;exact (Classical.em _)
def upS(s:List UInt8):List UInt8:=if s.all (fun b=>decide (b.toNat < 128))=true then Lib.toUpperA s else Lib.toUpperD s
theorem JT(s:List UInt8)(a:s.length≤8000)(σ:aw):cC code I.strings_ToUpper [aO s] σ=some (aO (upS s),σ):=by
 refine xe good (k:=4) (n:=0) Dl ?_;show zD [aO s] σ=_;unfold zD;simp only;rw[if_pos (show s.length<35184372088832 by omega)];rfl
theorem adF{s:List UInt8}(h:s.all vt=true):upS s=s.map Lib.upperB:=by
 unfold upS;rw[if_pos]
 ·rfl
 rw[aY]at h ⊢;intro b a;have:=GX (h b a);simpa using this
theorem nO(s:List UInt8):bB I.qch [aO s]=some (aC (iF s)):=by
 rw[aT akP rfl];cases hs:s with
 |nil=>simp[arG,eS,FN,iF]
 |cons b t=>
  rw[←hs];have v:(s==[])=false:=by rw[hs];rfl
  have f:s≠[]:=by rw[hs];simp
  have N:iF s=(decide (s.length≤16)&&uM b&&s.all vt&&!(sO.any (· == s.map Lib.upperB))):=by rw[hs];rfl
  rw[N];have h:s[0]?=some b:=by rw[hs];rfl
  by_cases g:s.length≤16
  rotate_left
  ·have u:(16:Int)<(s.length:Int):=by omega
   simp[arG,eS,FN,v,f,u,g]
  have u:¬(16:Int)<(s.length:Int):=by omega
  have a:=C3 b.toNat;rw[DQ]at a;have z:IntKind.i32.wrap (b.toNat:Int)=(b.toNat:Int):=by
   have:=b.toNat_lt;have l:∀n:Nat,n<256→IntKind.i32.wrap (n:Int)=(n:Int):=by
    intro n C;have:((List.range 256).all fun n=>decide (IntKind.i32.wrap ((n:Nat):Int)=((n:Nat):Int)))=true:=by kernel_rfl
    have:=aY.1 this n (by simpa using C);simpa using this
   exact l _ this
  cases A:uM b with
  |false=>
   rw[A]at a;simp[arG,eS,FN,v,f,u,g,h,z,a]
  |true=>
   rw[A]at a;have E:=JT s (by omega);have i:=TK (upS s);have m:=@adF s;generalize upS s=J at *;have loop:=oA (base:=1) (clr:=[1,2,5,6,7]) (b:=vD) s (fun k=>⟨[aO s,am,am,aC false,.it 0,am,am,am],[.it s k]⟩) (fun b=>!vt b)
     (.ext 0,⟨[aO s,am,am,aC false,.it 0,fy [aC false],aC false,am],[.it s s.length]⟩) (fun o=>∃q,o=(.ret,q)∧q.env[1]?=some (aC false))
     (fun k x l D F=>by
      have C:vt x=true:=by simpa using F
      have hd:=CV D (GX C);have e:=C3 x.toNat;have c:=Gy x.toNat;rw[DQ]at e;rw[Ky]at c;rcases Hk x with⟨_,y⟩|⟨y,_⟩
      ·rcases y with p|⟨p,B⟩|⟨p,B,K⟩
       ·rw[p]at e;cases hdg:yC x<;>rw[hdg]at c<;>simp[vD,uz,l,hd,e,c,bQ]
       ·rw[p]at e;rw[B]at c;simp[vD,uz,l,hd,e,c,bQ]
       rw[p]at e;rw[B]at c;rw[K]at e c hd;simp at e c;simp[vD,uz,l,hd,e,c,bQ]
      simp[y]at C)
     (fun k x l D F=>by
      rcases Hk x with⟨y,_⟩|⟨_,p,B,K⟩
      ·simp[y]at F
      by_cases A:x.toNat < 128
      ·have hd:=CV D A;have e:=C3 x.toNat;have c:=Gy x.toNat;rw[DQ,p]at e;rw[Ky,B]at c;have G:((x.toNat:Int) != 95)=true:=by simp;omega
       exact⟨_,by simp[vD,uz,l,hd,e,c,G];rfl,_,rfl,rfl⟩
      have hd:=QH D A;generalize H:Utf8.decode ⟨s.toArray⟩ k=d at *;obtain⟨r,w⟩:=d;simp only at hd;have e:=C3 r;have c:=Gy r;have M:(decide (97≤(r:Int))&&decide ((r:Int)≤122))=false:=by simp;omega
      have O:(decide (48≤(r:Int))&&decide ((r:Int)≤57))=false:=by simp;omega
      rw[M]at e;rw[O]at c;have G:((r:Int) != 95)=true:=by simp;omega
      exact⟨_,by simp[vD,uz,l,H,e,c,G];rfl,_,rfl,rfl⟩)
     (by simp[vD,uz])
   rw[aet]at loop;rcases loop with⟨j,loop⟩|⟨j,o,loop,q,rfl,L⟩
   ·have j:s.all vt=true:=by simpa using j
    have m:=m j;rw[←m,j];cases hw:sO.any (· == J) with
    |true=>
     rw[hw]at i;simp[arG,eS,FN,v,f,u,g,h,z,a,E,i]
    |false=>
     rw[hw]at i;simp[arG,eS,FN,v,f,u,g,h,z,a,E,i,QV,loop]
   have j:s.all vt=false:=by simpa using j
   rw[j];cases hw:sO.any (· == J) with
   |true=>
    rw[hw]at i;simp[arG,eS,FN,v,f,u,g,h,z,a,E,i]
   |false=>
    rw[hw]at i;simp[arG,eS,FN,v,f,u,g,h,z,a,E,i,QV,loop,L]
theorem Sd(s:ByteArray)(i:Nat):1≤(Utf8.decode s i).2:=by
 unfold Utf8.decode;simp only
 repeat' split
 all_goals simp
theorem acB(n:Nat)(g:Int→Bool)(i:∀r σ,cC code n [.int .i32 r] σ=some (aC (g r),σ))(s:List UInt8):∀m pos,s.length-pos≤m →
  (∃(k:Nat) (q:St),bU code 1 [3,4,5,7,8,9] rN ⟨[aO s,.fn n [] [],aC true,am,am,am,.it 0,am,am,am],[.it s pos]⟩=some (.ret,q)∧q.env[3]?=some (ap k)∧k<s.length) ∨
  (∃p,bU code 1 [3,4,5,7,8,9] rN ⟨[aO s,.fn n [] [],aC true,am,am,am,.it 0,am,am,am],[.it s pos]⟩=some (.ext 0,⟨[aO s,.fn n [] [],aC true,am,am,am,.it 0,fy [aC false],aC false,am],[.it s p]⟩)):=by
 intro m;induction m with
 |zero=>
  intro pos h;have a:¬pos<s.length:=by omega
  refine .inr ⟨pos,?_⟩;rw[aZ];simp[rN,uz,a]
 |succ m f=>
  intro pos h;by_cases a:pos<s.length
  ·have hd:=Sd ⟨s.toArray⟩ pos;have c:=i ((Utf8.decode ⟨s.toArray⟩ pos).1:Nat);rw[aZ];generalize b:Utf8.decode ⟨s.toArray⟩ pos=d at *;obtain⟨r,w⟩:=d;simp only at hd c;cases hg:g (r:Nat) with
   |true=>
    rw[hg]at c;exact .inl ⟨pos,_,by simp[rN,uz,a,b,c];rfl,rfl,a⟩
   |false=>
    rw[hg]at c;have hi:=f (pos+w) (by omega);have e:dh 1 [3,4,5,7,8,9] rN (run code rN ⟨[aO s,.fn n [] [],aC true,am,am,am,.it 0,am,am,am],[.it s pos]⟩)=bU code 1 [3,4,5,7,8,9] rN ⟨[aO s,.fn n [] [],aC true,am,am,am,.it 0,am,am,am],[.it s (pos+w)]⟩:=by
     simp[rN,uz,a,b,c,bQ]
    rw[e];exact hi
  refine .inr ⟨pos,?_⟩;rw[aZ];simp[rN,uz,a]
theorem Fs(n:Nat)(g:Int→Bool)(c:∀r σ,cC code n [.int .i32 r] σ=some (aC (g r),σ))(s:List UInt8) :
  ∃k:Int,bB I.qhj [aO s,.fn n [] []]=some (ap k)∧-1≤k∧k<s.length:=by
 have key:∃k:Int,bB I.qhk [aO s,.fn n [] [],aC true]=some (ap k)∧-1≤k∧k<s.length:=by
  rw[aT ale rfl];rcases acB n g c s s.length 0 (by omega) with⟨k,q,a,b,d⟩|⟨p,a⟩
  ·exact⟨k,by simp[atb,Ya,a,b],by omega,by omega⟩
  exact⟨-1,by simp[atb,Ya,a],by omega,by omega⟩
 obtain⟨k,h,a,b⟩:=key;refine⟨k,?_,a,b⟩;rw[aT amw rfl];simp[atG,ae4,h]
theorem VO(n:Int):∃t,bB I.qcm [.int .i32 n]=some (aC t):=by
 rw[aT akA rfl];by_cases b:65≤n<;>by_cases a:n≤90<;>simp[aui,afH,b,a]
theorem aiF(n:Int):∃t,bB I.qcq [.int .i32 n]=some (aC t):=by
 rw[aT alH rfl];have e:=Gy n;have d:=C3 n;obtain⟨t,c⟩:=VO n;generalize (decide (48≤n)&&decide (n≤57))=a at *;generalize (decide (97≤n)&&decide (n≤122))=b at *;cases a<;>cases b<;>cases t<;>simp[atz,afr,e,d,c]
theorem Zk(n:Int):∃t,bB I.qcv [.int .i32 n]=some (aC t):=by
 rw[aT anI rfl];obtain⟨t,h⟩:=aiF n;simp[atm,afi,h]
theorem OF(n:Int):∃t,bB I.qcs [.int .i32 n]=some (aC t):=by
 rw[aT alM rfl];by_cases b:n<32<;>by_cases a:126<n<;>simp[atL,ag4,b,a]
theorem akd(s:List UInt8):∃k:Nat,bB I.qcu [aO s]=some (ap k)∧k≤s.length:=by
 obtain⟨g,b⟩:∃g:Int→Bool,∀n,bB I.qcv [.int .i32 n]=some (aC (g n)):=⟨fun n=>(Zk n).choose,fun n=>(Zk n).choose_spec⟩;obtain⟨k,h,c,d⟩:=Fs I.qcv g (fun r σ=>by simp[b]) s;rw[aT akp rfl];by_cases a:0≤k
 ·refine⟨k.toNat,?_,by omega⟩;have:((k.toNat:Nat):Int)=k:=by omega
  rw[this];simp[asT,Z9,h,a]
 exact⟨s.length,by simp[asT,Z9,h,a],aF _⟩
theorem UC(s:List UInt8):∃t,bB I.qcr [aO s]=some (aC t):=by
 obtain⟨g,a⟩:∃g:Int→Bool,∀n,bB I.qcs [.int .i32 n]=some (aC (g n)):=⟨fun n=>(OF n).choose,fun n=>(OF n).choose_spec⟩;obtain⟨k,h,_⟩:=Fs I.qcs g (fun r σ=>by simp[a]) s;rw[aT alU rfl];by_cases c:(s.length:Int)≤40<;>by_cases b:k<0<;>simp[aum,agn,h,c,b]
end Go.AM
namespace Go.AM
open P
set_option maxHeartbeats 64000000
set_option maxRecDepth 40000
theorem AE{q:Type}{enc:q→aq}{b:Bool}{l:List q}{f:aq}{p:q→Bool}(u:l.length≤bC)(t:∀y,aM (enc y)=1∧isAgg (enc y)=false)(x:sq f)
  (h:∀y∈l,jp code f [enc y] []=some (aC (p y),[])):bB I.qhe [.aa b (l.map enc),f]=some (ap (wd p l)):=by
 rw[aT aka rfl];have e:=x [];have c:∀k,k<l.length→∀y,l[k]?=some y→p y=false→dh 0 [2,3,6,7] tx (run code tx ⟨[.aa b (l.map enc),f,am,am,ap l.length,ap k,am,am],[]⟩) =
   bU code 0 [2,3,6,7] tx ⟨[.aa b (l.map enc),f,am,am,ap l.length,ap (k+1:Nat),am,am],[]⟩:=fun k d y n r=>by
  have s:=t y;have i:=h y (aN n);rw[r]at i;have m:((k:Int)<(l.length:Int)):=by omega
  simp[tx,n,s,i,m,cW d u,cN]
 unfold wd;by_cases o:l.any p=true
 ·have m:=bM (cB.1 o);have r:p l[l.findIdx p]=true:=du (w:=m);have a:=dl (base:=0) (clr:=[2,3,6,7]) (b:=tx) (fun k=>⟨[.aa b (l.map enc),f,am,am,ap l.length,ap k,am,am],[]⟩) (l.findIdx p)
   (.ret,⟨[.aa b (l.map enc),f,ap (l.findIdx p),ap (l.findIdx p),ap l.length,ap (l.findIdx p),aC true,aC true],[]⟩)
   (fun k d=>c k (by omega) _ (au (by omega)) (by simpa using cU d))
   (by
    have v:l[l.findIdx p]?=some l[l.findIdx p]:=au m;have s:=t l[l.findIdx p];have i:=h _ (aJ m);rw[r]at i;have j:((l.findIdx p:Int)<(l.length:Int)):=by omega
    simp[tx,v,s,i,j])
  simp at a;simp[asw,Zo,e,a,o]
 have g:∀y∈l,p y=false:=fun y n=>by simpa using cQ.1 (eB _▸o) y n
 have a:=dl (base:=0) (clr:=[2,3,6,7]) (b:=tx) (fun k=>⟨[.aa b (l.map enc),f,am,am,ap l.length,ap k,am,am],[]⟩) l.length
  (.ext 0,⟨[.aa b (l.map enc),f,am,am,ap l.length,ap l.length,aC false,am],[]⟩)
  (fun k d=>c k d _ (au d) (g _ (aJ d)))
  (by simp[tx])
 simp at a;simp[asw,Zo,e,a,o]
theorem wz{q:Type}{enc:q→aq}{b:Bool}{l:List q}{f:aq}{p:q→Bool}(u:l.length≤bC)(t:∀y,aM (enc y)=1∧isAgg (enc y)=true)(x:sq f)
  (h:∀y∈l,jp code f [enc y] []=some (aC (p y),[])):bB I.qhc [.aa b (l.map enc),f]=some (ap (wd p l)):=by
 rw[aT aot rfl];have e:=x [];have c:∀k,k<l.length→∀y,l[k]?=some y→p y=false→dh 0 [2,3,6,7] tP (run code tP ⟨[.aa b (l.map enc),f,am,am,ap l.length,ap k,am,am],[]⟩) =
   bU code 0 [2,3,6,7] tP ⟨[.aa b (l.map enc),f,am,am,ap l.length,ap (k+1:Nat),am,am],[]⟩:=fun k d y n r=>by
  have s:=t y;have i:=h y (aN n);rw[r]at i;have m:((k:Int)<(l.length:Int)):=by omega
  simp[tP,n,s,i,m,cW d u,cN]
 unfold wd;by_cases o:l.any p=true
 ·have m:=bM (cB.1 o);have r:p l[l.findIdx p]=true:=du (w:=m);have a:=dl (base:=0) (clr:=[2,3,6,7]) (b:=tP) (fun k=>⟨[.aa b (l.map enc),f,am,am,ap l.length,ap k,am,am],[]⟩) (l.findIdx p)
   (.ret,⟨[.aa b (l.map enc),f,ap (l.findIdx p),ap (l.findIdx p),ap l.length,ap (l.findIdx p),aC true,aC true],[]⟩)
   (fun k d=>c k (by omega) _ (au (by omega)) (by simpa using cU d))
   (by
    have v:l[l.findIdx p]?=some l[l.findIdx p]:=au m;have s:=t l[l.findIdx p];have i:=h _ (aJ m);rw[r]at i;have j:((l.findIdx p:Int)<(l.length:Int)):=by omega
    simp[tP,v,s,i,j])
  simp at a;simp[as1,ZV,e,a,o]
 have g:∀y∈l,p y=false:=fun y n=>by simpa using cQ.1 (eB _▸o) y n
 have a:=dl (base:=0) (clr:=[2,3,6,7]) (b:=tP) (fun k=>⟨[.aa b (l.map enc),f,am,am,ap l.length,ap k,am,am],[]⟩) l.length
  (.ext 0,⟨[.aa b (l.map enc),f,am,am,ap l.length,ap l.length,aC false,am],[]⟩)
  (fun k d=>c k d _ (au d) (g _ (aJ d)))
  (by simp[tP])
 simp at a;simp[as1,ZV,e,a,o]
theorem uv{a:Type}{enc:a→aq}{b:Bool}{l:List a}{f:aq}{p:a→Bool}(e:l.length≤bC)(g:∀y,aM (enc y)=1∧isAgg (enc y)=true)(d:sq f)
  (h:∀y∈l,jp code f [enc y] []=some (aC (p y),[])):bB I.qgl [.aa b (l.map enc),f]=some (aC (l.any p)):=by
 rw[aT alc rfl];have h:=wz (b:=b) e g d h;have c:=d [];unfold wd at h;cases ha:l.any p<;>rw[ha]at h<;>simp[ats,agW,c,h]
theorem wF{q:Type}{enc:q→aq}{b:Bool}{l:List q}{f:aq}{p:q→Bool}(u:l.length≤bC)(t:∀y,aM (enc y)=9∧isAgg (enc y)=true)(x:sq f)
  (h:∀y∈l,jp code f [enc y] []=some (aC (p y),[])):bB I.qgy [.aa b (l.map enc),f]=some (ap (wd p l)):=by
 rw[aT alg rfl];have e:=x [];have c:∀k,k<l.length→∀y,l[k]?=some y→p y=false→dh 0 [2,3,6,7] tS (run code tS ⟨[.aa b (l.map enc),f,am,am,ap l.length,ap k,am,am],[]⟩) =
   bU code 0 [2,3,6,7] tS ⟨[.aa b (l.map enc),f,am,am,ap l.length,ap (k+1:Nat),am,am],[]⟩:=fun k d y n r=>by
  have s:=t y;have i:=h y (aN n);rw[r]at i;have m:((k:Int)<(l.length:Int)):=by omega
  simp[tS,n,s,i,m,cW d u,cN]
 unfold wd;by_cases o:l.any p=true
 ·have m:=bM (cB.1 o);have r:p l[l.findIdx p]=true:=du (w:=m);have a:=dl (base:=0) (clr:=[2,3,6,7]) (b:=tS) (fun k=>⟨[.aa b (l.map enc),f,am,am,ap l.length,ap k,am,am],[]⟩) (l.findIdx p)
   (.ret,⟨[.aa b (l.map enc),f,ap (l.findIdx p),ap (l.findIdx p),ap l.length,ap (l.findIdx p),aC true,aC true],[]⟩)
   (fun k d=>c k (by omega) _ (au (by omega)) (by simpa using cU d))
   (by
    have v:l[l.findIdx p]?=some l[l.findIdx p]:=au m;have s:=t l[l.findIdx p];have i:=h _ (aJ m);rw[r]at i;have j:((l.findIdx p:Int)<(l.length:Int)):=by omega
    simp[tS,v,s,i,j])
  simp at a;simp[as2,aae,e,a,o]
 have g:∀y∈l,p y=false:=fun y n=>by simpa using cQ.1 (eB _▸o) y n
 have a:=dl (base:=0) (clr:=[2,3,6,7]) (b:=tS) (fun k=>⟨[.aa b (l.map enc),f,am,am,ap l.length,ap k,am,am],[]⟩) l.length
  (.ext 0,⟨[.aa b (l.map enc),f,am,am,ap l.length,ap l.length,aC false,am],[]⟩)
  (fun k d=>c k d _ (au d) (g _ (aJ d)))
  (by simp[tS])
 simp at a;simp[as2,aae,e,a,o]
theorem ug{a:Type}{enc:a→aq}{b:Bool}{l:List a}{f:aq}{p:a→Bool}(e:l.length≤bC)(g:∀y,aM (enc y)=9∧isAgg (enc y)=true)(d:sq f)
  (h:∀y∈l,jp code f [enc y] []=some (aC (p y),[])):bB I.qgh [.aa b (l.map enc),f]=some (aC (l.any p)):=by
 rw[aT aov rfl];have h:=wF (b:=b) e g d h;have c:=d [];unfold wd at h;cases ha:l.any p<;>rw[ha]at h<;>simp[atn,agU,c,h]
theorem we{q:Type}{enc:q→aq}{b:Bool}{l:List q}{f:aq}{p:q→Bool}(u:l.length≤bC)(t:∀y,aM (enc y)=2∧isAgg (enc y)=true)(x:sq f)
  (h:∀y∈l,jp code f [enc y] []=some (aC (p y),[])):bB I.qgx [.aa b (l.map enc),f]=some (ap (wd p l)):=by
 rw[aT anj rfl];have e:=x [];have c:∀k,k<l.length→∀y,l[k]?=some y→p y=false→dh 0 [2,3,6,7] tN (run code tN ⟨[.aa b (l.map enc),f,am,am,ap l.length,ap k,am,am],[]⟩) =
   bU code 0 [2,3,6,7] tN ⟨[.aa b (l.map enc),f,am,am,ap l.length,ap (k+1:Nat),am,am],[]⟩:=fun k d y n r=>by
  have s:=t y;have i:=h y (aN n);rw[r]at i;have m:((k:Int)<(l.length:Int)):=by omega
  simp[tN,n,s,i,m,cW d u,cN]
 unfold wd;by_cases o:l.any p=true
 ·have m:=bM (cB.1 o);have r:p l[l.findIdx p]=true:=du (w:=m);have a:=dl (base:=0) (clr:=[2,3,6,7]) (b:=tN) (fun k=>⟨[.aa b (l.map enc),f,am,am,ap l.length,ap k,am,am],[]⟩) (l.findIdx p)
   (.ret,⟨[.aa b (l.map enc),f,ap (l.findIdx p),ap (l.findIdx p),ap l.length,ap (l.findIdx p),aC true,aC true],[]⟩)
   (fun k d=>c k (by omega) _ (au (by omega)) (by simpa using cU d))
   (by
    have v:l[l.findIdx p]?=some l[l.findIdx p]:=au m;have s:=t l[l.findIdx p];have i:=h _ (aJ m);rw[r]at i;have j:((l.findIdx p:Int)<(l.length:Int)):=by omega
    simp[tN,v,s,i,j])
  simp at a;simp[asY,Y6,e,a,o]
 have g:∀y∈l,p y=false:=fun y n=>by simpa using cQ.1 (eB _▸o) y n
 have a:=dl (base:=0) (clr:=[2,3,6,7]) (b:=tN) (fun k=>⟨[.aa b (l.map enc),f,am,am,ap l.length,ap k,am,am],[]⟩) l.length
  (.ext 0,⟨[.aa b (l.map enc),f,am,am,ap l.length,ap l.length,aC false,am],[]⟩)
  (fun k d=>c k d _ (au d) (g _ (aJ d)))
  (by simp[tN])
 simp at a;simp[asY,Y6,e,a,o]
theorem um{a:Type}{enc:a→aq}{b:Bool}{l:List a}{f:aq}{p:a→Bool}(e:l.length≤bC)(g:∀y,aM (enc y)=2∧isAgg (enc y)=true)(d:sq f)
  (h:∀y∈l,jp code f [enc y] []=some (aC (p y),[])):bB I.qgg [.aa b (l.map enc),f]=some (aC (l.any p)):=by
 rw[aT akI rfl];have h:=we (b:=b) e g d h;have c:=d [];unfold wd at h;cases ha:l.any p<;>rw[ha]at h<;>simp[atA,aga,c,h]
theorem tC{q:Type}{enc:q→aq}{b:Bool}{l:List q}{f:aq}{p:q→Bool}(u:l.length≤bC)(t:∀y,aM (enc y)=9∧isAgg (enc y)=true)(x:sq f)
  (h:∀y∈l,jp code f [enc y] []=some (aC (p y),[])):bB I.qha [.aa b (l.map enc),f]=some (ap (wd p l)):=by
 rw[aT alX rfl];have e:=x [];have c:∀k,k<l.length→∀y,l[k]?=some y→p y=false→dh 0 [2,3,6,7] tD (run code tD ⟨[.aa b (l.map enc),f,am,am,ap l.length,ap k,am,am],[]⟩) =
   bU code 0 [2,3,6,7] tD ⟨[.aa b (l.map enc),f,am,am,ap l.length,ap (k+1:Nat),am,am],[]⟩:=fun k d y n r=>by
  have s:=t y;have i:=h y (aN n);rw[r]at i;have m:((k:Int)<(l.length:Int)):=by omega
  simp[tD,n,s,i,m,cW d u,cN]
 unfold wd;by_cases o:l.any p=true
 ·have m:=bM (cB.1 o);have r:p l[l.findIdx p]=true:=du (w:=m);have a:=dl (base:=0) (clr:=[2,3,6,7]) (b:=tD) (fun k=>⟨[.aa b (l.map enc),f,am,am,ap l.length,ap k,am,am],[]⟩) (l.findIdx p)
   (.ret,⟨[.aa b (l.map enc),f,ap (l.findIdx p),ap (l.findIdx p),ap l.length,ap (l.findIdx p),aC true,aC true],[]⟩)
   (fun k d=>c k (by omega) _ (au (by omega)) (by simpa using cU d))
   (by
    have v:l[l.findIdx p]?=some l[l.findIdx p]:=au m;have s:=t l[l.findIdx p];have i:=h _ (aJ m);rw[r]at i;have j:((l.findIdx p:Int)<(l.length:Int)):=by omega
    simp[tD,v,s,i,j])
  simp at a;simp[asz,X8,e,a,o]
 have g:∀y∈l,p y=false:=fun y n=>by simpa using cQ.1 (eB _▸o) y n
 have a:=dl (base:=0) (clr:=[2,3,6,7]) (b:=tD) (fun k=>⟨[.aa b (l.map enc),f,am,am,ap l.length,ap k,am,am],[]⟩) l.length
  (.ext 0,⟨[.aa b (l.map enc),f,am,am,ap l.length,ap l.length,aC false,am],[]⟩)
  (fun k d=>c k d _ (au d) (g _ (aJ d)))
  (by simp[tD])
 simp at a;simp[asz,X8,e,a,o]
theorem rq{a:Type}{enc:a→aq}{b:Bool}{l:List a}{f:aq}{p:a→Bool}(e:l.length≤bC)(g:∀y,aM (enc y)=9∧isAgg (enc y)=true)(d:sq f)
  (h:∀y∈l,jp code f [enc y] []=some (aC (p y),[])):bB I.qgj [.aa b (l.map enc),f]=some (aC (l.any p)):=by
 rw[aT aoa rfl];have h:=tC (b:=b) e g d h;have c:=d [];unfold wd at h;cases ha:l.any p<;>rw[ha]at h<;>simp[atB,afO,c,h]
theorem ym{q:Type}{enc:q→aq}{b:Bool}{l:List q}{f:aq}{p:q→Bool}(u:l.length≤bC)(t:∀y,aM (enc y)=2∧isAgg (enc y)=true)(x:sq f)
  (h:∀y∈l,jp code f [enc y] []=some (aC (p y),[])):bB I.qgv [.aa b (l.map enc),f]=some (ap (wd p l)):=by
 rw[aT akb rfl];have e:=x [];have c:∀k,k<l.length→∀y,l[k]?=some y→p y=false→dh 0 [2,3,6,7] tM (run code tM ⟨[.aa b (l.map enc),f,am,am,ap l.length,ap k,am,am],[]⟩) =
   bU code 0 [2,3,6,7] tM ⟨[.aa b (l.map enc),f,am,am,ap l.length,ap (k+1:Nat),am,am],[]⟩:=fun k d y n r=>by
  have s:=t y;have i:=h y (aN n);rw[r]at i;have m:((k:Int)<(l.length:Int)):=by omega
  simp[tM,n,s,i,m,cW d u,cN]
 unfold wd;by_cases o:l.any p=true
 ·have m:=bM (cB.1 o);have r:p l[l.findIdx p]=true:=du (w:=m);have a:=dl (base:=0) (clr:=[2,3,6,7]) (b:=tM) (fun k=>⟨[.aa b (l.map enc),f,am,am,ap l.length,ap k,am,am],[]⟩) (l.findIdx p)
   (.ret,⟨[.aa b (l.map enc),f,ap (l.findIdx p),ap (l.findIdx p),ap l.length,ap (l.findIdx p),aC true,aC true],[]⟩)
   (fun k d=>c k (by omega) _ (au (by omega)) (by simpa using cU d))
   (by
    have v:l[l.findIdx p]?=some l[l.findIdx p]:=au m;have s:=t l[l.findIdx p];have i:=h _ (aJ m);rw[r]at i;have j:((l.findIdx p:Int)<(l.length:Int)):=by omega
    simp[tM,v,s,i,j])
  simp at a;simp[asZ,Zz,e,a,o]
 have g:∀y∈l,p y=false:=fun y n=>by simpa using cQ.1 (eB _▸o) y n
 have a:=dl (base:=0) (clr:=[2,3,6,7]) (b:=tM) (fun k=>⟨[.aa b (l.map enc),f,am,am,ap l.length,ap k,am,am],[]⟩) l.length
  (.ext 0,⟨[.aa b (l.map enc),f,am,am,ap l.length,ap l.length,aC false,am],[]⟩)
  (fun k d=>c k d _ (au d) (g _ (aJ d)))
  (by simp[tM])
 simp at a;simp[asZ,Zz,e,a,o]
end Go.AM
namespace Go.AM
open P
set_option maxHeartbeats 64000000
set_option maxRecDepth 40000
attribute [local simp] aG bd
theorem ahQ(s:List UInt8)(N:s.length≤8000):∀m k (a:List UInt8),s.length-k≤m→a.length≤k →
  (∃(q:St) (t:List UInt8) (n:Nat) (ok:Bool),bU code 1 [1,2,3,6,7,8] mA ⟨[aO s,am,am,am,.sl 0 a.length 0 a.length,ap k,am,am,am],[aB 1 a.length (a.map PM)]⟩=some (.ret,q) ∧
   q.env[1]?=some (aO t)∧q.env[2]?=some (ap n)∧q.env[3]?=some (aC ok)∧0<n∧n≤s.length∧t.length≤s.length) ∨
  (∃(l K:Nat) (o:Obj),bU code 1 [1,2,3,6,7,8] mA ⟨[aO s,am,am,am,.sl 0 a.length 0 a.length,ap k,am,am,am],[aB 1 a.length (a.map PM)]⟩ =
   some (.ext 0,⟨[aO s,am,am,am,.sl 0 l 0 l,ap K,aC false,am,am],[o]⟩)):=by
 intro m;induction m with
 |zero=>
  intro k a h L;have v:¬(k:Int)<(s.length:Int):=by omega
  refine .inr ⟨a.length,k,aB 1 a.length (a.map PM),?_⟩;rw[aZ];simp[mA,v]
 |succ m G=>
  intro k a h L;by_cases v:k<s.length
  ·have j:(k:Int)<(s.length:Int):=by omega
   have A:s[k]?=some s[k]:=au v;have H:s.length≤bC:=by unfold bC;omega
   have B:=cW v H;have x:a.length+1≤bC:=by unfold bC;omega
   have i:List.take a.length (a.map PM)=a.map PM:=ay (by simp);generalize I:s[k]=c at *;have g:∀h:k<s.length,s[k]'h=c:=fun _=>I;by_cases C:c.toNat=39
   ·have f:((c.toNat:Int) != 39)=false:=by rw[C];rfl
    by_cases y:k+1<s.length
    ·have F:((k+1:Nat):Int)<(s.length:Int):=by omega
     have w:s[k+1]?=some s[k+1]:=au y;have M:=cW y H;generalize D:s[k+1]=d at *;have p:∀h:k+1<s.length,s[k+1]'h=d:=fun _=>D;have b:((k:Int)+1)<(s.length:Int):=by omega
     have z:(0:Int)≤(k:Int)+1:=by omega
     by_cases hd:d.toNat=39
     ·have u:((d.toNat:Int)==39)=true:=by rw[hd];rfl
      have hi:=G (k+2) (a++[c]) (by omega) (by simp;omega);have e:dh 1 [1,2,3,6,7,8] mA (run code mA ⟨[aO s,am,am,am,.sl 0 a.length 0 a.length,ap k,am,am,am],[aB 1 a.length (a.map PM)]⟩) =
        bU code 1 [1,2,3,6,7,8] mA ⟨[aO s,am,am,am,.sl 0 (a++[c]).length 0 (a++[c]).length,ap (k+2:Nat),am,am,am],[aB 1 (a++[c]).length ((a++[c]).map PM)]⟩:=by
       have J:IntKind.i64.wrap ((k:Int)+1+1)=(k:Int)+2:=by rw[rJ (by omega) (by omega)];omega
       simp[mA,j,A,g,f,B,b,z,w,p,u,append,x,i,J,bQ,PM]
      rw[aZ,e];exact hi
     have u:((d.toNat:Int)==39)=false:=by simp;omega
     obtain⟨t,E⟩:=UC a;have r:=Oe a;refine .inl ?_;rw[aZ];exact⟨_,a,k+1,t,by simp[mA,j,A,g,f,B,b,z,w,p,u,E,i,r];rfl,rfl,by simp,rfl,by omega,by omega,by omega⟩
    have b:¬((k:Int)+1)<(s.length:Int):=by omega
    obtain⟨t,E⟩:=UC a;have r:=Oe a;refine .inl ?_;rw[aZ];exact⟨_,a,k+1,t,by simp[mA,j,A,g,f,B,b,E,i,r];rfl,rfl,by simp,rfl,by omega,by omega,by omega⟩
   have f:((c.toNat:Int) != 39)=true:=by simp;omega
   have hi:=G (k+1) (a++[c]) (by omega) (by simp;omega);have e:dh 1 [1,2,3,6,7,8] mA (run code mA ⟨[aO s,am,am,am,.sl 0 a.length 0 a.length,ap k,am,am,am],[aB 1 a.length (a.map PM)]⟩) =
     bU code 1 [1,2,3,6,7,8] mA ⟨[aO s,am,am,am,.sl 0 (a++[c]).length 0 (a++[c]).length,ap (k+1:Nat),am,am,am],[aB 1 (a++[c]).length ((a++[c]).map PM)]⟩:=by
    simp[mA,j,A,g,f,B,append,x,i,bQ,PM]
   rw[aZ,e];exact hi
  have v:¬(k:Int)<(s.length:Int):=by omega
  refine .inr ⟨a.length,k,aB 1 a.length (a.map PM),?_⟩;rw[aZ];simp[mA,v]
theorem Xx(s:List UInt8)(d:s.length≤8000):∃(t:List UInt8) (n:Nat) (ok:Bool),bB I.qct [aO s]=some (fy [aO t,ap n,aC ok])∧n≤s.length∧(ok=true→0<n)∧t.length≤s.length:=by
 rw[aT akO rfl];rcases ahQ s d s.length 1 [] (by omega) (by simp) with⟨q,t,n,ok,h,c,i,f,b,g,a⟩|⟨l,j,o,h⟩
 ·simp at h;exact⟨t,n,ok,by simp[asU,YI,h,c,i,f],g,(fun _=>b),a⟩
 simp at h;exact⟨[],0,false,by simp[asU,YI,h],by omega,(fun e=>by cases e),by simp⟩
theorem OQ(s:List UInt8)(c:s.length≤8000)(a:s≠[])(σ:aw):∃(n:Int) (ok:Bool),cC code I.lex_number [aO s] σ=some (fy [.int .u64 n,aC ok],σ):=by
 have key:∃(n:Int) (ok:Bool),wE [aO s] σ=some (fy [.int .u64 n,aC ok],σ):=by
  cases s with
  |nil=>exact absurd rfl a
  |cons b s=>
   unfold wE;simp only;rw[if_pos c];split
   ·split
    ·exact⟨_,_,rfl⟩
    exact⟨_,_,rfl⟩
   exact⟨_,_,rfl⟩
 obtain⟨n,ok,h⟩:=key;exact⟨n,ok,xe good (k:=8) (n:=0) K6 h⟩
abbrev rE(k at':Int)(t:List UInt8)(n:Int):aq:=aI [ap k,ap at',aO t,.int .u64 n]
theorem abs(s t:List UInt8):∃b,bB I.qhh [aO s,aO t]=some (aC b):=by
 have key:∃b,bB I.qcf [aO s,aO t]=some (aC b):=by
  rw[aT alV rfl];by_cases h:(t.length:Int)≤(s.length:Int)
  ·have a:t.length≤s.length:=by omega
   simp[ata,Yd,h,a,eS]
  simp[ata,Yd,h,eS]
 obtain⟨b,h⟩:=key;rw[aT ans rfl];exact⟨b,by simp[atH,afp,h]⟩
theorem OG(x s:List UInt8)(b:Bool):∃t,bB I.qcp [aO x,.cptr b (aO s) 0]=some (aC t):=by
 rw[aT an2 rfl];obtain⟨t,h⟩:=abs s x;exact⟨t,by cases b<;>simp[aur,af3,h]⟩
def I6:List (List UInt8):=[[60,62],[60,61],[62,61],[40],[41],[44],[46],[42],[43],[45],[47],[61],[60],[62]]
theorem ah8(s:List UInt8)(b c:Bool):∃k:Int,bB I.qhe [.aa c (I6.map aO),.fn I.qcp [] [.cptr b (aO s) 0]]=some (ap k)∧-1≤k∧k<14:=by
 obtain⟨g,a⟩:∃g:List UInt8→Bool,∀x,bB I.qcp [aO x,.cptr b (aO s) 0]=some (aC (g x)):=⟨fun x=>(OG x s b).choose,fun x=>(OG x s b).choose_spec⟩;refine⟨_,AE (enc:=aO) (p:=g) (by decide) (fun y=>⟨rfl,rfl⟩) (fun σ=>by cases b<;>simp) (fun y _=>by cases b<;>simp[a]),?_⟩;unfold wd;split
 ·rename_i h;have:=bM (cB.1 h);have d:I6.length=14:=rfl;omega
 omega
theorem ann(s:List UInt8)(a:s.length≤8000)(σ:aw):cC code I.strings_ToUpper [aO s] σ=some (aO (upS s),σ):=JT s a σ
theorem adb(s:List UInt8)(F:s≠[])(M:s.length≤8000):∃(k:Int) (t:List UInt8) (n:Int) (m:Nat) (ok:Bool),bB I.qco [aO s]=some (fy [rE k 0 t n,ap m,aC ok])∧m≤8000∧(ok=true→0<m)∧t.length≤8000:=by
 rw[aT aj8 rfl];have g:0<s.length:=eY.2 F;have i:s[0]?=some s[0]:=au g;generalize K:s[0]=c at *;have d:∀h:0<s.length,s[0]'h=c:=fun _=>K;by_cases w:c.toNat=39
 ·have f:((c.toNat:Int)==39)=true:=by rw[w];rfl
  obtain⟨t,n,ok,J,Q,O,P⟩:=Xx s M;exact⟨4,t,0,n,ok,by simp[arw,pM,g,i,d,f,J],by omega,O,by omega⟩
 have f:((c.toNat:Int)==39)=false:=by simp;omega
 obtain⟨k,l,D⟩:=akd s;by_cases b:0<k
 ·have a:(0:Int)<(k:Int):=by omega
  have v:s.take k≠[]:=by
   intro h;rcases List.take_eq_nil_iff.1 h with h|h
   ·omega
   exact F h
  have p:(s.take k).length≤8000:=by simp;omega
  have q:¬(s.length<k):=by omega
  obtain⟨n,ok,_⟩:=OQ (s.take k) p v [];have r:∀σ,∃(n:Int) (ok:Bool),cC code I.lex_number [aO (s.take k)] σ=some (fy [.int .u64 n,aC ok],σ):=OQ (s.take k) p v;obtain⟨n,ok,y⟩:=r [aB 1 0 [aO s],aB 4 0 [rE 0 0 [] 0]];have G:=fun σ=>ann (s.take k) p σ;have E:=TK (upS (s.take k));have z:=nO (s.take k);have C:sO.any (· == upS (s.take k))=true→(upS (s.take k)).length≤8000:=fun h=>by
   obtain⟨x,N,f⟩:=cB.1 h;rw[←eq_of_beq f];exact (show ∀x∈sO,x.length≤8000 by decide) x N
  generalize upS (s.take k)=H at *;generalize sO.any (· == H)=isw at *;generalize iF (s.take k)=A at *;cases ok with
  |true=>exact⟨3,[],n,k,true,by simp[arw,pM,g,i,d,f,l,a,b,q,D,vT,y],by omega,(fun _=>b),by simp⟩
  |false=>
   cases isw with
   |true=>exact⟨1,H,0,k,true,by simp[arw,pM,g,i,d,f,l,a,b,q,D,vT,y,G,E],by omega,(fun _=>b),C rfl⟩
   |false=>exact⟨2,s.take k,0,k,A,by simp[arw,pM,g,i,d,f,l,a,b,q,D,vT,y,G,E,z],by omega,(fun _=>b),p⟩
 have a:¬(0:Int)<(k:Int):=by omega
 obtain⟨j,o,j1,j2⟩:=ah8 s true false;have L:(gl2:aq)=aI (I6.map aO):=rfl;by_cases B:j<0
 ·refine⟨0,[],0,0,false,?_,by omega,(fun e=>by cases e),by simp⟩;simp only[I6,aV,bm]at o;simp[arw,pM,g,i,d,f,l,a,b,o,B]
 have u:j=0∨j=1∨j=2∨j=3∨j=4∨j=5∨j=6∨j=7∨j=8∨j=9∨j=10∨j=11∨j=12∨j=13:=by omega
 simp only[I6,aV,bm]at o;rcases u with rfl|rfl|rfl|rfl|rfl|rfl|rfl|rfl|rfl|rfl|rfl|rfl|rfl|rfl
 ·exact⟨5,[60,62],0,2,true,by simp[arw,pM,g,i,d,f,l,a,b,o],by omega,(fun _=>by omega),by simp⟩
 ·exact⟨5,[60,61],0,2,true,by simp[arw,pM,g,i,d,f,l,a,b,o],by omega,(fun _=>by omega),by simp⟩
 ·exact⟨5,[62,61],0,2,true,by simp[arw,pM,g,i,d,f,l,a,b,o],by omega,(fun _=>by omega),by simp⟩
 ·exact⟨5,[40],0,1,true,by simp[arw,pM,g,i,d,f,l,a,b,o],by omega,(fun _=>by omega),by simp⟩
 ·exact⟨5,[41],0,1,true,by simp[arw,pM,g,i,d,f,l,a,b,o],by omega,(fun _=>by omega),by simp⟩
 ·exact⟨5,[44],0,1,true,by simp[arw,pM,g,i,d,f,l,a,b,o],by omega,(fun _=>by omega),by simp⟩
 ·exact⟨5,[46],0,1,true,by simp[arw,pM,g,i,d,f,l,a,b,o],by omega,(fun _=>by omega),by simp⟩
 ·exact⟨5,[42],0,1,true,by simp[arw,pM,g,i,d,f,l,a,b,o],by omega,(fun _=>by omega),by simp⟩
 ·exact⟨5,[43],0,1,true,by simp[arw,pM,g,i,d,f,l,a,b,o],by omega,(fun _=>by omega),by simp⟩
 ·exact⟨5,[45],0,1,true,by simp[arw,pM,g,i,d,f,l,a,b,o],by omega,(fun _=>by omega),by simp⟩
 ·exact⟨5,[47],0,1,true,by simp[arw,pM,g,i,d,f,l,a,b,o],by omega,(fun _=>by omega),by simp⟩
 ·exact⟨5,[61],0,1,true,by simp[arw,pM,g,i,d,f,l,a,b,o],by omega,(fun _=>by omega),by simp⟩
 ·exact⟨5,[60],0,1,true,by simp[arw,pM,g,i,d,f,l,a,b,o],by omega,(fun _=>by omega),by simp⟩
 exact⟨5,[62],0,1,true,by simp[arw,pM,g,i,d,f,l,a,b,o],by omega,(fun _=>by omega),by simp⟩
structure vd where
 k:Int
 at':Int
 t:List UInt8
 n:Int
 h:t.length≤8000
def vd.a(x:vd):aq:=rE x.k x.at' x.t x.n
instance:Nc vd.a 4 true:=⟨fun _=>rfl,fun _=>rfl⟩
instance:Fx vd.a:=⟨fun fl top base σ m x=>by simp[vd.a]⟩
abbrev PO(toks:List vd)(r1 r2 r3:aq)(o:Obj):aw:=[aB 1 0 [r1],aB 1 0 [r2],aB 1 0 [r3],aB 1 0 [.sl 4 toks.length 0 toks.length],aB 4 toks.length (toks.map vd.a),o]
abbrev Lz(text:List UInt8):List aq:=[aO text,aH 0 0 0 0,aH 1 0 0 0,aH 2 0 0 0,aH 3 0 0 0,am,am,aC false,.fn I.qcl [] [.cptr false (aO text) 0],am,am,am]
theorem acQ(text:List UInt8)(a:List vd)(d:a.length+1≤bC)(x:vd)(ok:Bool)(X:aw) :
  cC code I.lex_Tokens_r0 (.frs 5 []::(Lz text++[x.a,aC ok])) (PO a .ai (ap 0) (ap 0) (.pend false none)++X) =
   some (aC ok,(if ok then PO (a++[x]) .ai (ap 0) (ap 0) (.pend false none) else PO a .ai (ap x.at') (ap 170) (.pend false (some .ret)))++X++[aB 4 0 [x.a]]):=by
 rw[Fa good (g:=p8) rfl];have c:List.take a.length (a.map vd.a)=a.map vd.a:=ay (by simp);have b:x.a=rE x.k x.at' x.t x.n:=rfl;cases ok
 ·simp[p8,sI,uF,sA,sg,lE,b]
 simp[p8,sI,uF,sA,sg,lE,append,d,c,b]
theorem ajn(s:List UInt8)(c:Int)(σ:aw):∃n:Int,bB I.qhi [aO s,.int .u8 c]=some (ap n):=by
 have h:∀σ,cC code I.internal_bytealg_IndexByteString [aO s,.int .u8 c] σ=some (ap (Lib.indexByte s c.toNat.toUInt8),σ):=fun σ=>xe good (k:=6) (n:=0) pB rfl;have a:bB I.qcg [aO s,.int .u8 c]=some (ap (Lib.indexByte s c.toNat.toUInt8)):=by
  rw[aT amt rfl];simp[auM,afx,h]
 rw[aT amN rfl];exact⟨_,by simp[ato,agM,a];rfl⟩
abbrev C6(text:List UInt8)(k:Nat)(c:aq):List aq:=[.yld 5 I.lex_Tokens_r0 (Lz text),.cptr false (aO text) 0,ap k,am,am,am,c,am,am]
noncomputable abbrev Wu(text:List UInt8)(k:Nat)(toks:List vd):Option (Ex×St):=bU code 6 [3,4,5,6,7,8] qS ⟨C6 text k am,PO toks .ai (ap 0) (ap 0) (.pend false none)⟩
theorem aim(text:List UInt8)(M:text.length≤600):∀m k (b:List vd),text.length-k≤m→b.length≤k→b.length≤600→k≤8600 →
  ∃(env:List aq) (f:List vd) (X:aw),f.length≤600∧((∃a:Int,Wu text k b=some (.ext 0,⟨env,PO f .ai (ap a) (ap 170) (.pend false (some .ret))++X⟩)) ∨
   Wu text k b=some (.ext 0,⟨env,PO f .ai (ap 0) (ap 0) (.pend false none)++X⟩)):=by
 intro m;induction m with
 |zero=>
  intro k b h _ v _;have d:¬(k:Int)<(text.length:Int):=by omega
  refine⟨C6 text k (aC false),b,[],v,.inr ?_⟩;rw[Wu,aZ];simp[qS,d]
 |succ m B=>
  intro k b h E v G;by_cases D:k<text.length
  ·have d:(k:Int)<(text.length:Int):=by omega
   have y:text[k]?=some text[k]:=au D;have K:text.length≤bC:=by unfold bC;omega
   have z:=cW D K;have A:text.drop k≠[]:=by
    intro h;have:=congrArg List.length h;simp at this;omega
   obtain⟨j,t,i,s,ok,C,F,u,g⟩:=adb (text.drop k) A (by simp;omega);generalize J:text[k]=c at *;have p:∀h:k<text.length,text[k]'h=c:=fun _=>J;obtain⟨n,w⟩:=ajn [32,9,10,13] c.toNat [];have l:k≤text.length:=by omega
   have r:List.take (text.length-k) (text.drop k)=text.drop k:=ay (by simp);by_cases x:0≤n
   ·have hi:=B (k+1) b (by omega) (by omega) v (by omega);have e:dh 6 [3,4,5,6,7,8] qS (run code qS ⟨C6 text k am,PO b .ai (ap 0) (ap 0) (.pend false none)⟩)=Wu text (k+1) b:=by
     simp only[Wu,C6];simp[qS,d,y,p,w,x,z,bQ]
    rw[Wu,aZ,e];exact hi
   have o:=fun ok X=>acQ text b (by unfold bC;omega) ⟨j,k,t,i,g⟩ ok X;have q:(vd.a ⟨j,k,t,i,g⟩)=rE j k t i:=rfl;cases ok with
   |false=>
    have o:=o false [aB 4 0 [rE j k t i]];refine⟨[.yld 5 I.lex_Tokens_r0 (Lz text),.cptr false (aO text) 0,ap k,aH 6 0 0 0,ap s,aC false,aC true,aC false,aC true],b,[aB 4 0 [rE j k t i],aB 4 0 [rE j k t i]],v,.inl ⟨k,?_⟩⟩;rw[Wu,aZ];simp only[PO,Lz,q,bX,bT,bq,cI]at o ⊢;simp[qS,d,y,p,w,x,z,vT,l,r,C,o,pD]
   |true=>
    have o:=o true [aB 4 0 [rE j k t i]];have L:=u rfl;have hi:=B (k+s) (b++[⟨j,k,t,i,g⟩]) (by omega) (by simp;omega) (by simp;omega) (by omega);have H:IntKind.i64.wrap ((k:Int)+(s:Int))=((k+s:Nat):Int):=by rw[rJ (by omega) (by omega)];omega
    have e:dh 6 [3,4,5,6,7,8] qS (run code qS ⟨C6 text k am,PO b .ai (ap 0) (ap 0) (.pend false none)⟩)=Wu text (k+s) (b++[⟨j,k,t,i,g⟩]):=by
     simp only[Wu,C6,PO,Lz,q,bX,bT,cw]at o ⊢;simp[qS,d,y,p,w,x,z,H,vT,l,r,C,o,pD,bQ,bw,cn,dE,Ry,q]
    rw[Wu,aZ,e];exact hi
  have d:¬(k:Int)<(text.length:Int):=by omega
  refine⟨C6 text k (aC false),b,[],v,.inr ?_⟩;rw[Wu,aZ];simp[qS,d]
theorem ak2(text:List UInt8)(b:Bool):bB I.qck [aO text]=some (.fn I.qcl [] [.cptr false (aO text) 0]):=by
 rw[aT anC rfl];simp[atJ,agh]
theorem abp(text:List UInt8)(i:text.length≤600):∃(b:List vd) (a e:Int),b.length≤600∧bB I.qcj [aO text]=some (fy [.aa false (b.map vd.a),ap a,ap e]):=by
 have h:¬(600:Int)<(text.length:Int):=by omega
 have g:=ak2 text false;obtain⟨env,b,X,k,d⟩:=aim text i text.length 0 [] (by omega) (by simp) (by simp) (by omega);rcases d with⟨a,d⟩|d
 ·refine⟨[],a,170,by simp,?_⟩;have c:cC code I.qcl [.yld 5 I.lex_Tokens_r0 (Lz text),.cptr false (aO text) 0] (PO [] .ai (ap 0) (ap 0) (.pend false none))=some (fy [],PO b .ai (ap a) (ap 170) (.pend false (some .ret))++X):=by
   rw[cz agE rfl];simp only[Wu,C6,bj]at d;simp[asC,aaP,d]
  rw[aT aeZ rfl];simp only[PO,Lz,bm,bD,bX,bT]at c;simp[asX,XU,h,g,c,sJ]
 refine⟨b,0,0,k,?_⟩;have c:cC code I.qcl [.yld 5 I.lex_Tokens_r0 (Lz text),.cptr false (aO text) 0] (PO [] .ai (ap 0) (ap 0) (.pend false none))=some (fy [],PO b .ai (ap 0) (ap 0) (.pend false none)++X):=by
  rw[cz agE rfl];simp only[Wu,C6,bj]at d;simp[asC,aaP,d]
 rw[aT aeZ rfl];have f:List.take b.length (b.map vd.a)=b.map vd.a:=ay (by simp);simp only[PO,Lz,bm,bD,bX,bT]at c;have j:∀(x:vd) σ,fz false false 0 σ 18 x.a=x.a:=fun x σ=>Fx.fx false false 0 σ 15 x;simp[asX,XU,h,g,c,sJ,f,j]
abbrev ahZ(σ:aw):Prop:=∀τ b,σ.length≤b→σ.map (bw b τ)=σ
def rS(σ τ:aw)(v:aq):aq×aw:=if τ.length=σ.length then (v,τ) else (cn σ.length τ v,(τ.take σ.length).map (bw σ.length τ))
theorem O5{σ:aw}(h:ahZ σ)(o:Obj)(t:aw)(v:aq):rS σ (σ++o::t) v=(cn σ.length (σ++o::t) v,σ):=by
 unfold rS;rw[if_neg (by simp)];rw[gg rfl,h _ _ (aF _)]
def zH(σ:aw)(res:List Oi)(r:Option (Ex×St)):Option (aq×aw):=r.bind fun r=>match r.1 with
 |.ext _=>none
 |_=>(results r.2 res).map fun v=>rS σ r.2.st v
@[simp] theorem abQ(σ:aw)(a:List Oi)(s:St):zH σ a (some (.ret,s))=(results s a).map fun v=>rS σ s.st v:=rfl
@[simp] theorem abV(σ:aw)(a:List Oi)(s:St):zH σ a (some (.nrm,s))=(results s a).map fun v=>rS σ s.st v:=rfl
theorem cX{f:Nat}{g:br}(h:code.fns f=.fn g)(a:g.mode=.trunc)(args:List aq)(σ:aw) :
  cC code f args σ=zH σ g.res (run code g.body ⟨args.take g.np++List.replicate (g.nenv-g.np) am,σ⟩):=by
 rw[yV good h];have b:enter g args σ=⟨args.take g.np++List.replicate (g.nenv-g.np) am,σ⟩:=by unfold enter;rw[a]
 rw[b];unfold zH;congr 1;funext r;obtain⟨e,s⟩:=r;unfold qY iw rS;rw[a];cases e<;>rfl
structure gf where
 toks:List vd
 en:Int
 at':Int
 er:Int
def gf.v(r:gf):aq:=aI [.aa false (r.toks.map vd.a),ap r.en,ap r.at',ap r.er]
abbrev gC(r:gf):Obj:=aB 4 0 [r.v]
theorem gf.v_is(r:gf):r.v=aI [.aa false (r.toks.map vd.a),ap r.en,ap r.at',ap r.er]:=rfl
theorem eD(r:gf)(fl top:Bool)(base:Nat)(σ:aw)(m:Nat):fz fl top base σ (m+3) r.v=r.v:=by simp[gf.v]
def uU(r:gf)(kind:Int)(ts:List (List UInt8)):Bool:=match r.toks with
 |[]=>false
 |t::_=>r.er==0&&t.k==kind&&(ts.isEmpty ||ts.any (· == t.t))
def gf.nx(r:gf):gf:=⟨r.toks.tail,r.en,r.at',r.er⟩
def g7(r:gf):Int:=match r.toks with
 |[]=>r.en
 |t::_=>t.at'
def oz(r:gf)(e a:Int):gf:=if r.er=0 then ⟨r.toks,r.en,a,e⟩ else r
theorem ada(l:Bool)(r:gf)(b:Int)(f:List (List UInt8))(i:f.length≤8000):bB I.qfd [.cptr true r.v 0,ap b,.aa l (f.map aO)]=some (aC (uU r b f)):=by
 rw[aT anG rfl];obtain⟨a,en,at',m⟩:=r;unfold uU;simp only[gf.v];by_cases h:m=0
 ·cases a with
  |nil=>simp[arS,JM,h]
  |cons t a=>
   have c:t.a=rE t.k t.at' t.t t.n:=rfl;have j:=tt l f t.t i;have d:¬((a.length:Int)+1=0):=by omega
   by_cases k:t.k=b
   ·cases hz:f with
    |nil=>simp[arS,JM,h,c,k,d]
    |cons s g=>
     have n:¬((g.length:Int)+1=0):=by omega
     rw[hz]at j;generalize e:(s::g).any (· == t.t)=an at *;simp only[iI]at e;simp only[aV]at j;simp[arS,JM,h,c,k,n,d,j];exact e.symm
   simp[arS,JM,h,c,k,d]
 cases a<;>simp[arS,JM,h]
theorem tq(r:gf):bB I.qfn [.cptr true r.v 0]=some (ap (g7 r)):=by
 rw[aT anw rfl];obtain⟨a,en,at',d⟩:=r;unfold g7;simp only[gf.v];cases a with
 |nil=>simp[asO,XS]
 |cons t a=>
  have b:t.a=rE t.k t.at' t.t t.n:=rfl;have c:¬((a.length:Int)+1=0):=by omega
  simp[asO,XS,b,c]
structure At (σ:aw) (id:Nat) (r:gf):Prop where
 get:σ[id]?=some (gC r)
 firm:ahZ σ
theorem At.lt{σ:aw}{id:Nat}{r:gf}(h:At σ id r):id<σ.length:=(ak.1 h.get).1
theorem HZ(r:gf)(b:Nat)(τ:aw):bw b τ (gC r)=gC r:=by
 simp[bw,cn,dE,eD]
theorem At.set{σ:aw}{id:Nat}{r:gf}(h:At σ id r)(a:gf):At (σ.set id (gC a)) id a:=
 ⟨by simp[h.lt],fun τ b c=>by rw[List.map_set,h.firm τ b (by simpa using c),HZ]⟩
theorem At.app{σ:aw}{id:Nat}{r:gf}(h:At σ id r)(t:aw)(c:∀τ b,σ.length+t.length≤b→t.map (bw b τ)=t):At (σ++t) id r:=
 ⟨by rw[aS h.lt,h.get],fun τ b a=>by
  rw[bZ]at a;rw[df,h.firm τ b (by omega),c τ b a]⟩
theorem At.same{σ:aw}{id:Nat}{r:gf}(h:At σ id r):σ.set id (gC r)=σ:=by
 apply fb;intro i;by_cases hi:id=i
 ·subst hi;simp[h.lt,←h.get]
 rw[aD hi]
theorem At.snap{σ:aw}{id:Nat}{r:gf}(h:At σ id r):snap σ (aH id 0 0 0)=.cptr true r.v 0:=by
 have a:=h.get;simp[Go.AM.snap,dE,a,eD,jQ]
theorem dM{σ:aw}{id:Nat}{r:gf}(h:At σ id r)(a:gf)(o:Obj)(t:aw)(v:aq):rS σ (σ.set id (gC a)++o::t) v=(cn σ.length (σ.set id (gC a)++o::t) v,σ.set id (gC a)):=by
 have:=O5 (h.set a).firm o t v;unfold rS at *;rw[gj]at this;exact this
theorem fD{σ τ:aw}(h:τ.length=σ.length)(v:aq):rS σ τ v=(v,τ):=by unfold rS;rw[if_pos h]
theorem Ob(r:gf)(a:Int):bB I.qfd [.cptr true r.v 0,ap a,.aa false []]=some (aC (uU r a [])):=ada false r a [] (by simp)
theorem Jw(r:gf)(a:Int)(s:List UInt8):bB I.qfd [.cptr true r.v 0,ap a,.aa true [aO s]]=some (aC (uU r a [s])):=ada true r a [s] (by simp)
theorem Mf{σ:aw}{id:Nat}{r:gf}(h:At σ id r)(X:aw):(σ++X)[id]?=some (gC r):=by rw[aS h.lt,h.get]
theorem oT{σ:aw}{id:Nat}{r:gf}(h:At σ id r)(o:Obj)(X:aw):(σ.set id o++X)[id]?=some o:=by
 rw[aS (by simpa using h.lt)];simp[h.lt]
theorem tu{σ:aw}{id:Nat}{r:gf}(h:At σ id r)(o:Obj)(X:aw):(σ++X).set id o=σ.set id o++X:=by rw[cF _ _ h.lt]
theorem set_set{σ:aw}{id:Nat}{r:gf}(h:At σ id r)(o o':Obj)(X:aw):(σ.set id o++X).set id o'=σ.set id o'++X:=by rw[cF _ _ (by simpa using h.lt),ew]
theorem oJ{σ:aw}{id:Nat}{r:gf}(h:At σ id r)(e a:Int):cC code I.qfc [aH id 0 0 0,ap e,ap a] σ=some (fy [],σ.set id (gC (oz r e a))):=by
 have j:=h.same;rw[cX amn rfl];have d:=h.get;have i:=h.lt;obtain⟨c,en,at',f⟩:=r;unfold oz;simp only[gf.v]at *;have b:∀h,σ[id]'h=aB 4 0 [aI [.aa false (c.map vd.a),ap en,ap at',ap f]]:=fun _=>(ak.1 d).2;by_cases g:f=0
 ·subst g;simp[asI,Xd,d,b,i,fD,gC,gf.v]
 simp[asI,Xd,d,b,i,g,fD,j]
theorem wD{σ:aw}{id:Nat}{r:gf}(h:At σ id r)(t:vd)(a:List vd)(l:r.toks=t::a):cC code I.qfj [aH id 0 0 0] σ=some (t.a,σ.set id (gC r.nx)):=by
 rw[cX alk rfl];have c:=fun n o t v=>dM h n o t v;have b:=h.get;have k:=h.lt;obtain⟨m,en,at',f⟩:=r;simp only at l;subst l;simp only[gf.v,gf.nx,List.tail_cons,aV,gC]at *;have c:=c ⟨a,en,at',f⟩;simp only at c;have i:t.a=rE t.k t.at' t.t t.n:=rfl;rw[i]at b ⊢;have d:∀h,σ[id]'h=aB 4 0 [aI [.aa false (rE t.k t.at' t.t t.n::a.map vd.a),ap en,ap at',ap f]]:=fun _=>(ak.1 b).2;have g:∀X,(σ++X)[id]?=some (aB 4 0 [aI [.aa false (rE t.k t.at' t.t t.n::a.map vd.a),ap en,ap at',ap f]]):=fun X=>by rw[aS k,b]
 have j:∀X Y,(σ++X).set id Y=σ.set id Y++X:=fun X Y=>by rw[cF _ _ k]
 have e:∀x:vd,aM x.a=4:=fun _=>rfl;simp[aul,af6,e,b,d,k,g,j,c,cn,dE]
end Go.AM
