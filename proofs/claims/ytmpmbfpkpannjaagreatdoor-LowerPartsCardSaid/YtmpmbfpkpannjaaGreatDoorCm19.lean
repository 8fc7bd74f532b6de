/- Part of the proof. -/
import Derived.Test.YtmpmbfpkpannjaaGreatDoorCm18
set_option linter.unusedVariables false
set_option linter.unusedSimpArgs false
set_option linter.unusedSectionVars false
namespace Go.AM
open P
set_option maxHeartbeats 64000000
set_option maxRecDepth 40000
structure Lw (t:yg):Prop where
 own:∀n∈t.l,mQ n
 ns:∀n∈t.l,NS n
 len:t.l.length≤8000
theorem Lw.ok{t:yg}(h:Lw t):TOk t:=⟨fun n a=>(h.own n a).fl,fun n a=>(h.own n a).fit,fun b n a=>by
 obtain⟨s,c⟩:=cN.1 b;have:=(wQ c).2.2.2 n a;exact⟨this.l,this.r⟩⟩
theorem UC{n:cJ}(h:NS n)(b:nE n)(a:Int):NS (gJ a n):=⟨(tY b h.fit a).fit,h.keys,h.ah,h.items⟩
theorem abz{k:Nat}{t:yg}{s s':List cJ×Int×Int}(b:Lw t)(d:∀m∈s.1,NS m)(h:pc k t s=.inl s'):∀m∈s'.1,NS m:=by
 unfold pc at h;split at h
 ·cases h;intro m a;rcases ba.1 a with a|a
  ·exact d m a
  obtain⟨n,c,rfl⟩:=bM.1 a;exact UC (b.ns n c) (b.own n c).fl _
 cases h
theorem Ii{d σ ρ:Type}{g:Nat→d→σ→σ⊕ρ}(yh:Nat→σ→Prop):∀(l:List d) (k:Nat) (s:σ),yh k s→(∀k y s s',y∈l→yh k s→g k y s=.inl s'→yh (k+1) s')→∀s',dt g l k s=.inl s'→yh (k+l.length) s'
 |[],k,s,a,_,s',h=>by rw[dt]at h;cases h;exact a
 |y::l,k,s,a,b,s',h=>by
  rw[dt]at h;cases hy:g k y s with
  |inr r=>rw[hy]at h;cases h
  |inl c=>
   rw[hy]at h;have:=Ii yh l (k+1) c (b k y s c (by simp) a hy) (fun k y s s' e=>b k y s s' (cd _ e)) s' h;simpa [dB,im 1] using this
theorem aas{b:List yg}(d:∀t∈b,Lw t){s:List cJ×Int×Int}(h:dt pc b 0 ([],-1,-1)=.inl s):abp b.length s∧∀m∈s.1,NS m:=by
 have:=Ii (g:=pc) (fun k s=>abp k s∧∀m∈s.1,NS m) b 0 ([],-1,-1) ⟨⟨by simp,fun m a=>by simp at a,by simp,by simp⟩,fun m a=>by simp at a⟩
  (fun k y s s' a c e=>⟨Kx (d y a).ok c.1 e,abz (d y a) c.2 e⟩) s h
 simpa using this
theorem aiV{n:cJ}(b:nE n)(a:NS n)(l r:Int):nE (eQ n l r)∧NS (eQ n l r):=⟨⟨b.ag,b.ex⟩,⟨⟨a.fit.ac,a.fit.cond,a.fit.keys,a.fit.ah,a.fit.args,a.fit.items,a.fit.exprs,a.fit.ords⟩,a.keys,a.ah,a.items⟩⟩
theorem Rt{n:cJ}(j:nE n)(k:NS n){b:List yg}(l:b.length≤100)(i:∀t∈b,Lw t)(w:List cJ)(h:iA n b=some w):Lw ⟨false,w⟩:=by
 unfold iA at h;cases hf':dt pc b 0 ([],-1,-1) with
 |inr u=>rw[hf']at h;cases h
 |inl s=>
  rw[hf']at h;simp only at h;split at h
  ·cases h;obtain⟨d,c⟩:=aas i hf';obtain⟨f,g⟩:=aiV j k s.2.1 s.2.2;have e:=d.len;refine⟨fun m a=>?_,fun m a=>?_,by simp;omega⟩
   ·rcases ba.1 a with a|a
    ·exact d.own m a
    rw[aP.1 a];exact tY f g.fit 0
   rcases ba.1 a with a|a
   ·exact c m a
   rw[aP.1 a];exact UC g f 0
  cases h
end Go.AM
namespace Go.AM
open P
set_option maxHeartbeats 64000000
set_option maxRecDepth 40000
attribute [local simp] aG bj
structure fD where
 name:List UInt8
 kind:Int
 deriving DecidableEq
def fD.a(c:fD):aq:=aH [aO c.name,ap c.kind]
structure cK where
 name:List UInt8
 af:List fD
 keys:List Int
def cK.a(t:cK):aq:=aH [aO t.name,.aa false (t.af.map fD.a),.aa false (t.keys.map (.int .i64))]
instance:Nc fD.a 2 true:=⟨fun _=>rfl,fun _=>rfl⟩
instance:Fx fD.a:=⟨fun fl top base σ n y=>by simp[fD.a]⟩
instance:Nc cK.a 3 true:=⟨fun _=>rfl,fun _=>rfl⟩
instance:Fx cK.a:=⟨fun fl top base σ n y=>by simp[cK.a]⟩
abbrev mC(c:List cK):aq:=aH [.aa false (c.map cK.a)]
def cK.ac(t:cK):List Int:=t.af.map fD.kind
abbrev AV(c:List cK)(L:aq)(acc:List Int)(i:Nat)(e5 e10:aq)(af:aq)(len idx:aq):List aq:=
 [mC c,L,aI 0 0 0 0,.ai,.sl 1 acc.length 0 acc.length,e5,am,L,ap 1,ap i,e10,af,len,idx,am]
abbrev Jx(c:List cK)(acc:List Int):aw:=[aB 1 0 [mC c],aB 1 acc.length (cV acc)]
theorem N0(c:List cK)(d:Bool)(ls:List aq)(p:∀base σ m,fz false true base σ (m+3) (.aa d ls)=.aa d ls)(t:Int)(a:List fD)(s:a.length≤8000)(f:Bool) :
  bT code 2 [6,14] Ir ⟨AV c (.aa d ls) [] 0 (ap t) (aC true) (.aa f (a.map fD.a)) (ap a.length) (ap 0),Jx c []⟩ =
   some (.ext 2,⟨(AV c (.aa d ls) (a.map fD.kind) 0 (ap t) (aC true) (.aa f (a.map fD.a)) (ap a.length) (ap a.length)).set 14 (aC false),Jx c (a.map fD.kind)⟩):=by
 have loop:=cY (base:=2) (clr:=[6,14]) (b:=Ir)
  (fun k=>⟨AV c (.aa d ls) ((a.take k).map fD.kind) 0 (ap t) (aC true) (.aa f (a.map fD.a)) (ap a.length) (ap k),Jx c ((a.take k).map fD.kind)⟩) a.length
  (.ext 2,⟨(AV c (.aa d ls) (a.map fD.kind) 0 (ap t) (aC true) (.aa f (a.map fD.a)) (ap a.length) (ap a.length)).set 14 (aC false),Jx c (a.map fD.kind)⟩)
  (fun k i=>by
   have o:a[k]?=some a[k]:=au i;have g:∀h:k<a.length,a[k]'h=a[k]'i:=fun _=>rfl;have q:(a.take (k+1)).map fD.kind=(a.take k).map fD.kind++[a[k].kind]:=by rw[eW,o,dg];rfl
   have e:((a.take k).map fD.kind).length=k:=by simp;omega
   generalize (a.take k).map fD.kind=cs at *;generalize a[k]=n at *;rw[q];have j:k+1≤bD:=by unfold bD;omega
   have r:IntKind.i64.wrap ((k:Int)+1)=(k:Int)+1:=pT (by omega) (by omega);have l:List.take k (cs.map (aq.int .i64))=cs.map (aq.int .i64):=ay (by simp[e]);simp[AV,Jx,Ir,i,o,g,fD.a,r,append,j,l,e,bN,bA,cq,dF])
  (by simp[Ir])
 simpa using loop
theorem acZ(c:List cK)(t:Int)(tb:cK)(m:0≤t)(f:c[t.toNat]?=some tb)(n:tb.af.length≤8000)(a:Bool):bB I.qw [mC c,.aa a [ap t]]=some (.aa false (cV tb.ac)):=by
 have i:=N0 c a [ap t] (by simp) t tb.af n false;have l:t.toNat < c.length:=(ak.1 f).1;have d:∀h:t.toNat < c.length,c[t.toNat]'h=tb:=fun h=>(ak.1 f).2;have e:t<(c.length:Int):=by omega
 have n3:aM tb.a=3∧isAgg tb.a=true:=⟨rfl,rfl⟩;have o:IntKind.i64.wrap 1=1:=rfl;have j:tb.af.map fD.kind=tb.ac:=rfl;simp only[AV,Jx,j]at i;have loop:=cY (base:=2) (clr:=[5,6,10,11,12,13,14]) (b:=Nk)
  (fun k=>⟨AV c (.aa a [ap t]) (if k=0 then [] else tb.ac) k am am am am am,Jx c (if k=0 then [] else tb.ac)⟩) 1
  (.ext 0,⟨(AV c (.aa a [ap t]) tb.ac 1 am (aC false) am am am),Jx c tb.ac⟩)
  (fun k p=>by
   obtain rfl:k=0:=by omega
   simp at i;simp[AV,Jx,Nk,m,l,f,d,e,n3,cK.a,i,o,bN,bA,cq,dF])
  (by simp[Nk])
 rw[aR apJ rfl];simp[AV,Jx]at loop;have g:List.take tb.ac.length (tb.ac.map (aq.int .i64))=tb.ac.map (aq.int .i64):=ay (by simp);simp[auX,alS,loop,g]
theorem Sn(c:List cK)(t:Int)(b:Bool):bB I.qp [ap t,.cptr b (mC c) 0]=some (aC (decide (t<0) ||decide ((c.length:Int)≤t))):=by
 rw[aR apl rfl];cases b<;>simp[atD,am0]<;>(repeat' (split<;>(try simp_all)))<;>omega
theorem VE(c:List cK)(i:bB I.qbb [mC c]=some (ap 0))(k:∀tb∈c,tb.af.length≤8000)(t:Int)(e:Bool) :
  bB I.qo [mC c,.aa e [ap t]]=some (if 0≤t∧t<c.length then fb [.aa false (cV ((c[t.toNat]?.map cK.ac).getD [])),ap 0] else fb [.aa false [],ap 4]):=by
 rw[aR aqj rfl]
 have a:=rj (enc:=.int .i64) (b:=e) (l:=[t]) (f:=snap [aB 1 0 [mC c]] (.fn I.qp [] [aI 0 0 0 0])) (p:=fun t=>decide (t<0) ||decide ((c.length:Int)≤t)) (by simp;unfold bD;omega) (fun _=>⟨rfl,rfl⟩) (fun σ=>pO _ _ _) (fun c _=>by
  simp[Sn])
 simp only[iF,List.any_nil,oE]at a;by_cases h:0≤t∧t<c.length
 ·have d:t.toNat < c.length:=by omega
  have j:c[t.toNat]?=some c[t.toNat]:=au d;have m:=aJ d;have o:∀h:t.toNat < c.length,c[t.toNat]'h=c[t.toNat]'d:=fun _=>rfl;have n:=acZ c t c[t.toNat] h.1 j (k _ m) e;generalize c[t.toNat]=tb at *;have g:(decide (t<0) ||decide ((c.length:Int)≤t))=false:=by simp;omega
  rw[g]at a;simp at a;rw[if_pos h,j];simp[asD,ajz,i,a,n]
 have g:(decide (t<0) ||decide ((c.length:Int)≤t))=true:=by simp;omega
 rw[g]at a;simp at a;rw[if_neg h];simp[asD,ajz,i,a]
structure JX where
 left:Bool
 on:List EN
def JX.a(j:JX):aq:=aH [aC j.left,.aa false (j.on.map EN.a)]
instance:Nc JX.a 2 true:=⟨fun _=>rfl,fun _=>rfl⟩
instance:Fx JX.a:=⟨fun fl top base σ n y=>by simp[JX.a]⟩
structure sO where
 tables:List Int
 joins:List JX
 whr:List EN
 having:List EN
 grouped:Bool
 distinct:Bool
 keys:List Int
 ah:List kU
 items:List yV
def sO.c(s:sO):List aq:=[.aa false (s.tables.map (.int .i64)),.aa false (s.joins.map JX.a),.aa false (s.whr.map EN.a),.aa false (s.having.map EN.a),aC s.grouped,aC s.distinct,.aa false (s.keys.map (.int .i64)),.aa false (s.ah.map va),.aa false (s.items.map xE)]
def sO.a(s:sO):aq:=aH s.c
instance:Nc sO.a 9 true:=⟨fun _=>rfl,fun _=>rfl⟩
instance:Fx sO.a:=⟨fun fl top base σ n y=>by simp[sO.a,sO.c]⟩
abbrev Bt(o:Option (List cJ)):aq:=.aa false ((o.getD []).map cJ.a)
abbrev No(cv f0 f1 f2 f3 f4 f5 f6 f7 f8 tv:aq)(bad:Bool):aq:=aH [cv,f0,f1,f2,f3,f4,f5,f6,f7,f8,tv,aC bad]
theorem BR(id:Nat)(cv c d f g i j k l m n t:aq)(bad:Bool)(e:Int)(σ:aw)(h:σ[id]?=some (aB 12 0 [No cv c d f g i j k l m n bad]))(v:aM t=1) :
  cD code I.qep [aI id 0 0 0,aH [t],ap e] σ=some (fb [],(σ.set id (aB 12 0 [No cv c d f g i j k l m t (bad ||e != 0)]))++[aB 1 0 [aH [t]]]):=by
 rw[cz aop rfl];have a:=(ak.1 h).1;have p:∀X,(σ++[X])[id]?=some (aB 12 0 [No cv c d f g i j k l m n bad]):=fun X=>by rw[aQ a,h]
 have q:∀X t,(σ.set id X++t)[id]?=some X:=fun X t=>by rw[aQ (by simpa using a)];simp[a]
 have r:∀X Y,(σ++[X]).set id Y=σ.set id Y++[X]:=fun X Y=>by rw[cG _ _ a]
 have s:∀X Y Z,(σ.set id X++[Z]).set id Y=σ.set id Y++[Z]:=fun X Y Z=>by rw[cG _ _ (by simpa using a),ez]
 have o:id<σ.length+1:=by omega
 have u:∀h,σ[id]'h=aB 12 0 [No cv c d f g i j k l m n bad]:=fun _=>(ak.1 h).2;cases bad<;>cases he:(e==0)<;>have b:(e != 0)=!(e==0):=rfl<;>rw[he]at b<;>simp[auL,agF,v,h,u,p,q,r,s,a,o,he,b]
theorem Jr:lookF []=none:=by unfold lookF;rw[if_pos (.inl (by simp))]
theorem K0(n:cJ)(b:Bool)(a:List yg):iA n (⟨b,[]⟩::a)=none:=by
 unfold iA;have:dt pc (⟨b,[]⟩::a) 0 ([],-1,-1)=.inr ():=by rw[dt];unfold pc;rw[Jr];rfl
 rw[this]
theorem Wf(n:cJ)(t:yg)(b:Bool):iA n [t,⟨b,[]⟩]=none:=by
 unfold iA;have:dt pc [t,⟨b,[]⟩] 0 ([],-1,-1)=.inr ():=by
  rw[dt];cases pc 0 t ([],-1,-1) with
  |inr _=>rfl
  |inl s=>simp only;rw[dt];unfold pc;rw[Jr];rfl
 rw[this]
def ed(n:cJ)(o:Option (List cJ)):Option (List cJ):=o.bind fun t=>iA n [⟨false,t⟩]
def lf(n:cJ)(o x:Option (List cJ)):Option (List cJ):=o.bind fun t=>x.bind fun u=>iA n [⟨false,t⟩,⟨false,u⟩]
theorem N3(n:cJ)(o:Option (List cJ)):iA n [⟨false,o.getD []⟩]=ed n o:=by
 cases o with
 |none=>exact K0 n false []
 |some t=>rfl
theorem OJ(n:cJ)(o x:Option (List cJ)):iA n [⟨false,o.getD []⟩,⟨false,x.getD []⟩]=lf n o x:=by
 cases o with
 |none=>exact K0 n false _
 |some t=>
  cases x with
  |none=>exact Wf n _ false
  |some u=>rfl
def mY(o:Option (List cJ)):Prop:=Lw ⟨false,o.getD []⟩
theorem sq:mY none:=⟨fun n h=>by simp at h,fun n h=>by simp at h,by simp⟩
theorem HP{n:cJ}(d:mQ n)(c:NS n){a:List yg}(e:a.length≤100)(b:∀t∈a,Lw t):mY (iA n a):=by
 have h:=Rt d.fl c e b;cases hl:iA n a with
 |none=>exact sq
 |some w=>exact h w hl
theorem mM{n:cJ}(b:mQ n)(a:NS n){o:Option (List cJ)}(h:mY o):mY (ed n o):=by
 rw[←N3];exact HP b a (by simp) fun t c=>by rw[aP.1 c];exact h
theorem KK{n:cJ}(c:mQ n)(b:NS n){o x:Option (List cJ)}(h:mY o)(d:mY x):mY (lf n o x):=by
 rw[←OJ]
 exact HP c b (by simp) fun t a=>by
  rcases dX.1 a with rfl|a
  ·exact h
  rw[aP.1 a];exact d
theorem Zd(x:Option (List cJ)):(false ||(if x.isSome then (0:Int) else 230) != 0)=x.isNone:=by cases x<;>rfl
theorem ID(id:Nat)(cv a b c d e f g i j N:aq)(n l:cJ)(o:Option (List cJ))(σ:aw)(h:σ[id]?=some (aB 12 0 [No cv a b c d e f g i j (Bt o) o.isNone]))
  (w:∀σ,fz true false 0 σ 20 N=l.a) (y:aM N=12∧isAgg N=true) (A:nE l) (C:uw l) (z:∀u,iA l u=iA n u) (x:mY o) :
  cD code I.qel [aI id 0 0 0,N,.ai] σ=some (fb [],(σ.set id (aB 12 0 [No cv a b c d e f g i j (Bt (ed n o)) (ed n o).isNone]))++[aB 12 0 [N],aB 1 0 [aH [Bt (ed n o)]]]):=by
 rw[cz ahg rfl];have p:=(ak.1 h).1;have r:∀X,(σ++[X])[id]?=some (aB 12 0 [No cv a b c d e f g i j (Bt o) o.isNone]):=fun X=>by rw[aQ p,h]
 have B:∀h,σ[id]'h=aB 12 0 [No cv a b c d e f g i j (Bt o) o.isNone]:=fun _=>(ak.1 h).2;have v:∀X Y,(σ++[X]).set id Y=σ.set id Y++[X]:=fun X Y=>by rw[cG _ _ p]
 have m:=anA l A C ⟨false,o.getD []⟩ x.ok;rw[z,N3]at m;have k:(o.isNone ||(if (ed n o).isSome then (0:Int) else 230) != 0)=(ed n o).isNone:=by
  cases o with
  |none=>rfl
  |some t=>exact Zd _
 have s:=BR id cv a b c d e f g i j (Bt o) (Bt (ed n o)) o.isNone (if (ed n o).isSome then 0 else 230) (σ++[aB 12 0 [N]]) (r _) rfl;rw[k,v]at s;have q:(yg.a ⟨false,o.getD []⟩)=aH [Bt o]:=rfl;unfold Lb at m;rw[q]at m;generalize ed n o=o' at *;simp only[Bt]at *;generalize (o.getD []).map cJ.a=F at *;generalize o.isNone=bad at *;generalize (o'.getD []).map cJ.a=D at *;generalize (if o'.isSome then (0:Int) else 230)=E at *;simp[asB,aba,y,p,B,r,w,m,s]
theorem DG(id:Nat)(cv a b c d e f g i j N:aq)(n:cJ)(o:Option (List cJ))(σ:aw)(h:σ[id]?=some (aB 12 0 [No cv a b c d e f g i j (Bt o) o.isNone]))
  (k:∀σ,fz true false 0 σ 20 N=n.a) (m:aM N=12∧isAgg N=true) (q:mQ n) (p:NS n) (l:mY o) :
  cD code I.qel [aI id 0 0 0,N,.ai] σ=some (fb [],(σ.set id (aB 12 0 [No cv a b c d e f g i j (Bt (ed n o)) (ed n o).isNone]))++[aB 12 0 [N],aB 1 0 [aH [Bt (ed n o)]]]):=
 ID id cv a b c d e f g i j N n n o σ h k m q.fl p.fit (fun _=>rfl) l
theorem Ia(id:Nat)(cv a b c d e f g i j N:aq)(n:cJ)(o x:Option (List cJ))(σ:aw)(h:σ[id]?=some (aB 12 0 [No cv a b c d e f g i j (Bt o) (o.isNone ||x.isNone)]))
  (z:∀σ,fz true false 0 σ 20 N=n.a) (C:aM N=12∧isAgg N=true) (v:mQ n) (H:NS n) (A:mY o) (B:mY x) :
  cD code I.qel [aI id 0 0 0,N,.lst [aH [Bt x]]] σ=some (fb [],(σ.set id (aB 12 0 [No cv a b c d e f g i j (Bt (lf n o x)) (lf n o x).isNone]))++[aB 12 0 [N],aB 1 0 [aH [Bt (lf n o x)]]]):=by
 rw[cz ahg rfl];have p:=(ak.1 h).1;have s:∀X,(σ++[X])[id]?=some (aB 12 0 [No cv a b c d e f g i j (Bt o) (o.isNone ||x.isNone)]):=fun X=>by rw[aQ p,h]
 have E:∀h,σ[id]'h=aB 12 0 [No cv a b c d e f g i j (Bt o) (o.isNone ||x.isNone)]:=fun _=>(ak.1 h).2;have y:∀X Y,(σ++[X]).set id Y=σ.set id Y++[X]:=fun X Y=>by rw[cG _ _ p]
 have l:=ama n v.fl v.fit ⟨false,o.getD []⟩ ⟨false,x.getD []⟩ A.ok B.ok;rw[OJ]at l;have k:((o.isNone ||x.isNone) ||(if (lf n o x).isSome then (0:Int) else 230) != 0)=(lf n o x).isNone:=by
  cases o with
  |none=>rfl
  |some t=>
   cases x with
   |none=>rfl
   |some u=>exact Zd _
 have w:=BR id cv a b c d e f g i j (Bt o) (Bt (lf n o x)) (o.isNone ||x.isNone) (if (lf n o x).isSome then 0 else 230) (σ++[aB 12 0 [N]]) (s _) rfl;rw[k,y]at w;have q:(yg.a ⟨false,o.getD []⟩)=aH [Bt o]:=rfl;have r:(yg.a ⟨false,x.getD []⟩)=aH [Bt x]:=rfl;have D:∀σ m,fz true false 0 σ (m+3) (aH [Bt x])=aH [Bt x]:=fun σ m=>by simp
 unfold Lb at l;rw[q,r]at l;generalize lf n o x=o' at *;simp only[Bt]at *;generalize (o.getD []).map cJ.a=J at *;generalize (x.getD []).map cJ.a=K at *;generalize (o.isNone ||x.isNone)=bad at *;generalize (o'.getD []).map cJ.a=F at *;generalize (if o'.isSome then (0:Int) else 230)=G at *;simp[asB,aba,C,p,E,s,z,l,w]
def dA:cJ:=⟨0,0,0,0,false,[],false,false,[],false,[],false,[],false,[],false,[],0⟩
def kj(t:Int)(ks:List Int):cJ:={ dA with op:=1,tab:=t,ac:=ks }
def kw(j:JX):cJ:={ dA with op:=2,left:=j.left,cond:=j.on }
def rB(e:List EN):cJ:={ dA with op:=3,cond:=e }
def jn(ks:List Int)(gs:List kU):cJ:={ dA with op:=4,keys:=ks,ah:=gs }
def mK(es:List yV):cJ:={ dA with op:=5,items:=es }
def vN:cJ:={ dA with op:=6 }
def px:cJ:={ dA with op:=7 }
def jx(o:List (Int×Bool))(l:Int):cJ:={ dA with op:=8,ords:=o,limit:=l }
structure Ox (s:sO):Prop where
 tl:s.tables.length≤8000
 jl:s.joins.length≤8000
 ons:∀j∈s.joins,j.on.length≤uX
 whr:s.whr.length≤uX
 having:s.having.length≤uX
 keys:s.keys.length≤8000
 ah:s.ah.length≤8000
 items:s.items.length≤8000
 args:∀g∈s.ah,g.arg.length≤uX
 exprs:∀e∈s.items,e.l.length≤uX
 agb:∀g∈s.ah,g.b=false
 exb:∀e∈s.items,e.b=false
theorem zC{n:cJ}(f:nE n)(j:n.bk=false)(l:n.bc=false)(m:n.by'=false)(o:n.bg=false)(p:n.bi=false)(q:n.bo=false)
  (k:n.ac.length≤8000) (c:n.cond.length≤uX) (h:n.keys.length≤8000) (b:n.ah.length≤8000) (i:∀g∈n.ah,g.arg.length≤uX) (it:n.items.length≤8000) (ex:∀e∈n.items,e.l.length≤uX) (r:n.ords.length≤8000):mQ n∧NS n:=by
 have a:8000≤uX:=by decide
 have d:uw n:=⟨bH k a,c,bH h a,bH b a,i,bH it a,ex,bH r a⟩;refine⟨⟨f,d,?_⟩,⟨d,h,b,it⟩⟩;unfold cJ.a tu;rw[j,l,m,o,p,q,f.ags,f.exs]
theorem HR(t:Int){ks:List Int}(h:ks.length≤8000):mQ (kj t ks)∧NS (kj t ks):=zC ⟨by simp[kj,dA],by simp[kj,dA]⟩ rfl rfl rfl rfl rfl rfl h (by simp[kj,dA]) (by simp[kj,dA]) (by simp[kj,dA]) (by simp[kj,dA]) (by simp[kj,dA]) (by simp[kj,dA]) (by simp[kj,dA])
theorem IM{j:JX}(h:j.on.length≤uX):mQ (kw j)∧NS (kw j):=zC ⟨by simp[kw,dA],by simp[kw,dA]⟩ rfl rfl rfl rfl rfl rfl (by simp[kw,dA]) h (by simp[kw,dA]) (by simp[kw,dA]) (by simp[kw,dA]) (by simp[kw,dA]) (by simp[kw,dA]) (by simp[kw,dA])
theorem CV{e:List EN}(h:e.length≤uX):mQ (rB e)∧NS (rB e):=zC ⟨by simp[rB,dA],by simp[rB,dA]⟩ rfl rfl rfl rfl rfl rfl (by simp[rB,dA]) h (by simp[rB,dA]) (by simp[rB,dA]) (by simp[rB,dA]) (by simp[rB,dA]) (by simp[rB,dA]) (by simp[rB,dA])
theorem MA{ks:List Int}{gs:List kU}(a:ks.length≤8000)(b:gs.length≤8000)(c:∀g∈gs,g.arg.length≤uX)(d:∀g∈gs,g.b=false):mQ (jn ks gs)∧NS (jn ks gs):=
 zC ⟨d,by simp[jn,dA]⟩ rfl rfl rfl rfl rfl rfl (by simp[jn,dA]) (by simp[jn,dA]) a b c (by simp[jn,dA]) (by simp[jn,dA]) (by simp[jn,dA])
theorem G7{es:List yV}(a:es.length≤8000)(b:∀e∈es,e.l.length≤uX)(c:∀e∈es,e.b=false):mQ (mK es)∧NS (mK es):=
 zC ⟨by simp[mK,dA],c⟩ rfl rfl rfl rfl rfl rfl (by simp[mK,dA]) (by simp[mK,dA]) (by simp[mK,dA]) (by simp[mK,dA]) (by simp[mK,dA]) a b (by simp[mK,dA])
theorem Aj:mQ vN∧NS vN:=zC ⟨by simp[vN,dA],by simp[vN,dA]⟩ rfl rfl rfl rfl rfl rfl (by simp[vN,dA]) (by simp[vN,dA]) (by simp[vN,dA]) (by simp[vN,dA]) (by simp[vN,dA]) (by simp[vN,dA]) (by simp[vN,dA]) (by simp[vN,dA])
theorem zN:mQ px∧NS px:=zC ⟨by simp[px,dA],by simp[px,dA]⟩ rfl rfl rfl rfl rfl rfl (by simp[px,dA]) (by simp[px,dA]) (by simp[px,dA]) (by simp[px,dA]) (by simp[px,dA]) (by simp[px,dA]) (by simp[px,dA]) (by simp[px,dA])
theorem Mq{o:List (Int×Bool)}(l:Int)(h:o.length≤8000):mQ (jx o l)∧NS (jx o l):=zC ⟨by simp[jx,dA],by simp[jx,dA]⟩ rfl rfl rfl rfl rfl rfl (by simp[jx,dA]) (by simp[jx,dA]) (by simp[jx,dA]) (by simp[jx,dA]) (by simp[jx,dA]) (by simp[jx,dA]) (by simp[jx,dA]) h
structure xT (c:List cK):Prop where
 chk:bB I.qbb [mC c]=some (ap 0)
 af:∀tb∈c,tb.af.length≤8000
def jF(c:List cK)(t:Int):Option (List cJ):=if 0≤t∧t<c.length then iA (kj t ((c[t.toNat]?.map cK.ac).getD [])) [] else none
theorem KZ{c:List cK}(h:∀tb∈c,tb.af.length≤8000)(t:Nat):((c[t]?.map cK.ac).getD []).length≤8000:=by
 cases hy:c[t]? with
 |none=>simp
 |some tb=>simpa [cK.ac] using h tb (aN hy)
theorem Ei{c:List cK}(h:∀tb∈c,tb.af.length≤8000)(t:Int):mY (jF c t):=by
 unfold jF;split
 ·have:=HR t (KZ h t.toNat);exact HP this.1 this.2 (by simp) (fun t h=>by simp at h)
 exact sq
def I8(c:List cK)(t:Int):Int:=if 0≤t∧t<c.length then (if (jF c t).isSome then 0 else 230) else 4
theorem Ot(c:List cK)(t:Int):(I8 c t != 0)=(jF c t).isNone:=by
 unfold I8 jF;split
 ·cases iA (kj t ((c[t.toNat]?.map cK.ac).getD [])) []<;>rfl
 rfl
abbrev bS(c:List cK)(s:sO)(tv:aq)(bad:Bool):aq:=No (.aa false (c.map cK.a)) (.aa false (s.tables.map (.int .i64))) (.aa false (s.joins.map JX.a)) (.aa false (s.whr.map EN.a)) (.aa false (s.having.map EN.a)) (aC s.grouped) (aC s.distinct) (.aa false (s.keys.map (.int .i64))) (.aa false (s.ah.map va)) (.aa false (s.items.map xE)) tv bad
theorem aaw(c:List cK)(e:xT c)(s:sO)(xs:List aq)(bad b:Bool)(t:Int):bB I.qeo [.cptr b (bS c s (.aa false xs) bad) 0,ap t]=some (fb [aH [Bt (jF c t)],ap (I8 c t)]):=by
 rw[aR akQ rfl];have a:=VE c e.chk e.af t true;have g:=HR t (KZ e.af t.toNat);unfold I8 jF;by_cases h:0≤t∧t<c.length
 ·have d:=ai5 _ g.1.fl g.1.fit;simp only[if_pos h]at a ⊢;unfold Lb at d;generalize ((c[t.toNat]?.map cK.ac).getD [])=ks at *;generalize iA (kj t ks) []=o at *;have f:(kj t ks).a=aH [ap 1,ap 0,ap 0,ap t,.aa false (cV ks),aC false,.aa false [],.aa false [],.aa false [],.aa false [],.aa false [],ap 0]:=rfl;rw[f]at d;simp only[Bt]at *;generalize (if o.isSome then (0:Int) else 230)=i at *;cases b<;>simp[asJ,ZF,a,d]
 simp only[if_neg h]at a ⊢;cases b<;>simp[asJ,ZF,a]
abbrev uW(c:List cK)(s:sO)(tv:aq)(bad:Bool):aw:=[aB 1 0 [mC c],aB 9 0 [s.a],aB 1 0 [aH [.ai]],aB 12 0 [bS c s tv bad]]
abbrev Cj(s:sO)(k:Nat):List aq:=[aI 3 0 0 0,.aa false (s.tables.map (.int .i64)),am,am,am,am,aC false,.aa false (s.joins.map JX.a),ap s.joins.length,ap k,am]
theorem NO(c:List cK)(y:xT c)(s:sO)(r:Ox s)(I:s.joins.length+1=s.tables.length)(w:List aq)(k:Nat)(j:JX)(t:Int)(o:Option (List cJ))(B:k<s.joins.length)(a:s.joins[k]?=some j)(l:s.tables[k+1]?=some t)(A:mY o) :
  dh 5 [2,3,4,5,10] vz (run code vz ⟨Cj s k,uW c s (Bt o) o.isNone++[aB 1 0 [aH [.aa false w]]]⟩) =
   bT code 5 [2,3,4,5,10] vz ⟨Cj s (k+1),uW c s (Bt (lf (kw j) o (jF c t))) (lf (kw j) o (jF c t)).isNone++[aB 1 0 [aH [.aa false w]]]⟩:=by
 have u:=aaw c y s ((o.getD []).map cJ.a) o.isNone true t;have e:=IM (r.ons j (aN a));have b:=Ia 3 (.aa false (c.map cK.a)) (.aa false (s.tables.map (.int .i64))) (.aa false (s.joins.map JX.a)) (.aa false (s.whr.map EN.a)) (.aa false (s.having.map EN.a)) (aC s.grouped) (aC s.distinct) (.aa false (s.keys.map (.int .i64))) (.aa false (s.ah.map va)) (.aa false (s.items.map xE))
  (aH [ap 2,ap 0,ap 0,ap 0,.ai,aC j.left,.aa false (j.on.map EN.a),.ai,.ai,.ai,.ai,ap 0]) (kw j) o (jF c t)
  (uW c s (Bt o) (o.isNone ||(jF c t).isNone)++[aB 1 0 [aH [.aa false w]],aB 2 0 [j.a],aB 1 0 [aH [Bt (jF c t)]]]) rfl
  (fun σ=>by
   have:(kw j).a=aH [ap 2,ap 0,ap 0,ap 0,.aa false [],aC j.left,.aa false (j.on.map EN.a),.aa false [],.aa false [],.aa false [],.aa false [],ap 0]:=rfl;rw[this];simp) ⟨rfl,rfl⟩ e.1 e.2 A (Ei y.af t)
 have v:=Ot c t;have z:k+1<s.tables.length:=by omega
 have n:((k:Int)+1)<(s.tables.length:Int):=by omega
 have q:∀h:k+1<s.tables.length,s.tables[k+1]'h=t:=fun h=>(ak.1 l).2;have p:∀h:k<s.joins.length,s.joins[k]'h=j:=fun h=>(ak.1 a).2;have F:IntKind.i64.wrap ((k:Int)+1)=(k:Int)+1:=pT (by have:=r.jl;omega) (by have:=r.jl;omega);have C:((k:Int)+1).toNat=k+1:=by omega
 have D:(0:Int)≤(k:Int)+1:=by omega
 have d:j.a=aH [aC j.left,.aa false (j.on.map EN.a)]:=rfl;have f:s.a=aH s.c:=rfl;have g:s.c.length=9:=rfl;have i:∀fl top base σ m,(s.c.map (fz fl top base σ (m+2)))=s.c:=fun fl top base σ m=>by simp[sO.c]
 simp only[uW,Bt,bY,bX,List.set]at *;rw[d,f]at b;rw[f];generalize lf (kw j) o (jF c t)=o' at *;generalize I8 c t=H at *;generalize (jF c t).isNone=G at *;generalize ((jF c t).getD []).map cJ.a=K at *;generalize (o.getD []).map cJ.a=J at *;generalize (o'.getD []).map cJ.a=E at *;generalize o.isNone=bad at *;generalize o'.isNone=x at *;generalize s.c=sc at *;cases bad<;>cases G<;>simp only[Bool.or_self,Bool.or_true,Bool.true_or,oE,jG]at b<;>simp[vz,Cj,B,a,p,d,z,n,l,q,C,D,F,u,v,b,g,i,bN,bA,cq,dF]
def pY(c:List cK)(s:sO):Option (List cJ):=
 if s.tables.length<1∨3<s.tables.length∨s.joins.length+1≠s.tables.length then none
 else (s.joins.zip s.tables.tail).foldl (fun o p=>lf (kw p.1) o (jF c p.2)) (jF c (s.tables.headD 0))
theorem P2(c:List cK)(l:xT c)(s:sO)(m:Ox s)(n:s.joins.length+1=s.tables.length)(e:List aq)(o:Option (List cJ))(f:mY o) :
  bT code 5 [2,3,4,5,10] vz ⟨Cj s 0,uW c s (Bt o) o.isNone++[aB 1 0 [aH [.aa false e]]]⟩ =
   some (.ext 0,⟨(Cj s s.joins.length).set 10 (aC false),uW c s (Bt ((s.joins.zip s.tables.tail).foldl (fun o p=>lf (kw p.1) o (jF c p.2)) o)) ((s.joins.zip s.tables.tail).foldl (fun o p=>lf (kw p.1) o (jF c p.2)) o).isNone++[aB 1 0 [aH [.aa false e]]]⟩) ∧
  mY ((s.joins.zip s.tables.tail).foldl (fun o p=>lf (kw p.1) o (jF c p.2)) o):=by
 have d:(s.joins.zip s.tables.tail).length=s.joins.length:=by simp;omega
 have key:=gL (base:=5) (clr:=[2,3,4,5,10]) (b:=vz) (s.joins.zip s.tables.tail) (fun k o=>⟨Cj s k,uW c s (Bt o) o.isNone++[aB 1 0 [aH [.aa false e]]]⟩) (fun _ o=>mY o)
  (fun o p=>lf (kw p.1) o (jF c p.2)) (fun o=>(.ext 0,⟨(Cj s s.joins.length).set 10 (aC false),uW c s (Bt o) o.isNone++[aB 1 0 [aH [.aa false e]]]⟩))
  (fun k p o r q f=>by
   obtain⟨j,t⟩:=p;have g:k<s.joins.length:=by omega
   obtain⟨h,i⟩:=eU.1 q;rw[List.getElem?_tail]at i;have a:=IM (m.ons j (aN h));exact⟨NO c l s m n e k j t o g h i f,KK a.1 a.2 f (Ei l.af t)⟩)
  (fun o _=>by
   rw[d];simp[Cj,uW,vz]) o f
 exact key
theorem Sb(c:List cK)(k:xT c)(s:sO)(v:Ox s) :
  mY (pY c s)∧∃w J,cD code I.qen [aI 3 0 0 0] (uW c s .ai false)=some (fb [],uW c s w (pY c s).isNone++J)∧((pY c s).isSome→w=Bt (pY c s)):=by
 have x:IntKind.i64.wrap ((s.tables.length:Int)-1)=(s.tables.length:Int)-1:=pT (by omega) (by have:=v.tl;omega);by_cases h:s.tables.length<1∨3<s.tables.length∨s.joins.length+1≠s.tables.length
 ·have q:pY c s=none:=by unfold pY;rw[if_pos h]
  rw[q];refine⟨sq,.ai,[],?_,fun h=>by cases h⟩;rw[cz aeH rfl];by_cases C:s.tables.length<1
  ·have a:(s.tables.length:Int)<1:=by omega
   simp[asb,Oo,a]
  have a:¬(s.tables.length:Int)<1:=by omega
  by_cases D:3<s.tables.length
  ·have b:(3:Int)<(s.tables.length:Int):=by omega
   simp[asb,Oo,a,b]
  have b:¬(3:Int)<(s.tables.length:Int):=by omega
  have j:((s.joins.length:Int) != (s.tables.length:Int)-1)=true:=by simp;omega
  simp[asb,Oo,a,b,j,x]
 have a:¬(s.tables.length:Int)<1:=by omega
 have b:¬(3:Int)<(s.tables.length:Int):=by omega
 have j:((s.joins.length:Int) != (s.tables.length:Int)-1)=false:=by simp;omega
 have q:pY c s=(s.joins.zip s.tables.tail).foldl (fun o p=>lf (kw p.1) o (jF c p.2)) (jF c (s.tables.headD 0)):=by unfold pY;rw[if_neg h]
 have z:=Ei k.af (s.tables.headD 0);obtain⟨loop,e⟩:=P2 c k s v (by omega) (((jF c (s.tables.headD 0)).getD []).map cJ.a) (jF c (s.tables.headD 0)) z;rw[←q]at loop e;refine⟨e,Bt (pY c s),[aB 1 0 [aH [Bt (jF c (s.tables.headD 0))]]],?_,fun _=>rfl⟩;have f:=aaw c k s [] false true (s.tables.headD 0);have r:=Ot c (s.tables.headD 0);have d:=BR 3 (.aa false (c.map cK.a)) (.aa false (s.tables.map (.int .i64))) (.aa false (s.joins.map JX.a)) (.aa false (s.whr.map EN.a)) (.aa false (s.having.map EN.a)) (aC s.grouped) (aC s.distinct) (.aa false (s.keys.map (.int .i64))) (.aa false (s.ah.map va)) (.aa false (s.items.map xE)) .ai
  (Bt (jF c (s.tables.headD 0))) false (I8 c (s.tables.headD 0)) (uW c s .ai false) rfl rfl
 rw[r]at d;obtain⟨t,i,g⟩:∃t i,s.tables=t::i:=by
  cases g:s.tables with
  |nil=>rw[g]at h;simp at h
  |cons t i=>exact⟨t,i,rfl⟩
 have n:s.tables.headD 0=t:=by rw[g];rfl
 have y:0<s.tables.length:=by omega
 have l:∀h:0<s.tables.length,s.tables[0]'h=t:=fun h=>by simp[g]
 have m:s.tables[0]?=some t:=by simp[g]
 simp only[n]at f d loop ⊢;simp only[uW,Bt,bY,bX,List.set,jG,Cj,aY]at *;rw[cz aeH rfl];generalize pY c s=o' at *;generalize I8 c t=B at *;generalize (jF c t).isNone=E at *;generalize ((jF c t).getD []).map cJ.a=F at *;generalize (o'.getD []).map cJ.a=A at *;generalize o'.isNone=u at *;simp[asb,Oo,a,b,j,x,y,l,m,f,d,loop]
theorem Ee(id:Nat)(cv b c d e f g i j k N:aq)(n:cJ)(o:Option (List cJ))(σ:aw)(h:σ[id]?=some (aB 12 0 [No cv b c d e f g i j k (Bt o) o.isNone]))
  (r:∀σ,fz true false 0 σ 20 N=n.a) (l:aM N=12∧isAgg N=true) (u:mQ n) (t:NS n) (s:mY o) :
  cD code I.qeq [aI id 0 0 0,aC true,N] σ=some (fb [],(σ.set id (aB 12 0 [No cv b c d e f g i j k (Bt (ed n o)) (ed n o).isNone]))++[aB 12 0 [N],aB 12 0 [N],aB 1 0 [aH [Bt (ed n o)]]]):=by
 rw[cz afz rfl];have m:=(ak.1 h).1;have p:∀X,(σ++[X])[id]?=some (aB 12 0 [No cv b c d e f g i j k (Bt o) o.isNone]):=fun X=>by rw[aQ m,h]
 have q:∀X Y,(σ++[X]).set id Y=σ.set id Y++[X]:=fun X Y=>by rw[cG _ _ m]
 have a:=DG id cv b c d e f g i j k N n o (σ++[aB 12 0 [N]]) (p _) r l u t s;rw[q]at a;generalize ed n o=o' at *;simp[asC,XL,l,a]
theorem A5(p N:aq)(a:aM N=12∧isAgg N=true)(σ:aw):cD code I.qeq [p,aC false,N] σ=some (fb [],σ++[aB 12 0 [N]]):=by
 rw[cz afz rfl];simp[asC,XL,a]
def zp(s:sO)(o:Option (List cJ)):Option (List cJ):=if s.whr=[] then o else ed (rB s.whr) o
theorem aaK{s:sO}(b:Ox s){o:Option (List cJ)}(a:mY o):mY (zp s o):=by
 unfold zp;split
 ·exact a
 have:=CV b.whr;exact mM this.1 this.2 a
abbrev FW(e:List EN):aq:=aH [ap 3,ap 0,ap 0,ap 0,.ai,aC false,.aa false (e.map EN.a),.ai,.ai,.ai,.ai,ap 0]
theorem Vo(e:List EN)(σ:aw):fz true false 0 σ 20 (FW e)=(rB e).a:=by
 have:(rB e).a=aH [ap 3,ap 0,ap 0,ap 0,.aa false [],aC false,.aa false (e.map EN.a),.aa false [],.aa false [],.aa false [],.aa false [],ap 0]:=rfl;rw[this];simp
theorem Nf(c:List cK)(s:sO)(g:Ox s)(o:Option (List cJ))(f:mY o) :
  ∃J,cD code I.qej [aI 3 0 0 0] (uW c s (Bt o) o.isNone)=some (fb [],uW c s (Bt (zp s o)) (zp s o).isNone++J):=by
 rw[cz als rfl];unfold zp;by_cases h:s.whr=[]
 ·have d:¬(0:Int)<(s.whr.length:Int):=by rw[h];simp
  rw[if_pos h];exact⟨_,by simp[asQ,ZH,h,A5];rfl⟩
 have a:0<s.whr.length:=eZ.2 h;have d:(0:Int)<(s.whr.length:Int):=by have:=eZ.2 h;omega
 rw[if_neg h];have e:=CV g.whr;have i:=Ee 3 (.aa false (c.map cK.a)) (.aa false (s.tables.map (.int .i64))) (.aa false (s.joins.map JX.a)) (.aa false (s.whr.map EN.a)) (.aa false (s.having.map EN.a)) (aC s.grouped) (aC s.distinct) (.aa false (s.keys.map (.int .i64))) (.aa false (s.ah.map va)) (.aa false (s.items.map xE))
  (FW s.whr) (rB s.whr) o (uW c s (Bt o) o.isNone) rfl (Vo s.whr) ⟨rfl,rfl⟩ e.1 e.2 f
 refine⟨[aB 12 0 [FW s.whr],aB 12 0 [FW s.whr],aB 1 0 [aH [Bt (ed (rB s.whr) o)]]],?_⟩;simp only[uW,Bt,bY,bX,List.set]at *;generalize ed (rB s.whr) o=o' at *;generalize (o.getD []).map cJ.a=k at *;generalize (o'.getD []).map cJ.a=j at *;generalize o.isNone=bad at *;generalize o'.isNone=b at *;simp[asQ,ZH,d,a,i]
def A4(s:sO)(o:Option (List cJ)):Option (List cJ):=if s.distinct then ed vN (ed (mK s.items) o) else ed (mK s.items) o
theorem Yv{s:sO}(b:Ox s){o:Option (List cJ)}(c:mY o):mY (A4 s o):=by
 have a:=G7 b.items b.exprs b.exb;unfold A4;split
 ·exact mM Aj.1 Aj.2 (mM a.1 a.2 c)
 exact mM a.1 a.2 c
abbrev aim:aq:=aH [ap 6,ap 0,ap 0,ap 0,.ai,aC false,.ai,.ai,.ai,.ai,.ai,ap 0]
theorem aeA(σ:aw):fz true false 0 σ 20 aim=vN.a:=by
 have:vN.a=aH [ap 6,ap 0,ap 0,ap 0,.aa false [],aC false,.aa false [],.aa false [],.aa false [],.aa false [],.aa false [],ap 0]:=rfl;rw[this];simp
abbrev X4(es:List yV):aq:=aH [ap 5,ap 0,ap 0,ap 0,.ai,aC false,.ai,.ai,.ai,.aa false (es.map xE),.ai,ap 0]
theorem aaL(es:List yV)(h:∀e∈es,e.b=false)(σ:aw):fz true false 0 σ 20 (X4 es)=(mK es).a:=by
 have a:es.map yV.a=es.map xE:=aU fun e a=>by simp[yV.a,xE,h e a]
 have:(mK es).a=aH [ap 5,ap 0,ap 0,ap 0,.aa false [],aC false,.aa false [],.aa false [],.aa false [],.aa false (es.map yV.a),.aa false [],ap 0]:=rfl;rw[this,a];simp
theorem Jz(c:List cK)(s:sO)(e:Ox s)(o:Option (List cJ))(l:mY o) :
  ∃J,cD code I.qem [aI 3 0 0 0] (uW c s (Bt o) o.isNone)=some (fb [],uW c s (Bt (A4 s o)) (A4 s o).isNone++J):=by
 rw[cz aln rfl];have d:=G7 e.items e.exprs e.exb;have f:=mM d.1 d.2 l;have a:=DG 3 (.aa false (c.map cK.a)) (.aa false (s.tables.map (.int .i64))) (.aa false (s.joins.map JX.a)) (.aa false (s.whr.map EN.a)) (.aa false (s.having.map EN.a)) (aC s.grouped) (aC s.distinct) (.aa false (s.keys.map (.int .i64))) (.aa false (s.ah.map va)) (.aa false (s.items.map xE))
   (X4 s.items) (mK s.items) o (uW c s (Bt o) o.isNone) rfl (aaL s.items e.exb) ⟨rfl,rfl⟩ d.1 d.2 l
 have b:=Ee 3 (.aa false (c.map cK.a)) (.aa false (s.tables.map (.int .i64))) (.aa false (s.joins.map JX.a)) (.aa false (s.whr.map EN.a)) (.aa false (s.having.map EN.a)) (aC s.grouped) (aC s.distinct) (.aa false (s.keys.map (.int .i64))) (.aa false (s.ah.map va)) (.aa false (s.items.map xE))
   aim vN (ed (mK s.items) o) (uW c s (Bt (ed (mK s.items) o)) (ed (mK s.items) o).isNone++[aB 12 0 [X4 s.items],aB 1 0 [aH [Bt (ed (mK s.items) o)]]]) rfl aeA ⟨rfl,rfl⟩ Aj.1 Aj.2 f
 have i:=fun σ=>A5 (aI 3 0 0 0) aim ⟨rfl,rfl⟩ σ;unfold A4;simp only[uW,bS,Bt,bY,bX,List.set]at *;generalize ed vN (ed (mK s.items) o)=n at *;generalize ed (mK s.items) o=m at *;generalize (o.getD []).map cJ.a=r at *;generalize g:(m.getD []).map cJ.a=p at *;generalize o.isNone=bad at *;generalize h:m.isNone=j at *;cases hd:s.distinct with
 |true=>
  rw[hd]at a b;simp only[cw];generalize (n.getD []).map cJ.a=q at *;generalize n.isNone=k at *;exact⟨_,by simp[asS,Yc,a,b];rfl⟩
 |false=>
  rw[hd]at a;simp only[bq,cH];rw[g,h];exact⟨_,by simp[asS,Yc,a,i];rfl⟩
def jN(s:sO):List kU:=if s.keys.length+s.ah.length=0 then [⟨1,false,[]⟩] else s.ah
def rS(s:sO)(o:Option (List cJ)):Option (List cJ):=
 if s.grouped then (if s.having=[] then ed (jn s.keys (jN s)) o else ed (rB s.having) (ed (jn s.keys (jN s)) o))
 else if 0<s.keys.length+s.ah.length∨s.having≠[] then none else o
theorem aap{s:sO}(a:Ox s):mQ (jn s.keys (jN s))∧NS (jn s.keys (jN s)):=by
 unfold jN;split
 ·exact MA a.keys (by simp) (fun g b=>by rw[aP.1 b];simp) (fun g b=>by rw[aP.1 b])
 exact MA a.keys a.ah a.args a.agb
theorem aaj{s:sO}(d:Ox s){o:Option (List cJ)}(b:mY o):mY (rS s o):=by
 have a:=aap d;have c:=CV d.having;unfold rS
 repeat' split
 ·exact mM a.1 a.2 b
 ·exact mM c.1 c.2 (mM a.1 a.2 b)
 ·exact sq
 exact b
abbrev K6(ks:List Int)(gs:List kU):aq:=aH [ap 4,ap 0,ap 0,ap 0,.ai,aC false,.ai,.aa false (ks.map (.int .i64)),.aa false (gs.map va),.ai,.ai,ap 0]
theorem aep(ks:List Int)(gs:List kU)(h:∀g∈gs,g.b=false)(σ:aw):fz true false 0 σ 20 (K6 ks gs)=(jn ks gs).a:=by
 have a:gs.map kU.a=gs.map va:=aU fun e a=>by simp[kU.a,va,h e a]
 have:(jn ks gs).a=aH [ap 4,ap 0,ap 0,ap 0,.aa false [],aC false,.aa false [],.aa false (ks.map (.int .i64)),.aa false (gs.map kU.a),.aa false [],.aa false [],ap 0]:=rfl;rw[this,a];simp
abbrev Mx(ks:List Int):aq:=aH [ap 4,ap 0,ap 0,ap 0,.ai,aC false,.ai,.aa false (ks.map (.int .i64)),.lst [aH [ap 1,.ai]],.ai,.ai,ap 0]
def AE(ks:List Int):cJ:={ jn ks [⟨1,false,[]⟩] with bg:=true }
theorem ad3(ks:List Int)(σ:aw):fz true false 0 σ 20 (Mx ks)=(AE ks).a:=by
 have:(AE ks).a=aH [ap 4,ap 0,ap 0,ap 0,.aa false [],aC false,.aa false [],.aa false (ks.map (.int .i64)),.aa true [aH [ap 1,.aa false []]],.aa false [],.aa false [],ap 0]:=rfl;rw[this];simp
theorem W5(ks:List Int)(a:List yg):iA (AE ks) a=iA (jn ks [⟨1,false,[]⟩]) a:=rfl
theorem ade{ks:List Int}(h:ks.length≤8000):nE (AE ks)∧uw (AE ks):=by
 have c:8000≤uX:=by decide
 exact⟨⟨fun g a=>by simp[AE,jn]at a;simp[a],fun e b=>by simp[AE,jn,dA]at b⟩,⟨by simp[AE,jn,dA],by simp[AE,jn,dA],by simp[AE,jn,dA];omega,by simp[AE,jn,dA];omega,fun g a=>by simp[AE,jn]at a;simp[a],by simp[AE,jn,dA],by simp[AE,jn,dA],by simp[AE,jn,dA]⟩⟩
theorem OV(c:List cK)(s:sO)(v:Ox s)(t:List cJ)(H:mY (some t)) :
  ∃m J,cD code I.qek [aI 3 0 0 0] (uW c s (Bt (some t)) false)=some (fb [],uW c s m (rS s (some t)).isNone++J)∧((rS s (some t)).isSome→m=Bt (rS s (some t))):=by
 rw[cz akj rfl];have f:s.a=aH s.c:=rfl;have g:s.c=[.aa false (s.tables.map (.int .i64)),.aa false (s.joins.map JX.a),.aa false (s.whr.map EN.a),.aa false (s.having.map EN.a),aC s.grouped,aC s.distinct,.aa false (s.keys.map (.int .i64)),.aa false (s.ah.map va),.aa false (s.items.map xE)]:=rfl;have R:=v.keys;have Q:=v.ah;have u:IntKind.i64.wrap ((s.keys.length:Int)+(s.ah.length:Int))=(s.keys.length:Int)+(s.ah.length:Int):=pT (by omega) (by omega);by_cases j:s.grouped=true
 ·have A:=aap v;have y:=CV v.having;have D:=mM A.1 A.2 H;refine⟨Bt (rS s (some t)),?_⟩;unfold rS;rw[if_pos j];have k:∀(N:aq) (w:cJ) (τ:aw) (G:∀σ,fz true false 0 σ 20 N=w.a) (L:aM N=12∧isAgg N=true) (y:nE w) (O:uw w) (M:∀B,iA w B=iA (jn s.keys (jN s)) B),cD code I.qel [aI 3 0 0 0,N,.ai] (uW c s (Bt (some t)) false++τ)=some (fb [],uW c s (Bt (ed (jn s.keys (jN s)) (some t))) (ed (jn s.keys (jN s)) (some t)).isNone++(τ++[aB 12 0 [N],aB 1 0 [aH [Bt (ed (jn s.keys (jN s)) (some t))]]])):=fun N w τ G L y O M=>by
   have:=ID 3 (.aa false (c.map cK.a)) (.aa false (s.tables.map (.int .i64))) (.aa false (s.joins.map JX.a)) (.aa false (s.whr.map EN.a)) (.aa false (s.having.map EN.a)) (aC s.grouped) (aC s.distinct) (.aa false (s.keys.map (.int .i64))) (.aa false (s.ah.map va)) (.aa false (s.items.map xE))
    N (jn s.keys (jN s)) w (some t) (uW c s (Bt (some t)) false++τ) rfl G L y O M H
   rw[this];simp[uW]
  have i:=fun τ=>Ee 3 (.aa false (c.map cK.a)) (.aa false (s.tables.map (.int .i64))) (.aa false (s.joins.map JX.a)) (.aa false (s.whr.map EN.a)) (.aa false (s.having.map EN.a)) (aC s.grouped) (aC s.distinct) (.aa false (s.keys.map (.int .i64))) (.aa false (s.ah.map va)) (.aa false (s.items.map xE))
   (FW s.having) (rB s.having) (ed (jn s.keys (jN s)) (some t)) (uW c s (Bt (ed (jn s.keys (jN s)) (some t))) (ed (jn s.keys (jN s)) (some t)).isNone++τ) rfl (Vo s.having) ⟨rfl,rfl⟩ y.1 y.2 D
  have z:=fun σ=>A5 (aI 3 0 0 0) (FW s.having) ⟨rfl,rfl⟩ σ;have l:(s.having=[]∧decide (0<s.having.length)=false)∨(s.having≠[]∧decide (0<s.having.length)=true):=by
   cases s.having<;>simp
  by_cases p:s.keys.length+s.ah.length=0
  ·have K:=ade v.keys;have b:=k (Mx s.keys) (AE s.keys) [aB 9 0 [s.a],aB 12 0 [Mx s.keys]] (ad3 s.keys) ⟨rfl,rfl⟩ K.1 K.2
    (fun B=>by unfold jN;rw[if_pos p];exact W5 s.keys B)
   have a:¬(0:Int)<(s.keys.length:Int)+(s.ah.length:Int):=by omega
   have b:=b;clear k;have x:cellsOf (.lst [aH [ap 1,.ai]])=[.lst [aH [ap 1,.ai]]]:=rfl;rcases l with⟨n,o⟩|⟨n,o⟩
   ·rw[if_pos n];generalize ed (jn s.keys (jN s)) (some t)=d at *;refine⟨[aB 9 0 [s.a],aB 12 0 [Mx s.keys],aB 12 0 [Mx s.keys],aB 1 0 [aH [Bt d]],aB 12 0 [FW s.having]],?_,fun _=>rfl⟩;simp only[uW,bS,Bt,bY,bX,List.set]at *;generalize (d.getD []).map cJ.a=r at *;generalize ((some t).getD []).map cJ.a=m at *;generalize d.isNone=C at *;rw[f,g]at *;simp only[j]at *;simp[arS,Fk,u,a,o,b,x,z]
   rw[if_neg n];have i:=i [aB 9 0 [s.a],aB 12 0 [Mx s.keys],aB 12 0 [Mx s.keys],aB 1 0 [aH [Bt (ed (jn s.keys (jN s)) (some t))]]];generalize ed (rB s.having) (ed (jn s.keys (jN s)) (some t))=q at *;generalize ed (jn s.keys (jN s)) (some t)=d at *;refine⟨[aB 9 0 [s.a],aB 12 0 [Mx s.keys],aB 12 0 [Mx s.keys],aB 1 0 [aH [Bt d]],aB 12 0 [FW s.having],aB 12 0 [FW s.having],aB 1 0 [aH [Bt q]]],?_,fun _=>rfl⟩;simp only[uW,bS,Bt,bY,bX,List.set]at *;generalize (d.getD []).map cJ.a=r at *;generalize (q.getD []).map cJ.a=F at *;generalize ((some t).getD []).map cJ.a=m at *;generalize d.isNone=C at *;generalize q.isNone=P at *;rw[f,g]at *;simp only[j]at *;simp[arS,Fk,u,a,o,b,x,i]
  have a:(0:Int)<(s.keys.length:Int)+(s.ah.length:Int):=by omega
  have b:=k (K6 s.keys s.ah) (jn s.keys (jN s)) [aB 9 0 [s.a],aB 12 0 [K6 s.keys s.ah]] (by
   unfold jN;rw[if_neg p];exact aep s.keys s.ah v.agb) ⟨rfl,rfl⟩ A.1.fl A.1.fit (fun _=>rfl)
  clear k;rcases l with⟨n,o⟩|⟨n,o⟩
  ·rw[if_pos n];generalize ed (jn s.keys (jN s)) (some t)=d at *;refine⟨[aB 9 0 [s.a],aB 12 0 [K6 s.keys s.ah],aB 12 0 [K6 s.keys s.ah],aB 1 0 [aH [Bt d]],aB 12 0 [FW s.having]],?_,fun _=>rfl⟩;simp only[uW,bS,Bt,bY,bX,List.set]at *;generalize (d.getD []).map cJ.a=r at *;generalize ((some t).getD []).map cJ.a=m at *;generalize d.isNone=C at *;rw[f,g]at *;simp only[j]at *;simp[arS,Fk,u,a,o,b,z]
  rw[if_neg n];have i:=i [aB 9 0 [s.a],aB 12 0 [K6 s.keys s.ah],aB 12 0 [K6 s.keys s.ah],aB 1 0 [aH [Bt (ed (jn s.keys (jN s)) (some t))]]];generalize ed (rB s.having) (ed (jn s.keys (jN s)) (some t))=q at *;generalize ed (jn s.keys (jN s)) (some t)=d at *;refine⟨[aB 9 0 [s.a],aB 12 0 [K6 s.keys s.ah],aB 12 0 [K6 s.keys s.ah],aB 1 0 [aH [Bt d]],aB 12 0 [FW s.having],aB 12 0 [FW s.having],aB 1 0 [aH [Bt q]]],?_,fun _=>rfl⟩;simp only[uW,bS,Bt,bY,bX,List.set]at *;generalize (d.getD []).map cJ.a=r at *;generalize (q.getD []).map cJ.a=F at *;generalize ((some t).getD []).map cJ.a=m at *;generalize d.isNone=C at *;generalize q.isNone=P at *;rw[f,g]at *;simp only[j]at *;simp[arS,Fk,u,a,o,b,i]
 have j:s.grouped=false:=by simpa using j
 unfold rS;rw[if_neg (by rw[j];simp)];by_cases p:0<s.keys.length+s.ah.length∨s.having≠[]
 ·rw[if_pos p];refine⟨Bt (some t),[aB 9 0 [s.a]],?_,fun h=>by cases h⟩;simp only[uW,bS,Bt,bY,bX,List.set]at *;generalize ((some t).getD []).map cJ.a=m at *;rw[f,g]at *;simp only[j]at *;by_cases E:0<s.keys.length+s.ah.length
  ·have a:(0:Int)<(s.keys.length:Int)+(s.ah.length:Int):=by omega
   simp[arS,Fk,u,a]
  have a:¬(0:Int)<(s.keys.length:Int)+(s.ah.length:Int):=by omega
  have l:decide (0<s.having.length)=true:=by
   have:=p.resolve_left E;simpa using eZ.2 this
  simp[arS,Fk,u,a,l]
 rw[if_neg p];refine⟨Bt (some t),[aB 9 0 [s.a]],?_,fun _=>rfl⟩;have a:¬(0:Int)<(s.keys.length:Int)+(s.ah.length:Int):=by omega
 have l:s.having=[]:=fP fun e=>p (.inr e);have l:decide (0<s.having.length)=false:=by rw[l];rfl
 simp only[uW,bS,Bt,bY,bX,List.set]at *;generalize ((some t).getD []).map cJ.a=m at *;rw[f,g]at *;simp only[j]at *;simp[arS,Fk,u,a,l]
def nD(c:List cK)(s:sO):Option (List cJ):=A4 s (rS s (zp s (pY c s)))
abbrev xY(c:List cK)(s:sO)(k:Nat):List aq:=[mC c,s.a,aI 0 0 0 0,aI 1 0 0 0,aI 2 0 0 0,am,aI 3 0 0 0,am,aH [.fn I.qen [aI 3 0 0 0] [],.fn I.qej [aI 3 0 0 0] [],.fn I.qek [aI 3 0 0 0] [],.fn I.qem [aI 3 0 0 0] []],ap k,am,am]
theorem zO(c:List cK)(s:sO)(k f:Nat)(j:(k=0∧f=I.qen)∨(k=1∧f=I.qej)∨(k=2∧f=I.qek)∨(k=3∧f=I.qem))(i d:aq)(b:Bool)(J:aw)
  (a:cD code f [aI 3 0 0 0] (uW c s i false)=some (fb [],uW c s d b++J)) :
  (b=true→∃q,bT code 4 [5,7,10,11] tf ⟨xY c s k,uW c s i false⟩=some (.ret,q)∧q.st[2]?=some (aB 1 0 [aH [.ai]])∧q.env[4]?=some (aI 2 0 0 0)∧q.env[5]?=some (ap 240)) ∧
  (b=false→(∀base σ m,fz false true base σ (m+3) d=d)→bT code 4 [5,7,10,11] tf ⟨xY c s k,uW c s i false⟩=bT code 4 [5,7,10,11] tf ⟨xY c s (k+1),uW c s d false⟩):=by
 have e:s.a=aH s.c:=rfl;have g:s.c=[.aa false (s.tables.map (.int .i64)),.aa false (s.joins.map JX.a),.aa false (s.whr.map EN.a),.aa false (s.having.map EN.a),aC s.grouped,aC s.distinct,.aa false (s.keys.map (.int .i64)),.aa false (s.ah.map va),.aa false (s.items.map xE)]:=rfl;have n:IntKind.i64.wrap 1=1:=rfl;have o:IntKind.i64.wrap 2=2:=rfl;have p:IntKind.i64.wrap 3=3:=rfl;have r:IntKind.i64.wrap 4=4:=rfl;simp only[uW,bS,bY,bX,e,g,xY]at a ⊢;rcases j with⟨rfl,rfl⟩|⟨rfl,rfl⟩|⟨rfl,rfl⟩|⟨rfl,rfl⟩
 all_goals
  constructor
  ·intro h;subst h;rw[ry good];exact⟨_,by simp[tf,xY,a,sK];rfl,rfl,rfl,rfl⟩
  intro h l;subst h;rw[ry good];cases J<;>simp[tf,xY,a,n,o,p,r,l,bN,bA,cq,dF,e,g]
theorem VR(s:sO):zp s none=none:=by unfold zp;split<;>rfl
theorem Kf(s:sO):rS s none=none:=by unfold rS;simp[ed]
theorem Ec(s:sO):A4 s none=none:=by unfold A4;split<;>rfl
theorem T4(o:Option (List cJ)):∀base σ m,fz false true base σ (m+3) (Bt o)=Bt o:=fun base σ m=>by simp
abbrev QSl(q:St):Prop:=q.st[2]?=some (aB 1 0 [aH [.ai]])∧q.env[4]?=some (aI 2 0 0 0)∧q.env[5]?=some (ap 240)
theorem LN(c:List cK)(G:xT c)(s:sO)(f:Ox s):mY (nD c s)∧match nD c s with
  |none=>∃q,bT code 4 [5,7,10,11] tf ⟨xY c s 0,uW c s .ai false⟩=some (.ret,q)∧QSl q
  |some w=>bT code 4 [5,7,10,11] tf ⟨xY c s 0,uW c s .ai false⟩=some (.ext 0,⟨(xY c s 4).set 10 (.bool false),uW c s (Bt (some w)) false⟩):=by
 unfold nD;obtain⟨a,x,C,p,o⟩:=Sb c G s f;obtain⟨j,g⟩:=zO c s 0 _ (.inl ⟨rfl,rfl⟩) .ai x _ C p;revert a p o j g;cases pY c s with
 |none=>
  intro _ _ _ j _;rw[VR,Kf,Ec];exact⟨sq,j rfl⟩
 |some t=>
  intro a p o j g;obtain rfl:=o rfl;have g:=g rfl (T4 _);rw[g];have b:=aaK f a;obtain⟨D,z⟩:=Nf c s f (some t) a;obtain⟨k,h⟩:=zO c s 1 _ (.inr (.inl ⟨rfl,rfl⟩)) (Bt (some t)) _ _ D z;clear j g p o z;revert b k h;cases zp s (some t) with
  |none=>
   intro _ k _;rw[Kf,Ec];exact⟨sq,k rfl⟩
  |some u=>
   intro b k h;have h:=h rfl (T4 _);rw[h];have d:=aaj f b;obtain⟨y,E,A,r⟩:=OV c s f u b;obtain⟨l,i⟩:=zO c s 2 _ (.inr (.inr (.inl ⟨rfl,rfl⟩))) (Bt (some u)) y _ E A;clear k h A;revert d l i r;cases rS s (some u) with
   |none=>
    intro _ _ l _;rw[Ec];exact⟨sq,l rfl⟩
   |some v=>
    intro d r l i;obtain rfl:=r rfl;have i:=i rfl (T4 _);rw[i];have e:=Yv f d;obtain⟨F,B⟩:=Jz c s f (some v) d;obtain⟨n,m⟩:=zO c s 3 _ (.inr (.inr (.inr ⟨rfl,rfl⟩))) (Bt (some v)) _ _ F B;clear l i B;revert e n m;cases A4 s (some v) with
    |none=>
     intro _ n _;exact⟨sq,n rfl⟩
    |some H=>
     intro e n m;have m:=m rfl (T4 _);rw[m];refine⟨e,?_⟩;rw[ry good];simp[tf,xY,sK]
theorem D6(c:List cK)(e:xT c)(s:sO)(f:Ox s):bB I.qer [mC c,s.a]=some (Lb 240 (nD c s))∧mY (nD c s):=by
 obtain⟨d,h⟩:=LN c e s f;refine⟨?_,d⟩;have a:s.a=aH s.c:=rfl;have b:s.c=[.aa false (s.tables.map (.int .i64)),.aa false (s.joins.map JX.a),.aa false (s.whr.map EN.a),.aa false (s.having.map EN.a),aC s.grouped,aC s.distinct,.aa false (s.keys.map (.int .i64)),.aa false (s.ah.map va),.aa false (s.items.map xE)]:=rfl;rw[aR anF rfl];unfold Lb;revert h;cases nD c s with
 |none=>
  rintro⟨q,h,g,i,j⟩;simp only[xY,uW,bS,a,b,aY]at h ⊢;simp[asO,abU,h,g,i,j]
 |some w=>
  intro h;simp only[xY,uW,bS,a,b,aY,List.set]at h ⊢;simp[asO,abU,h]
theorem abL(c:List cK)(d:xT c)(s:sO)(f:Ox s):bB I.qei [mC c,s.a]=some (Lb 240 (nD c s)):=by
 have h:=(D6 c d s f).1;have e:=d.chk;unfold Lb at *;generalize nD c s=o at *;have a:s.a=aH s.c:=rfl;have b:s.c=[.aa false (s.tables.map (.int .i64)),.aa false (s.joins.map JX.a),.aa false (s.whr.map EN.a),.aa false (s.having.map EN.a),aC s.grouped,aC s.distinct,.aa false (s.keys.map (.int .i64)),.aa false (s.ah.map va),.aa false (s.items.map xE)]:=rfl;rw[aR anM rfl];simp only[a,b]at h ⊢;generalize (o.getD []).map cJ.a=i at *;generalize (if o.isSome then (0:Int) else 240)=g at *;simp[atU,afD,h,e]
theorem TM:∀(a b:List Int),a.length=b.length→(a.zip b).any (fun p=>p.1 != p.2)=!decide (a=b)
 |[],[],_=>rfl
 |[],_::_,h=>by simp at h
 |_::_,[],h=>by simp at h
 |x::a,y::b,h=>by
  rw[fS,iF,TM a b (by simpa using h)];by_cases e:x=y
  ·subst e;simp
  simp[e]
theorem BK(m n:Bool)(a c:List Int)(C:a.length≤8000):bB I.qgt [.aa m (cV a),.aa n (cV c)]=some (aC (decide (a=c))):=by
 rw[aR alC rfl];have w:a.length≤bD:=by unfold bD;omega
 by_cases d:a.length=c.length
 rotate_left
 ·have l:((a.length:Int) != (c.length:Int))=true:=by simp;omega
  have i:decide (a=c)=false:=by simp;intro e;exact d (by rw[e])
  rw[i];simp[asw,Uj,l]
 have A:(a.zip c).length=a.length:=by simp;omega
 have loop:=om (base:=0) (clr:=[2,3,7,8]) (b:=C0) (a.zip c) (fun k=>⟨[.aa m (cV a),.aa n (cV c),am,am,aC false,ap a.length,ap k,am,am],[]⟩) (fun p=>p.1 != p.2)
  (.ext 0,⟨[.aa m (cV a),.aa n (cV c),am,am,aC false,ap a.length,ap a.length,aC false,am],[]⟩) (fun o=>∃q,o=(.ret,q)∧q.env[2]?=some (aC false))
  (fun k p v u j=>by
   obtain⟨x,y⟩:=p;obtain⟨f,g⟩:=eU.1 u;have k1:k<a.length:=by omega
   have k2:k<c.length:=by omega
   have r:∀h:k<a.length,a[k]'h=x:=fun h=>(ak.1 f).2;have s:∀h:k<c.length,c[k]'h=y:=fun h=>(ak.1 g).2;have B:=cU k1 w;simp only at j;simp[C0,k1,k2,f,g,r,s,B,j,bN])
  (fun k p v u j=>by
   obtain⟨x,y⟩:=p;obtain⟨f,g⟩:=eU.1 u;have k1:k<a.length:=by omega
   have k2:k<c.length:=by omega
   have r:∀h:k<a.length,a[k]'h=x:=fun h=>(ak.1 f).2;have s:∀h:k<c.length,c[k]'h=y:=fun h=>(ak.1 g).2;simp only at j;exact⟨_,by simp[C0,k1,k2,f,g,r,s,j];rfl,_,rfl,rfl⟩)
  (by rw[A];simp[C0])
 have l:((a.length:Int) != (c.length:Int))=false:=by simp;omega
 rw[TM a c d]at loop;rcases loop with⟨t,loop⟩|⟨t,o,loop,q,rfl,z⟩
 ·have i:decide (a=c)=true:=by simpa using t
  rw[i];simp only[aY]at loop;simp[asw,Uj,l,loop]
 have i:decide (a=c)=false:=by simpa using t
 rw[i];simp only[aY]at loop;simp[asw,Uj,l,loop,z]
end Go.AM
namespace Go.AM
open P
set_option maxHeartbeats 64000000
set_option maxRecDepth 40000
theorem o9:aeT=.seq ja iN:=rfl
end Go.AM
namespace Go.AM
open P
set_option maxHeartbeats 64000000
set_option maxRecDepth 40000
attribute [local simp] aG bj
structure Dj where
 selects:List sO
 names:List (List UInt8)
 ac:List Int
 order:List (Int×Bool)
 limit:Int
def Dj.c(b:Dj):List aq:=[.aa false (b.selects.map sO.a),.aa false (b.names.map aO),.aa false (b.ac.map (.int .i64)),.aa false (b.order.map gT),ap b.limit]
def Dj.a(b:Dj):aq:=aH b.c
instance:Nc (fun s=>aq.str s) 1 false:=⟨fun _=>rfl,fun _=>rfl⟩
instance:Nc aq.str 1 false:=⟨fun _=>rfl,fun _=>rfl⟩
instance:Fx aq.str:=⟨fun _ _ _ _ _ _=>rfl⟩
instance:Nc Dj.a 5 true:=⟨fun _=>rfl,fun _=>rfl⟩
instance:Fx Dj.a:=⟨fun fl top base σ n y=>by simp[Dj.a,Dj.c]⟩
structure adH (b:Dj):Prop where
 sel:∀s∈b.selects,Ox s
 sl:b.selects.length≤8000
 nl:b.names.length≤8000
 kl:b.ac.length≤8000
 ol:b.order.length≤8000
def sV(c:List cK)(k:Nat)(s:sO)(o:Option (List cJ)):Option (List cJ)⊕Unit:=
 match nD c s with
 |none=>.inr ()
 |some x=>.inl (if k=0 then some x else lf px o (some x))
abbrev bL(c:List cK)(tv:aq)(bad:Bool):aq:=No (.aa false (c.map cK.a)) .ai .ai .ai .ai (aC false) (aC false) .ai .ai .ai tv bad
abbrev sQ(c:List cK)(b:Dj)(tv:aq)(bad:Bool):aw:=[aB 1 0 [mC c],aB 5 0 [b.a],aB 1 0 [aH [.ai]],aB 12 0 [bL c tv bad],aB 1 0 [aI 3 0 0 0]]
abbrev sd(c:List cK)(b:Dj)(k:Nat):List aq:=[mC c,b.a,aI 0 0 0 0,aI 1 0 0 0,aI 2 0 0 0,am,ap 0,aI 4 0 0 0,.fn I.qeg [] [aI 4 0 0 0],am,am,am,am,am,am,aC false,aC false,.aa false (b.selects.map sO.a),ap b.selects.length,ap k,am,am,am]
abbrev tvL(k:Nat)(o:Option (List cJ)):aq:=if k=0 then .ai else Bt o
abbrev bdL(k:Nat)(o:Option (List cJ)):Bool:=if k=0 then false else o.isNone
abbrev aio:aq:=aH [ap 7,ap 0,ap 0,ap 0,.ai,aC false,.ai,.ai,.ai,.ai,.ai,ap 0]
theorem ac0(σ:aw):fz true false 0 σ 20 aio=px.a:=by
 have:px.a=aH [ap 7,ap 0,ap 0,ap 0,.aa false [],aC false,.aa false [],.aa false [],.aa false [],.aa false [],.aa false [],ap 0]:=rfl;rw[this];simp
theorem N4(c:List cK)(b:Dj)(t:aq)(a:aM t=1)(J:aw):cD code I.qeg [ap 0,aH [t],aI 4 0 0 0] (sQ c b .ai false++J)=some (fb [],sQ c b t false++(J++[aB 1 0 [aH [t]]])):=by
 rw[cz aeQ rfl];simp[atd,Z4,sQ,a]
theorem NW(c:List cK)(b:Dj)(k:Nat)(m:k≠0)(o x:Option (List cJ))(h:mY o)(i:mY x)(n:x.isSome)(d:aq)(j:aM d=9):∃g,cD code I.qeg [ap k,aH [Bt x],aI 4 0 0 0] (sQ c b (Bt o) o.isNone++[aB 9 0 [d],aB 1 0 [aH [Bt x]]])=some (fb [],sQ c b (Bt (lf px o x)) (lf px o x).isNone++g):=by
 rw[cz aeQ rfl];have k1:((k:Int)==0)=false:=by simp;omega
 have a:=Ia 3 (.aa false (c.map cK.a)) .ai .ai .ai .ai (aC false) (aC false) .ai .ai .ai aio px o x
  (sQ c b (Bt o) (o.isNone ||x.isNone)++[aB 9 0 [d],aB 1 0 [aH [Bt x]],aB 1 0 [aH [Bt x]]]) rfl ac0 ⟨rfl,rfl⟩ zN.1 zN.2 h i
 have e:x.isNone=false:=by cases x<;>simp_all
 rw[e,oE]at a;refine⟨[aB 9 0 [d],aB 1 0 [aH [Bt x]],aB 1 0 [aH [Bt x]],aB 12 0 [aio],aB 1 0 [aH [Bt (lf px o x)]]],?_⟩;simp only[sQ,bL,Bt,bY,bX,List.set]at a ⊢;generalize lf px o x=o' at *;generalize (x.getD []).map cJ.a=q at *;generalize (o.getD []).map cJ.a=p at *;generalize (o'.getD []).map cJ.a=l at *;generalize o.isNone=bad at *;generalize o'.isNone=f at *;simp[atd,Z4,k1,a]
theorem VM(c:List cK)(v:xT c)(b:Dj)(k:Nat)(s:sO)(w:Ox s)(o:Option (List cJ))(l:k<b.selects.length)(C:b.selects.length≤8000)(g:b.selects[k]?=some s)(u:k≠0→mY o) :
  match sV c k s o with
  |.inl o'=>dh 5 [5,9,10,11,12,20,21] nG (run code nG ⟨sd c b k,sQ c b (tvL k o) (bdL k o)⟩)=bT code 5 [5,9,10,11,12,20,21] nG ⟨sd c b (k+1),sQ c b (Bt o') o'.isNone⟩
  |.inr _=>∃q,dh 5 [5,9,10,11,12,20,21] nG (run code nG ⟨sd c b k,sQ c b (tvL k o) (bdL k o)⟩)=some (.ret,q)∧QSl q:=by
 obtain⟨a,r⟩:=D6 c v s w;have j:∀h:k<b.selects.length,b.selects[k]'h=s:=fun h=>(ak.1 g).2;have n3:aM s.a=9∧isAgg s.a=true:=⟨rfl,rfl⟩;have n:∀fl top base σ m,fz fl top base σ (m+3) s.a=s.a:=fun fl top base σ m=>Fx.fx fl top base σ m s;have e:∀fl top base σ m,fz fl top base σ (m+3) b.a=b.a:=fun fl top base σ m=>Fx.fx fl top base σ m b;have f:aM b.a=5:=rfl;unfold sV;unfold Lb at a;cases hx:nD c s with
 |none=>
  rw[hx]at a;simp at a;simp only[tvL,bdL];exact⟨_,by simp[nG,sd,sQ,l,g,j,n,n3,a];rfl,rfl,rfl,rfl⟩
 |some x=>
  rw[hx]at a r;simp at a;by_cases i:k=0
  ·subst i;simp only[cw,tvL,bdL];have d:=N4 c b (Bt (some x)) rfl [aB 9 0 [s.a],aB 1 0 [aH [Bt (some x)]]];have z:IntKind.i64.wrap 1=1:=rfl;simp only[sQ,bL,Bt,bY,bX,cT]at d ⊢;generalize x.map cJ.a=B at *;simp[nG,sd,l,g,j,n,n3,e,f,a,d,z,bN,bA,cq,dF]
  obtain⟨t,d⟩:=NW c b k i o (some x) (u i) r rfl s.a rfl;have A:IntKind.i64.wrap ((k:Int)+1)=(k:Int)+1:=pT (by omega) (by omega);simp only[if_neg i,tvL,bdL];simp only[sQ,bL,Bt,bY,bX,cT]at d ⊢;generalize lf px o (some x)=o' at *;generalize x.map cJ.a=B at *;generalize (o.getD []).map cJ.a=D at *;generalize (o'.getD []).map cJ.a=y at *;generalize o.isNone=bad at *;generalize o'.isNone=p at *;cases t<;>simp[nG,sd,l,g,j,n,n3,e,f,a,d,A,bN,bA,cq,dF]
def rk(c:List cK)(l:List sO):Option (List cJ):=match dt (sV c) l 0 none with
 |.inl o=>o
 |.inr _=>none
def ND(o:Option (List cJ)):List Int:=(o.map ldK).getD []
theorem VG{n:cJ}{b:List yg}{w:List cJ}(h:iA n b=some w):(lookF w).isSome:=by
 unfold iA at h;split at h
 ·split at h
  ·rename_i a;cases h;exact a
  cases h
 cases h
theorem Hi{n:cJ}{o:Option (List cJ)}{w:List cJ}(h:ed n o=some w):(lookF w).isSome:=by
 unfold ed at h;obtain⟨t,_,h⟩:=aL.1 h;exact VG h
theorem aaZ(o:Option (List cJ))(g:mY o)(j:∀w,o=some w→(lookF w).isSome):bB I.qcy [aH [Bt o]]=some (fb [.aa false (cV (ND o)),ap (if o.isSome then 0 else 230)]):=by
 cases o with
 |none=>
  have h:=GO 1 [aB 1 0 [aH [.aa false (([]:List cJ).map cJ.a)]]] (.inl ⟨rfl,_,rfl⟩) (fun x d base σ m=>by simp at d;rw[d];simp) false [] (fun n b=>by simp at b);rw[Jr]at h;obtain⟨k,τ,h⟩:=h;rw[aR agc rfl];simp at h;simp[as1,Xs,ND,h]
 |some w=>
  have a:=j w rfl;obtain⟨s,c⟩:=cN.1 a;obtain⟨k1,k2,k3,_⟩:=wQ c;have i:=Ws false w (fun n b=>(g.own n b).fit) s c k3;have e:s.1[w.length-1]?=some s.1[w.length-1]:=au (by omega);have f:ND (some w)=(s.1.getD (w.length-1) abg).l:=by
   unfold ND ldK;rw[aS];simp[c,e]
  rw[f];exact i
theorem YM(c:List cK)(m:xT c)(b:Dj)(l:adH b)(t:b.selects≠[]):match dt (sV c) b.selects 0 none with
  |.inl o=>mY o∧bT code 5 [5,9,10,11,12,20,21] nG ⟨sd c b 0,sQ c b .ai false⟩=some (.ext 0,⟨(sd c b b.selects.length).set 20 (.bool false),sQ c b (Bt o) o.isNone⟩)
  |.inr _=>∃q,bT code 5 [5,9,10,11,12,20,21] nG ⟨sd c b 0,sQ c b .ai false⟩=some (.ret,q)∧QSl q:=by
 have d:b.selects.length≠0:=fun e=>t (db.1 e);have key:=iL (base:=5) (clr:=[5,9,10,11,12,20,21]) (b:=nG) b.selects (fun k o=>⟨sd c b k,sQ c b (tvL k o) (bdL k o)⟩) (fun k o=>k≠0→mY o) (sV c)
  (fun o=>(.ext 0,⟨(sd c b b.selects.length).set 20 (aC false),sQ c b (Bt o) o.isNone⟩)) (fun _ o=>∃q,o=(.ret,q)∧QSl q)
  (fun k s o u p j=>by
   have n:=l.sel s (aN p);have h:=VM c m b k s n o u l.sl p j;have f:=(D6 c m s n).2;have a:∀o',sV c k s o=.inl o'→mY o':=fun o' h=>by
    unfold sV at h;cases hx:nD c s with
    |none=>rw[hx]at h;cases h
    |some x=>
     rw[hx]at h f;by_cases i:k=0
     ·simp only[i,cw]at h;cases h;exact f
     simp only[if_neg i]at h;cases h;exact KK zN.1 zN.2 (j i) f
   revert h a;cases sV c k s o with
   |inl o'=>
    intro h a;refine⟨?_,fun _=>a o' rfl⟩;simp only[tvL,bdL,if_neg (Nat.succ_ne_zero k)]at h ⊢;exact h
   |inr r=>
    rintro⟨q,h,g⟩ _;exact⟨_,h,q,rfl,g⟩)
  (fun o _=>by
   simp only[tvL,bdL,if_neg d];simp[sd,sQ,nG]) none (fun h=>absurd rfl h)
 revert key;cases dt (sV c) b.selects 0 none with
 |inl o=>exact fun h=>⟨h.1 d,h.2⟩
 |inr r=>
  rintro⟨o,h,q,rfl,g⟩;exact⟨q,h,g⟩
def Bd(c:List cK)(b:Dj):Option (List cJ):=
 if b.selects.length<1∨3<b.selects.length then none
 else if (ed (jx b.order b.limit) (rk c b.selects)).isSome∧(ND (ed (jx b.order b.limit) (rk c b.selects))).length=b.names.length∧ND (ed (jx b.order b.limit) (rk c b.selects))=b.ac then ed (jx b.order b.limit) (rk c b.selects) else none
abbrev akl(o:List (Int×Bool))(l:Int):aq:=aH [ap 8,ap 0,ap 0,ap 0,.ai,aC false,.ai,.ai,.ai,.ai,.aa false (o.map gT),ap l]
theorem aew(o:List (Int×Bool))(l:Int)(σ:aw):fz true false 0 σ 20 (akl o l)=(jx o l).a:=by
 have:(jx o l).a=aH [ap 8,ap 0,ap 0,ap 0,.aa false [],aC false,.aa false [],.aa false [],.aa false [],.aa false [],.aa false (o.map gT),ap l]:=rfl;rw[this];simp
theorem Zq(c:List cK)(b:Dj)(y:adH b)(o:Option (List cJ))(t:mY o):∃q,run code pX ⟨(sd c b b.selects.length).set 20 (aC false),sQ c b (Bt o) o.isNone⟩=some (.ret,q)∧q.env[4]?=some (aI 2 0 0 0) ∧
  (if (ed (jx b.order b.limit) o).isSome∧(ND (ed (jx b.order b.limit) o)).length=b.names.length∧ND (ed (jx b.order b.limit) o)=b.ac then q.st[2]?=some (aB 1 0 [aH [Bt (ed (jx b.order b.limit) o)]])∧q.env[5]?=some (ap 0)
   else q.st[2]?=some (aB 1 0 [aH [.ai]])∧q.env[5]?=some (ap 240)):=by
 have f:=Mq b.limit y.ol;have m:=mM f.1 f.2 t;have d:=DG 3 (.aa false (c.map cK.a)) .ai .ai .ai .ai (aC false) (aC false) .ai .ai .ai (akl b.order b.limit) (jx b.order b.limit) o (sQ c b (Bt o) o.isNone) rfl (aew b.order b.limit) ⟨rfl,rfl⟩ f.1 f.2 t;have a:=aaZ (ed (jx b.order b.limit) o) m (fun w h=>Hi h);have u:(ND (ed (jx b.order b.limit) o)).length≤16:=by
  cases h:ed (jx b.order b.limit) o with
  |none=>simp[ND]
  |some w=>
   unfold ND;simpa using aeq w
 have e:=BK false false (ND (ed (jx b.order b.limit) o)) b.ac (by omega);have n:b.a=aH b.c:=rfl;have p:b.c=[.aa false (b.selects.map sO.a),.aa false (b.names.map aO),.aa false (b.ac.map (.int .i64)),.aa false (b.order.map gT),ap b.limit]:=rfl;have v:pX=.seq iV (.seq iT (.seq iQ p8)):=rfl;have x:p8=.seq iP iE:=rfl;rw[v,x];generalize ed (jx b.order b.limit) o=s at *;generalize ND s=ks at *;simp only[sQ,bL,sd,Bt,n,p,List.set,bY,bX]at d a ⊢;have r:(((ks.length:Int) != (b.names.length:Int))=false∧ks.length=b.names.length)∨(((ks.length:Int) != (b.names.length:Int))=true∧¬ks.length=b.names.length):=by
  by_cases h:ks.length=b.names.length
  ·exact .inl ⟨by simp;omega,h⟩
  exact .inr ⟨by simp;omega,h⟩
 have A:aM (.aa false ((s.getD []).map cJ.a))=1:=rfl;cases s with
 |none=>
  simp only[Option.isNone_none,Option.isSome_none,Option.getD_none,bm,bq,false_and,cH]at *;generalize (o.getD []).map cJ.a=z at *;generalize o.isNone=bad at *;exact⟨_,by simp[iV,iT,iQ,iP,iE,d,a];rfl,rfl,rfl,rfl⟩
 |some w=>
  simp only[Option.isNone_some,kg,cT,true_and,cw]at *;generalize (o.getD []).map cJ.a=z at *;generalize o.isNone=bad at *;generalize w.map cJ.a=B at *;rcases r with⟨i,k⟩|⟨i,k⟩
  ·by_cases j:ks=b.ac
   ·simp only[if_pos (And.intro k j)];have l:decide (ks=b.ac)=true:=by simpa using j
    rw[l]at e;exact⟨_,by simp[iV,iT,iQ,iP,iE,d,a,i,e];rfl,rfl,rfl,rfl⟩
   have g:¬(ks.length=b.names.length∧ks=b.ac):=fun h=>j h.2;simp only[if_neg g];have l:decide (ks=b.ac)=false:=by simpa using j
   rw[l]at e;exact⟨_,by simp[iV,iT,iQ,iP,iE,d,a,i,e];rfl,rfl,rfl,rfl⟩
  have g:¬(ks.length=b.names.length∧ks=b.ac):=fun h=>k h.1;simp only[if_neg g];exact⟨_,by simp[iV,iT,iQ,iP,iE,d,a,i];rfl,rfl,rfl,rfl⟩
theorem adB(c:List cK)(t:xT c)(b:Dj)(s:adH b):bB I.qef [mC c,b.a]=some (Lb 240 (Bd c b)):=by
 rw[aR alv rfl];have j:=t.chk;have h:b.a=aH b.c:=rfl;have i:b.c=[.aa false (b.selects.map sO.a),.aa false (b.names.map aO),.aa false (b.ac.map (.int .i64)),.aa false (b.order.map gT),ap b.limit]:=rfl;unfold Bd Lb;by_cases n:b.selects.length<1∨3<b.selects.length
 ·simp only[if_pos n,h,i];by_cases y:b.selects.length<1
  ·have a:(b.selects.length:Int)<1:=by omega
   simp[ar4,o9,ja,iN,iZ,iO,iY,j,a]
  have a:¬(b.selects.length:Int)<1:=by omega
  have d:(3:Int)<(b.selects.length:Int):=by omega
  simp[ar4,o9,ja,iN,iZ,iO,iY,j,a,d]
 simp only[if_neg n];have a:¬(b.selects.length:Int)<1:=by omega
 have d:¬(3:Int)<(b.selects.length:Int):=by omega
 have u:b.selects≠[]:=fun e=>by rw[e]at n;simp at n
 have loop:=YM c t b s u;unfold rk;revert loop;cases hf:dt (sV c) b.selects 0 none with
 |inr r=>
  rintro⟨q,loop,p,g,l⟩;simp only[sd,sQ,bL,aY,h,i]at loop ⊢;simp[ar4,o9,ja,iN,iZ,iO,iY,nk,ng,nF,nu,nv,nz,j,a,d,loop,p,g,l,ed]
 |inl o=>
  rintro⟨v,loop⟩;obtain⟨q,m,p,g⟩:=Zq c b s o v;simp only;generalize ed (jx b.order b.limit) o=k at *;have z:aM (Bt k)=1:=rfl;by_cases f:k.isSome∧(ND k).length=b.names.length∧ND k=b.ac
  ·simp only[if_pos f]at g ⊢;obtain⟨g,l⟩:=g;simp only[sd,sQ,bL,aY,h,i,List.set,Bt,f.1,cw]at loop m g ⊢;generalize (o.getD []).map cJ.a=w at *;generalize (k.getD []).map cJ.a=x at *;generalize o.isNone=bad at *;simp[ar4,o9,ja,iN,iZ,iO,iY,nk,ng,nF,nu,nv,nz,j,a,d,loop,m,p,g,l]
  simp only[if_neg f]at g ⊢;obtain⟨g,l⟩:=g;simp only[sd,sQ,bL,aY,h,i,List.set,Bt]at loop m ⊢;generalize (o.getD []).map cJ.a=w at *;generalize o.isNone=bad at *;simp[ar4,o9,ja,iN,iZ,iO,iY,nk,ng,nF,nu,nv,nz,j,a,d,loop,m,p,g,l]
theorem O0{s:List UInt8}{i:Nat}{b:UInt8}(h:s[i]?=some b):(ByteArray.mk s.toArray).get! i=b:=by
 unfold ByteArray.get!;simp[h]
theorem Ds{s:List UInt8}{i:Nat}{b:UInt8}(h:s[i]?=some b)(a:b.toNat < 128):Utf8.decode ⟨s.toArray⟩ i=(b.toNat,1):=by
 unfold Utf8.decode;simp only[ew,O0 h];rw[if_pos a]
theorem QC{s:List UInt8}{i:Nat}{b:UInt8}(h:s[i]?=some b)(a:¬b.toNat < 128):128≤(Utf8.decode ⟨s.toArray⟩ i).1:=by
 unfold Utf8.decode;simp only[ew,O0 h];rw[if_neg a]
 repeat' split
 all_goals simp_all[Utf8.runeError]<;>omega
def uQ(b:UInt8):Bool:=decide (97≤b.toNat)&&decide (b.toNat≤122)
def yO(b:UInt8):Bool:=decide (48≤b.toNat)&&decide (b.toNat≤57)
def vr(b:UInt8):Bool:=uQ b ||yO b ||b.toNat==95
theorem Dk(n:Int):bB I.qcw [.int .i32 n]=some (aC (decide (97≤n)&&decide (n≤122))):=by
 rw[aR alt rfl];simp[auG,ahl]
 repeat' (split<;>(try simp_all))
 all_goals (intros;omega)
theorem GT(n:Int):bB I.qcn [.int .i32 n]=some (aC (decide (48≤n)&&decide (n≤57))):=by
 rw[aR amU rfl];simp[atQ,afh]
 repeat' (split<;>(try simp_all))
 all_goals (intros;omega)
theorem VB(b:Bool)(l:List (List UInt8))(s:List UInt8)(p:l.length≤8000):∃k:Int,bB I.qhg [.aa b (l.map aO),aO s]=some (ap k)∧decide (0≤k)=l.any (· == s):=by
 rw[aR ahi rfl];have j:l.length≤bD:=by unfold bD;omega
 have loop:=om (base:=0) (clr:=[2,3,6,7]) (b:=s7) l (fun k=>⟨[.aa b (l.map aO),aO s,am,am,ap l.length,ap k,am,am],[]⟩) (fun x=>x==s)
  (.ext 0,⟨[.aa b (l.map aO),aO s,am,am,ap l.length,ap l.length,aC false,am],[]⟩) (fun o=>∃q,o=(.ret,q)∧∃k:Nat,q.env[2]?=some (ap k))
  (fun k x f d c=>by
   have i:∀h:k<l.length,l[k]'h=x:=fun h=>(ak.1 d).2;have n:=cU f j;have a:(s==x)=false:=by rw[gh]at c ⊢;exact fun e=>c e.symm
   simp[s7,eT,f,d,i,n,a,bN])
  (fun k x f d c=>by
   have i:∀h:k<l.length,l[k]'h=x:=fun h=>(ak.1 d).2;have a:s=x:=by rw[aX]at c;exact c.symm
   subst a;exact⟨_,by simp[s7,eT,f,d,i];rfl,_,rfl,k,rfl⟩)
  (by simp[s7])
 rcases loop with⟨g,loop⟩|⟨g,o,loop,q,rfl,k,m⟩
 ·simp only[aY]at loop;exact⟨-1,by simp[asa,Oi,loop],by rw[g];rfl⟩
 simp only[aY]at loop;exact⟨k,by simp[asa,Oi,loop,m],by rw[g];simp⟩
theorem tz(b:Bool)(l:List (List UInt8))(s:List UInt8)(d:l.length≤8000):bB I.qgn [.aa b (l.map aO),aO s]=some (aC (l.any (· == s))):=by
 obtain⟨k,a,c⟩:=VB b l s d;rw[aR ale rfl,←c];simp[auk,agq,a]
def sG:List (List UInt8):=[[83,69,76,69,67,84],[68,73,83,84,73,78,67,84],[70,82,79,77],[76,69,70,84],[74,79,73,78],[79,78],[87,72,69,82,69],[71,82,79,85,80],[66,89],[72,65,86,73,78,71],[85,78,73,79,78],[65,76,76],[79,82,68,69,82],[76,73,77,73,84],[65,83,67],[68,69,83,67],[65,83],[65,78,68],[79,82],[78,79,84],[73,83],[78,85,76,76],[84,82,85,69],[70,65,76,83,69],[67,79,85,78,84],[83,85,77],[77,73,78],[77,65,88]]
theorem Tw(s:List UInt8):bB I.qci [aO s]=some (aC (sG.any (· == s))):=by
 have h:=tz false sG s (by decide);have a:=tz true sG s (by decide);generalize sG.any (· == s)=r at *;rw[aR aok rfl];simp only[sG,aV,bm]at h a;simp[atG,ae7,h,a]
def PM(b:UInt8):aq:=.int .u8 b.toNat
instance:Nc PM 1 false:=⟨fun _=>rfl,fun _=>rfl⟩
instance:Fx PM:=⟨fun _ _ _ _ _ _=>rfl⟩
theorem Py(l:List UInt8):yJ (l.map PM)=some l:=by
 induction l with
 |nil=>rfl
 |cons b l a=>
  have:UInt8.ofNat b.toNat=b:=by simp
  simp[yJ,PM]at a ⊢;simp[a]
theorem YE(p:UInt8→Bool)(h:((List.range 256).all fun n=>p (UInt8.ofNat n))=true)(b:UInt8):p b=true:=by
 have:=bd.1 h b.toNat (by have:=b.toNat_lt;simp;omega);simpa using this
theorem IG{b:UInt8}(h:vr b=true):b.toNat < 128:=by
 have:=YE (fun b=>!vr b ||decide (b.toNat < 128)) (by kernel_rfl) b;rw[h]at this;simpa using this
def iy(s:List UInt8):Bool:=match s with
 |[]=>false
 |b::_=>decide (s.length≤16)&&uQ b&&s.all vr&&!(sG.any (· == s.map Lib.upperB))
theorem aey{s:List UInt8}:s.any (fun b=>!vr b)=!s.all vr:=by
 induction s with
 |nil=>rfl
 |cons b s a=>simp[a]
theorem DJ{b:UInt8}:(decide (97≤(b.toNat:Int))&&decide ((b.toNat:Int)≤122))=uQ b:=by
 unfold uQ;rw[eL];simp;omega
theorem KL{b:UInt8}:(decide (48≤(b.toNat:Int))&&decide ((b.toNat:Int)≤57))=yO b:=by
 unfold yO;rw[eL];simp;omega
theorem G8(b:UInt8):(vr b=true∧(uQ b=true∨(uQ b=false∧yO b=true)∨(uQ b=false∧yO b=false∧b.toNat=95)))∨(vr b=false∧uQ b=false∧yO b=false∧b.toNat≠95):=by
 unfold vr;cases uQ b<;>cases yO b<;>simp;exact (Classical.em _)
def upS(s:List UInt8):List UInt8:=if s.all (fun b=>decide (b.toNat < 128))=true then Lib.toUpperA s else Lib.toUpperD s
theorem KM(s:List UInt8)(a:s.length≤8000)(σ:aw):cD code I.strings_ToUpper [aO s] σ=some (aO (upS s),σ):=by
 refine wV good (k:=4) (n:=0) C7 ?_;show Ag [aO s] σ=_;unfold Ag;simp only;rw[if_pos (show s.length<35184372088832 by omega)];rfl
theorem ad1{s:List UInt8}(h:s.all vr=true):upS s=s.map Lib.upperB:=by
 unfold upS;rw[if_pos]
 ·rfl
 rw[bd]at h ⊢;intro b a;have:=IG (h b a);simpa using this
theorem nZ(s:List UInt8):bB I.qch [aO s]=some (aC (iy s)):=by
 rw[aR ak8 rfl];cases hs:s with
 |nil=>simp[arP,eT,FQ,iy]
 |cons b t=>
  rw[←hs];have v:(s==[])=false:=by rw[hs];rfl
  have f:s≠[]:=by rw[hs];simp
  have N:iy s=(decide (s.length≤16)&&uQ b&&s.all vr&&!(sG.any (· == s.map Lib.upperB))):=by rw[hs];rfl
  rw[N];have h:s[0]?=some b:=by rw[hs];rfl
  by_cases g:s.length≤16
  rotate_left
  ·have p:(16:Int)<(s.length:Int):=by omega
   simp[arP,eT,FQ,v,f,p,g]
  have p:¬(16:Int)<(s.length:Int):=by omega
  have a:=Dk b.toNat;rw[DJ]at a;have B:IntKind.i32.wrap (b.toNat:Int)=(b.toNat:Int):=by
   have:=b.toNat_lt;have l:∀n:Nat,n<256→IntKind.i32.wrap (n:Int)=(n:Int):=by
    intro n D;have:((List.range 256).all fun n=>decide (IntKind.i32.wrap ((n:Nat):Int)=((n:Nat):Int)))=true:=by kernel_rfl
    have:=bd.1 this n (by simpa using D);simpa using this
   exact l _ this
  cases z:uQ b with
  |false=>
   rw[z]at a;simp[arP,eT,FQ,v,f,p,g,h,B,a]
  |true=>
   rw[z]at a;have C:=KM s (by omega);have i:=Tw (upS s);have u:=@ad1 s;generalize upS s=K at *;have loop:=om (base:=1) (clr:=[1,2,5,6,7]) (b:=vF) s (fun k=>⟨[aO s,am,am,aC false,.it 0,am,am,am],[.it s k]⟩) (fun b=>!vr b)
     (.ext 0,⟨[aO s,am,am,aC false,.it 0,fb [aC false],aC false,am],[.it s s.length]⟩) (fun o=>∃q,o=(.ret,q)∧q.env[1]?=some (aC false))
     (fun k x l E H=>by
      have D:vr x=true:=by simpa using H
      have hd:=Ds E (IG D);have c:=Dk x.toNat;have e:=GT x.toNat;rw[DJ]at c;rw[KL]at e;rcases G8 x with⟨_,A⟩|⟨A,_⟩
      ·rcases A with m|⟨m,y⟩|⟨m,y,J⟩
       ·rw[m]at c;cases hdg:yO x<;>rw[hdg]at e<;>simp[vF,uz,l,hd,c,e,bN]
       ·rw[m]at c;rw[y]at e;simp[vF,uz,l,hd,c,e,bN]
       rw[m]at c;rw[y]at e;rw[J]at c e hd;simp at c e;simp[vF,uz,l,hd,c,e,bN]
      simp[A]at D)
     (fun k x l E H=>by
      rcases G8 x with⟨A,_⟩|⟨_,m,y,J⟩
      ·simp[A]at H
      by_cases z:x.toNat < 128
      ·have hd:=Ds E z;have c:=Dk x.toNat;have e:=GT x.toNat;rw[DJ,m]at c;rw[KL,y]at e;have F:((x.toNat:Int) != 95)=true:=by simp;omega
       exact⟨_,by simp[vF,uz,l,hd,c,e,F];rfl,_,rfl,rfl⟩
      have hd:=QC E z;generalize G:Utf8.decode ⟨s.toArray⟩ k=d at *;obtain⟨r,w⟩:=d;simp only at hd;have c:=Dk r;have e:=GT r;have L:(decide (97≤(r:Int))&&decide ((r:Int)≤122))=false:=by simp;omega
      have M:(decide (48≤(r:Int))&&decide ((r:Int)≤57))=false:=by simp;omega
      rw[L]at c;rw[M]at e;have F:((r:Int) != 95)=true:=by simp;omega
      exact⟨_,by simp[vF,uz,l,G,c,e,F];rfl,_,rfl,rfl⟩)
     (by simp[vF,uz])
   rw[aey]at loop;rcases loop with⟨j,loop⟩|⟨j,o,loop,q,rfl,O⟩
   ·have j:s.all vr=true:=by simpa using j
    have u:=u j;rw[←u,j];cases hw:sG.any (· == K) with
    |true=>
     rw[hw]at i;simp[arP,eT,FQ,v,f,p,g,h,B,a,C,i]
    |false=>
     rw[hw]at i;simp[arP,eT,FQ,v,f,p,g,h,B,a,C,i,RY,loop]
   have j:s.all vr=false:=by simpa using j
   rw[j];cases hw:sG.any (· == K) with
   |true=>
    rw[hw]at i;simp[arP,eT,FQ,v,f,p,g,h,B,a,C,i]
   |false=>
    rw[hw]at i;simp[arP,eT,FQ,v,f,p,g,h,B,a,C,i,RY,loop,O]
theorem R4(s:ByteArray)(i:Nat):1≤(Utf8.decode s i).2:=by
 unfold Utf8.decode;simp only
 repeat' split
 all_goals simp
theorem aed(n:Nat)(g:Int→Bool)(f:∀r σ,cD code n [.int .i32 r] σ=some (aC (g r),σ))(s:List UInt8):∀m pos,s.length-pos≤m →
  (∃(k:Nat) (q:St),bT code 1 [3,4,5,7,8,9] rN ⟨[aO s,.fn n [] [],aC true,am,am,am,.it 0,am,am,am],[.it s pos]⟩=some (.ret,q)∧q.env[3]?=some (ap k)∧k<s.length) ∨
  (∃p,bT code 1 [3,4,5,7,8,9] rN ⟨[aO s,.fn n [] [],aC true,am,am,am,.it 0,am,am,am],[.it s pos]⟩=some (.ext 0,⟨[aO s,.fn n [] [],aC true,am,am,am,.it 0,fb [aC false],aC false,am],[.it s p]⟩)):=by
 intro m;induction m with
 |zero=>
  intro pos h;have a:¬pos<s.length:=by omega
  refine .inr ⟨pos,?_⟩;rw[aZ];simp[rN,uz,a]
 |succ m i=>
  intro pos h;by_cases a:pos<s.length
  ·have hd:=R4 ⟨s.toArray⟩ pos;have b:=f ((Utf8.decode ⟨s.toArray⟩ pos).1:Nat);rw[aZ];generalize c:Utf8.decode ⟨s.toArray⟩ pos=d at *;obtain⟨r,w⟩:=d;simp only at hd b;cases hg:g (r:Nat) with
   |true=>
    rw[hg]at b;exact .inl ⟨pos,_,by simp[rN,uz,a,c,b];rfl,rfl,a⟩
   |false=>
    rw[hg]at b;have hi:=i (pos+w) (by omega);have e:dh 1 [3,4,5,7,8,9] rN (run code rN ⟨[aO s,.fn n [] [],aC true,am,am,am,.it 0,am,am,am],[.it s pos]⟩)=bT code 1 [3,4,5,7,8,9] rN ⟨[aO s,.fn n [] [],aC true,am,am,am,.it 0,am,am,am],[.it s (pos+w)]⟩:=by
     simp[rN,uz,a,c,b,bN]
    rw[e];exact hi
  refine .inr ⟨pos,?_⟩;rw[aZ];simp[rN,uz,a]
theorem Fm(n:Nat)(g:Int→Bool)(c:∀r σ,cD code n [.int .i32 r] σ=some (aC (g r),σ))(s:List UInt8) :
  ∃k:Int,bB I.qhj [aO s,.fn n [] []]=some (ap k)∧-1≤k∧k<s.length:=by
 have key:∃k:Int,bB I.qhk [aO s,.fn n [] [],aC true]=some (ap k)∧-1≤k∧k<s.length:=by
  rw[aR anc rfl];rcases aed n g c s s.length 0 (by omega) with⟨k,q,a,b,d⟩|⟨p,a⟩
  ·exact⟨k,by simp[as4,Zu,a,b],by omega,by omega⟩
  exact⟨-1,by simp[as4,Zu,a],by omega,by omega⟩
 obtain⟨k,h,a,b⟩:=key;refine⟨k,?_,a,b⟩;rw[aR alg rfl];simp[aus,afT,h]
theorem VA(n:Int):∃t,bB I.qcm [.int .i32 n]=some (aC t):=by
 rw[aR aos rfl];by_cases a:65≤n<;>by_cases b:n≤90<;>simp[auJ,ahq,a,b]
theorem ai3(n:Int):∃t,bB I.qcq [.int .i32 n]=some (aC t):=by
 rw[aR anY rfl];have c:=GT n;have d:=Dk n;obtain⟨t,e⟩:=VA n;generalize (decide (48≤n)&&decide (n≤57))=a at *;generalize (decide (97≤n)&&decide (n≤122))=b at *;cases a<;>cases b<;>cases t<;>simp[atP,aeZ,c,d,e]
theorem YA(n:Int):∃t,bB I.qcv [.int .i32 n]=some (aC t):=by
 rw[aR alX rfl];obtain⟨t,h⟩:=ai3 n;simp[auW,ahc,h]
theorem Ph(n:Int):∃t,bB I.qcs [.int .i32 n]=some (aC t):=by
 rw[aR akB rfl];by_cases a:n<32<;>by_cases b:126<n<;>simp[auB,afC,a,b]
theorem aoy(s:List UInt8):∃k:Nat,bB I.qcu [aO s]=some (ap k)∧k≤s.length:=by
 obtain⟨g,b⟩:∃g:Int→Bool,∀n,bB I.qcv [.int .i32 n]=some (aC (g n)):=⟨fun n=>(YA n).choose,fun n=>(YA n).choose_spec⟩;obtain⟨k,h,c,d⟩:=Fm I.qcv g (fun r σ=>by simp[b]) s;rw[aR akd rfl];by_cases a:0≤k
 ·refine⟨k.toNat,?_,by omega⟩;have:((k.toNat:Nat):Int)=k:=by omega
  rw[this];simp[as9,aam,h,a]
 exact⟨s.length,by simp[as9,aam,h,a],aF _⟩
theorem S7(s:List UInt8):∃t,bB I.qcr [aO s]=some (aC t):=by
 obtain⟨g,a⟩:∃g:Int→Bool,∀n,bB I.qcs [.int .i32 n]=some (aC (g n)):=⟨fun n=>(Ph n).choose,fun n=>(Ph n).choose_spec⟩;obtain⟨k,h,_⟩:=Fm I.qcs g (fun r σ=>by simp[a]) s;rw[aR ane rfl];by_cases c:(s.length:Int)≤40<;>by_cases b:k<0<;>simp[aun,agr,h,c,b]
end Go.AM
namespace Go.AM
open P
set_option maxHeartbeats 64000000
set_option maxRecDepth 40000
theorem AG{s:Type}{enc:s→aq}{b:Bool}{l:List s}{f:aq}{p:s→Bool}(v:l.length≤bD)(t:∀y,aM (enc y)=1∧isAgg (enc y)=false)(x:rW f)
  (h:∀y∈l,jh code f [enc y] []=some (aC (p y),[])):bB I.qhe [.aa b (l.map enc),f]=some (ap (wc p l)):=by
 rw[aR amg rfl];have m:=x [];have c:∀k,k<l.length→∀y,l[k]?=some y→p y=false→dh 0 [2,3,6,7] tL (run code tL ⟨[.aa b (l.map enc),f,am,am,ap l.length,ap k,am,am],[]⟩) =
   bT code 0 [2,3,6,7] tL ⟨[.aa b (l.map enc),f,am,am,ap l.length,ap (k+1:Nat),am,am],[]⟩:=fun k d y o r=>by
  have q:=t y;have g:=h y (aN o);rw[r]at g;have e:((k:Int)<(l.length:Int)):=by omega
  simp[tL,o,q,g,e,cU d v,cO]
 unfold wc;by_cases n:l.any p=true
 ·have e:=bQ (cB.1 n);have r:p l[l.findIdx p]=true:=du (w:=e);have a:=cY (base:=0) (clr:=[2,3,6,7]) (b:=tL) (fun k=>⟨[.aa b (l.map enc),f,am,am,ap l.length,ap k,am,am],[]⟩) (l.findIdx p)
   (.ret,⟨[.aa b (l.map enc),f,ap (l.findIdx p),ap (l.findIdx p),ap l.length,ap (l.findIdx p),aC true,aC true],[]⟩)
   (fun k d=>c k (by omega) _ (au (by omega)) (by simpa using cW d))
   (by
    have u:l[l.findIdx p]?=some l[l.findIdx p]:=au e;have q:=t l[l.findIdx p];have g:=h _ (aJ e);rw[r]at g;have j:((l.findIdx p:Int)<(l.length:Int)):=by omega
    simp[tL,u,q,g,j])
  simp at a;simp[atk,Zs,m,a,n]
 have i:∀y∈l,p y=false:=fun y o=>by simpa using cS.1 (eB _▸n) y o
 have a:=cY (base:=0) (clr:=[2,3,6,7]) (b:=tL) (fun k=>⟨[.aa b (l.map enc),f,am,am,ap l.length,ap k,am,am],[]⟩) l.length
  (.ext 0,⟨[.aa b (l.map enc),f,am,am,ap l.length,ap l.length,aC false,am],[]⟩)
  (fun k d=>c k d _ (au d) (i _ (aJ d)))
  (by simp[tL])
 simp at a;simp[atk,Zs,m,a,n]
theorem wJ{s:Type}{enc:s→aq}{b:Bool}{l:List s}{f:aq}{p:s→Bool}(v:l.length≤bD)(t:∀y,aM (enc y)=1∧isAgg (enc y)=true)(x:rW f)
  (h:∀y∈l,jh code f [enc y] []=some (aC (p y),[])):bB I.qhc [.aa b (l.map enc),f]=some (ap (wc p l)):=by
 rw[aR anG rfl];have m:=x [];have c:∀k,k<l.length→∀y,l[k]?=some y→p y=false→dh 0 [2,3,6,7] tq (run code tq ⟨[.aa b (l.map enc),f,am,am,ap l.length,ap k,am,am],[]⟩) =
   bT code 0 [2,3,6,7] tq ⟨[.aa b (l.map enc),f,am,am,ap l.length,ap (k+1:Nat),am,am],[]⟩:=fun k d y o r=>by
  have q:=t y;have g:=h y (aN o);rw[r]at g;have e:((k:Int)<(l.length:Int)):=by omega
  simp[tq,o,q,g,e,cU d v,cO]
 unfold wc;by_cases n:l.any p=true
 ·have e:=bQ (cB.1 n);have r:p l[l.findIdx p]=true:=du (w:=e);have a:=cY (base:=0) (clr:=[2,3,6,7]) (b:=tq) (fun k=>⟨[.aa b (l.map enc),f,am,am,ap l.length,ap k,am,am],[]⟩) (l.findIdx p)
   (.ret,⟨[.aa b (l.map enc),f,ap (l.findIdx p),ap (l.findIdx p),ap l.length,ap (l.findIdx p),aC true,aC true],[]⟩)
   (fun k d=>c k (by omega) _ (au (by omega)) (by simpa using cW d))
   (by
    have u:l[l.findIdx p]?=some l[l.findIdx p]:=au e;have q:=t l[l.findIdx p];have g:=h _ (aJ e);rw[r]at g;have j:((l.findIdx p:Int)<(l.length:Int)):=by omega
    simp[tq,u,q,g,j])
  simp at a;simp[atn,aaJ,m,a,n]
 have i:∀y∈l,p y=false:=fun y o=>by simpa using cS.1 (eB _▸n) y o
 have a:=cY (base:=0) (clr:=[2,3,6,7]) (b:=tq) (fun k=>⟨[.aa b (l.map enc),f,am,am,ap l.length,ap k,am,am],[]⟩) l.length
  (.ext 0,⟨[.aa b (l.map enc),f,am,am,ap l.length,ap l.length,aC false,am],[]⟩)
  (fun k d=>c k d _ (au d) (i _ (aJ d)))
  (by simp[tq])
 simp at a;simp[atn,aaJ,m,a,n]
theorem uG{c:Type}{enc:c→aq}{b:Bool}{l:List c}{f:aq}{p:c→Bool}(g:l.length≤bD)(e:∀y,aM (enc y)=1∧isAgg (enc y)=true)(d:rW f)
  (h:∀y∈l,jh code f [enc y] []=some (aC (p y),[])):bB I.qgl [.aa b (l.map enc),f]=some (aC (l.any p)):=by
 rw[aR aoB rfl];have h:=wJ (b:=b) g e d h;have a:=d [];unfold wc at h;cases ha:l.any p<;>rw[ha]at h<;>simp[atI,afx,a,h]
theorem wz{s:Type}{enc:s→aq}{b:Bool}{l:List s}{f:aq}{p:s→Bool}(v:l.length≤bD)(t:∀y,aM (enc y)=9∧isAgg (enc y)=true)(x:rW f)
  (h:∀y∈l,jh code f [enc y] []=some (aC (p y),[])):bB I.qgy [.aa b (l.map enc),f]=some (ap (wc p l)):=by
 rw[aR alV rfl];have m:=x [];have c:∀k,k<l.length→∀y,l[k]?=some y→p y=false→dh 0 [2,3,6,7] tc (run code tc ⟨[.aa b (l.map enc),f,am,am,ap l.length,ap k,am,am],[]⟩) =
   bT code 0 [2,3,6,7] tc ⟨[.aa b (l.map enc),f,am,am,ap l.length,ap (k+1:Nat),am,am],[]⟩:=fun k d y o r=>by
  have q:=t y;have g:=h y (aN o);rw[r]at g;have e:((k:Int)<(l.length:Int)):=by omega
  simp[tc,o,q,g,e,cU d v,cO]
 unfold wc;by_cases n:l.any p=true
 ·have e:=bQ (cB.1 n);have r:p l[l.findIdx p]=true:=du (w:=e);have a:=cY (base:=0) (clr:=[2,3,6,7]) (b:=tc) (fun k=>⟨[.aa b (l.map enc),f,am,am,ap l.length,ap k,am,am],[]⟩) (l.findIdx p)
   (.ret,⟨[.aa b (l.map enc),f,ap (l.findIdx p),ap (l.findIdx p),ap l.length,ap (l.findIdx p),aC true,aC true],[]⟩)
   (fun k d=>c k (by omega) _ (au (by omega)) (by simpa using cW d))
   (by
    have u:l[l.findIdx p]?=some l[l.findIdx p]:=au e;have q:=t l[l.findIdx p];have g:=h _ (aJ e);rw[r]at g;have j:((l.findIdx p:Int)<(l.length:Int)):=by omega
    simp[tc,u,q,g,j])
  simp at a;simp[atb,Zw,m,a,n]
 have i:∀y∈l,p y=false:=fun y o=>by simpa using cS.1 (eB _▸n) y o
 have a:=cY (base:=0) (clr:=[2,3,6,7]) (b:=tc) (fun k=>⟨[.aa b (l.map enc),f,am,am,ap l.length,ap k,am,am],[]⟩) l.length
  (.ext 0,⟨[.aa b (l.map enc),f,am,am,ap l.length,ap l.length,aC false,am],[]⟩)
  (fun k d=>c k d _ (au d) (i _ (aJ d)))
  (by simp[tc])
 simp at a;simp[atb,Zw,m,a,n]
theorem uU{c:Type}{enc:c→aq}{b:Bool}{l:List c}{f:aq}{p:c→Bool}(g:l.length≤bD)(e:∀y,aM (enc y)=9∧isAgg (enc y)=true)(d:rW f)
  (h:∀y∈l,jh code f [enc y] []=some (aC (p y),[])):bB I.qgh [.aa b (l.map enc),f]=some (aC (l.any p)):=by
 rw[aR akN rfl];have h:=wz (b:=b) g e d h;have a:=d [];unfold wc at h;cases ha:l.any p<;>rw[ha]at h<;>simp[atM,ag7,a,h]
theorem wj{s:Type}{enc:s→aq}{b:Bool}{l:List s}{f:aq}{p:s→Bool}(v:l.length≤bD)(t:∀y,aM (enc y)=2∧isAgg (enc y)=true)(x:rW f)
  (h:∀y∈l,jh code f [enc y] []=some (aC (p y),[])):bB I.qgx [.aa b (l.map enc),f]=some (ap (wc p l)):=by
 rw[aR anQ rfl];have m:=x [];have c:∀k,k<l.length→∀y,l[k]?=some y→p y=false→dh 0 [2,3,6,7] tN (run code tN ⟨[.aa b (l.map enc),f,am,am,ap l.length,ap k,am,am],[]⟩) =
   bT code 0 [2,3,6,7] tN ⟨[.aa b (l.map enc),f,am,am,ap l.length,ap (k+1:Nat),am,am],[]⟩:=fun k d y o r=>by
  have q:=t y;have g:=h y (aN o);rw[r]at g;have e:((k:Int)<(l.length:Int)):=by omega
  simp[tN,o,q,g,e,cU d v,cO]
 unfold wc;by_cases n:l.any p=true
 ·have e:=bQ (cB.1 n);have r:p l[l.findIdx p]=true:=du (w:=e);have a:=cY (base:=0) (clr:=[2,3,6,7]) (b:=tN) (fun k=>⟨[.aa b (l.map enc),f,am,am,ap l.length,ap k,am,am],[]⟩) (l.findIdx p)
   (.ret,⟨[.aa b (l.map enc),f,ap (l.findIdx p),ap (l.findIdx p),ap l.length,ap (l.findIdx p),aC true,aC true],[]⟩)
   (fun k d=>c k (by omega) _ (au (by omega)) (by simpa using cW d))
   (by
    have u:l[l.findIdx p]?=some l[l.findIdx p]:=au e;have q:=t l[l.findIdx p];have g:=h _ (aJ e);rw[r]at g;have j:((l.findIdx p:Int)<(l.length:Int)):=by omega
    simp[tN,u,q,g,j])
  simp at a;simp[asx,YW,m,a,n]
 have i:∀y∈l,p y=false:=fun y o=>by simpa using cS.1 (eB _▸n) y o
 have a:=cY (base:=0) (clr:=[2,3,6,7]) (b:=tN) (fun k=>⟨[.aa b (l.map enc),f,am,am,ap l.length,ap k,am,am],[]⟩) l.length
  (.ext 0,⟨[.aa b (l.map enc),f,am,am,ap l.length,ap l.length,aC false,am],[]⟩)
  (fun k d=>c k d _ (au d) (i _ (aJ d)))
  (by simp[tN])
 simp at a;simp[asx,YW,m,a,n]
theorem uk{c:Type}{enc:c→aq}{b:Bool}{l:List c}{f:aq}{p:c→Bool}(g:l.length≤bD)(e:∀y,aM (enc y)=2∧isAgg (enc y)=true)(d:rW f)
  (h:∀y∈l,jh code f [enc y] []=some (aC (p y),[])):bB I.qgg [.aa b (l.map enc),f]=some (aC (l.any p)):=by
 rw[aR akv rfl];have h:=wj (b:=b) g e d h;have a:=d [];unfold wc at h;cases ha:l.any p<;>rw[ha]at h<;>simp[auN,afn,a,h]
theorem tj{s:Type}{enc:s→aq}{b:Bool}{l:List s}{f:aq}{p:s→Bool}(v:l.length≤bD)(t:∀y,aM (enc y)=9∧isAgg (enc y)=true)(x:rW f)
  (h:∀y∈l,jh code f [enc y] []=some (aC (p y),[])):bB I.qha [.aa b (l.map enc),f]=some (ap (wc p l)):=by
 rw[aR al5 rfl];have m:=x [];have c:∀k,k<l.length→∀y,l[k]?=some y→p y=false→dh 0 [2,3,6,7] tO (run code tO ⟨[.aa b (l.map enc),f,am,am,ap l.length,ap k,am,am],[]⟩) =
   bT code 0 [2,3,6,7] tO ⟨[.aa b (l.map enc),f,am,am,ap l.length,ap (k+1:Nat),am,am],[]⟩:=fun k d y o r=>by
  have q:=t y;have g:=h y (aN o);rw[r]at g;have e:((k:Int)<(l.length:Int)):=by omega
  simp[tO,o,q,g,e,cU d v,cO]
 unfold wc;by_cases n:l.any p=true
 ·have e:=bQ (cB.1 n);have r:p l[l.findIdx p]=true:=du (w:=e);have a:=cY (base:=0) (clr:=[2,3,6,7]) (b:=tO) (fun k=>⟨[.aa b (l.map enc),f,am,am,ap l.length,ap k,am,am],[]⟩) (l.findIdx p)
   (.ret,⟨[.aa b (l.map enc),f,ap (l.findIdx p),ap (l.findIdx p),ap l.length,ap (l.findIdx p),aC true,aC true],[]⟩)
   (fun k d=>c k (by omega) _ (au (by omega)) (by simpa using cW d))
   (by
    have u:l[l.findIdx p]?=some l[l.findIdx p]:=au e;have q:=t l[l.findIdx p];have g:=h _ (aJ e);rw[r]at g;have j:((l.findIdx p:Int)<(l.length:Int)):=by omega
    simp[tO,u,q,g,j])
  simp at a;simp[asR,Yr,m,a,n]
 have i:∀y∈l,p y=false:=fun y o=>by simpa using cS.1 (eB _▸n) y o
 have a:=cY (base:=0) (clr:=[2,3,6,7]) (b:=tO) (fun k=>⟨[.aa b (l.map enc),f,am,am,ap l.length,ap k,am,am],[]⟩) l.length
  (.ext 0,⟨[.aa b (l.map enc),f,am,am,ap l.length,ap l.length,aC false,am],[]⟩)
  (fun k d=>c k d _ (au d) (i _ (aJ d)))
  (by simp[tO])
 simp at a;simp[asR,Yr,m,a,n]
theorem rq{c:Type}{enc:c→aq}{b:Bool}{l:List c}{f:aq}{p:c→Bool}(g:l.length≤bD)(e:∀y,aM (enc y)=9∧isAgg (enc y)=true)(d:rW f)
  (h:∀y∈l,jh code f [enc y] []=some (aC (p y),[])):bB I.qgj [.aa b (l.map enc),f]=some (aC (l.any p)):=by
 rw[aR akX rfl];have h:=tj (b:=b) g e d h;have a:=d [];unfold wc at h;cases ha:l.any p<;>rw[ha]at h<;>simp[ava,af9,a,h]
theorem yt{s:Type}{enc:s→aq}{b:Bool}{l:List s}{f:aq}{p:s→Bool}(v:l.length≤bD)(t:∀y,aM (enc y)=2∧isAgg (enc y)=true)(x:rW f)
  (h:∀y∈l,jh code f [enc y] []=some (aC (p y),[])):bB I.qgv [.aa b (l.map enc),f]=some (ap (wc p l)):=by
 rw[aR amL rfl];have m:=x [];have c:∀k,k<l.length→∀y,l[k]?=some y→p y=false→dh 0 [2,3,6,7] sZ (run code sZ ⟨[.aa b (l.map enc),f,am,am,ap l.length,ap k,am,am],[]⟩) =
   bT code 0 [2,3,6,7] sZ ⟨[.aa b (l.map enc),f,am,am,ap l.length,ap (k+1:Nat),am,am],[]⟩:=fun k d y o r=>by
  have q:=t y;have g:=h y (aN o);rw[r]at g;have e:((k:Int)<(l.length:Int)):=by omega
  simp[sZ,o,q,g,e,cU d v,cO]
 unfold wc;by_cases n:l.any p=true
 ·have e:=bQ (cB.1 n);have r:p l[l.findIdx p]=true:=du (w:=e);have a:=cY (base:=0) (clr:=[2,3,6,7]) (b:=sZ) (fun k=>⟨[.aa b (l.map enc),f,am,am,ap l.length,ap k,am,am],[]⟩) (l.findIdx p)
   (.ret,⟨[.aa b (l.map enc),f,ap (l.findIdx p),ap (l.findIdx p),ap l.length,ap (l.findIdx p),aC true,aC true],[]⟩)
   (fun k d=>c k (by omega) _ (au (by omega)) (by simpa using cW d))
   (by
    have u:l[l.findIdx p]?=some l[l.findIdx p]:=au e;have q:=t l[l.findIdx p];have g:=h _ (aJ e);rw[r]at g;have j:((l.findIdx p:Int)<(l.length:Int)):=by omega
    simp[sZ,u,q,g,j])
  simp at a;simp[asM,X7,m,a,n]
 have i:∀y∈l,p y=false:=fun y o=>by simpa using cS.1 (eB _▸n) y o
 have a:=cY (base:=0) (clr:=[2,3,6,7]) (b:=sZ) (fun k=>⟨[.aa b (l.map enc),f,am,am,ap l.length,ap k,am,am],[]⟩) l.length
  (.ext 0,⟨[.aa b (l.map enc),f,am,am,ap l.length,ap l.length,aC false,am],[]⟩)
  (fun k d=>c k d _ (au d) (i _ (aJ d)))
  (by simp[sZ])
 simp at a;simp[asM,X7,m,a,n]
end Go.AM
namespace Go.AM
open P
set_option maxHeartbeats 64000000
set_option maxRecDepth 40000
attribute [local simp] aG bj
theorem aiq(s:List UInt8)(M:s.length≤8000):∀m k (a:List UInt8),s.length-k≤m→a.length≤k →
  (∃(q:St) (t:List UInt8) (n:Nat) (ok:Bool),bT code 1 [1,2,3,6,7,8] mc ⟨[aO s,am,am,am,.sl 0 a.length 0 a.length,ap k,am,am,am],[aB 1 a.length (a.map PM)]⟩=some (.ret,q) ∧
   q.env[1]?=some (aO t)∧q.env[2]?=some (ap n)∧q.env[3]?=some (aC ok)∧0<n∧n≤s.length∧t.length≤s.length) ∨
  (∃(l K:Nat) (o:Obj),bT code 1 [1,2,3,6,7,8] mc ⟨[aO s,am,am,am,.sl 0 a.length 0 a.length,ap k,am,am,am],[aB 1 a.length (a.map PM)]⟩ =
   some (.ext 0,⟨[aO s,am,am,am,.sl 0 l 0 l,ap K,aC false,am,am],[o]⟩)):=by
 intro m;induction m with
 |zero=>
  intro k a h I;have v:¬(k:Int)<(s.length:Int):=by omega
  refine .inr ⟨a.length,k,aB 1 a.length (a.map PM),?_⟩;rw[aZ];simp[mc,v]
 |succ m H=>
  intro k a h I;by_cases v:k<s.length
  ·have i:(k:Int)<(s.length:Int):=by omega
   have A:s[k]?=some s[k]:=au v;have G:s.length≤bD:=by unfold bD;omega
   have B:=cU v G;have w:a.length+1≤bD:=by unfold bD;omega
   have j:List.take a.length (a.map PM)=a.map PM:=ay (by simp);generalize J:s[k]=c at *;have g:∀h:k<s.length,s[k]'h=c:=fun _=>J;by_cases C:c.toNat=39
   ·have f:((c.toNat:Int) != 39)=false:=by rw[C];rfl
    by_cases x:k+1<s.length
    ·have F:((k+1:Nat):Int)<(s.length:Int):=by omega
     have z:s[k+1]?=some s[k+1]:=au x;have N:=cU x G;generalize D:s[k+1]=d at *;have p:∀h:k+1<s.length,s[k+1]'h=d:=fun _=>D;have b:((k:Int)+1)<(s.length:Int):=by omega
     have y:(0:Int)≤(k:Int)+1:=by omega
     by_cases hd:d.toNat=39
     ·have u:((d.toNat:Int)==39)=true:=by rw[hd];rfl
      have hi:=H (k+2) (a++[c]) (by omega) (by simp;omega);have e:dh 1 [1,2,3,6,7,8] mc (run code mc ⟨[aO s,am,am,am,.sl 0 a.length 0 a.length,ap k,am,am,am],[aB 1 a.length (a.map PM)]⟩) =
        bT code 1 [1,2,3,6,7,8] mc ⟨[aO s,am,am,am,.sl 0 (a++[c]).length 0 (a++[c]).length,ap (k+2:Nat),am,am,am],[aB 1 (a++[c]).length ((a++[c]).map PM)]⟩:=by
       have L:IntKind.i64.wrap ((k:Int)+1+1)=(k:Int)+2:=by rw[pT (by omega) (by omega)];omega
       simp[mc,i,A,g,f,B,b,y,z,p,u,append,w,j,L,bN,PM]
      rw[aZ,e];exact hi
     have u:((d.toNat:Int)==39)=false:=by simp;omega
     obtain⟨t,E⟩:=S7 a;have r:=Py a;refine .inl ?_;rw[aZ];exact⟨_,a,k+1,t,by simp[mc,i,A,g,f,B,b,y,z,p,u,E,j,r];rfl,rfl,by simp,rfl,by omega,by omega,by omega⟩
    have b:¬((k:Int)+1)<(s.length:Int):=by omega
    obtain⟨t,E⟩:=S7 a;have r:=Py a;refine .inl ?_;rw[aZ];exact⟨_,a,k+1,t,by simp[mc,i,A,g,f,B,b,E,j,r];rfl,rfl,by simp,rfl,by omega,by omega,by omega⟩
   have f:((c.toNat:Int) != 39)=true:=by simp;omega
   have hi:=H (k+1) (a++[c]) (by omega) (by simp;omega);have e:dh 1 [1,2,3,6,7,8] mc (run code mc ⟨[aO s,am,am,am,.sl 0 a.length 0 a.length,ap k,am,am,am],[aB 1 a.length (a.map PM)]⟩) =
     bT code 1 [1,2,3,6,7,8] mc ⟨[aO s,am,am,am,.sl 0 (a++[c]).length 0 (a++[c]).length,ap (k+1:Nat),am,am,am],[aB 1 (a++[c]).length ((a++[c]).map PM)]⟩:=by
    simp[mc,i,A,g,f,B,append,w,j,bN,PM]
   rw[aZ,e];exact hi
  have v:¬(k:Int)<(s.length:Int):=by omega
  refine .inr ⟨a.length,k,aB 1 a.length (a.map PM),?_⟩;rw[aZ];simp[mc,v]
theorem aao(s:List UInt8)(i:s.length≤8000):∃(t:List UInt8) (n:Nat) (ok:Bool),bB I.qct [aO s]=some (fb [aO t,ap n,aC ok])∧n≤s.length∧(ok=true→0<n)∧t.length≤s.length:=by
 rw[aR am8 rfl];rcases aiq s i s.length 1 [] (by omega) (by simp) with⟨q,t,n,ok,h,a,b,c,d,f,g⟩|⟨l,j,o,h⟩
 ·simp at h;exact⟨t,n,ok,by simp[asE,abW,h,a,b,c],f,(fun _=>d),g⟩
 simp at h;exact⟨[],0,false,by simp[asE,abW,h],by omega,(fun e=>by cases e),by simp⟩
theorem OR(s:List UInt8)(c:s.length≤8000)(a:s≠[])(σ:aw):∃(n:Int) (ok:Bool),cD code I.lex_number [aO s] σ=some (fb [.int .u64 n,aC ok],σ):=by
 have key:∃(n:Int) (ok:Bool),wt [aO s] σ=some (fb [.int .u64 n,aC ok],σ):=by
  cases s with
  |nil=>exact absurd rfl a
  |cons b s=>
   unfold wt;simp only;rw[if_pos c];split
   ·split
    ·exact⟨_,_,rfl⟩
    exact⟨_,_,rfl⟩
   exact⟨_,_,rfl⟩
 obtain⟨n,ok,h⟩:=key;exact⟨n,ok,wV good (k:=8) (n:=0) Nl h⟩
abbrev rv(k at':Int)(t:List UInt8)(n:Int):aq:=aH [ap k,ap at',aO t,.int .u64 n]
theorem YV(s t:List UInt8):∃b,bB I.qhh [aO s,aO t]=some (aC b):=by
 have key:∃b,bB I.qcf [aO s,aO t]=some (aC b):=by
  rw[aR alc rfl];by_cases h:(t.length:Int)≤(s.length:Int)
  ·have a:t.length≤s.length:=by omega
   simp[att,X8,h,a,eT]
  simp[att,X8,h,eT]
 obtain⟨b,h⟩:=key;rw[aR amu rfl];exact⟨b,by simp[atv,ahj,h]⟩
theorem NM(x s:List UInt8)(b:Bool):∃t,bB I.qcp [aO x,.cptr b (aO s) 0]=some (aC t):=by
 rw[aR aor rfl];obtain⟨t,h⟩:=YV s x;exact⟨t,by cases b<;>simp[au1,afN,h]⟩
def II:List (List UInt8):=[[60,62],[60,61],[62,61],[40],[41],[44],[46],[42],[43],[45],[47],[61],[60],[62]]
theorem aiU(s:List UInt8)(b a:Bool):∃k:Int,bB I.qhe [.aa a (II.map aO),.fn I.qcp [] [.cptr b (aO s) 0]]=some (ap k)∧-1≤k∧k<14:=by
 obtain⟨g,d⟩:∃g:List UInt8→Bool,∀x,bB I.qcp [aO x,.cptr b (aO s) 0]=some (aC (g x)):=⟨fun x=>(NM x s b).choose,fun x=>(NM x s b).choose_spec⟩;refine⟨_,AG (enc:=aO) (p:=g) (by decide) (fun y=>⟨rfl,rfl⟩) (fun σ=>by cases b<;>simp) (fun y _=>by cases b<;>simp[d]),?_⟩;unfold wc;split
 ·rename_i h;have:=bQ (cB.1 h);have c:II.length=14:=rfl;omega
 omega
theorem ana(s:List UInt8)(a:s.length≤8000)(σ:aw):cD code I.strings_ToUpper [aO s] σ=some (aO (upS s),σ):=KM s a σ
theorem adK(s:List UInt8)(E:s≠[])(N:s.length≤8000):∃(k:Int) (t:List UInt8) (n:Int) (m:Nat) (ok:Bool),bB I.qco [aO s]=some (fb [rv k 0 t n,ap m,aC ok])∧m≤8000∧(ok=true→0<m)∧t.length≤8000:=by
 rw[aR anr rfl];have g:0<s.length:=eZ.2 E;have i:s[0]?=some s[0]:=au g;generalize K:s[0]=c at *;have d:∀h:0<s.length,s[0]'h=c:=fun _=>K;by_cases w:c.toNat=39
 ·have f:((c.toNat:Int)==39)=true:=by rw[w];rfl
  obtain⟨t,n,ok,M,P,J,Q⟩:=aao s N;exact⟨4,t,0,n,ok,by simp[arF,pN,g,i,d,f,M],by omega,J,by omega⟩
 have f:((c.toNat:Int)==39)=false:=by simp;omega
 obtain⟨k,l,z⟩:=aoy s;by_cases b:0<k
 ·have a:(0:Int)<(k:Int):=by omega
  have u:s.take k≠[]:=by
   intro h;rcases List.take_eq_nil_iff.1 h with h|h
   ·omega
   exact E h
  have p:(s.take k).length≤8000:=by simp;omega
  have q:¬(s.length<k):=by omega
  obtain⟨n,ok,_⟩:=OR (s.take k) p u [];have v:∀σ,∃(n:Int) (ok:Bool),cD code I.lex_number [aO (s.take k)] σ=some (fb [.int .u64 n,aC ok],σ):=OR (s.take k) p u;obtain⟨n,ok,A⟩:=v [aB 1 0 [aO s],aB 4 0 [rv 0 0 [] 0]];have F:=fun σ=>ana (s.take k) p σ;have G:=Tw (upS (s.take k));have B:=nZ (s.take k);have C:sG.any (· == upS (s.take k))=true→(upS (s.take k)).length≤8000:=fun h=>by
   obtain⟨x,O,f⟩:=cB.1 h;rw[←eq_of_beq f];exact (show ∀x∈sG,x.length≤8000 by decide) x O
  generalize upS (s.take k)=H at *;generalize sG.any (· == H)=isw at *;generalize iy (s.take k)=D at *;cases ok with
  |true=>exact⟨3,[],n,k,true,by simp[arF,pN,g,i,d,f,l,a,b,q,z,vK,A],by omega,(fun _=>b),by simp⟩
  |false=>
   cases isw with
   |true=>exact⟨1,H,0,k,true,by simp[arF,pN,g,i,d,f,l,a,b,q,z,vK,A,F,G],by omega,(fun _=>b),C rfl⟩
   |false=>exact⟨2,s.take k,0,k,D,by simp[arF,pN,g,i,d,f,l,a,b,q,z,vK,A,F,G,B],by omega,(fun _=>b),p⟩
 have a:¬(0:Int)<(k:Int):=by omega
 obtain⟨j,o,j1,j2⟩:=aiU s true false;have L:(gl2:aq)=aH (II.map aO):=rfl;by_cases y:j<0
 ·refine⟨0,[],0,0,false,?_,by omega,(fun e=>by cases e),by simp⟩;simp only[II,aV,bm]at o;simp[arF,pN,g,i,d,f,l,a,b,o,y]
 have r:j=0∨j=1∨j=2∨j=3∨j=4∨j=5∨j=6∨j=7∨j=8∨j=9∨j=10∨j=11∨j=12∨j=13:=by omega
 simp only[II,aV,bm]at o;rcases r with rfl|rfl|rfl|rfl|rfl|rfl|rfl|rfl|rfl|rfl|rfl|rfl|rfl|rfl
 ·exact⟨5,[60,62],0,2,true,by simp[arF,pN,g,i,d,f,l,a,b,o],by omega,(fun _=>by omega),by simp⟩
 ·exact⟨5,[60,61],0,2,true,by simp[arF,pN,g,i,d,f,l,a,b,o],by omega,(fun _=>by omega),by simp⟩
 ·exact⟨5,[62,61],0,2,true,by simp[arF,pN,g,i,d,f,l,a,b,o],by omega,(fun _=>by omega),by simp⟩
 ·exact⟨5,[40],0,1,true,by simp[arF,pN,g,i,d,f,l,a,b,o],by omega,(fun _=>by omega),by simp⟩
 ·exact⟨5,[41],0,1,true,by simp[arF,pN,g,i,d,f,l,a,b,o],by omega,(fun _=>by omega),by simp⟩
 ·exact⟨5,[44],0,1,true,by simp[arF,pN,g,i,d,f,l,a,b,o],by omega,(fun _=>by omega),by simp⟩
 ·exact⟨5,[46],0,1,true,by simp[arF,pN,g,i,d,f,l,a,b,o],by omega,(fun _=>by omega),by simp⟩
 ·exact⟨5,[42],0,1,true,by simp[arF,pN,g,i,d,f,l,a,b,o],by omega,(fun _=>by omega),by simp⟩
 ·exact⟨5,[43],0,1,true,by simp[arF,pN,g,i,d,f,l,a,b,o],by omega,(fun _=>by omega),by simp⟩
 ·exact⟨5,[45],0,1,true,by simp[arF,pN,g,i,d,f,l,a,b,o],by omega,(fun _=>by omega),by simp⟩
 ·exact⟨5,[47],0,1,true,by simp[arF,pN,g,i,d,f,l,a,b,o],by omega,(fun _=>by omega),by simp⟩
 ·exact⟨5,[61],0,1,true,by simp[arF,pN,g,i,d,f,l,a,b,o],by omega,(fun _=>by omega),by simp⟩
 ·exact⟨5,[60],0,1,true,by simp[arF,pN,g,i,d,f,l,a,b,o],by omega,(fun _=>by omega),by simp⟩
 exact⟨5,[62],0,1,true,by simp[arF,pN,g,i,d,f,l,a,b,o],by omega,(fun _=>by omega),by simp⟩
structure vq where
 k:Int
 at':Int
 t:List UInt8
 n:Int
 h:t.length≤8000
def vq.a(x:vq):aq:=rv x.k x.at' x.t x.n
instance:Nc vq.a 4 true:=⟨fun _=>rfl,fun _=>rfl⟩
instance:Fx vq.a:=⟨fun fl top base σ m x=>by simp[vq.a]⟩
abbrev PL(toks:List vq)(r1 r2 r3:aq)(o:Obj):aw:=[aB 1 0 [r1],aB 1 0 [r2],aB 1 0 [r3],aB 1 0 [.sl 4 toks.length 0 toks.length],aB 4 toks.length (toks.map vq.a),o]
abbrev MC(text:List UInt8):List aq:=[aO text,aI 0 0 0 0,aI 1 0 0 0,aI 2 0 0 0,aI 3 0 0 0,am,am,aC false,.fn I.qcl [] [.cptr false (aO text) 0],am,am,am]
theorem aeo(text:List UInt8)(a:List vq)(d:a.length+1≤bD)(x:vq)(ok:Bool)(X:aw) :
  cD code I.lex_Tokens_r0 (.frs 5 []::(MC text++[x.a,aC ok])) (PL a .ai (ap 0) (ap 0) (.pend false none)++X) =
   some (aC ok,(if ok then PL (a++[x]) .ai (ap 0) (ap 0) (.pend false none) else PL a .ai (ap x.at') (ap 170) (.pend false (some .ret)))++X++[aB 4 0 [x.a]]):=by
 rw[EQ good (g:=pZ) rfl];have c:List.take a.length (a.map vq.a)=a.map vq.a:=ay (by simp);have b:x.a=rv x.k x.at' x.t x.n:=rfl;cases ok
 ·simp[pZ,sz,uv,sH,sg,lF,b]
 simp[pZ,sz,uv,sH,sg,lF,append,d,c,b]
theorem aif(s:List UInt8)(c:Int)(σ:aw):∃n:Int,bB I.qhi [aO s,.int .u8 c]=some (ap n):=by
 have h:∀σ,cD code I.internal_bytealg_IndexByteString [aO s,.int .u8 c] σ=some (ap (Lib.indexByte s c.toNat.toUInt8),σ):=fun σ=>wV good (k:=6) (n:=0) pq rfl;have a:bB I.qcg [aO s,.int .u8 c]=some (ap (Lib.indexByte s c.toNat.toUInt8)):=by
  rw[aR alA rfl];simp[au7,agW,h]
 rw[aR am9 rfl];exact⟨_,by simp[atX,af7,a];rfl⟩
abbrev Do(text:List UInt8)(k:Nat)(c:aq):List aq:=[.yld 5 I.lex_Tokens_r0 (MC text),.cptr false (aO text) 0,ap k,am,am,am,c,am,am]
noncomputable abbrev WE(text:List UInt8)(k:Nat)(toks:List vq):Option (Ex×St):=bT code 6 [3,4,5,6,7,8] qQ ⟨Do text k am,PL toks .ai (ap 0) (ap 0) (.pend false none)⟩
theorem aii(text:List UInt8)(M:text.length≤600):∀m k (b:List vq),text.length-k≤m→b.length≤k→b.length≤600→k≤8600 →
  ∃(env:List aq) (f:List vq) (X:aw),f.length≤600∧((∃a:Int,WE text k b=some (.ext 0,⟨env,PL f .ai (ap a) (ap 170) (.pend false (some .ret))++X⟩)) ∨
   WE text k b=some (.ext 0,⟨env,PL f .ai (ap 0) (ap 0) (.pend false none)++X⟩)):=by
 intro m;induction m with
 |zero=>
  intro k b h _ r _;have d:¬(k:Int)<(text.length:Int):=by omega
  refine⟨Do text k (aC false),b,[],r,.inr ?_⟩;rw[WE,aZ];simp[qQ,d]
 |succ m D=>
  intro k b h G r F;by_cases C:k<text.length
  ·have d:(k:Int)<(text.length:Int):=by omega
   have z:text[k]?=some text[k]:=au C;have H:text.length≤bD:=by unfold bD;omega
   have A:=cU C H;have x:text.drop k≠[]:=by
    intro h;have:=congrArg List.length h;simp at this;omega
   obtain⟨i,t,j,v,ok,B,J,s,g⟩:=adK (text.drop k) x (by simp;omega);generalize E:text[k]=c at *;have p:∀h:k<text.length,text[k]'h=c:=fun _=>E;obtain⟨n,w⟩:=aif [32,9,10,13] c.toNat [];have o:k≤text.length:=by omega
   have u:List.take (text.length-k) (text.drop k)=text.drop k:=ay (by simp);by_cases y:0≤n
   ·have hi:=D (k+1) b (by omega) (by omega) r (by omega);have e:dh 6 [3,4,5,6,7,8] qQ (run code qQ ⟨Do text k am,PL b .ai (ap 0) (ap 0) (.pend false none)⟩)=WE text (k+1) b:=by
     simp only[WE,Do];simp[qQ,d,z,p,w,y,A,bN]
    rw[WE,aZ,e];exact hi
   have l:=fun ok X=>aeo text b (by unfold bD;omega) ⟨i,k,t,j,g⟩ ok X;have q:(vq.a ⟨i,k,t,j,g⟩)=rv i k t j:=rfl;cases ok with
   |false=>
    have l:=l false [aB 4 0 [rv i k t j]];refine⟨[.yld 5 I.lex_Tokens_r0 (MC text),.cptr false (aO text) 0,ap k,aI 6 0 0 0,ap v,aC false,aC true,aC false,aC true],b,[aB 4 0 [rv i k t j],aB 4 0 [rv i k t j]],r,.inl ⟨k,?_⟩⟩;rw[WE,aZ];simp only[PL,MC,q,bY,bX,bq,cH]at l ⊢;simp[qQ,d,z,p,w,y,A,vK,o,u,B,l,pt]
   |true=>
    have l:=l true [aB 4 0 [rv i k t j]];have L:=s rfl;have hi:=D (k+v) (b++[⟨i,k,t,j,g⟩]) (by omega) (by simp;omega) (by simp;omega) (by omega);have K:IntKind.i64.wrap ((k:Int)+(v:Int))=((k+v:Nat):Int):=by rw[pT (by omega) (by omega)];omega
    have e:dh 6 [3,4,5,6,7,8] qQ (run code qQ ⟨Do text k am,PL b .ai (ap 0) (ap 0) (.pend false none)⟩)=WE text (k+v) (b++[⟨i,k,t,j,g⟩]):=by
     simp only[WE,Do,PL,MC,q,bY,bX,cw]at l ⊢;simp[qQ,d,z,p,w,y,A,K,vK,o,u,B,l,pt,bN,bA,cq,dF,Qm,q]
    rw[WE,aZ,e];exact hi
  have d:¬(k:Int)<(text.length:Int):=by omega
  refine⟨Do text k (aC false),b,[],r,.inr ?_⟩;rw[WE,aZ];simp[qQ,d]
theorem alK(text:List UInt8)(b:Bool):bB I.qck [aO text]=some (.fn I.qcl [] [.cptr false (aO text) 0]):=by
 rw[aR al3 rfl];simp[auf,agp]
theorem aaS(text:List UInt8)(j:text.length≤600):∃(b:List vq) (a e:Int),b.length≤600∧bB I.qcj [aO text]=some (fb [.aa false (b.map vq.a),ap a,ap e]):=by
 have h:¬(600:Int)<(text.length:Int):=by omega
 have g:=alK text false;obtain⟨env,b,X,i,d⟩:=aii text j text.length 0 [] (by omega) (by simp) (by simp) (by omega);rcases d with⟨a,d⟩|d
 ·refine⟨[],a,170,by simp,?_⟩;have c:cD code I.qcl [.yld 5 I.lex_Tokens_r0 (MC text),.cptr false (aO text) 0] (PL [] .ai (ap 0) (ap 0) (.pend false none))=some (fb [],PL b .ai (ap a) (ap 170) (.pend false (some .ret))++X):=by
   rw[cz aeS rfl];simp only[WE,Do,aY]at d;simp[asA,Yp,d]
  rw[aR ahp rfl];simp only[PL,MC,bm,bE,bY,bX]at c;simp[asI,Zr,h,g,c,sK]
 refine⟨b,0,0,i,?_⟩;have c:cD code I.qcl [.yld 5 I.lex_Tokens_r0 (MC text),.cptr false (aO text) 0] (PL [] .ai (ap 0) (ap 0) (.pend false none))=some (fb [],PL b .ai (ap 0) (ap 0) (.pend false none)++X):=by
  rw[cz aeS rfl];simp only[WE,Do,aY]at d;simp[asA,Yp,d]
 rw[aR ahp rfl];have f:List.take b.length (b.map vq.a)=b.map vq.a:=ay (by simp);simp only[PL,MC,bm,bE,bY,bX]at c;have k:∀(x:vq) σ,fz false false 0 σ 18 x.a=x.a:=fun x σ=>Fx.fx false false 0 σ 15 x;simp[asI,Zr,h,g,c,sK,f,k]
abbrev ahH(σ:aw):Prop:=∀τ b,σ.length≤b→σ.map (bA b τ)=σ
def rM(σ τ:aw)(v:aq):aq×aw:=if τ.length=σ.length then (v,τ) else (cq σ.length τ v,(τ.take σ.length).map (bA σ.length τ))
theorem Pq{σ:aw}(h:ahH σ)(o:Obj)(t:aw)(v:aq):rM σ (σ++o::t) v=(cq σ.length (σ++o::t) v,σ):=by
 unfold rM;rw[if_neg (by simp)];rw[fZ rfl,h _ _ (aF _)]
def Al(σ:aw)(res:List NG)(r:Option (Ex×St)):Option (aq×aw):=r.bind fun r=>match r.1 with
 |.ext _=>none
 |_=>(results r.2 res).map fun v=>rM σ r.2.st v
@[simp] theorem ab5(σ:aw)(a:List NG)(s:St):Al σ a (some (.ret,s))=(results s a).map fun v=>rM σ s.st v:=rfl
@[simp] theorem abX(σ:aw)(a:List NG)(s:St):Al σ a (some (.nrm,s))=(results s a).map fun v=>rM σ s.st v:=rfl
theorem cZ{f:Nat}{g:br}(h:code.fns f=.fn g)(a:g.mode=.trunc)(args:List aq)(σ:aw) :
  cD code f args σ=Al σ g.res (run code g.body ⟨args.take g.np++List.replicate (g.nenv-g.np) am,σ⟩):=by
 rw[zy good h];have b:enter g args σ=⟨args.take g.np++List.replicate (g.nenv-g.np) am,σ⟩:=by unfold enter;rw[a]
 rw[b];unfold Al;congr 1;funext r;obtain⟨e,s⟩:=r;unfold qV iu rM;rw[a];cases e<;>rfl
structure fY where
 toks:List vq
 en:Int
 at':Int
 er:Int
def fY.v(r:fY):aq:=aH [.aa false (r.toks.map vq.a),ap r.en,ap r.at',ap r.er]
abbrev gz(r:fY):Obj:=aB 4 0 [r.v]
theorem fY.v_is(r:fY):r.v=aH [.aa false (r.toks.map vq.a),ap r.en,ap r.at',ap r.er]:=rfl
theorem eF(r:fY)(fl top:Bool)(base:Nat)(σ:aw)(m:Nat):fz fl top base σ (m+3) r.v=r.v:=by simp[fY.v]
def uY(r:fY)(kind:Int)(ts:List (List UInt8)):Bool:=match r.toks with
 |[]=>false
 |t::_=>r.er==0&&t.k==kind&&(ts.isEmpty ||ts.any (· == t.t))
def fY.nx(r:fY):fY:=⟨r.toks.tail,r.en,r.at',r.er⟩
def gU(r:fY):Int:=match r.toks with
 |[]=>r.en
 |t::_=>t.at'
def nL(r:fY)(e a:Int):fY:=if r.er=0 then ⟨r.toks,r.en,a,e⟩ else r
theorem adw(l:Bool)(r:fY)(b:Int)(g:List (List UInt8))(k:g.length≤8000):bB I.qfd [.cptr true r.v 0,ap b,.aa l (g.map aO)]=some (aC (uY r b g)):=by
 rw[aR amD rfl];obtain⟨a,en,at',m⟩:=r;unfold uY;simp only[fY.v];by_cases f:m=0
 ·cases a with
  |nil=>simp[arZ,Ko,f]
  |cons t a=>
   have d:t.a=rv t.k t.at' t.t t.n:=rfl;have i:=tz l g t.t k;have c:¬((a.length:Int)+1=0):=by omega
   by_cases j:t.k=b
   ·cases hz:g with
    |nil=>simp[arZ,Ko,f,d,j,c]
    |cons s h=>
     have n:¬((h.length:Int)+1=0):=by omega
     rw[hz]at i;generalize e:(s::h).any (· == t.t)=an at *;simp only[iF]at e;simp only[aV]at i;simp[arZ,Ko,f,d,j,n,c,i];exact e.symm
   simp[arZ,Ko,f,d,j,c]
 cases a<;>simp[arZ,Ko,f]
theorem tC(r:fY):bB I.qfn [.cptr true r.v 0]=some (ap (gU r)):=by
 rw[aR aoc rfl];obtain⟨a,en,at',d⟩:=r;unfold gU;simp only[fY.v];cases a with
 |nil=>simp[atp,Zx]
 |cons t a=>
  have b:t.a=rv t.k t.at' t.t t.n:=rfl;have c:¬((a.length:Int)+1=0):=by omega
  simp[atp,Zx,b,c]
structure At (σ:aw) (id:Nat) (r:fY):Prop where
 get:σ[id]?=some (gz r)
 firm:ahH σ
theorem At.lt{σ:aw}{id:Nat}{r:fY}(h:At σ id r):id<σ.length:=(ak.1 h.get).1
theorem Iq(r:fY)(b:Nat)(τ:aw):bA b τ (gz r)=gz r:=by
 simp[bA,cq,dF,eF]
theorem At.set{σ:aw}{id:Nat}{r:fY}(h:At σ id r)(a:fY):At (σ.set id (gz a)) id a:=
 ⟨by simp[h.lt],fun τ b c=>by rw[List.map_set,h.firm τ b (by simpa using c),Iq]⟩
theorem At.app{σ:aw}{id:Nat}{r:fY}(h:At σ id r)(t:aw)(c:∀τ b,σ.length+t.length≤b→t.map (bA b τ)=t):At (σ++t) id r:=
 ⟨by rw[aQ h.lt,h.get],fun τ b a=>by
  rw[cn]at a;rw[dg,h.firm τ b (by omega),c τ b a]⟩
theorem At.same{σ:aw}{id:Nat}{r:fY}(h:At σ id r):σ.set id (gz r)=σ:=by
 apply eY;intro i;by_cases hi:id=i
 ·subst hi;simp[h.lt,←h.get]
 rw[aD hi]
theorem At.snap{σ:aw}{id:Nat}{r:fY}(h:At σ id r):snap σ (aI id 0 0 0)=.cptr true r.v 0:=by
 have a:=h.get;simp[Go.AM.snap,dF,a,eF,jR]
theorem dM{σ:aw}{id:Nat}{r:fY}(h:At σ id r)(a:fY)(o:Obj)(t:aw)(v:aq):rM σ (σ.set id (gz a)++o::t) v=(cq σ.length (σ.set id (gz a)++o::t) v,σ.set id (gz a)):=by
 have:=Pq (h.set a).firm o t v;unfold rM at *;rw[gg]at this;exact this
theorem fB{σ τ:aw}(h:τ.length=σ.length)(v:aq):rM σ τ v=(v,τ):=by unfold rM;rw[if_pos h]
theorem PK(r:fY)(a:Int):bB I.qfd [.cptr true r.v 0,ap a,.aa false []]=some (aC (uY r a [])):=adw false r a [] (by simp)
theorem JG(r:fY)(a:Int)(s:List UInt8):bB I.qfd [.cptr true r.v 0,ap a,.aa true [aO s]]=some (aC (uY r a [s])):=adw true r a [s] (by simp)
theorem MZ{σ:aw}{id:Nat}{r:fY}(h:At σ id r)(X:aw):(σ++X)[id]?=some (gz r):=by rw[aQ h.lt,h.get]
theorem oH{σ:aw}{id:Nat}{r:fY}(h:At σ id r)(o:Obj)(X:aw):(σ.set id o++X)[id]?=some o:=by
 rw[aQ (by simpa using h.lt)];simp[h.lt]
theorem s9{σ:aw}{id:Nat}{r:fY}(h:At σ id r)(o:Obj)(X:aw):(σ++X).set id o=σ.set id o++X:=by rw[cG _ _ h.lt]
theorem set_set{σ:aw}{id:Nat}{r:fY}(h:At σ id r)(o o':Obj)(X:aw):(σ.set id o++X).set id o'=σ.set id o'++X:=by rw[cG _ _ (by simpa using h.lt),ez]
theorem oM{σ:aw}{id:Nat}{r:fY}(h:At σ id r)(e a:Int):cD code I.qfc [aI id 0 0 0,ap e,ap a] σ=some (fb [],σ.set id (gz (nL r e a))):=by
 have j:=h.same;rw[cZ akG rfl];have d:=h.get;have i:=h.lt;obtain⟨c,en,at',f⟩:=r;unfold nL;simp only[fY.v]at *;have b:∀h,σ[id]'h=aB 4 0 [aH [.aa false (c.map vq.a),ap en,ap at',ap f]]:=fun _=>(ak.1 d).2;by_cases g:f=0
 ·subst g;simp[asy,YJ,d,b,i,fB,gz,fY.v]
 simp[asy,YJ,d,b,i,g,fB,j]
theorem wq{σ:aw}{id:Nat}{r:fY}(h:At σ id r)(t:vq)(c:List vq)(l:r.toks=t::c):cD code I.qfj [aI id 0 0 0] σ=some (t.a,σ.set id (gz r.nx)):=by
 rw[cZ akn rfl];have a:=fun n o t v=>dM h n o t v;have b:=h.get;have g:=h.lt;obtain⟨m,en,at',d⟩:=r;simp only at l;subst l;simp only[fY.v,fY.nx,List.tail_cons,aV,gz]at *;have a:=a ⟨c,en,at',d⟩;simp only at a;have k:t.a=rv t.k t.at' t.t t.n:=rfl;rw[k]at b ⊢;have f:∀h,σ[id]'h=aB 4 0 [aH [.aa false (rv t.k t.at' t.t t.n::c.map vq.a),ap en,ap at',ap d]]:=fun _=>(ak.1 b).2;have e:∀X,(σ++X)[id]?=some (aB 4 0 [aH [.aa false (rv t.k t.at' t.t t.n::c.map vq.a),ap en,ap at',ap d]]):=fun X=>by rw[aQ g,b]
 have j:∀X Y,(σ++X).set id Y=σ.set id Y++X:=fun X Y=>by rw[cG _ _ g]
 have i:∀x:vq,aM x.a=4:=fun _=>rfl;simp[atW,agh,i,b,f,g,e,j,a,cq,dF]
end Go.AM
