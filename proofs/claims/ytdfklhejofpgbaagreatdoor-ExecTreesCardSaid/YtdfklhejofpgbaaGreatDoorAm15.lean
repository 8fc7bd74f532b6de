/- Part of the proof. -/
import Derived.Test.YtdfklhejofpgbaaGreatDoorAm14
set_option linter.unusedVariables false
set_option linter.unusedSimpArgs false
namespace Go.AM
open P
set_option maxHeartbeats 64000000
set_option maxRecDepth 40000
attribute [local simp] aW bK
def jU(e:List EN)(af:List Int):Bool:=(eC e af).2==0&&((eC e af).1==0 ||(eC e af).1==1)
theorem zE(b:Bool)(e:List EN)(bk:Bool)(af:List Int)(hn:e.length≤most)(hk:af.length≤most) :
  aK I.qfr [.agg [.aa b (e.map EN.a)],.aa bk (aZ af)]=some (.bool (jU e af)):=by
 rw[aA ajR rfl];have h:=fun b bk=>pD b e bk af hn hk;unfold jU;simp[art,acH,h]
 repeat' (split<;>(try simp_all))
abbrev rU(nd c1 c2:ap)(n:bL)(a b r:ap):Obj:=.arr 18 0 [.agg [nd,c1,c2,ar n.op,ar n.l,ar n.r,ar n.tab,.aa n.bk (n.af.map (.int .i64)),.bool n.left,.aa n.bc (n.cond.map EN.a),.aa n.by' (n.keys.map (.int .i64)),.aa n.bg (n.ai.map cC.a),.aa n.bi (n.items.map jM.a),.aa n.bo (n.ords.map jl),ar n.limit,a,b,r]]
def rD(n:bL):Bool:=!(n.af.any fun k=>decide (k<1) ||decide (3<k))&&decide (0≤n.tab)&&decide (n.tab<4)&&decide (0<n.af.length)&&decide (n.af.length≤4)
def xu(n:bL):Bool:=!(n.af.any fun k=>decide (k<0) ||decide (4<k))&&decide (0≤n.tab)&&decide (n.tab<30)&&decide (0<n.af.length)&&decide (n.af.length≤16)
theorem Oe(k:Int):aK I.qfl [ar k]=some (.bool (decide (k<1) ||decide (3<k))):=by
 rw[aA ai9 rfl];simp[ap1,aaw]
 repeat' (split<;>(try simp_all))
 all_goals omega
theorem M4(k:Int):aK I.qff [ar k]=some (.bool (decide (k<0) ||decide (4<k))):=by
 rw[aA ag1 rfl];simp[aqb,acN]
 repeat' (split<;>(try simp_all))
 all_goals omega
theorem TD(nd c1 c2:ap)(n:bL)(a b r:ap)(τ:ay)(hk:n.af.length≤most) :
  cA code I.qfk [.ptr 0 0 0 0] (rU nd c1 c2 n a b r::τ)=some (.bool (rD n),rU nd c1 c2 n a b (.aa n.bk (n.af.map (.int .i64)))::τ):=by
 rw[bp aip rfl];have hc:=fun b=>iF (enc:=.int .i64) (b:=b) (l:=n.af) (f:=.fn 272 [] []) (p:=fun k=>decide (k<1) ||decide (3<k)) hk (fun _=>⟨rfl,rfl⟩) (fun σ=>by simp) (fun k _=>by simp[Oe]);unfold rD;cases hA:n.af.any fun k=>decide (k<1) ||decide (3<k)<;>rw[hA]at hc<;>simp[arh,adS,hc]
 repeat' (split<;>(try simp_all))
 all_goals omega
theorem Ok(nd c1 c2:ap)(n:bL)(a b r:ap)(τ:ay)(hk:n.af.length≤most) :
  cA code I.qfe [.ptr 0 0 0 0] (rU nd c1 c2 n a b r::τ)=some (.bool (xu n),rU nd c1 c2 n a b (.aa n.bk (n.af.map (.int .i64)))::τ):=by
 rw[bp ajr rfl];have hc:=fun b=>iF (enc:=.int .i64) (b:=b) (l:=n.af) (f:=.fn 273 [] []) (p:=fun k=>decide (k<0) ||decide (4<k)) hk (fun _=>⟨rfl,rfl⟩) (fun σ=>by simp) (fun k _=>by simp[M4]);unfold xu;cases hA:n.af.any fun k=>decide (k<0) ||decide (4<k)<;>rw[hA]at hc<;>simp[arI,aaS,hc]
 repeat' (split<;>(try simp_all))
 all_goals omega
theorem KX(nd c1 c2:ap)(n:bL)(ba:Bool)(a:List Int)(b r:ap)(τ:ay)(hc:n.cond.length≤most)(ha:a.length≤most) :
  cA code I.qfb [.ptr 0 0 0 0] (rU nd c1 c2 n (.aa ba (aZ a)) b r::τ)=some (.bool (jU n.cond a),rU nd c1 c2 n (.aa ba (aZ a)) b (.aa ba (aZ a))::τ):=by
 rw[bp aj0 rfl];have h:=fun b bk=>zE b n.cond bk a hc ha;simp[aqz,abb,h]
theorem Nn(nd c1 c2:ap)(n:bL)(ba:Bool)(a:List Int)(b r:ap)(τ:ay) :
  cA code I.qfh [.ptr 0 0 0 0] (rU nd c1 c2 n (.aa ba (aZ a)) b r::τ)=some (.bool true,rU nd c1 c2 n (.aa ba (aZ a)) b (.aa ba (aZ a))::τ):=by
 rw[bp ahU rfl];simp[aq3,ac6]
theorem Ta(nd c1 c2:ap)(n:bL)(ba bb:Bool)(a b:List Int)(r:ap)(τ:ay)(hc:n.cond.length≤most)(ha:a.length+b.length≤most) :
  cA code I.qfg [.ptr 0 0 0 0] (rU nd c1 c2 n (.aa ba (aZ a)) (.aa bb (aZ b)) r::τ)=some (.bool (jU n.cond (a++b)),rU nd c1 c2 n (.aa ba (aZ a)) (.aa bb (aZ b)) (.aa false (aZ (a++b)))::τ):=by
 rw[bp ahu rfl];have h:=fun b' bk=>zE b' n.cond bk (a++b) hc (by simpa using ha);have hcc:∀t,aK I.qhc [.aa t [.aa ba (aZ a),.aa bb (aZ b)]]=some (.aa false (aZ (a++b))):=fun t=>by
  have:=vL (enc:=.int .i64) t [⟨ba,a⟩,⟨bb,b⟩] (by simpa using ha) (by simp[most]);simpa using this
 simp only[aZ,dy]at h hcc;simp[aqp,ads,h,hcc]
def sortF(n:bL)(a:List Int):Bool:=!(n.ords.any fun o=>decide (o.1<0) ||decide ((a.length:Int)≤o.1))&&decide (n.ords.length≤3)&&decide (-1≤n.limit)&&decide (n.limit≤2147483647)
theorem Pn(o:Int×Bool)(t t':Bool)(x0 x1 x2 x3 x4 x5 x6 x7 x8 x9 x10 x11 x12 x13 x14 x16 x17:ap)(ba:Bool)(a:List Int) :
  aK I.qfn [jl o,.cptr t (.cptr t' (.agg [x0,x1,x2,x3,x4,x5,x6,x7,x8,x9,x10,x11,x12,x13,x14,.aa ba (aZ a),x16,x17]) 0) 0]=some (.bool (decide (o.1<0) ||decide ((a.length:Int)≤o.1))):=by
 rw[aA ajj rfl];obtain⟨c,d⟩:=o;cases t<;>cases t'<;>simp[aqk,abg,jl]<;>(repeat' (split<;>(try simp_all)))<;>omega
theorem Nx(nd c1 c2:ap)(n:bL)(ba:Bool)(a:List Int)(b r:ap)(τ:ay)(ho:n.ords.length≤most) :
  ∃X,cA code I.qfm [.ptr 0 0 0 0] (rU nd c1 c2 n (.aa ba (aZ a)) b r::τ)=some (.bool (sortF n a),rU nd c1 c2 n (.aa ba (aZ a)) b (.aa ba (aZ a))::(τ++[X])):=by
 rw[bp aiG rfl];refine⟨.arr 1 0 [.ptr 0 0 0 0],?_⟩;unfold sortF;have hC:=mh (enc:=jl) (b:=n.bo) (l:=n.ords) (f:=fS (rU nd c1 c2 n (.aa ba (aZ a)) b (.aa ba (aZ a))::(τ++[.arr 1 0 [.ptr 0 0 0 0]])) (.fn 277 [] [.ptr (τ.length+1) 0 0 0])) (p:=fun o=>decide (o.1<0) ||decide ((a.length:Int)≤o.1)) ho (fun _=>⟨rfl,rfl⟩) (fun σ=>pJ _ _ _) (fun o _=>by
  have hz:∀σ,fz true false 0 σ 20 (jl o)=jl o:=fun σ=>Fx.fx true false 0 σ 17 o;simp[hz,Pn])
 simp at hC;cases hA:(n.ords.any fun o=>decide (o.1<0) ||decide ((a.length:Int)≤o.1))<;>rw[hA]at hC<;>simp[aqU,abF,hC];clear hC
 repeat' (split<;>(try simp_all))
 all_goals omega
@[simp] theorem Zu{α:Type}(τ:List α)(a:α)(t:List α):List.take (τ.length+1) (τ++a::t)=τ++[a]:=by
 rw[List.take_append];simp;exact av (by omega)
@[simp] theorem Ze{α:Type}(τ:List α)(a b:α)(t:List α):List.take (τ.length+2) (τ++a::b::t)=τ++[a,b]:=by
 rw[List.take_append];simp;exact av (by omega)
abbrev fo(bn:Bool)(ac:List bL)(ep1 m1 ep2 m2:Nat)(n:bL)(a b r:ap):Obj:=rU (.aa bn (ac.map bL.a)) (.sl 1 ep1 0 m1) (.sl 2 ep2 0 m2) n a b r
abbrev Fzs(τ:ay):Prop:=∀base σ,τ.map (aH base σ)=τ
def oe(a:List Int):List jM→Option (List Int)
 |[]=>some []
 |e::r=>if (eC e.l a).2=0 then (oe a r).map ((eC e.l a).1::·) else none
def KE(a:List Int)(_:Nat)(e:jM)(acc:Nat×List Int):Nat×List Int⊕Unit:=if (eC e.l a).2=0 then .inl (acc.1+1,acc.2++[(eC e.l a).1]) else .inr ()
theorem FP(a:List Int):∀(l:List jM) (k ep:Nat) (acc:List Int),aV (KE a) l k (ep,acc)=match oe a l with
  |some r=>.inl (ep+l.length,acc++r)
  |none=>.inr ()
 |[],k,ep,acc=>by simp[aV,oe]
 |e::l,k,ep,acc=>by
  by_cases h:(eC e.l a).2=0
  ·simp only[aV,KE,oe,if_pos h];rw[FP a l (k+1) (ep+1)];cases oe a l<;>simp[ct,d9 1]
  simp only[aV,KE,oe,if_neg h]
theorem Ic(bn:Bool)(ac:List bL)(ep1 m1 ep2 m2:Nat)(n:bL)(ba:Bool)(a:List Int)(r:ap)(τ:ay)(hτ:Fzs τ)(hl:2≤τ.length)(hi:n.items.length≤most)(he:∀e∈n.items,e.l.length≤most)(ha:a.length≤most) :
  match oe a n.items with
  |none=>∃σ',cA code I.qfj [.ptr 0 0 0 0] (fo bn ac ep1 m1 ep2 m2 n (.aa ba (aZ a)) .aj r::τ)=some (.bool false,σ')
  |some ks=>cA code I.qfj [.ptr 0 0 0 0] (fo bn ac ep1 m1 ep2 m2 n (.aa ba (aZ a)) .aj r::τ) =
    some (.bool (decide (0<ks.length)),fo bn ac ep1 m1 ep2 m2 n (.aa ba (aZ a)) .aj (.sl (τ.length+1) n.items.length 0 ks.length)::(τ++[.arr 1 n.items.length (aZ ks)])):=by
 have h:=cT (base:=τ.length+2) (clr:=[1,2,3,4,8,9]) (b:=yS) n.items
  (fun k (s:Nat×List Int)=>⟨[.ptr 0 0 0 0,.any,.any,.any,.any,.aa n.bi (n.items.map jM.a),ar n.items.length,ar k,.any,.any],fo bn ac ep1 m1 ep2 m2 n (.aa ba (aZ a)) .aj (.sl (τ.length+1) s.1 0 s.2.length)::(τ++[.arr 1 s.1 (aZ s.2)])⟩)
  (fun k s=>s.2.length≤k) (KE a)
  (fun s=>(.ext 0,⟨[.ptr 0 0 0 0,.any,.any,.any,.any,.aa n.bi (n.items.map jM.a),ar n.items.length,ar n.items.length,.bool false,.any],fo bn ac ep1 m1 ep2 m2 n (.aa ba (aZ a)) .aj (.sl (τ.length+1) s.1 0 s.2.length)::(τ++[.arr 1 s.1 (aZ s.2)])⟩))
  (fun _ o=>∃s,o=(.ret,s)∧results s [.env 1]=some (.bool false))
  (fun k e s hk hy hs=>by
   obtain⟨ep,acc⟩:=s;simp only at hs;have ak:((k:Int)<(n.items.length:Int)):=by omega
   have hkd:=fun b bk=>pD b e.l bk a (he e (aw hy)) ha;have h5:acc.length+1≤most:=by omega
   have q1:1<τ.length+2:=by omega
   have q2:2<τ.length+2:=by omega
   unfold KE;by_cases h0:(eC e.l a).2=0
   ·rw[if_pos h0];refine⟨?_,by simp;omega⟩;simp[yS,ak,hy,jM.a,hkd,h0,append,h5,aX hk hi,aE,aH,hτ,q1,q2]
   rw[if_neg h0];exact⟨_,by simp[yS,ak,hy,jM.a,hkd,h0,eo h0];rfl,_,rfl,by simp⟩)
  (fun s hs=>by simp[yS]) (0,[]) (aM _)
 rw[FP]at h;cases hq:oe a n.items with
 |none=>
  rw[hq]at h;obtain⟨o,h1,s,rfl,h2⟩:=h;refine⟨s.st,?_⟩;rw[bp aaY rfl];simp at h1;simp[apP,Xn,h1,-results,h2]
 |some ks=>
  rw[hq]at h;have h1:=h.2;rw[bp aaY rfl];simp at h1;simp[apP,Xn,h1]
def ev:List Int→List Int→Option (List Int)
 |[],_=>some []
 |_::_,[]=>none
 |k::a,o::b=>if o≠0∧o≠(if k=0 then o else k) then none else (ev a b).map ((if k=0 then o else k)::·)
def FC(b:List Int)(i:Nat)(k:Int)(acc:Nat×List Int):Nat×List Int⊕Unit:=
 if b.getD i 0≠0∧b.getD i 0≠(if k=0 then b.getD i 0 else k) then .inr () else .inl (acc.1+1,acc.2++[if k=0 then b.getD i 0 else k])
theorem B2(b:List Int):∀(l:List Int) (k ep:Nat) (acc:List Int),l.length=(b.drop k).length→aV (FC b) l k (ep,acc)=match ev l (b.drop k) with
  |some r=>.inl (ep+l.length,acc++r)
  |none=>.inr ()
 |[],k,ep,acc,h=>by
  cases hb:b.drop k with
  |nil=>simp[aV,ev]
  |cons o t=>rw[hb]at h;cases h
 |x::l,k,ep,acc,h=>by
  cases hb:b.drop k with
  |nil=>rw[hb]at h;cases h
  |cons o t=>
   have ho:b.getD k 0=o:=by
    have:=congrArg (·[0]?) hb;simp at this;simp[au,this]
   have ht:b.drop (k+1)=t:=by
    have:=congrArg List.tail hb;simpa [dD] using this
   rw[hb]at h;have ih:=fun ep acc=>B2 b l (k+1) ep acc (by rw[ht];simpa using h);rw[ht]at ih;by_cases hc:o≠0∧o≠(if x=0 then o else x)
   ·simp only[aV,FC,ev,ho,if_pos hc]
   simp only[aV,FC,ev,ho,if_neg hc,ih];cases ev l t<;>simp[ct,d9 1]
theorem Og(bn:Bool)(ac:List bL)(ep1 m1 ep2 m2:Nat)(n:bL)(ba bb:Bool)(a b:List Int)(r:ap)(τ:ay)(hτ:Fzs τ)(hl:2≤τ.length)(ha:a.length≤most)(hlen:a.length=b.length) :
  match ev a b with
  |none=>∃σ',cA code I.qfp [.ptr 0 0 0 0] (fo bn ac ep1 m1 ep2 m2 n (.aa ba (aZ a)) (.aa bb (aZ b)) r::τ)=some (.bool false,σ')
  |some ks=>cA code I.qfp [.ptr 0 0 0 0] (fo bn ac ep1 m1 ep2 m2 n (.aa ba (aZ a)) (.aa bb (aZ b)) r::τ) =
    some (.bool true,fo bn ac ep1 m1 ep2 m2 n (.aa ba (aZ a)) (.aa bb (aZ b)) (.sl (τ.length+1) a.length 0 ks.length)::(τ++[.arr 1 a.length (aZ ks)])):=by
 have h:=cT (base:=τ.length+2) (clr:=[1,2,3,4,9,10,11]) (b:=rY) a
  (fun k (s:Nat×List Int)=>⟨[.ptr 0 0 0 0,.any,.any,.any,.any,.bool false,.aa ba (aZ a),ar a.length,ar k,.any,.any,.any],fo bn ac ep1 m1 ep2 m2 n (.aa ba (aZ a)) (.aa bb (aZ b)) (.sl (τ.length+1) s.1 0 s.2.length)::(τ++[.arr 1 s.1 (aZ s.2)])⟩)
  (fun k s=>s.2.length≤k) (FC b)
  (fun s=>(.ext 0,⟨[.ptr 0 0 0 0,.any,.any,.any,.any,.bool false,.aa ba (aZ a),ar a.length,ar a.length,.bool false,.any,.any],fo bn ac ep1 m1 ep2 m2 n (.aa ba (aZ a)) (.aa bb (aZ b)) (.sl (τ.length+1) s.1 0 s.2.length)::(τ++[.arr 1 s.1 (aZ s.2)])⟩))
  (fun _ o=>∃s,o=(.ret,s)∧results s [.env 1]=some (.bool false))
  (fun k x s hk hy hs=>by
   obtain⟨ep,acc⟩:=s;simp only at hs;have ak:((k:Int)<(a.length:Int)):=by omega
   have hb:b[k]?=some (b.getD k 0):=by
    have:k<b.length:=by omega
    simp[au,this]
   have h5:acc.length+1≤most:=by omega
   unfold FC;generalize b.getD k 0=o at *;by_cases hx:x=0
   ·subst hx;simp only[cW];rw[if_neg (by simp)];refine⟨?_,by simp;omega⟩;by_cases ho:o=0
    ·subst ho;simp[rY,ak,hy,hb,append,h5,aX hk ha,aE]
    simp[rY,ak,hy,hb,ho,eo ho,append,h5,aX hk ha,aE]
   simp only[if_neg hx];by_cases ho:o=0
   ·subst ho;rw[if_neg (by simp)];refine⟨?_,by simp;omega⟩;simp[rY,ak,hy,hb,hx,bE hx,append,h5,aX hk ha,aE]
   by_cases hox:o=x
   ·subst hox;rw[if_neg (by simp)];refine⟨?_,by simp;omega⟩;simp[rY,ak,hy,hb,hx,bE hx,eo hx,append,h5,aX hk ha,aE]
   rw[if_pos ⟨ho,hox⟩];exact⟨_,by simp[rY,ak,hy,hb,hx,bE hx,ho,eo ho,eo hox];rfl,_,rfl,by simp⟩)
  (fun s hs=>by simp[rY]) (0,[]) (aM _)
 rw[B2 b a 0 0 [] (by simpa using hlen)]at h;rw[gW]at h;have hne:((a.length:Int) != (b.length:Int))=false:=by simp[hlen]
 cases hq:ev a b with
 |none=>
  rw[hq]at h;obtain⟨o,h1,s,rfl,h2⟩:=h;refine⟨s.st,?_⟩;rw[bp UE rfl];simp at h1;simp[aoW,Q1,hne,h1,-results,h2]
 |some ks=>
  rw[hq]at h;have h1:=h.2;rw[bp UE rfl];simp at h1;simp[aoW,Q1,hne,h1]
theorem TH(bn:Bool)(ac:List bL)(ep1 m1 ep2 m2:Nat)(n:bL)(ba bb:Bool)(a b:List Int)(r:ap)(τ:ay)(hlen:a.length≠b.length) :
  ∃σ',cA code I.qfp [.ptr 0 0 0 0] (fo bn ac ep1 m1 ep2 m2 n (.aa ba (aZ a)) (.aa bb (aZ b)) r::τ)=some (.bool false,σ'):=by
 have hne:((a.length:Int) != (b.length:Int))=true:=by simp;omega
 rw[bp UE rfl];exact⟨_,by simp[aoW,Q1,hne];rfl⟩
def o5(a keys:List Int):Option (List Int):=if keys.all fun k=>decide (0≤k)&&decide (k<a.length) then some (keys.map fun k=>a.getD k.toNat 0) else none
def WU(a:List Int)(_:Nat)(x:Int)(acc:Nat×List Int):Nat×List Int⊕Unit:=if 0≤x∧x<a.length then .inl (acc.1+1,acc.2++[a.getD x.toNat 0]) else .inr ()
theorem Hi(a:List Int):∀(l:List Int) (k ep:Nat) (acc:List Int),aV (WU a) l k (ep,acc)=match o5 a l with
  |some r=>.inl (ep+l.length,acc++r)
  |none=>.inr ()
 |[],k,ep,acc=>by simp[aV,o5]
 |x::l,k,ep,acc=>by
  by_cases h:0≤x∧x<a.length
  ·simp only[aV,WU,if_pos h];rw[Hi a l (k+1) (ep+1)];unfold o5;by_cases hl:(l.all fun k=>decide (0≤k)&&decide (k<(a.length:Int)))=true
   ·have:((x::l).all fun k=>decide (0≤k)&&decide (k<(a.length:Int)))=true:=by simp only[eL,hl];simp[h]
    rw[if_pos hl,if_pos this];simp[ct,d9 1]
   have:¬((x::l).all fun k=>decide (0≤k)&&decide (k<(a.length:Int)))=true:=by
    intro hq;simp only[eL,aq]at hq;exact hl hq.2
   rw[if_neg hl,if_neg this]
  simp only[aV,WU,if_neg h];unfold o5;have:¬((x::l).all fun k=>decide (0≤k)&&decide (k<(a.length:Int)))=true:=by
   intro hq;simp only[eL,aq,aL]at hq;exact h hq.1
  rw[if_neg this]
theorem wc{a l r:List Int}(h:o5 a l=some r):r.length=l.length:=by
 unfold o5 at h;split at h
 ·cases h;simp
 cases h
def ln(a:List Int)(g:cC):Bool×Int:=
 if g.tag=1 then (g.arg.length==0,2)
 else ((eC g.arg a).2==0&&decide (1<g.tag)&&decide (g.tag≤5)&&(g.tag != 3 ||(eC g.arg a).1==2 ||(eC g.arg a).1==0),if g.tag=4∨g.tag=5 then (eC g.arg a).1 else 2)
def rb(n:bL)(a:List Int):Bool:=decide (n.keys.length≤3)&&decide (n.ai.length≤12)&&decide (0<n.keys.length+n.ai.length)&&n.ai.all fun g=>(ln a g).1
def jA(n:bL):Bool:=decide (n.keys.length≤3)&&decide (n.ai.length≤12)&&decide (0<n.keys.length+n.ai.length)
def LU(a:List Int)(s:Bool×Nat×List Int)(g:cC):Bool×Nat×List Int:=(s.1&&(ln a g).1,s.2.1+1,s.2.2++[(ln a g).2])
theorem EC(a:List Int):∀(l:List cC) (ok:Bool) (ep:Nat) (acc:List Int),l.foldl (LU a) (ok,ep,acc)=(ok&&l.all (fun g=>(ln a g).1),ep+l.length,acc++l.map fun g=>(ln a g).2)
 |[],ok,ep,acc=>by simp
 |g::l,ok,ep,acc=>by
  rw[eG,LU,EC a l];simp[jv,ct,d9 1]
abbrev oR(n:bL):Obj:=.arr 12 0 [.agg [ar n.op,ar n.l,ar n.r,ar n.tab,.aa n.bk (n.af.map (.int .i64)),.bool n.left,.aa n.bc (n.cond.map EN.a),.aa n.by' (n.keys.map (.int .i64)),.aa n.bg (n.ai.map cC.a),.aa n.bi (n.items.map jM.a),.aa n.bo (n.ords.map jl),ar n.limit]]
theorem Fz(bn:Bool)(ac:List bL)(ep1 m1 ep2 m2:Nat)(n:bL)(ba:Bool)(a:List Int)(r:ap)(τ:ay)(hτ:Fzs τ)(hl:2≤τ.length)(hk:n.keys.length≤most)(hg:n.ai.length≤most)(hkg:n.keys.length+n.ai.length≤most)(he:∀g∈n.ai,g.arg.length≤most)(ha:a.length≤most) :
  match o5 a n.keys with
  |none=>∃σ',cA code I.qfd [.ptr 0 0 0 0] (fo bn ac ep1 m1 ep2 m2 n (.aa ba (aZ a)) .aj r::τ)=some (.bool false,σ')
  |some ks=>cA code I.qfd [.ptr 0 0 0 0] (fo bn ac ep1 m1 ep2 m2 n (.aa ba (aZ a)) .aj r::τ) =
    some (.bool (rb n a),fo bn ac ep1 m1 ep2 m2 n (.aa ba (aZ a)) .aj (.sl (τ.length+2) (n.keys.length+n.ai.length) 0 (n.keys.length+n.ai.length))::(τ++[oR n,.arr 1 (n.keys.length+n.ai.length) (aZ (ks++n.ai.map fun g=>(ln a g).2))])):=by
 have hkg':n.keys.length+n.ai.length≤68719476736:=hkg;have q1:1<τ.length+3:=by omega
 have q2:2<τ.length+3:=by omega
 have h:=cT (base:=τ.length+3) (clr:=[1,4,12,13]) (b:=wl) n.keys
  (fun k (s:Nat×List Int)=>⟨[.ptr 0 0 0 0,.any,.ptr (τ.length+1) 0 0 0,.bool (jA n),.any,.any,.any,.any,.any,.aa n.by' (n.keys.map (.int .i64)),ar n.keys.length,ar k,.any,.any,.any,.any,.any,.any,.any,.any,.any,.any],fo bn ac ep1 m1 ep2 m2 n (.aa ba (aZ a)) .aj (.sl (τ.length+2) s.1 0 s.2.length)::(τ++[oR n,.arr 1 s.1 (aZ s.2)])⟩)
  (fun k s=>s.2.length≤k) (WU a)
  (fun s=>(.ext 0,⟨[.ptr 0 0 0 0,.any,.ptr (τ.length+1) 0 0 0,.bool (jA n),.any,.any,.any,.any,.any,.aa n.by' (n.keys.map (.int .i64)),ar n.keys.length,ar n.keys.length,.bool false,.any,.any,.any,.any,.any,.any,.any,.any,.any],fo bn ac ep1 m1 ep2 m2 n (.aa ba (aZ a)) .aj (.sl (τ.length+2) s.1 0 s.2.length)::(τ++[oR n,.arr 1 s.1 (aZ s.2)])⟩))
  (fun _ o=>∃s,o=(.ret,s)∧results s [.env 1]=some (.bool false))
  (fun k x s hk' hy hs=>by
   obtain⟨ep,acc⟩:=s;simp only at hs;have ak:((k:Int)<(n.keys.length:Int)):=by omega
   have h5:acc.length+1≤most:=by omega
   unfold WU;by_cases h1:0≤x
   ·by_cases h2:x<a.length
    ·rw[if_pos ⟨h1,h2⟩];refine⟨?_,by simp;omega⟩;have e1:¬(x<0):=by omega
     have e2:¬((a.length:Int)≤x):=by omega
     have e3:a[x.toNat]?=some (a.getD x.toNat 0):=by
      have:x.toNat < a.length:=by omega
      simp[au,this]
     generalize a.getD x.toNat 0=w at *;simp[wl,ak,hy,e1,e2,e3,h1,append,h5,aX hk' hk,aE]
    rw[if_neg (fun h=>h2 h.2)];have e1:¬(x<0):=by omega
    have e2:((a.length:Int)≤x):=by omega
    exact⟨_,by simp[wl,ak,hy,e1,e2];rfl,_,rfl,by simp⟩
   rw[if_neg (fun h=>h1 h.1)];have e1:(x<0):=by omega
   exact⟨_,by simp[wl,ak,hy,e1];rfl,_,rfl,by simp⟩)
  (fun s hs=>by simp[wl]) (0,[]) (aM _)
 rw[Hi]at h;have hw:IntKind.i64.wrap ((n.keys.length:Int)+(n.ai.length:Int))=(n.keys.length:Int)+n.ai.length:=rn (by omega) (by omega);have g2:=fun ks:List Int=>fun hks:ks.length=n.keys.length=>(ea (base:=τ.length+3) (clr:=[5,6,7,8,17,18,19,20,21]) (b:=gN) n.ai
  (fun k (s:Bool×Nat×List Int)=>⟨[.ptr 0 0 0 0,.any,.ptr (τ.length+1) 0 0 0,.bool s.1,.any,.any,.any,.any,.any,.aa n.by' (n.keys.map (.int .i64)),ar n.keys.length,ar n.keys.length,.bool false,.any,.aa n.bg (n.ai.map cC.a),ar n.ai.length,ar k,.any,.any,.any,.any,.any],fo bn ac ep1 m1 ep2 m2 n (.aa ba (aZ a)) .aj (.sl (τ.length+2) s.2.1 0 s.2.2.length)::(τ++[oR n,.arr 1 s.2.1 (aZ s.2.2)])⟩)
  (fun k s=>s.2.2.length≤n.keys.length+k) (LU a)
  (fun s=>(.ext 2,⟨[.ptr 0 0 0 0,.any,.ptr (τ.length+1) 0 0 0,.bool s.1,.any,.any,.any,.any,.any,.aa n.by' (n.keys.map (.int .i64)),ar n.keys.length,ar n.keys.length,.bool false,.any,.aa n.bg (n.ai.map cC.a),ar n.ai.length,ar n.ai.length,.bool false,.any,.any,.any,.any],fo bn ac ep1 m1 ep2 m2 n (.aa ba (aZ a)) .aj (.sl (τ.length+2) s.2.1 0 s.2.2.length)::(τ++[oR n,.arr 1 s.2.1 (aZ s.2.2)])⟩))
  (fun k g s hk' hy hs=>by
   obtain⟨ok,ep,acc⟩:=s;simp only at hs;have ak:((k:Int)<(n.ai.length:Int)):=by omega
   have h5:acc.length+1≤most:=by unfold most;omega
   have hkd:=fun b bk=>pD b g.arg bk a (he g (aw hy)) ha;refine⟨?_,by simp[LU];omega⟩;unfold LU ln;by_cases t1:g.tag=1
   ·simp only[if_pos t1];cases ok
    ·simp[gN,ak,hy,cC.a,append,h5,aX hk' hg,aE,aH,hτ,q1,q2,t1]
    by_cases hx:g.arg=[]
    ·simp[gN,ak,hy,cC.a,append,h5,aX hk' hg,aE,aH,hτ,q1,q2,t1,hx]
    have hx1:((g.arg.length:Int)==0)=false:=by simp[hx]
    have hx2:(g.arg.length==0)=false:=by simp[hx]
    simp[gN,ak,hy,cC.a,append,h5,aX hk' hg,aE,aH,hτ,q1,q2,t1,hx1,hx2]
   simp only[if_neg t1];generalize (eC g.arg a).1=kk at *;generalize (eC g.arg a).2=no at *;by_cases t3:g.tag=3
   ·simp only[t3];cases ok
    ·simp[gN,ak,hy,cC.a,append,h5,aX hk' hg,aE,aH,hτ,q1,q2,t3,hkd]
    by_cases hn0:no=0
    ·by_cases k2:kk=2
     ·simp[gN,ak,hy,cC.a,append,h5,aX hk' hg,aE,aH,hτ,q1,q2,t3,hkd,hn0,k2]
     simp[gN,ak,hy,cC.a,append,h5,aX hk' hg,aE,aH,hτ,q1,q2,t3,hkd,hn0,k2,bE k2]
    simp[gN,ak,hy,cC.a,append,h5,aX hk' hg,aE,aH,hτ,q1,q2,t3,hkd,hn0,bE hn0]
   by_cases t45:g.tag=4∨g.tag=5
   ·simp only[if_pos t45];rcases t45 with t4|t4<;>simp only[t4]
    ·cases ok
     ·simp[gN,ak,hy,cC.a,append,h5,aX hk' hg,aE,aH,hτ,q1,q2,t4,hkd]
     by_cases hn0:no=0
     ·simp[gN,ak,hy,cC.a,append,h5,aX hk' hg,aE,aH,hτ,q1,q2,t4,hkd,hn0]
     simp[gN,ak,hy,cC.a,append,h5,aX hk' hg,aE,aH,hτ,q1,q2,t4,hkd,hn0,bE hn0]
    cases ok
    ·simp[gN,ak,hy,cC.a,append,h5,aX hk' hg,aE,aH,hτ,q1,q2,t4,hkd]
    by_cases hn0:no=0
    ·simp[gN,ak,hy,cC.a,append,h5,aX hk' hg,aE,aH,hτ,q1,q2,t4,hkd,hn0]
    simp[gN,ak,hy,cC.a,append,h5,aX hk' hg,aE,aH,hτ,q1,q2,t4,hkd,hn0,bE hn0]
   simp only[if_neg t45];have t4:¬g.tag=4:=fun h=>t45 (.inl h);have t5:¬g.tag=5:=fun h=>t45 (.inr h);cases ok
   ·simp[gN,ak,hy,cC.a,append,h5,aX hk' hg,aE,aH,hτ,q1,q2,t1,t3,t4,t5,bE t1,bE t3,bE t4,bE t5,hkd]
   by_cases hn0:no=0
   ·by_cases l1:1<g.tag
    ·by_cases l5:g.tag≤5
     ·simp[gN,ak,hy,cC.a,append,h5,aX hk' hg,aE,aH,hτ,q1,q2,t1,t3,t4,t5,bE t1,bE t3,bE t4,bE t5,eo t3,hkd,hn0,l1,l5]
     simp[gN,ak,hy,cC.a,append,h5,aX hk' hg,aE,aH,hτ,q1,q2,t1,t3,t4,t5,bE t1,bE t3,bE t4,bE t5,eo t3,hkd,hn0,l1,l5]
    simp[gN,ak,hy,cC.a,append,h5,aX hk' hg,aE,aH,hτ,q1,q2,t1,t3,t4,t5,bE t1,bE t3,bE t4,bE t5,eo t3,hkd,hn0,l1]
   simp[gN,ak,hy,cC.a,append,h5,aX hk' hg,aE,aH,hτ,q1,q2,t1,t3,t4,t5,bE t1,bE t3,bE t4,bE t5,hkd,hn0,bE hn0])
  (fun s _=>by simp[gN]) (jA n,n.keys.length,ks) (by simp[hks])).1
 rw[bp ale rfl];have hh1:n.keys.length≤3→n.ai.length≤12→jA n=decide ((0:Int)<(n.keys.length:Int)+n.ai.length):=fun c1 c2=>by
  unfold jA;rw[fD c1,fD c2];exact mc.2 (by omega)
 have hh2:¬n.ai.length≤12→jA n=false:=fun c=>by
  unfold jA;rw[eH c];simp
 have hh3:¬n.keys.length≤3→jA n=false:=fun c=>by
  unfold jA;rw[eH c];simp
 have hH:∀R,(n.keys.length≤3→n.ai.length≤12→jA n=decide ((0:Int)<(n.keys.length:Int)+n.ai.length)→R)→(n.keys.length≤3→¬n.ai.length≤12→jA n=false→R)→(¬n.keys.length≤3→jA n=false→R)→R:=fun R r1 r2 r3=>by
  by_cases c1:n.keys.length≤3
  ·by_cases c2:n.ai.length≤12
   ·exact r1 c1 c2 (hh1 c1 c2)
   exact r2 c1 c2 (hh2 c2)
  exact r3 c1 (hh3 c1)
 cases hq:o5 a n.keys with
 |none=>
  rw[hq]at h;obtain⟨o,h1,s,rfl,h2⟩:=h;refine⟨s.st,?_⟩;simp at h1;refine hH _ (fun c1 c2 hh=>?_) (fun c1 c2 hh=>?_) (fun c1 hh=>?_)<;>rw[hh]at h1
  ·have c1':((n.keys.length:Int)≤3):=by omega
   have c2':((n.ai.length:Int)≤12):=by omega
   simp[aoq,Fo,c1',c2',hw,h1,-results,h2]
  ·have c1':((n.keys.length:Int)≤3):=by omega
   have c2':¬((n.ai.length:Int)≤12):=by omega
   simp[aoq,Fo,c1',c2',hw,h1,-results,h2]
  have c1':¬((n.keys.length:Int)≤3):=by omega
  simp[aoq,Fo,c1',hw,h1,-results,h2]
 |some ks=>
  rw[hq]at h;have h1:=h.2;have hks:=wc hq;have h2:=g2 ks hks;rw[EC]at h2;simp at h1 h2;have hA:rb n a=(jA n&&n.ai.all fun g=>(ln a g).1):=rfl;rw[hA];rw[hks]at h1 h2;simp only;refine hH _ (fun c1 c2 hh=>?_) (fun c1 c2 hh=>?_) (fun c1 hh=>?_)<;>rw[hh]at h1 h2 ⊢
  ·have c1':((n.keys.length:Int)≤3):=by omega
   have c2':((n.ai.length:Int)≤12):=by omega
   simp[aoq,Fo,c1',c2',hw,h1,h2]
  ·have c1':((n.keys.length:Int)≤3):=by omega
   have c2':¬((n.ai.length:Int)≤12):=by omega
   simp[aoq,Fo,c1',c2',hw,h1,h2]
  have c1':¬((n.keys.length:Int)≤3):=by omega
  simp[aoq,Fo,c1',hw,h1,h2]
def zM(a:List Int)(g:cC):Int:=if g.tag=3 then 4 else (ln a g).2
abbrev AV(a ks:List Int)(n:bL)(k:Nat):List Int:=ks++((n.ai.take k).map (zM a)++(n.ai.drop k).map fun g=>(ln a g).2)
theorem S7{a ks:List Int}{n:bL}{k:Nat}{g:cC}(hy:n.ai[k]?=some g) :
  AV a ks n (k+1)=if g.tag=3 then (AV a ks n k).set (ks.length+k) 4 else AV a ks n k:=by
 obtain⟨hk,he⟩:=al.1 hy;unfold AV;rw[dP hk,he,cw hk,he];by_cases h3:g.tag=3
 ·rw[if_pos h3,gJ _ _ (by omega),gJ _ _ (by simp;omega)];simp[zM,h3,dx (Nat.le_of_lt hk)]
 rw[if_neg h3];simp[zM,h3]
theorem IK(bn:Bool)(ac:List bL)(ep1 m1 ep2 m2:Nat)(n:bL)(ba:Bool)(a:List Int)(r:ap)(τ:ay)(hτ:Fzs τ)(hl:2≤τ.length)(hk:n.keys.length≤most)(hg:n.ai.length≤most)(hkg:n.keys.length+n.ai.length≤most)(he:∀g∈n.ai,g.arg.length≤most)(ha:a.length≤most) :
  match o5 a n.keys with
  |none=>∃σ',cA code I.qfi [.ptr 0 0 0 0] (fo bn ac ep1 m1 ep2 m2 n (.aa ba (aZ a)) .aj r::τ)=some (.bool false,σ')
  |some ks=>if rb n a=true then cA code I.qfi [.ptr 0 0 0 0] (fo bn ac ep1 m1 ep2 m2 n (.aa ba (aZ a)) .aj r::τ) =
    some (.bool true,fo bn ac ep1 m1 ep2 m2 n (.aa ba (aZ a)) .aj (.sl (τ.length+2) (n.keys.length+n.ai.length) 0 (n.keys.length+n.ai.length))::(τ++[oR n,.arr 1 (n.keys.length+n.ai.length) (aZ (ks++n.ai.map (zM a)))]))
   else ∃σ',cA code I.qfi [.ptr 0 0 0 0] (fo bn ac ep1 m1 ep2 m2 n (.aa ba (aZ a)) .aj r::τ)=some (.bool false,σ'):=by
 have hgr:=Fz bn ac ep1 m1 ep2 m2 n ba a r τ hτ hl hk hg hkg he ha;have hkg':n.keys.length+n.ai.length≤68719476736:=hkg;rw[bp alp rfl];cases hq:o5 a n.keys with
 |none=>
  rw[hq]at hgr;obtain⟨σ',hgr⟩:=hgr;exact⟨_,by simp[ao2,Sp,hgr];rfl⟩
 |some ks=>
  rw[hq]at hgr;simp only at hgr ⊢;cases hok:rb n a with
  |false=>
   rw[hok]at hgr;simp only[bC,cz];exact⟨_,by simp[ao2,Sp,hgr];rfl⟩
  |true=>
   rw[hok]at hgr;simp only[cW];have hks:=wc hq;have q1:1<τ.length+3:=by omega
   have q2:2<τ.length+3:=by omega
   have hloop:=cL (base:=τ.length+3) (clr:=[3,4,9,10]) (b:=yK)
    (fun k=>⟨[.ptr 0 0 0 0,.bool false,.bool true,.any,.any,.bool false,.aa n.bg (n.ai.map cC.a),ar n.ai.length,ar k,.any,.any],fo bn ac ep1 m1 ep2 m2 n (.aa ba (aZ a)) .aj (.sl (τ.length+2) (n.keys.length+n.ai.length) 0 (n.keys.length+n.ai.length))::(τ++[oR n,.arr 1 (n.keys.length+n.ai.length) (aZ (AV a ks n k))])⟩) n.ai.length
    (.ext 0,⟨[.ptr 0 0 0 0,.bool false,.bool true,.any,.any,.bool false,.aa n.bg (n.ai.map cC.a),ar n.ai.length,ar n.ai.length,.bool false,.any],fo bn ac ep1 m1 ep2 m2 n (.aa ba (aZ a)) .aj (.sl (τ.length+2) (n.keys.length+n.ai.length) 0 (n.keys.length+n.ai.length))::(τ++[oR n,.arr 1 (n.keys.length+n.ai.length) (aZ (AV a ks n n.ai.length))])⟩)
    (fun k hk'=>by
     have ak:((k:Int)<(n.ai.length:Int)):=by omega
     have hy:n.ai[k]?=some n.ai[k]:=am hk';have hc:=S7 (a:=a) (ks:=ks) hy;have hl3:(AV a ks n k).length=n.keys.length+n.ai.length:=by
      unfold AV;simp[hks];omega
     rw[hc];generalize AV a ks n k=X at *;rw[hks];generalize n.ai[k]=g at *;have w1:=rn (n:=(n.keys.length:Int)+(k:Int)) (by omega) (by omega);have w2:(0:Int)≤(n.keys.length:Int)+(k:Int):=by omega
     have w3:((n.keys.length:Int)+(k:Int)).toNat=n.keys.length+k:=by omega
     have w4:X[n.keys.length+k]?=some (X.getD (n.keys.length+k) 0):=by
      have:n.keys.length+k<X.length:=by omega
      simp[au,this]
     generalize X.getD (n.keys.length+k) 0=w at *;by_cases h3:g.tag=3
     ·rw[if_pos h3];simp[yK,ak,hy,cC.a,h3,w1,w2,w3,w4,aX hk' hg,aE,aH,hτ,q1,q2];simp[hk',w1,w2,w3,w4,aX hk' hg,aE,aH,hτ,q1,q2]
     rw[if_neg h3];simp[yK,ak,hy,cC.a,h3,bE h3,aX hk' hg,aE,aH,hτ,q1,q2])
    (by simp[yK])
   have e0:AV a ks n 0=ks++n.ai.map fun g=>(ln a g).2:=by simp[AV]
   have e1:AV a ks n n.ai.length=ks++n.ai.map (zM a):=by simp[AV]
   rw[e0,e1]at hloop;simp at hloop;simp at hgr;simp[ao2,Sp,hgr,hloop]
def py(a:List Int):Nat→List Int→Bool
 |_,[]=>true
 |i,x::r=>(x==(i:Int)&&a.getD i 0 != 4)&&py a (i+1) r
def PK(o:Int)(g:cC):Bool:=g.arg.length==0&&(if g.tag=1∨g.tag=2 then o==2 else if g.tag=3 then o==4 else if g.tag=4∨g.tag=5 then o != 4 else false)
def rS(a:List Int):Nat→List cC→Bool
 |_,[]=>true
 |i,g::r=>PK (a.getD i 0) g&&rS a (i+1) r
def sq:Nat→List cC→List Int→List Int
 |_,[],l=>l
 |i,g::r,l=>sq (i+1) r (if g.tag=3 then l.set i 2 else l)
def uc(n m:bL)(a:List Int):Bool:=m.op==9&&decide (n.keys.length≤3)&&decide (n.ai.length≤12)&&n.keys.length+n.ai.length==a.length
theorem zo(a:List Int):∀(l:List Int) (k:Nat) (ok:Bool),aV (ρ:=Empty) (fun k x ok=>.inl (ok&&(x==(k:Int)&&a.getD k 0 != 4))) l k ok=.inl (ok&&py a k l)
 |[],k,ok=>by simp[aV,py]
 |x::l,k,ok=>by
  simp only[aV];rw[zo a l (k+1)];simp[py,jv]
def Y6(a:List Int)(K k:Nat)(g:cC)(s:Bool×List Int):Bool×List Int⊕Empty:=.inl (s.1&&PK (a.getD (K+k) 0) g,if g.tag=3 then s.2.set (K+k) 2 else s.2)
theorem GF(a:List Int)(K:Nat):∀(l:List cC) (k:Nat) (ok:Bool) (x:List Int),aV (Y6 a K) l k (ok,x)=.inl (ok&&rS a (K+k) l,sq (K+k) l x)
 |[],k,ok,x=>by simp[aV,rS,sq]
 |g::l,k,ok,x=>by
  simp only[aV,Y6];rw[GF a K l (k+1)];simp[rS,sq,jv,ct]
theorem EF:∀(l:List cC) (i:Nat) (x:List Int),(sq i l x).length=x.length
 |[],i,x=>rfl
 |g::l,i,x=>by
  rw[sq,EF l];split<;>simp
theorem SC(bn:Bool)(ac:List bL)(ep1 m1 ep2 m2:Nat)(n m:bL)(ba:Bool)(a:List Int)(r:ap)(τ:ay)(hA:0≤n.l)(hm:ac[n.l.toNat]?=some m)(hkg:n.keys.length+n.ai.length≤most)(hh:uc n m a=false) :
  ∃σ',cA code I.qfc [.ptr 0 0 0 0] (fo bn ac ep1 m1 ep2 m2 n (.aa ba (aZ a)) .aj r::τ)=some (.bool false,σ'):=by
 rw[bp aa9 rfl];have hkg':n.keys.length+n.ai.length≤68719476736:=hkg;have w1:=rn (n:=(n.keys.length:Int)+(n.ai.length:Int)) (by omega) (by omega);unfold uc at hh;by_cases c1:m.op=9
 ·by_cases c2:n.keys.length≤3
  ·have c2':((n.keys.length:Int)≤3):=by omega
   by_cases c3:n.ai.length≤12
   ·have c3':((n.ai.length:Int)≤12):=by omega
    have c4:n.keys.length+n.ai.length≠a.length:=by
     intro h;simp[c1,c2,c3,h]at hh
    have c4':((n.keys.length:Int)+n.ai.length==(a.length:Int))=false:=by simp;omega
    exact⟨_,by simp[aor,Hz,hA,hm,bL.a,c1,c2',c3',w1,c4'];rfl⟩
   have c3':¬((n.ai.length:Int)≤12):=by omega
   exact⟨_,by simp[aor,Hz,hA,hm,bL.a,c1,c2',c3'];rfl⟩
  have c2':¬((n.keys.length:Int)≤3):=by omega
  exact⟨_,by simp[aor,Hz,hA,hm,bL.a,c1,c2'];rfl⟩
 exact⟨_,by simp[aor,Hz,hA,hm,bL.a,c1,bE c1];rfl⟩
theorem NG(bn:Bool)(ac:List bL)(ep1 m1 ep2 m2:Nat)(n m:bL)(ba:Bool)(a:List Int)(r:ap)(τ:ay)(hτ:Fzs τ)(hl:2≤τ.length)(hA:0≤n.l)(hm:ac[n.l.toNat]?=some m)(hkg:n.keys.length+n.ai.length≤most)(ha:a.length≤most)(hh:uc n m a=true) :
  cA code I.qfc [.ptr 0 0 0 0] (fo bn ac ep1 m1 ep2 m2 n (.aa ba (aZ a)) .aj r::τ) =
   some (.bool (py a 0 n.keys&&rS a n.keys.length n.ai),fo bn ac ep1 m1 ep2 m2 n (.aa ba (aZ a)) .aj (.sl (τ.length+2) 0 0 a.length)::(τ++[oR n,.arr 1 0 (aZ (sq n.keys.length n.ai a))])):=by
 have hkg':n.keys.length+n.ai.length≤68719476736:=hkg;have w1:=rn (n:=(n.keys.length:Int)+(n.ai.length:Int)) (by omega) (by omega);unfold uc at hh;simp only[aq,aP,aL]at hh;obtain⟨⟨⟨c1,c2⟩,c3⟩,c4⟩:=hh;have c2':((n.keys.length:Int)≤3):=by omega
 have c3':((n.ai.length:Int)≤12):=by omega
 have c4':((n.keys.length:Int)+n.ai.length==(a.length:Int))=true:=by simp;omega
 have hk:n.keys.length≤most:=by unfold most;omega
 have hg:n.ai.length≤most:=by unfold most;omega
 have q1:1<τ.length+3:=by omega
 have q2:2<τ.length+3:=by omega
 have h1:=cT (base:=τ.length+3) (clr:=[5,6,14]) (b:=wD) n.keys
  (fun k (ok:Bool)=>⟨[.ptr 0 0 0 0,.bool false,.ptr (τ.length+1) 0 0 0,ar n.keys.length,.bool ok,.any,.any,.any,.any,.any,.bool false,.aa n.by' (n.keys.map (.int .i64)),ar n.keys.length,ar k,.any,.any,.any,.any,.any,.any,.any,.any,.any],fo bn ac ep1 m1 ep2 m2 n (.aa ba (aZ a)) .aj (.sl (τ.length+2) 0 0 a.length)::(τ++[oR n,.arr 1 0 (aZ a)])⟩)
  (fun _ _=>True) (fun k x ok=>.inl (ok&&(x==(k:Int)&&a.getD k 0 != 4)))
  (fun ok=>(.ext 0,⟨[.ptr 0 0 0 0,.bool false,.ptr (τ.length+1) 0 0 0,ar n.keys.length,.bool ok,.any,.any,.any,.any,.any,.bool false,.aa n.by' (n.keys.map (.int .i64)),ar n.keys.length,ar n.keys.length,.bool false,.any,.any,.any,.any,.any,.any,.any,.any],fo bn ac ep1 m1 ep2 m2 n (.aa ba (aZ a)) .aj (.sl (τ.length+2) 0 0 a.length)::(τ++[oR n,.arr 1 0 (aZ a)])⟩))
  (fun (r:Empty) _=>r.elim)
  (fun k x ok hk' hy _=>by
   refine⟨?_,trivial⟩;have ak:((k:Int)<(n.keys.length:Int)):=by omega
   have hof:a[k]?=some (a.getD k 0):=by
    have:k<a.length:=by omega
    simp[au,this]
   generalize a.getD k 0=o at *;cases ok
   ·simp[wD,ak,hy,aX hk' hk,aE]
   by_cases h0:x=(k:Int)
   ·simp[wD,ak,hy,h0,hof,aX hk' hk,aE]
   simp[wD,ak,hy,h0,bE h0,aX hk' hk,aE])
  (fun s _=>by simp[wD]) true trivial
 rw[zo]at h1;have h1:=h1.2;rw[ew]at h1;generalize py a 0 n.keys=ok1 at *;have h2:=cT (base:=τ.length+3) (clr:=[7,8,9,18,19,20,21,22]) (b:=gL) n.ai
  (fun k (s:Bool×List Int)=>⟨[.ptr 0 0 0 0,.bool false,.ptr (τ.length+1) 0 0 0,ar n.keys.length,.bool s.1,.any,.any,.any,.any,.any,.bool false,.aa n.by' (n.keys.map (.int .i64)),ar n.keys.length,ar n.keys.length,.bool false,.aa n.bg (n.ai.map cC.a),ar n.ai.length,ar k,.any,.any,.any,.any,.any],fo bn ac ep1 m1 ep2 m2 n (.aa ba (aZ a)) .aj (.sl (τ.length+2) 0 0 a.length)::(τ++[oR n,.arr 1 0 (aZ s.2)])⟩)
  (fun _ s=>s.2.length=a.length) (Y6 a n.keys.length)
  (fun s=>(.ext 2,⟨[.ptr 0 0 0 0,.bool false,.ptr (τ.length+1) 0 0 0,ar n.keys.length,.bool s.1,.any,.any,.any,.any,.any,.bool false,.aa n.by' (n.keys.map (.int .i64)),ar n.keys.length,ar n.keys.length,.bool false,.aa n.bg (n.ai.map cC.a),ar n.ai.length,ar n.ai.length,.bool false,.any,.any,.any,.any],fo bn ac ep1 m1 ep2 m2 n (.aa ba (aZ a)) .aj (.sl (τ.length+2) 0 0 a.length)::(τ++[oR n,.arr 1 0 (aZ s.2)])⟩))
  (fun (r:Empty) _=>r.elim)
  (fun k g s hk' hy hs=>by
   obtain⟨ok,X⟩:=s;simp only at hs;unfold Y6;refine⟨?_,by simp only;split<;>simp[hs]⟩;have ak:((k:Int)<(n.ai.length:Int)):=by omega
   have hof:a[n.keys.length+k]?=some (a.getD (n.keys.length+k) 0):=by
    have:n.keys.length+k<a.length:=by omega
    simp[au,this]
   have w1:=rn (n:=(n.keys.length:Int)+(k:Int)) (by omega) (by omega);have w2:(0:Int)≤(n.keys.length:Int)+(k:Int):=by omega
   have w3:((n.keys.length:Int)+(k:Int)).toNat=n.keys.length+k:=by omega
   have w4:X[n.keys.length+k]?=some (X.getD (n.keys.length+k) 0):=by
    have:n.keys.length+k<X.length:=by omega
    simp[au,this]
   have w5:n.keys.length+k<a.length:=by omega
   generalize X.getD (n.keys.length+k) 0=w at *;unfold PK;generalize a.getD (n.keys.length+k) 0=o at *;have hx0:g.arg.length=0∨(((g.arg.length:Int)==0)=false∧(g.arg.length==0)=false):=by
    by_cases h:g.arg.length=0
    ·exact .inl h
    exact .inr ⟨by simp;intro h';exact h (by rw[h'];rfl),by simp;intro h';exact h (by rw[h'];rfl)⟩
   by_cases t1:g.tag=1
   ·simp only[t1];cases ok
    ·simp[gL,ak,hy,cC.a,hof,w1,w2,w3,w4,aX hk' hg,aE,aH,hτ,q1,q2,t1]
    rcases hx0 with h0|⟨h0,h0'⟩
    ·simp[gL,ak,hy,cC.a,hof,w1,w2,w3,w4,aX hk' hg,aE,aH,hτ,q1,q2,t1,h0]
    simp[gL,ak,hy,cC.a,hof,w1,w2,w3,w4,aX hk' hg,aE,aH,hτ,q1,q2,t1,h0,h0']
   by_cases t2:g.tag=2
   ·simp only[t2];cases ok
    ·simp[gL,ak,hy,cC.a,hof,w1,w2,w3,w4,aX hk' hg,aE,aH,hτ,q1,q2,t2]
    rcases hx0 with h0|⟨h0,h0'⟩
    ·simp[gL,ak,hy,cC.a,hof,w1,w2,w3,w4,aX hk' hg,aE,aH,hτ,q1,q2,t2,h0]
    simp[gL,ak,hy,cC.a,hof,w1,w2,w3,w4,aX hk' hg,aE,aH,hτ,q1,q2,t2,h0,h0']
   by_cases t3:g.tag=3
   ·simp only[t3];cases ok
    ·simp[gL,ak,hy,cC.a,hof,w1,w2,w3,w4,aX hk' hg,aE,aH,hτ,q1,q2,t3];simp[w5,hof,w1,w2,w3,w4,aX hk' hg,aE,aH,hτ,q1,q2]
    rcases hx0 with h0|⟨h0,h0'⟩
    ·simp[gL,ak,hy,cC.a,hof,w1,w2,w3,w4,aX hk' hg,aE,aH,hτ,q1,q2,t3,h0];simp[w5,hof,w1,w2,w3,w4,aX hk' hg,aE,aH,hτ,q1,q2,h0]
    simp[gL,ak,hy,cC.a,hof,w1,w2,w3,w4,aX hk' hg,aE,aH,hτ,q1,q2,t3,h0,h0'];simp[w5,hof,w1,w2,w3,w4,aX hk' hg,aE,aH,hτ,q1,q2,h0,h0']
   by_cases t4:g.tag=4
   ·simp only[t4];cases ok
    ·simp[gL,ak,hy,cC.a,hof,w1,w2,w3,w4,aX hk' hg,aE,aH,hτ,q1,q2,t4]
    rcases hx0 with h0|⟨h0,h0'⟩
    ·simp[gL,ak,hy,cC.a,hof,w1,w2,w3,w4,aX hk' hg,aE,aH,hτ,q1,q2,t4,h0]
    simp[gL,ak,hy,cC.a,hof,w1,w2,w3,w4,aX hk' hg,aE,aH,hτ,q1,q2,t4,h0,h0']
   by_cases t5:g.tag=5
   ·simp only[t5];cases ok
    ·simp[gL,ak,hy,cC.a,hof,w1,w2,w3,w4,aX hk' hg,aE,aH,hτ,q1,q2,t5]
    rcases hx0 with h0|⟨h0,h0'⟩
    ·simp[gL,ak,hy,cC.a,hof,w1,w2,w3,w4,aX hk' hg,aE,aH,hτ,q1,q2,t5,h0]
    simp[gL,ak,hy,cC.a,hof,w1,w2,w3,w4,aX hk' hg,aE,aH,hτ,q1,q2,t5,h0,h0']
   cases ok
   ·simp[gL,ak,hy,cC.a,hof,w1,w2,w3,w4,aX hk' hg,aE,aH,hτ,q1,q2,t1,t2,t3,t4,t5,bE t1,bE t2,bE t3,bE t4,bE t5]
   rcases hx0 with h0|⟨h0,h0'⟩
   ·simp[gL,ak,hy,cC.a,hof,w1,w2,w3,w4,aX hk' hg,aE,aH,hτ,q1,q2,t1,t2,t3,t4,t5,bE t1,bE t2,bE t3,bE t4,bE t5,h0]
   simp[gL,ak,hy,cC.a,hof,w1,w2,w3,w4,aX hk' hg,aE,aH,hτ,q1,q2,t1,t2,t3,t4,t5,bE t1,bE t2,bE t3,bE t4,bE t5,h0,h0'])
  (fun s _=>by simp[gL]) (ok1,a) rfl
 rw[GF]at h2;have h2:=h2.2;rw[eK]at h2;have hcl:=lg (enc:=.int .i64) ba a ha;rw[bp aa9 rfl];simp at h1 h2;simp[aor,Hz,hA,hm,bL.a,c1,c2',c3',w1,c4',hcl,h1,h2]
theorem Tb(b:Bool)(l:List Int)(x:Int)(hn:l.length≤most):aK I.qhu [.aa b (aZ l),ar x]=some (ar (Pr (fun y=>x==y) l)):=by
 rw[aA agu rfl];have hstep:∀k,k<l.length→∀y,l[k]?=some y→(x==y)=false→dK 0 [2,3,6,7] pu (run code pu ⟨[.aa b (aZ l),ar x,.any,.any,ar l.length,ar k,.any,.any],[]⟩) =
   cq code 0 [2,3,6,7] pu ⟨[.aa b (aZ l),ar x,.any,.any,ar l.length,ar (k+1:Nat),.any,.any],[]⟩:=fun k hk y hy hp=>by
  have ak:((k:Int)<(l.length:Int)):=by omega
  simp[pu,hy,hp,ak,aX hk hn,bY]
 unfold Pr;by_cases ha:(l.any fun y=>x==y)=true
 ·have ak:=cU (d4.1 ha);have hp:(x==l[l.findIdx fun y=>x==y])=true:=dZ (p:=fun y=>x==y) (w:=ak);have hloop:=cL (base:=0) (clr:=[2,3,6,7]) (b:=pu) (fun k=>⟨[.aa b (aZ l),ar x,.any,.any,ar l.length,ar k,.any,.any],[]⟩) (l.findIdx fun y=>x==y)
   (.ret,⟨[.aa b (aZ l),ar x,ar (l.findIdx fun y=>x==y:Nat),ar (l.findIdx fun y=>x==y:Nat),ar l.length,ar (l.findIdx fun y=>x==y:Nat),.bool true,.bool true],[]⟩)
   (fun k hk=>hstep k (by omega) _ (am (by omega)) (by simpa using eD hk))
   (by
    have h1:l[l.findIdx fun y=>x==y]?=some l[l.findIdx fun y=>x==y]:=am ak;have hlt':(((l.findIdx fun y=>x==y:Nat):Int)<(l.length:Int)):=by omega
    generalize hL:(l.findIdx fun y=>x==y)=L at *;generalize l[L]=y at *;simp[pu,h1,hp,hlt'])
  rw[if_pos ha];generalize (l.findIdx fun y=>x==y)=L at *;simp at hloop;simp[apM,X3,hloop]
 have hall:∀y∈l,(x==y)=false:=fun y hy=>fT.2 (bR.1 (eN _▸ha) y hy);have hloop:=cL (base:=0) (clr:=[2,3,6,7]) (b:=pu) (fun k=>⟨[.aa b (aZ l),ar x,.any,.any,ar l.length,ar k,.any,.any],[]⟩) l.length
  (.ext 0,⟨[.aa b (aZ l),ar x,.any,.any,ar l.length,ar l.length,.bool false,.any],[]⟩)
  (fun k hk=>hstep k hk _ (am hk) (hall _ (aF hk)))
  (by simp[pu])
 simp at hloop;rw[if_neg ha];simp[apM,X3,hloop]
theorem er(b:Bool)(l:List Int)(x:Int)(hn:l.length≤most):aK I.qhi [.aa b (aZ l),ar x]=some (.bool (l.any fun y=>x==y)):=by
 rw[aA ahs rfl];have h:=fun b=>Tb b l x hn;unfold Pr at h;cases ha:(l.any fun y=>x==y)<;>rw[ha]at h<;>simp[aq4,aaT,h]
def qG(l:List Int):Bool:=l.any fun y=>4==y
structure uI (X:ay) (r:ap) (bf:Bool) (res:List Int):Prop where
 nc:aC r=1
 ag:isAgg r=false
 len:∀L K O B N A,kM (L::K::O::B::N::A::X) r=some res.length
 fz:∀L K O B N A n,fz false true 3 (L::K::O::B::N::A::X) (n+3) r=.aa bf (aZ res)
theorem wK(X:ay)(b:Bool)(l:List Int):uI X (.aa b (aZ l)) b l:=⟨rfl,rfl,fun _ _ _ _ _ _=>by simp,fun _ _ _ _ _ _ _=>by simp⟩
theorem Qw(ep:Nat)(l:List Int)(X:ay):uI (.arr 1 ep (aZ l)::X) (.sl 6 ep 0 l.length) false l:=⟨rfl,rfl,fun _ _ _ _ _ _=>by simp,fun _ _ _ _ _ _ n=>by simp⟩
theorem JB(ep:Nat)(l:List Int)(Y:Obj)(X:ay):uI (Y::.arr 1 ep (aZ l)::X) (.sl 7 ep 0 l.length) false l:=⟨rfl,rfl,fun _ _ _ _ _ _=>by simp,fun _ _ _ _ _ _ n=>by simp⟩
def u4(n:bL)(opn:List Nat):Option (List Nat):=
 if eb n.op<0∨(opn.length:Int)<eb n.op∨lu n=false then none else
 match opn.drop (opn.length-(eb n.op).toNat) with
 |[]=>if n.l=-1∧n.r=-1 then some [] else none
 |[p]=>if n.l=p∧n.r=-1 then some [p] else none
 |[p,q]=>if n.l=p∧n.r=q then some [p,q] else none
 |_=>none
theorem TJ(t:Int):-1≤eb t∧eb t≤2:=by
 unfold eb
 repeat' split
 all_goals omega
abbrev fa(l:List Nat):List ap:=l.map fun (k:Nat)=>ap.int .i64 (k:Int)
structure rE where
 c0:ap
 c1:ap
 c2:ap
 c3:ap
 c4:ap
 c5:ap
 c6:ap
 c7:ap
 c8:ap
 c9:ap
 c10:ap
 c11:ap
abbrev bL.z(n:bL):rE:=⟨ar n.op,ar n.l,ar n.r,ar n.tab,.aa n.bk (n.af.map (.int .i64)),.bool n.left,.aa n.bc (n.cond.map EN.a),.aa n.by' (n.keys.map (.int .i64)),.aa n.bg (n.ai.map cC.a),.aa n.bi (n.items.map jM.a),.aa n.bo (n.ords.map jl),ar n.limit⟩
abbrev GM(bn:Bool)(ac:List bL)(ep1 m1 ep2 m2:Nat)(z:rE)(a b r:ap):Obj:=.arr 18 0 [.agg [.aa bn (ac.map bL.a),.sl 1 ep1 0 m1,.sl 2 ep2 0 m2,z.c0,z.c1,z.c2,z.c3,z.c4,z.c5,z.c6,z.c7,z.c8,z.c9,z.c10,z.c11,a,b,r]]
abbrev stK(bn:Bool)(ac:List bL)(ep1 ep2:Nat)(af:List (dI Int))(opn:List Nat)(n0:rE)(a0 b0 r0:ap)(B:Obj):ay:=
 [GM bn ac ep1 af.length ep2 opn.length n0 a0 b0 r0,.arr 1 ep1 (af.map (dI.c (.int .i64))),.arr 1 ep2 (fa opn),B]
theorem Py(bn:Bool)(ac:List bL)(ep1 ep2:Nat)(af:List (dI Int))(opn:List Nat)(n0:rE)(n:bL)(a0 b0 r0:ap)(B:Obj)(ask:ap)(i:Nat)(hi:ac[i]?=some n)(hk1:n.keys.length≤most)(hk2:n.ai.length≤most)
  (hb:eb n.op<0∨(opn.length:Int)<eb n.op∨lu n=false) :
  ∃σ',cA code I.qfo [.ptr 0 0 0 0,ar i,ask] (stK bn ac ep1 ep2 af opn n0 a0 b0 r0 B)=some (.bool false,σ'):=by
 rw[bp nb rfl];have hp:=pr n.op;have hbl:=px n hk1 hk2;simp only[bL.a]at hbl;by_cases c1:eb n.op<0
 ·exact⟨_,by simp[aod,ip,hi,bL.a,hp,c1];rfl⟩
 by_cases c2:(opn.length:Int)<eb n.op
 ·exact⟨_,by simp[aod,ip,hi,bL.a,hp,c1,c2];rfl⟩
 have c3:lu n=false:=by rcases hb with h|h|h;exact absurd h c1;exact absurd h c2;exact h
 rw[c3]at hbl;exact⟨_,by simp[aod,ip,hi,bL.a,hp,c1,c2,hbl];rfl⟩
theorem mf(σ:ay)(b:Bool)(l:List ap):kM σ (.aa b l)=some l.length:=rfl
theorem mm(σ:ay)(l:List ap):kM σ (.lst l)=some l.length:=rfl
theorem kP(σ:ay):kM σ .aj=some 0:=rfl
theorem ow(σ:ay)(id ep o n:Nat):kM σ (.sl id ep o n)=if fresh σ id ep then some n else none:=rfl
theorem FH:IntKind.i64.wrap 1=1:=by decide
theorem F6:IntKind.i64.wrap 2=2:=by decide
theorem Ti{a b:Bool}(h:(a&&b)=true):a=true∧b=true:=by revert h;cases a<;>cases b<;>simp
instance:Nc (fun (k:Nat)=>ap.int .i64 (k:Int)) 1 false:=⟨fun _=>rfl,fun _=>rfl⟩
instance:Fx (fun (k:Nat)=>ap.int .i64 (k:Int)):=⟨fun _ _ _ _ _ _=>rfl⟩
abbrev X7(x y:Int):Obj:=.arr 2 0 [.agg [ar x,ar y]]
def sB(n:bL)(i len:Nat):Bool:=!((n.op==8 ||n.op==10)&&i != len-1)
structure nS where
 bn:Bool
 ac:List bL
 ep1:Nat
 ep2:Nat
 af:List (dI Int)
 opn:List Nat
 n0:rE
 a0:ap
 b0:ap
 r0:ap
 B:Obj
 ask:ap
 i:Nat
 n:bL
noncomputable abbrev nS.call(E:nS):Option (ap×ay):=cA code I.qfo [.ptr 0 0 0 0,ar E.i,E.ask] (stK E.bn E.ac E.ep1 E.ep2 E.af E.opn E.n0 E.a0 E.b0 E.r0 E.B)
abbrev nS.st(E:nS)(A C r:ap)(x y:Int):ay:=[fo E.bn E.ac E.ep1 E.af.length E.ep2 E.opn.length E.n A C r,.arr 1 E.ep1 (E.af.map (dI.c (.int .i64))),.arr 1 E.ep2 (fa E.opn),E.B,oR E.n,X7 x y]
structure Tk (E:nS) (k:Nat) (ps:List Nat):Prop where
 hi:E.ac[E.i]?=some E.n
 hil:E.ac.length≤most
 hol:E.opn.length≤most
 hk1:E.n.keys.length≤most
 hk2:E.n.ai.length≤most
 hop:eb E.n.op=k
 hkl:k≤E.opn.length
 hd:E.opn.drop (E.opn.length-k)=ps
 hbl:lu E.n=true
 hB:∀base σ,aH base σ E.B=E.B
abbrev lw(E:nS):Prop:=((E.n.op==8)=false∧(E.n.op==10)=false∧True)∨((E.n.op==8)=true∧((E.i:Int) != ((E.ac.length:Int)-1))=false∧True)∨((E.n.op==8)=false∧(E.n.op==10)=true∧((E.i:Int) != ((E.ac.length:Int)-1))=false)
abbrev zp(E:nS):Prop:=((E.n.op==8)=true∧((E.i:Int) != ((E.ac.length:Int)-1))=true∧True)∨((E.n.op==8)=false∧(E.n.op==10)=true∧((E.i:Int) != ((E.ac.length:Int)-1))=true)
theorem tk0{E:nS}(h:Tk E 0 []):aK I.qfq [ar E.n.op]=some (ar 0)∧aK I.qfa [E.n.a]=some (.bool true)∧decide ((E.opn.length:Int)<0)=false∧IntKind.i64.wrap ((E.opn.length:Int))=(E.opn.length:Int)∧((E.opn.length:Int)).toNat=E.opn.length∧(0:Int)≤(E.opn.length:Int)∧E.opn.length-(E.opn.length)=0∧E.opn.length≤E.opn.length∧List.take 0 (fa [])=fa []∧(0:Int)≤(E.opn.length:Int)∧List.drop (E.opn.length) (fa E.opn)=fa []∧IntKind.i64.wrap ((E.ac.length:Int)-1)=(E.ac.length:Int)-1∧E.opn.length+0=E.opn.length:=by
 obtain⟨hi,hil,hol,hk1,hk2,hop,hkl,hd,hbl,_⟩:=h;have hil':E.ac.length≤68719476736:=hil;have hol':E.opn.length≤68719476736:=hol;have hp:=pr E.n.op;have hbs:=px E.n hk1 hk2;rw[hop]at hp;rw[hbl]at hbs;refine⟨hp,hbs,eH (by omega),rn (by omega) (by omega),by omega,by omega,by omega,by omega,rfl,by omega,?_,rn (by omega) (by omega),by omega⟩
 ·rw[fa,←List.map_drop];exact congrArg _ hd
theorem tk1{E:nS}{p:Nat}(h:Tk E 1 [p]):aK I.qfq [ar E.n.op]=some (ar 1)∧aK I.qfa [E.n.a]=some (.bool true)∧decide ((E.opn.length:Int)<1)=false∧IntKind.i64.wrap ((E.opn.length:Int)-1)=(E.opn.length:Int)-1∧((E.opn.length:Int)-1).toNat=E.opn.length-1∧(1:Int)≤(E.opn.length:Int)∧E.opn.length-(E.opn.length-1)=1∧E.opn.length-1≤E.opn.length∧List.take 1 (fa [p])=fa [p]∧(0:Int)≤(E.opn.length:Int)∧List.drop (E.opn.length-1) (fa E.opn)=fa [p]∧IntKind.i64.wrap ((E.ac.length:Int)-1)=(E.ac.length:Int)-1∧E.opn.length-1+1=E.opn.length∧E.opn[E.opn.length-1]?=some p:=by
 obtain⟨hi,hil,hol,hk1,hk2,hop,hkl,hd,hbl,_⟩:=h;have hil':E.ac.length≤68719476736:=hil;have hol':E.opn.length≤68719476736:=hol;have hp:=pr E.n.op;have hbs:=px E.n hk1 hk2;rw[hop]at hp;rw[hbl]at hbs;refine⟨hp,hbs,eH (by omega),rn (by omega) (by omega),by omega,by omega,by omega,by omega,rfl,by omega,?_,rn (by omega) (by omega),by omega,?_⟩
 ·rw[fa,←List.map_drop];exact congrArg _ hd
 have:=congrArg (·[0]?) hd;simpa using this
theorem tk2{E:nS}{p q:Nat}(h:Tk E 2 [p,q]):aK I.qfq [ar E.n.op]=some (ar 2)∧aK I.qfa [E.n.a]=some (.bool true)∧decide ((E.opn.length:Int)<2)=false∧IntKind.i64.wrap ((E.opn.length:Int)-2)=(E.opn.length:Int)-2∧((E.opn.length:Int)-2).toNat=E.opn.length-2∧(2:Int)≤(E.opn.length:Int)∧E.opn.length-(E.opn.length-2)=2∧E.opn.length-2≤E.opn.length∧List.take 2 (fa [p,q])=fa [p,q]∧(0:Int)≤(E.opn.length:Int)∧List.drop (E.opn.length-2) (fa E.opn)=fa [p,q]∧IntKind.i64.wrap ((E.ac.length:Int)-1)=(E.ac.length:Int)-1∧E.opn.length-2+2=E.opn.length∧E.opn[E.opn.length-2]?=some p∧E.opn[E.opn.length-2+1]?=some q:=by
 obtain⟨hi,hil,hol,hk1,hk2,hop,hkl,hd,hbl,_⟩:=h;have hil':E.ac.length≤68719476736:=hil;have hol':E.opn.length≤68719476736:=hol;have hp:=pr E.n.op;have hbs:=px E.n hk1 hk2;rw[hop]at hp;rw[hbl]at hbs;refine⟨hp,hbs,eH (by omega),rn (by omega) (by omega),by omega,by omega,by omega,by omega,rfl,by omega,?_,rn (by omega) (by omega),by omega,?_,?_⟩
 ·rw[fa,←List.map_drop];exact congrArg _ hd
 ·have:=congrArg (·[0]?) hd;simpa using this
 have:=congrArg (·[1]?) hd;simpa using this
theorem O6(E:nS)(h:Tk E 0 [])(hb:¬(E.n.l=-1∧E.n.r=-1)):∃σ',E.call=some (.bool false,σ'):=by
 unfold nS.call;rw[bp nb rfl];obtain⟨hp,hbs,z1,z2,z3,z4,z5,z7,z8,z9,hd',zw,z6⟩:=tk0 h;have hi:=h.hi;have hB:=h.hB;simp only[bL.a]at hbs;by_cases c:E.n.l=(-1)
 ·have c1:((-1)==E.n.l)=true:=by simp[c]
  have c2:((-1)==E.n.r)=false:=bE (Ne.symm fun h=>hb ⟨c,h⟩);exact⟨_,by simp[aod,ip,hi,bL.a,hp,hbs,c1,c2,z1,z2,z3,z4,z5,z6,z7,z8,z9,hd'];rfl⟩
 have c1:((-1)==E.n.l)=false:=bE (Ne.symm c);exact⟨_,by simp[aod,ip,hi,bL.a,hp,hbs,c1,z1,z2,z3,z4,z5,z6,z7,z8,z9,hd'];rfl⟩
theorem Oq(E:nS)(p:Nat)(h:Tk E 1 [p])(hb:¬(E.n.l=(p:Int)∧E.n.r=-1)):∃σ',E.call=some (.bool false,σ'):=by
 unfold nS.call;rw[bp nb rfl];obtain⟨hp,hbs,z1,z2,z3,z4,z5,z7,z8,z9,hd',zw,z6,y0⟩:=tk1 h;have hi:=h.hi;have hB:=h.hB;simp only[bL.a]at hbs;by_cases c:E.n.l=(p:Int)
 ·have c1:((p:Int)==E.n.l)=true:=by simp[c]
  have c2:((-1)==E.n.r)=false:=bE (Ne.symm fun h=>hb ⟨c,h⟩);exact⟨_,by simp[aod,ip,hi,bL.a,hp,hbs,c1,c2,z1,z2,z3,z4,z5,z6,z7,z8,z9,hd'];rfl⟩
 have c1:((p:Int)==E.n.l)=false:=bE (Ne.symm c);exact⟨_,by simp[aod,ip,hi,bL.a,hp,hbs,c1,z1,z2,z3,z4,z5,z6,z7,z8,z9,hd'];rfl⟩
theorem PX(E:nS)(p q:Nat)(h:Tk E 2 [p,q])(hb:¬(E.n.l=(p:Int)∧E.n.r=(q:Int))):∃σ',E.call=some (.bool false,σ'):=by
 unfold nS.call;rw[bp nb rfl];obtain⟨hp,hbs,z1,z2,z3,z4,z5,z7,z8,z9,hd',zw,z6,y0,y1⟩:=tk2 h;have hi:=h.hi;have hB:=h.hB;simp only[bL.a]at hbs;by_cases c:E.n.l=(p:Int)
 ·have c1:((p:Int)==E.n.l)=true:=by simp[c]
  have c2:((q:Int)==E.n.r)=false:=bE (Ne.symm fun h=>hb ⟨c,h⟩);exact⟨_,by simp[aod,ip,hi,bL.a,hp,hbs,c1,c2,z1,z2,z3,z4,z5,z6,z7,z8,z9,hd'];rfl⟩
 have c1:((p:Int)==E.n.l)=false:=bE (Ne.symm c);exact⟨_,by simp[aod,ip,hi,bL.a,hp,hbs,c1,z1,z2,z3,z4,z5,z6,z7,z8,z9,hd'];rfl⟩
theorem SK(E:nS)(h:Tk E 0 [])(hA:E.n.l=-1∧E.n.r=-1)(hc:lw E)(σ1:ay)
  (hask:dS code E.ask [.ptr 0 0 0 0] (E.st .aj .aj E.r0 (-1) (-1))=some (.bool false,σ1)):∃σ',E.call=some (.bool false,σ'):=by
 unfold nS.call;rw[bp nb rfl];obtain⟨hp,hbs,z1,z2,z3,z4,z5,z7,z8,z9,hd',zw,z6⟩:=tk0 h;have hi:=h.hi;have hB:=h.hB;simp only[bL.a]at hbs;have c1:((-1)==E.n.l)=true:=by simp[hA.1]
 have c2:((-1)==E.n.r)=true:=by simp[hA.2]
 rcases hc with⟨q1,q2,q3⟩|⟨q1,q2,q3⟩|⟨q1,q2,q3⟩<;>exact⟨_,by simp[aod,ip,hi,bL.a,hp,hbs,c1,c2,z1,z2,z3,z4,z5,z6,z7,z8,z9,hd',zw,gc,cg,aE,aH,hB,FH,F6,q1,q2,q3,hask];rfl⟩
theorem Mw(E:nS)(h:Tk E 0 [])(hA:E.n.l=-1∧E.n.r=-1)(hc:zp E):∃σ',E.call=some (.bool false,σ'):=by
 unfold nS.call;rw[bp nb rfl];obtain⟨hp,hbs,z1,z2,z3,z4,z5,z7,z8,z9,hd',zw,z6⟩:=tk0 h;have hi:=h.hi;have hB:=h.hB;simp only[bL.a]at hbs;have c1:((-1)==E.n.l)=true:=by simp[hA.1]
 have c2:((-1)==E.n.r)=true:=by simp[hA.2]
 rcases hc with⟨q1,q2,q3⟩|⟨q1,q2,q3⟩<;>exact⟨_,by simp[aod,ip,hi,bL.a,hp,hbs,c1,c2,z1,z2,z3,z4,z5,z6,z7,z8,z9,hd',zw,gc,cg,aE,aH,hB,FH,F6,q1,q2,q3];rfl⟩
theorem SO(E:nS)(p:Nat)(h:Tk E 1 [p])(hA:E.n.l=(p:Int)∧E.n.r=-1)(ka:dI Int)(hka:E.af[p]?=some ka)(hla:ka.l.length≤most)(h4:((E.n.op != 11)&&qG ka.l)=false)(hc:lw E)(σ1:ay)
  (hask:dS code E.ask [.ptr 0 0 0 0] (E.st (.aa ka.b (aZ ka.l)) .aj E.r0 (p:Int) (-1))=some (.bool false,σ1)):∃σ',E.call=some (.bool false,σ'):=by
 unfold nS.call;rw[bp nb rfl];obtain⟨hp,hbs,z1,z2,z3,z4,z5,z7,z8,z9,hd',zw,z6,y0⟩:=tk1 h;have hi:=h.hi;have hB:=h.hB;simp only[bL.a]at hbs;have c1:((p:Int)==E.n.l)=true:=by simp[hA.1]
 have c2:((-1)==E.n.r)=true:=by simp[hA.2]
 obtain⟨hla0,hga⟩:=al.1 hka;have ga:(E.n.op != 11)=true→∀b,aK I.qhi [.aa b (aZ ka.l),ar 4]=some (.bool false):=fun e b=>by
  have:=er b ka.l 4 hla
  rwa [show (ka.l.any fun y=>4==y)=false by rw[e]at h4;exact h4]at this
 rcases hc with⟨q1,q2,q3⟩|⟨q1,q2,q3⟩|⟨q1,q2,q3⟩<;>cases h12:(E.n.op != 11)<;>first|(have ga:=ga h12;exact⟨_,by simp[aod,ip,hi,bL.a,hp,hbs,c1,c2,z1,z2,z3,z4,z5,z6,z7,z8,z9,hd',zw,gc,cg,aE,aH,hB,FH,F6,y0,hga,hla0,q1,q2,q3,hask,h12,ga];rfl⟩)|exact⟨_,by simp[aod,ip,hi,bL.a,hp,hbs,c1,c2,z1,z2,z3,z4,z5,z6,z7,z8,z9,hd',zw,gc,cg,aE,aH,hB,FH,F6,y0,hga,hla0,q1,q2,q3,hask,h12];rfl⟩
theorem Mh(E:nS)(p:Nat)(h:Tk E 1 [p])(hA:E.n.l=(p:Int)∧E.n.r=-1)(ka:dI Int)(hka:E.af[p]?=some ka)(hla:ka.l.length≤most)(h4:((E.n.op != 11)&&qG ka.l)=false)(hc:zp E):∃σ',E.call=some (.bool false,σ'):=by
 unfold nS.call;rw[bp nb rfl];obtain⟨hp,hbs,z1,z2,z3,z4,z5,z7,z8,z9,hd',zw,z6,y0⟩:=tk1 h;have hi:=h.hi;have hB:=h.hB;simp only[bL.a]at hbs;have c1:((p:Int)==E.n.l)=true:=by simp[hA.1]
 have c2:((-1)==E.n.r)=true:=by simp[hA.2]
 obtain⟨hla0,hga⟩:=al.1 hka;have ga:(E.n.op != 11)=true→∀b,aK I.qhi [.aa b (aZ ka.l),ar 4]=some (.bool false):=fun e b=>by
  have:=er b ka.l 4 hla
  rwa [show (ka.l.any fun y=>4==y)=false by rw[e]at h4;exact h4]at this
 rcases hc with⟨q1,q2,q3⟩|⟨q1,q2,q3⟩<;>cases h12:(E.n.op != 11)<;>first|(have ga:=ga h12;exact⟨_,by simp[aod,ip,hi,bL.a,hp,hbs,c1,c2,z1,z2,z3,z4,z5,z6,z7,z8,z9,hd',zw,gc,cg,aE,aH,hB,FH,F6,y0,hga,hla0,q1,q2,q3,h12,ga];rfl⟩)|exact⟨_,by simp[aod,ip,hi,bL.a,hp,hbs,c1,c2,z1,z2,z3,z4,z5,z6,z7,z8,z9,hd',zw,gc,cg,aE,aH,hB,FH,F6,y0,hga,hla0,q1,q2,q3,h12];rfl⟩
theorem TP(E:nS)(p q:Nat)(h:Tk E 2 [p,q])(hA:E.n.l=(p:Int)∧E.n.r=(q:Int))(ka:dI Int)(hka:E.af[p]?=some ka)(hla:ka.l.length≤most)(kb:dI Int)(hkb:E.af[q]?=some kb)(hlb:kb.l.length≤most)(h4:((E.n.op != 11)&&qG ka.l)=false)(h5:((E.n.op != 11)&&qG kb.l)=false)(hc:lw E)(σ1:ay)
  (hask:dS code E.ask [.ptr 0 0 0 0] (E.st (.aa ka.b (aZ ka.l)) (.aa kb.b (aZ kb.l)) E.r0 (p:Int) (q:Int))=some (.bool false,σ1)):∃σ',E.call=some (.bool false,σ'):=by
 unfold nS.call;rw[bp nb rfl];obtain⟨hp,hbs,z1,z2,z3,z4,z5,z7,z8,z9,hd',zw,z6,y0,y1⟩:=tk2 h;have hi:=h.hi;have hB:=h.hB;simp only[bL.a]at hbs;have c1:((p:Int)==E.n.l)=true:=by simp[hA.1]
 have c2:((q:Int)==E.n.r)=true:=by simp[hA.2]
 obtain⟨hla0,hga⟩:=al.1 hka;obtain⟨hlb0,hgb⟩:=al.1 hkb;have ga:(E.n.op != 11)=true→∀b,aK I.qhi [.aa b (aZ ka.l),ar 4]=some (.bool false):=fun e b=>by
  have:=er b ka.l 4 hla
  rwa [show (ka.l.any fun y=>4==y)=false by rw[e]at h4;exact h4]at this
 have gb:(E.n.op != 11)=true→∀b,aK I.qhi [.aa b (aZ kb.l),ar 4]=some (.bool false):=fun e b=>by
  have:=er b kb.l 4 hlb
  rwa [show (kb.l.any fun y=>4==y)=false by rw[e]at h5;exact h5]at this
 rcases hc with⟨q1,q2,q3⟩|⟨q1,q2,q3⟩|⟨q1,q2,q3⟩<;>cases h12:(E.n.op != 11)<;>first|(have ga:=ga h12;have gb:=gb h12;exact⟨_,by simp[aod,ip,hi,bL.a,hp,hbs,c1,c2,z1,z2,z3,z4,z5,z6,z7,z8,z9,hd',zw,gc,cg,aE,aH,hB,FH,F6,y0,y1,hga,hla0,hgb,hlb0,q1,q2,q3,hask,h12,ga,gb];rfl⟩)|exact⟨_,by simp[aod,ip,hi,bL.a,hp,hbs,c1,c2,z1,z2,z3,z4,z5,z6,z7,z8,z9,hd',zw,gc,cg,aE,aH,hB,FH,F6,y0,y1,hga,hla0,hgb,hlb0,q1,q2,q3,hask,h12];rfl⟩
theorem Mj(E:nS)(p q:Nat)(h:Tk E 2 [p,q])(hA:E.n.l=(p:Int)∧E.n.r=(q:Int))(ka:dI Int)(hka:E.af[p]?=some ka)(hla:ka.l.length≤most)(kb:dI Int)(hkb:E.af[q]?=some kb)(hlb:kb.l.length≤most)(h4:((E.n.op != 11)&&qG ka.l)=false)(h5:((E.n.op != 11)&&qG kb.l)=false)(hc:zp E):∃σ',E.call=some (.bool false,σ'):=by
 unfold nS.call;rw[bp nb rfl];obtain⟨hp,hbs,z1,z2,z3,z4,z5,z7,z8,z9,hd',zw,z6,y0,y1⟩:=tk2 h;have hi:=h.hi;have hB:=h.hB;simp only[bL.a]at hbs;have c1:((p:Int)==E.n.l)=true:=by simp[hA.1]
 have c2:((q:Int)==E.n.r)=true:=by simp[hA.2]
 obtain⟨hla0,hga⟩:=al.1 hka;obtain⟨hlb0,hgb⟩:=al.1 hkb;have ga:(E.n.op != 11)=true→∀b,aK I.qhi [.aa b (aZ ka.l),ar 4]=some (.bool false):=fun e b=>by
  have:=er b ka.l 4 hla
  rwa [show (ka.l.any fun y=>4==y)=false by rw[e]at h4;exact h4]at this
 have gb:(E.n.op != 11)=true→∀b,aK I.qhi [.aa b (aZ kb.l),ar 4]=some (.bool false):=fun e b=>by
  have:=er b kb.l 4 hlb
  rwa [show (kb.l.any fun y=>4==y)=false by rw[e]at h5;exact h5]at this
 rcases hc with⟨q1,q2,q3⟩|⟨q1,q2,q3⟩<;>cases h12:(E.n.op != 11)<;>first|(have ga:=ga h12;have gb:=gb h12;exact⟨_,by simp[aod,ip,hi,bL.a,hp,hbs,c1,c2,z1,z2,z3,z4,z5,z6,z7,z8,z9,hd',zw,gc,cg,aE,aH,hB,FH,F6,y0,y1,hga,hla0,hgb,hlb0,q1,q2,q3,h12,ga,gb];rfl⟩)|exact⟨_,by simp[aod,ip,hi,bL.a,hp,hbs,c1,c2,z1,z2,z3,z4,z5,z6,z7,z8,z9,hd',zw,gc,cg,aE,aH,hB,FH,F6,y0,y1,hga,hla0,hgb,hlb0,q1,q2,q3,h12];rfl⟩
theorem J5(E:nS)(p:Nat)(h:Tk E 1 [p])(hA:E.n.l=(p:Int)∧E.n.r=-1)(ka:dI Int)(hka:E.af[p]?=some ka)(hla:ka.l.length≤most)(h4:((E.n.op != 11)&&qG ka.l)=true):∃σ',E.call=some (.bool false,σ'):=by
 unfold nS.call;rw[bp nb rfl];obtain⟨hp,hbs,z1,z2,z3,z4,z5,z7,z8,z9,hd',zw,z6,y0⟩:=tk1 h;have hi:=h.hi;have hB:=h.hB;simp only[bL.a]at hbs;have c1:((p:Int)==E.n.l)=true:=by simp[hA.1]
 have c2:((-1)==E.n.r)=true:=by simp[hA.2]
 obtain⟨hla0,hga⟩:=al.1 hka;have h12:(E.n.op != 11)=true:=(Ti h4).1;have ga:=fun b=>er b ka.l 4 hla;rw[show (ka.l.any fun y=>4==y)=true from (Ti h4).2]at ga;exact⟨_,by simp[aod,ip,hi,bL.a,hp,hbs,c1,c2,z1,z2,z3,z4,z5,z6,z7,z8,z9,hd',gc,cg,aE,aH,hB,FH,F6,y0,hga,hla0,h12,ga];rfl⟩
theorem It(E:nS)(p q:Nat)(h:Tk E 2 [p,q])(hA:E.n.l=(p:Int)∧E.n.r=(q:Int))(ka:dI Int)(hka:E.af[p]?=some ka)(hla:ka.l.length≤most)(kb:dI Int)(hkb:E.af[q]?=some kb)(hlb:kb.l.length≤most)(h4:((E.n.op != 11)&&qG ka.l)=true):∃σ',E.call=some (.bool false,σ'):=by
 unfold nS.call;rw[bp nb rfl];obtain⟨hp,hbs,z1,z2,z3,z4,z5,z7,z8,z9,hd',zw,z6,y0,y1⟩:=tk2 h;have hi:=h.hi;have hB:=h.hB;simp only[bL.a]at hbs;have c1:((p:Int)==E.n.l)=true:=by simp[hA.1]
 have c2:((q:Int)==E.n.r)=true:=by simp[hA.2]
 obtain⟨hla0,hga⟩:=al.1 hka;obtain⟨hlb0,hgb⟩:=al.1 hkb;have h12:(E.n.op != 11)=true:=(Ti h4).1;have ga:=fun b=>er b ka.l 4 hla;rw[show (ka.l.any fun y=>4==y)=true from (Ti h4).2]at ga;exact⟨_,by simp[aod,ip,hi,bL.a,hp,hbs,c1,c2,z1,z2,z3,z4,z5,z6,z7,z8,z9,hd',gc,cg,aE,aH,hB,FH,F6,y0,y1,hga,hla0,hgb,hlb0,h12,ga];rfl⟩
theorem JK(E:nS)(p q:Nat)(h:Tk E 2 [p,q])(hA:E.n.l=(p:Int)∧E.n.r=(q:Int))(ka:dI Int)(hka:E.af[p]?=some ka)(hla:ka.l.length≤most)(kb:dI Int)(hkb:E.af[q]?=some kb)(hlb:kb.l.length≤most)(h4:((E.n.op != 11)&&qG ka.l)=false)(h5:((E.n.op != 11)&&qG kb.l)=true):∃σ',E.call=some (.bool false,σ'):=by
 unfold nS.call;rw[bp nb rfl];obtain⟨hp,hbs,z1,z2,z3,z4,z5,z7,z8,z9,hd',zw,z6,y0,y1⟩:=tk2 h;have hi:=h.hi;have hB:=h.hB;simp only[bL.a]at hbs;have c1:((p:Int)==E.n.l)=true:=by simp[hA.1]
 have c2:((q:Int)==E.n.r)=true:=by simp[hA.2]
 obtain⟨hla0,hga⟩:=al.1 hka;obtain⟨hlb0,hgb⟩:=al.1 hkb;have h12:(E.n.op != 11)=true:=(Ti h5).1;have ga:=fun b=>er b ka.l 4 hla;rw[show (ka.l.any fun y=>4==y)=false by rw[h12]at h4;exact h4]at ga;have gb:=fun b=>er b kb.l 4 hlb;rw[show (kb.l.any fun y=>4==y)=true from (Ti h5).2]at gb;exact⟨_,by simp[aod,ip,hi,bL.a,hp,hbs,c1,c2,z1,z2,z3,z4,z5,z6,z7,z8,z9,hd',gc,cg,aE,aH,hB,FH,F6,y0,y1,hga,hla0,hgb,hlb0,h12,ga,gb];rfl⟩
theorem KV(E:nS)(h:Tk E 0 [])(hA:E.n.l=-1∧E.n.r=-1)(hc:lw E)(r:ap)(bf:Bool)(res:List Int)(X:ay)(hR:uI X r bf res)
  (hask:dS code E.ask [.ptr 0 0 0 0] (E.st .aj .aj E.r0 (-1) (-1))=some (.bool true,E.st .aj .aj r (-1) (-1)++X)) (hw:16<res.length):∃σ',E.call=some (.bool false,σ'):=by
 unfold nS.call;rw[bp nb rfl];obtain⟨hp,hbs,z1,z2,z3,z4,z5,z7,z8,z9,hd',zw,z6⟩:=tk0 h;have hi:=h.hi;have hB:=h.hB;simp only[bL.a]at hbs;have c1:((-1)==E.n.l)=true:=by simp[hA.1]
 have c2:((-1)==E.n.r)=true:=by simp[hA.2]
 have hw':(16:Int)<(res.length:Int):=by omega
 rcases hc with⟨q1,q2,q3⟩|⟨q1,q2,q3⟩|⟨q1,q2,q3⟩<;>exact⟨_,by simp[aod,ip,hi,bL.a,hp,hbs,c1,c2,z1,z2,z3,z4,z5,z6,z7,z8,z9,hd',zw,gc,cg,aE,aH,hB,FH,F6,q1,q2,q3,hask,hw',-kM,mf,mm,kP,ow,hR.len,hR.nc,hR.ag];rfl⟩
theorem PA(E:nS)(h:Tk E 0 [])(hkn:E.af.length+1≤most)(hol2:E.opn.length+1≤most)(hA:E.n.l=-1∧E.n.r=-1)(hc:lw E)(r:ap)(bf:Bool)(res:List Int)(X:ay)(hR:uI X r bf res)
  (hask:dS code E.ask [.ptr 0 0 0 0] (E.st .aj .aj E.r0 (-1) (-1))=some (.bool true,E.st .aj .aj r (-1) (-1)++X)) (hw:res.length≤16) :
  E.call=some (.bool true,fo E.bn E.ac (E.ep1+1) (E.af.length+1) (E.ep2+1) (E.opn.length-0+1) E.n .aj .aj r::.arr 1 (E.ep1+1) (E.af.map (dI.c (.int .i64))++[r])::.arr 1 (E.ep2+1) (fa (E.opn.take (E.opn.length-0))++[ar E.i])::E.B::oR E.n::X7 (-1) (-1)::X):=by
 unfold nS.call;rw[bp nb rfl];obtain⟨hp,hbs,z1,z2,z3,z4,z5,z7,z8,z9,hd',zw,z6⟩:=tk0 h;have hi:=h.hi;have hB:=h.hB;simp only[bL.a]at hbs;have c1:((-1)==E.n.l)=true:=by simp[hA.1]
 have c2:((-1)==E.n.r)=true:=by simp[hA.2]
 have hw':¬((16:Int)<(res.length:Int)):=by omega
 have hm2:E.opn.length-0+1≤most:=by omega
 have hol:=h.hol;rcases hc with⟨q1,q2,q3⟩|⟨q1,q2,q3⟩|⟨q1,q2,q3⟩<;>simp[aod,ip,hi,bL.a,hp,hbs,c1,c2,z1,z2,z3,z4,z5,z6,z7,z8,z9,hd',zw,gc,cg,aE,aH,hB,FH,F6,q1,q2,q3,hask,hw',-kM,mf,mm,kP,ow,hR.len,hR.nc,hR.ag,append,hkn,hm2,hol,hol2]
theorem KZ(E:nS)(p:Nat)(h:Tk E 1 [p])(hA:E.n.l=(p:Int)∧E.n.r=-1)(ka:dI Int)(hka:E.af[p]?=some ka)(hla:ka.l.length≤most)(h4:((E.n.op != 11)&&qG ka.l)=false)(hc:lw E)(r:ap)(bf:Bool)(res:List Int)(X:ay)(hR:uI X r bf res)
  (hask:dS code E.ask [.ptr 0 0 0 0] (E.st (.aa ka.b (aZ ka.l)) .aj E.r0 (p:Int) (-1))=some (.bool true,E.st (.aa ka.b (aZ ka.l)) .aj r (p:Int) (-1)++X)) (hw:16<res.length):∃σ',E.call=some (.bool false,σ'):=by
 unfold nS.call;rw[bp nb rfl];obtain⟨hp,hbs,z1,z2,z3,z4,z5,z7,z8,z9,hd',zw,z6,y0⟩:=tk1 h;have hi:=h.hi;have hB:=h.hB;simp only[bL.a]at hbs;have c1:((p:Int)==E.n.l)=true:=by simp[hA.1]
 have c2:((-1)==E.n.r)=true:=by simp[hA.2]
 obtain⟨hla0,hga⟩:=al.1 hka;have ga:(E.n.op != 11)=true→∀b,aK I.qhi [.aa b (aZ ka.l),ar 4]=some (.bool false):=fun e b=>by
  have:=er b ka.l 4 hla
  rwa [show (ka.l.any fun y=>4==y)=false by rw[e]at h4;exact h4]at this
 have hw':(16:Int)<(res.length:Int):=by omega
 rcases hc with⟨q1,q2,q3⟩|⟨q1,q2,q3⟩|⟨q1,q2,q3⟩<;>cases h12:(E.n.op != 11)<;>first|(have ga:=ga h12;exact⟨_,by simp[aod,ip,hi,bL.a,hp,hbs,c1,c2,z1,z2,z3,z4,z5,z6,z7,z8,z9,hd',zw,gc,cg,aE,aH,hB,FH,F6,y0,hga,hla0,q1,q2,q3,hask,hw',-kM,mf,mm,kP,ow,hR.len,hR.nc,hR.ag,h12,ga];rfl⟩)|exact⟨_,by simp[aod,ip,hi,bL.a,hp,hbs,c1,c2,z1,z2,z3,z4,z5,z6,z7,z8,z9,hd',zw,gc,cg,aE,aH,hB,FH,F6,y0,hga,hla0,q1,q2,q3,hask,hw',-kM,mf,mm,kP,ow,hR.len,hR.nc,hR.ag,h12];rfl⟩
theorem NS(E:nS)(p:Nat)(h:Tk E 1 [p])(hkn:E.af.length+1≤most)(hol2:E.opn.length+1≤most)(hA:E.n.l=(p:Int)∧E.n.r=-1)(ka:dI Int)(hka:E.af[p]?=some ka)(hla:ka.l.length≤most)(h4:((E.n.op != 11)&&qG ka.l)=false)(hc:lw E)(r:ap)(bf:Bool)(res:List Int)(X:ay)(hR:uI X r bf res)
  (hask:dS code E.ask [.ptr 0 0 0 0] (E.st (.aa ka.b (aZ ka.l)) .aj E.r0 (p:Int) (-1))=some (.bool true,E.st (.aa ka.b (aZ ka.l)) .aj r (p:Int) (-1)++X)) (hw:res.length≤16) :
  E.call=some (.bool true,fo E.bn E.ac (E.ep1+1) (E.af.length+1) (E.ep2+1) (E.opn.length-1+1) E.n (.aa ka.b (aZ ka.l)) .aj r::.arr 1 (E.ep1+1) (E.af.map (dI.c (.int .i64))++[r])::.arr 1 (E.ep2+1) (fa (E.opn.take (E.opn.length-1))++[ar E.i])::E.B::oR E.n::X7 (p:Int) (-1)::X):=by
 unfold nS.call;rw[bp nb rfl];obtain⟨hp,hbs,z1,z2,z3,z4,z5,z7,z8,z9,hd',zw,z6,y0⟩:=tk1 h;have hi:=h.hi;have hB:=h.hB;simp only[bL.a]at hbs;have c1:((p:Int)==E.n.l)=true:=by simp[hA.1]
 have c2:((-1)==E.n.r)=true:=by simp[hA.2]
 obtain⟨hla0,hga⟩:=al.1 hka;have ga:(E.n.op != 11)=true→∀b,aK I.qhi [.aa b (aZ ka.l),ar 4]=some (.bool false):=fun e b=>by
  have:=er b ka.l 4 hla
  rwa [show (ka.l.any fun y=>4==y)=false by rw[e]at h4;exact h4]at this
 have hw':¬((16:Int)<(res.length:Int)):=by omega
 have hm2:E.opn.length-1+1≤most:=by omega
 have hol:=h.hol;rcases hc with⟨q1,q2,q3⟩|⟨q1,q2,q3⟩|⟨q1,q2,q3⟩<;>cases h12:(E.n.op != 11)<;>first|(have ga:=ga h12;simp[aod,ip,hi,bL.a,hp,hbs,c1,c2,z1,z2,z3,z4,z5,z6,z7,z8,z9,hd',zw,gc,cg,aE,aH,hB,FH,F6,y0,hga,hla0,q1,q2,q3,hask,hw',-kM,mf,mm,kP,ow,hR.len,hR.nc,hR.ag,append,hkn,hm2,hol,hol2,h12,ga])|simp[aod,ip,hi,bL.a,hp,hbs,c1,c2,z1,z2,z3,z4,z5,z6,z7,z8,z9,hd',zw,gc,cg,aE,aH,hB,FH,F6,y0,hga,hla0,q1,q2,q3,hask,hw',-kM,mf,mm,kP,ow,hR.len,hR.nc,hR.ag,append,hkn,hm2,hol,hol2,h12]
theorem LO(E:nS)(p q:Nat)(h:Tk E 2 [p,q])(hA:E.n.l=(p:Int)∧E.n.r=(q:Int))(ka:dI Int)(hka:E.af[p]?=some ka)(hla:ka.l.length≤most)(kb:dI Int)(hkb:E.af[q]?=some kb)(hlb:kb.l.length≤most)(h4:((E.n.op != 11)&&qG ka.l)=false)(h5:((E.n.op != 11)&&qG kb.l)=false)(hc:lw E)(r:ap)(bf:Bool)(res:List Int)(X:ay)(hR:uI X r bf res)
  (hask:dS code E.ask [.ptr 0 0 0 0] (E.st (.aa ka.b (aZ ka.l)) (.aa kb.b (aZ kb.l)) E.r0 (p:Int) (q:Int))=some (.bool true,E.st (.aa ka.b (aZ ka.l)) (.aa kb.b (aZ kb.l)) r (p:Int) (q:Int)++X)) (hw:16<res.length):∃σ',E.call=some (.bool false,σ'):=by
 unfold nS.call;rw[bp nb rfl];obtain⟨hp,hbs,z1,z2,z3,z4,z5,z7,z8,z9,hd',zw,z6,y0,y1⟩:=tk2 h;have hi:=h.hi;have hB:=h.hB;simp only[bL.a]at hbs;have c1:((p:Int)==E.n.l)=true:=by simp[hA.1]
 have c2:((q:Int)==E.n.r)=true:=by simp[hA.2]
 obtain⟨hla0,hga⟩:=al.1 hka;obtain⟨hlb0,hgb⟩:=al.1 hkb;have ga:(E.n.op != 11)=true→∀b,aK I.qhi [.aa b (aZ ka.l),ar 4]=some (.bool false):=fun e b=>by
  have:=er b ka.l 4 hla
  rwa [show (ka.l.any fun y=>4==y)=false by rw[e]at h4;exact h4]at this
 have gb:(E.n.op != 11)=true→∀b,aK I.qhi [.aa b (aZ kb.l),ar 4]=some (.bool false):=fun e b=>by
  have:=er b kb.l 4 hlb
  rwa [show (kb.l.any fun y=>4==y)=false by rw[e]at h5;exact h5]at this
 have hw':(16:Int)<(res.length:Int):=by omega
 rcases hc with⟨q1,q2,q3⟩|⟨q1,q2,q3⟩|⟨q1,q2,q3⟩<;>cases h12:(E.n.op != 11)<;>first|(have ga:=ga h12;have gb:=gb h12;exact⟨_,by simp[aod,ip,hi,bL.a,hp,hbs,c1,c2,z1,z2,z3,z4,z5,z6,z7,z8,z9,hd',zw,gc,cg,aE,aH,hB,FH,F6,y0,y1,hga,hla0,hgb,hlb0,q1,q2,q3,hask,hw',-kM,mf,mm,kP,ow,hR.len,hR.nc,hR.ag,h12,ga,gb];rfl⟩)|exact⟨_,by simp[aod,ip,hi,bL.a,hp,hbs,c1,c2,z1,z2,z3,z4,z5,z6,z7,z8,z9,hd',zw,gc,cg,aE,aH,hB,FH,F6,y0,y1,hga,hla0,hgb,hlb0,q1,q2,q3,hask,hw',-kM,mf,mm,kP,ow,hR.len,hR.nc,hR.ag,h12];rfl⟩
theorem Ob(E:nS)(p q:Nat)(h:Tk E 2 [p,q])(hkn:E.af.length+1≤most)(hol2:E.opn.length+1≤most)(hA:E.n.l=(p:Int)∧E.n.r=(q:Int))(ka:dI Int)(hka:E.af[p]?=some ka)(hla:ka.l.length≤most)(kb:dI Int)(hkb:E.af[q]?=some kb)(hlb:kb.l.length≤most)(h4:((E.n.op != 11)&&qG ka.l)=false)(h5:((E.n.op != 11)&&qG kb.l)=false)(hc:lw E)(r:ap)(bf:Bool)(res:List Int)(X:ay)(hR:uI X r bf res)
  (hask:dS code E.ask [.ptr 0 0 0 0] (E.st (.aa ka.b (aZ ka.l)) (.aa kb.b (aZ kb.l)) E.r0 (p:Int) (q:Int))=some (.bool true,E.st (.aa ka.b (aZ ka.l)) (.aa kb.b (aZ kb.l)) r (p:Int) (q:Int)++X)) (hw:res.length≤16) :
  E.call=some (.bool true,fo E.bn E.ac (E.ep1+1) (E.af.length+1) (E.ep2+1) (E.opn.length-2+1) E.n (.aa ka.b (aZ ka.l)) (.aa kb.b (aZ kb.l)) r::.arr 1 (E.ep1+1) (E.af.map (dI.c (.int .i64))++[r])::.arr 1 (E.ep2+1) (fa (E.opn.take (E.opn.length-2))++[ar E.i])::E.B::oR E.n::X7 (p:Int) (q:Int)::X):=by
 unfold nS.call;rw[bp nb rfl];obtain⟨hp,hbs,z1,z2,z3,z4,z5,z7,z8,z9,hd',zw,z6,y0,y1⟩:=tk2 h;have hi:=h.hi;have hB:=h.hB;simp only[bL.a]at hbs;have c1:((p:Int)==E.n.l)=true:=by simp[hA.1]
 have c2:((q:Int)==E.n.r)=true:=by simp[hA.2]
 obtain⟨hla0,hga⟩:=al.1 hka;obtain⟨hlb0,hgb⟩:=al.1 hkb;have ga:(E.n.op != 11)=true→∀b,aK I.qhi [.aa b (aZ ka.l),ar 4]=some (.bool false):=fun e b=>by
  have:=er b ka.l 4 hla
  rwa [show (ka.l.any fun y=>4==y)=false by rw[e]at h4;exact h4]at this
 have gb:(E.n.op != 11)=true→∀b,aK I.qhi [.aa b (aZ kb.l),ar 4]=some (.bool false):=fun e b=>by
  have:=er b kb.l 4 hlb
  rwa [show (kb.l.any fun y=>4==y)=false by rw[e]at h5;exact h5]at this
 have hw':¬((16:Int)<(res.length:Int)):=by omega
 have hm2:E.opn.length-2+1≤most:=by omega
 have hol:=h.hol;rcases hc with⟨q1,q2,q3⟩|⟨q1,q2,q3⟩|⟨q1,q2,q3⟩<;>cases h12:(E.n.op != 11)<;>first|(have ga:=ga h12;have gb:=gb h12;simp[aod,ip,hi,bL.a,hp,hbs,c1,c2,z1,z2,z3,z4,z5,z6,z7,z8,z9,hd',zw,gc,cg,aE,aH,hB,FH,F6,y0,y1,hga,hla0,hgb,hlb0,q1,q2,q3,hask,hw',-kM,mf,mm,kP,ow,hR.len,hR.nc,hR.ag,append,hkn,hm2,hol,hol2,h12,ga,gb])|simp[aod,ip,hi,bL.a,hp,hbs,c1,c2,z1,z2,z3,z4,z5,z6,z7,z8,z9,hd',zw,gc,cg,aE,aH,hB,FH,F6,y0,y1,hga,hla0,hgb,hlb0,q1,q2,q3,hask,hw',-kM,mf,mm,kP,ow,hR.len,hR.nc,hR.ag,append,hkn,hm2,hol,hol2,h12]
abbrev qU:Nat:=4294967296
structure nO (n:bL):Prop where
 af:n.af.length≤qU
 cond:n.cond.length≤qU
 keys:n.keys.length≤qU
 ai:n.ai.length≤qU
 args:∀g∈n.ai,g.arg.length≤qU
 items:n.items.length≤qU
 exprs:∀e∈n.items,e.l.length≤qU
 ords:n.ords.length≤qU
def uO(ac:List bL)(n:bL):List (dI Int)→Option (dI Int)
 |[]=>if n.op=1 then (if rD n then some ⟨n.bk,n.af⟩ else none) else if n.op=9 then (if xu n then some ⟨n.bk,n.af⟩ else none) else none
 |[a]=>
  if n.op=3 then (if jU n.cond a.l then some a else none)
  else if n.op=4 then ((o5 a.l n.keys).bind fun ks=>if rb n a.l then some ⟨false,ks++n.ai.map fun g=>(ln a.l g).2⟩ else none)
  else if n.op=5 then ((oe a.l n.items).bind fun ks=>if 0<ks.length then some ⟨false,ks⟩ else none)
  else if n.op=6 then some a
  else if n.op=8 then (if sortF n a.l then some a else none)
  else if n.op=10 then ((o5 a.l n.keys).bind fun ks=>if rb n a.l then some ⟨false,ks++n.ai.map (zM a.l)⟩ else none)
  else if n.op=11 then (ac[n.l.toNat]?).bind fun m=>if uc n m a.l&&(py a.l 0 n.keys&&rS a.l n.keys.length n.ai) then some ⟨false,sq n.keys.length n.ai a.l⟩ else none
  else none
 |[a,b]=>
  if n.op=2 then (if jU n.cond (a.l++b.l) then some ⟨false,a.l++b.l⟩ else none)
  else if n.op=7 then (if a.l.length=b.l.length then (ev a.l b.l).map fun ks=>⟨false,ks⟩ else none)
  else none
 |_=>none
def je(op:Int):ap:=
 if op=1 then .fn 177 [] [] else if op=9 then .fn 178 [] [] else if op=2 then .fn 179 [] [] else if op=3 then .fn 180 [] [] else if op=4 then .fn 181 [] [] else if op=10 then .fn 182 [] [] else if op=11 then .fn 183 [] [] else
 if op=5 then .fn 184 [] [] else if op=6 then .fn 185 [] [] else if op=7 then .fn 186 [] [] else if op=8 then .fn 187 [] [] else .nilf
def Qs(ask:ap)(L:ap→Obj)(r0:ap)(τ:ay)(o:Option (dI Int)):Prop:=
 match o with
 |none=>∃σ1,dS code ask [.ptr 0 0 0 0] (L r0::τ)=some (.bool false,σ1)
 |some s=>∃r X,dS code ask [.ptr 0 0 0 0] (L r0::τ)=some (.bool true,L r::τ++X)∧uI X r s.b s.l
theorem ng{ask:ap}{L:ap→Obj}{r0:ap}{τ:ay}{t:Bool}{s:dI Int}{r:ap}{X:ay}
  (h:dS code ask [.ptr 0 0 0 0] (L r0::τ)=some (.bool t,L r::τ++X)) (hr:uI X r s.b s.l):Qs ask L r0 τ (if t then some s else none):=by
 cases t with
 |true=>exact⟨r,X,h,hr⟩
 |false=>exact⟨_,h⟩
theorem alY(bn:Bool)(ac:List bL)(ep1 m1 ep2 m2:Nat)(n:bL)(a b r0:ap)(τ:ay)(hn:nO n)(hop:eb n.op=0) :
  Qs (je n.op) (fo bn ac ep1 m1 ep2 m2 n a b) r0 τ (uO ac n []):=by
 have hk:n.af.length≤most:=aI hn.af (by decide);by_cases h1:n.op=1
 ·have hs:=TD (.aa bn (ac.map bL.a)) (.sl 1 ep1 0 m1) (.sl 2 ep2 0 m2) n a b r0 τ hk;have h:=ng (ask:=je n.op) (L:=fo bn ac ep1 m1 ep2 m2 n a b) (r0:=r0) (τ:=τ) (X:=[]) (s:=⟨n.bk,n.af⟩) (t:=rD n) (by rw[cR,show je n.op=.fn 177 [] [] by simp[je,h1]];simpa using hs) (wK [] _ _);simpa [uO,h1] using h
 by_cases h2:n.op=9
 ·have hs:=Ok (.aa bn (ac.map bL.a)) (.sl 1 ep1 0 m1) (.sl 2 ep2 0 m2) n a b r0 τ hk;have h:=ng (ask:=je n.op) (L:=fo bn ac ep1 m1 ep2 m2 n a b) (r0:=r0) (τ:=τ) (X:=[]) (s:=⟨n.bk,n.af⟩) (t:=xu n) (by rw[cR,show je n.op=.fn 178 [] [] by simp[je,h2]];simpa using hs) (wK [] _ _);simpa [uO,h2] using h
 exfalso;unfold eb at hop;rw[if_neg (by omega)]at hop
 repeat' (split at hop<;>try omega)
theorem PV{op:Int}(h:eb op=1):op=3∨op=4∨op=5∨op=6∨op=8∨op=10∨op=11:=by
 unfold eb at h;split at h
 ·omega
 split at h
 ·omega
 split at h
 ·omega
 omega
theorem O0{op:Int}(h:eb op=2):op=2∨op=7:=by
 unfold eb at h;split at h
 ·omega
 split at h
 ·omega
 split at h<;>omega
theorem amX(bn:Bool)(ac:List bL)(ep1 m1 ep2 m2:Nat)(n:bL)(a:dI Int)(r0:ap)(τ:ay)(hτ:Fzs τ)(hl:τ.length=5)(hn:nO n)(hop:eb n.op=1)(hL:n.op=11→0≤n.l∧n.l.toNat < ac.length)(ha:a.l.length≤qU) :
  Qs (je n.op) (fo bn ac ep1 m1 ep2 m2 n (.aa a.b (aZ a.l)) .aj) r0 τ (uO ac n [a]):=by
 have hm:qU≤most:=by decide
 have hmm:qU+qU≤most:=by decide
 have ha':=aI ha hm;have hkg:n.keys.length+n.ai.length≤most:=aI (nG hn.keys hn.ai) hmm;have hl2:2≤τ.length:=by omega
 rcases PV hop with h|h|h|h|h|h|h
 ·have hs:=KX (.aa bn (ac.map bL.a)) (.sl 1 ep1 0 m1) (.sl 2 ep2 0 m2) n a.b a.l .aj r0 τ (aI hn.cond hm) ha';have:=ng (ask:=je n.op) (L:=fo bn ac ep1 m1 ep2 m2 n (.aa a.b (aZ a.l)) .aj) (r0:=r0) (τ:=τ) (X:=[]) (s:=a) (t:=jU n.cond a.l) (by rw[cR,show je n.op=.fn 180 [] [] by simp[je,h]];simpa using hs) (wK [] _ _);simpa [uO,h] using this
 ·have hs:=Fz bn ac ep1 m1 ep2 m2 n a.b a.l r0 τ hτ hl2 (aI hn.keys hm) (aI hn.ai hm) hkg (fun g hg=>aI (hn.args g hg) hm) ha';cases hq:o5 a.l n.keys with
  |none=>
   rw[hq]at hs;have e:uO ac n [a]=none:=by simp[uO,h,hq]
   rw[e];exact (show je n.op=.fn 181 [] [] by simp[je,h])▸hs
  |some ks=>
   rw[hq]at hs;have hlen:=wc hq;have e:uO ac n [a]=if rb n a.l then some ⟨false,ks++n.ai.map fun g=>(ln a.l g).2⟩ else none:=by simp[uO,h,hq]
   rw[e];have hr:=JB (n.keys.length+n.ai.length) (ks++n.ai.map fun g=>(ln a.l g).2) (oR n) [];rw[show (ks++n.ai.map fun g=>(ln a.l g).2).length=n.keys.length+n.ai.length by simp[hlen]]at hr;rw[hl]at hs;exact ng (by rw[show je n.op=.fn 181 [] [] by simp[je,h]];exact hs) hr
 ·have hs:=Ic bn ac ep1 m1 ep2 m2 n a.b a.l r0 τ hτ hl2 (aI hn.items hm) (fun e he=>aI (hn.exprs e he) hm) ha';cases hq:oe a.l n.items with
  |none=>
   rw[hq]at hs;have e:uO ac n [a]=none:=by simp[uO,h,hq]
   rw[e];exact (show je n.op=.fn 184 [] [] by simp[je,h])▸hs
  |some ks=>
   rw[hq]at hs;have e:uO ac n [a]=if decide (0<ks.length) then some ⟨false,ks⟩ else none:=by simp[uO,h,hq]
   rw[e];rw[hl]at hs;exact ng (by rw[show je n.op=.fn 184 [] [] by simp[je,h]];exact hs) (Qw n.items.length ks [])
 ·have hs:=Nn (.aa bn (ac.map bL.a)) (.sl 1 ep1 0 m1) (.sl 2 ep2 0 m2) n a.b a.l .aj r0 τ;have:=ng (ask:=je n.op) (L:=fo bn ac ep1 m1 ep2 m2 n (.aa a.b (aZ a.l)) .aj) (r0:=r0) (τ:=τ) (X:=[]) (s:=a) (t:=true) (by rw[cR,show je n.op=.fn 185 [] [] by simp[je,h]];simpa using hs) (wK [] _ _);simpa [uO,h] using this
 ·obtain⟨X,hs⟩:=Nx (.aa bn (ac.map bL.a)) (.sl 1 ep1 0 m1) (.sl 2 ep2 0 m2) n a.b a.l .aj r0 τ (aI hn.ords hm);have:=ng (ask:=je n.op) (L:=fo bn ac ep1 m1 ep2 m2 n (.aa a.b (aZ a.l)) .aj) (r0:=r0) (τ:=τ) (X:=[X]) (s:=a) (t:=sortF n a.l) (by rw[show je n.op=.fn 187 [] [] by simp[je,h]];simpa using hs) (wK [X] _ _);simpa [uO,h] using this
 ·have hs:=IK bn ac ep1 m1 ep2 m2 n a.b a.l r0 τ hτ hl2 (aI hn.keys hm) (aI hn.ai hm) hkg (fun g hg=>aI (hn.args g hg) hm) ha';have ef:je n.op=.fn 182 [] []:=by simp[je,h]
  rw[ef];cases hq:o5 a.l n.keys with
  |none=>
   rw[hq]at hs;have e:uO ac n [a]=none:=by simp[uO,h,hq]
   rw[e];exact hs
  |some ks=>
   rw[hq]at hs;have hlen:=wc hq;have e:uO ac n [a]=if rb n a.l then some ⟨false,ks++n.ai.map (zM a.l)⟩ else none:=by simp[uO,h,hq]
   rw[e];cases hg:rb n a.l with
   |false=>
    rw[hg]at hs;exact hs
   |true=>
    rw[hg]at hs;have hr:=JB (n.keys.length+n.ai.length) (ks++n.ai.map (zM a.l)) (oR n) [];rw[show (ks++n.ai.map (zM a.l)).length=n.keys.length+n.ai.length by simp[hlen]]at hr;rw[hl]at hs;exact⟨_,_,hs,hr⟩
 obtain⟨h0,h1⟩:=hL h;have hmm:ac[n.l.toNat]?=some ac[n.l.toNat]:=am h1;have ef:je n.op=.fn 183 [] []:=by simp[je,h]
 have e:uO ac n [a]=if uc n ac[n.l.toNat] a.l&&(py a.l 0 n.keys&&rS a.l n.keys.length n.ai) then some ⟨false,sq n.keys.length n.ai a.l⟩ else none:=by simp[uO,h,hmm]
 rw[e,ef];cases hh:uc n ac[n.l.toNat] a.l with
 |false=>
  exact SC bn ac ep1 m1 ep2 m2 n _ a.b a.l r0 τ h0 hmm hkg hh
 |true=>
  have hs:=NG bn ac ep1 m1 ep2 m2 n _ a.b a.l r0 τ hτ hl2 h0 hmm hkg ha' hh;rw[hl]at hs;have hr:=JB 0 (sq n.keys.length n.ai a.l) (oR n) [];rw[EF]at hr;rw[ew];exact ng hs hr
theorem ami(bn:Bool)(ac:List bL)(ep1 m1 ep2 m2:Nat)(n:bL)(a b:dI Int)(r0:ap)(τ:ay)(hτ:Fzs τ)(hl:τ.length=5)(hn:nO n)(hop:eb n.op=2)(ha:a.l.length≤qU)(hb:b.l.length≤qU) :
  Qs (je n.op) (fo bn ac ep1 m1 ep2 m2 n (.aa a.b (aZ a.l)) (.aa b.b (aZ b.l))) r0 τ (uO ac n [a,b]):=by
 have hm:qU≤most:=by decide
 have hmm:qU+qU≤most:=by decide
 rcases O0 hop with h|h
 ·have hs:=Ta (.aa bn (ac.map bL.a)) (.sl 1 ep1 0 m1) (.sl 2 ep2 0 m2) n a.b b.b a.l b.l r0 τ (aI hn.cond hm) (aI (nG ha hb) hmm);have:=ng (ask:=je n.op) (L:=fo bn ac ep1 m1 ep2 m2 n (.aa a.b (aZ a.l)) (.aa b.b (aZ b.l))) (r0:=r0) (τ:=τ) (X:=[]) (s:=⟨false,a.l++b.l⟩) (t:=jU n.cond (a.l++b.l)) (by rw[cR,show je n.op=.fn 179 [] [] by simp[je,h]];simpa using hs) (wK [] _ _);simpa [uO,h] using this
 have ef:je n.op=.fn 186 [] []:=by simp[je,h]
 rw[ef];by_cases hlen:a.l.length=b.l.length
 ·have hs:=Og bn ac ep1 m1 ep2 m2 n a.b b.b a.l b.l r0 τ hτ (by omega) (aI ha hm) hlen;have e:uO ac n [a,b]=(ev a.l b.l).map fun ks=>⟨false,ks⟩:=by simp[uO,h,hlen]
  rw[e];cases hq:ev a.l b.l with
  |none=>rw[hq]at hs;exact hs
  |some ks=>
   rw[hq]at hs;rw[hl]at hs;exact⟨_,_,hs,Qw a.l.length ks []⟩
 have e:uO ac n [a,b]=none:=by simp[uO,h,hlen]
 rw[e];exact TH bn ac ep1 m1 ep2 m2 n a.b b.b a.l b.l r0 τ hlen
def lY:dI Int:=⟨false,[]⟩
def mQ(ac:List bL)(i:Nat)(n:bL)(af:List (dI Int))(opn:List Nat):Option (dI Int×List Nat):=
 match u4 n opn with
 |none=>none
 |some ps=>
  if (ps.any fun p=>(n.op != 11)&&qG (af.getD p lY).l)=true∨sB n i ac.length=false then none else
  match uO ac n (ps.map fun p=>af.getD p lY) with
  |none=>none
  |some res=>if 16<res.l.length then none else some (res,opn.take (opn.length-ps.length)++[i])
def BN(af:List (dI Int)):List Nat→ap
 |p::_=>.aa (af.getD p lY).b (aZ (af.getD p lY).l)
 |[]=>.aj
def BX(af:List (dI Int)):List Nat→ap
 |[_,q]=>.aa (af.getD q lY).b (aZ (af.getD q lY).l)
 |_=>.aj
def R9(bn:Bool)(ac:List bL)(ep1 ep2:Nat)(af:List (dI Int))(opn:List Nat)(n:bL)(B:Obj)(i:Nat)(call:Option (ap×ay)):Option (dI Int×List Nat)→Prop
 |none=>∃σ',call=some (.bool false,σ')
 |some (s,o')=>∃ps r AT X,u4 n opn=some ps∧call=some (.bool true,
   fo bn ac (ep1+1) (af.length+1) (ep2+1) o'.length n (BN af ps) (BX af ps) r::.arr 1 (ep1+1) (af.map (dI.c (.int .i64))++[r])::.arr 1 (ep2+1) (fa o')::B::oR n::AT::X)∧uI X r s.b s.l
theorem ti(E:nS)(hi:E.i<E.ac.length):(sB E.n E.i E.ac.length=true∧lw E)∨(sB E.n E.i E.ac.length=false∧zp E):=by
 have e:((E.i:Int) != ((E.ac.length:Int)-1))=(E.i != E.ac.length-1):=by
  rw[eF];simp only[gO,ne_eq];constructor<;>intro h<;>omega
 unfold lw zp sB;rw[e];cases (E.n.op==8)<;>cases (E.n.op==10)<;>cases (E.i != E.ac.length-1)<;>simp
abbrev nS.is(E:nS):Prop:=R9 E.bn E.ac E.ep1 E.ep2 E.af E.opn E.n E.B E.i E.call (mQ E.ac E.i E.n E.af E.opn)
theorem ak1(E:nS)(h:Tk E 0 [])(ha:E.ask=je E.n.op)(hil:E.ac.length≤qU)(hol:E.opn.length+1≤most)(hkl:E.af.length+1≤most)(hkn:E.af.length≤E.ac.length)
  (hpre:u4 E.n E.opn=if E.n.l=-1∧E.n.r=-1 then some [] else none) (hk:∀s∈E.af,s.l.length≤qU) (hn:nO E.n):E.is:=by
 have hm:qU≤most:=by decide
 have hlti:=(al.1 h.hi).1;have hB:=h.hB;unfold nS.is mQ;by_cases hA:E.n.l=-1∧E.n.r=-1
 ·rw[if_pos hA]at hpre;rw[hpre];simp only[bG,bh,fW,ig,oc];rcases ti E hlti with⟨hr,hc⟩|⟨hr,hc⟩
  ·rw[if_neg (by simp[hr])];have hask:=alY E.bn E.ac E.ep1 E.af.length E.ep2 E.opn.length E.n .aj .aj E.r0 [.arr 1 E.ep1 (E.af.map (dI.c (.int .i64))),.arr 1 E.ep2 (fa E.opn),E.B,oR E.n,X7 (-1) (-1)] hn h.hop;rw[←ha]at hask;cases ho:uO E.ac E.n [] with
   |none=>
    rw[ho]at hask;obtain⟨σ1,hask⟩:=hask;exact SK E h hA hc σ1 hask
   |some s=>
    rw[ho]at hask;obtain⟨r,X,hask,hR⟩:=hask;by_cases hw:16<s.l.length
    ·simp only[if_pos hw];exact KV E h hA hc r s.b s.l X hR hask hw
    simp only[if_neg hw];refine⟨[],r,X7 (-1) (-1),X,hpre,?_,hR⟩;simp only[BN,BX,bV,bO,bj,bu,dy,fa,bG,bh,bS,bu];rw[dx (Nat.sub_le _ _)];exact PA E h hkl hol hA hc r s.b s.l X hR hask (by omega)
  rw[if_pos (.inr hr)];exact Mw E h hA hc
 rw[if_neg hA]at hpre;rw[hpre];exact O6 E h hA
theorem aj4(E:nS)(p:Nat)(h:Tk E 1 [p])(ha:E.ask=je E.n.op)(hil:E.ac.length≤qU)(hol:E.opn.length+1≤most)(hkl:E.af.length+1≤most)(hkn:E.af.length≤E.ac.length)
  (hpre:u4 E.n E.opn=if E.n.l=(p:Int)∧E.n.r=-1 then some [p] else none) (hp:p<E.af.length) (hk:∀s∈E.af,s.l.length≤qU) (hn:nO E.n):E.is:=by
 have hm:qU≤most:=by decide
 have hlti:=(al.1 h.hi).1;have hB:=h.hB;unfold nS.is mQ;by_cases hA:E.n.l=(p:Int)∧E.n.r=-1
 ·rw[if_pos hA]at hpre;rw[hpre];obtain⟨kp,hkp⟩:∃s,E.af[p]?=some s:=⟨_,am hp⟩;have ep:E.af.getD p lY=kp:=by rw[au,hkp];rfl
  have lp:=hk kp (aw hkp);simp only[bG,bh,fW,ig,ep,oc];rcases iz ((E.n.op != 11)&&qG kp.l) with fp|fp
  ·rw[if_pos (.inl (by simp only[fp,Bool.true_or]))];exact J5 E p h hA kp hkp (aI lp hm) fp
  rcases ti E hlti with⟨hr,hc⟩|⟨hr,hc⟩
  ·rw[if_neg (by simp[hr,fp])];have hask:=amX E.bn E.ac E.ep1 E.af.length E.ep2 E.opn.length E.n kp E.r0 [.arr 1 E.ep1 (E.af.map (dI.c (.int .i64))),.arr 1 E.ep2 (fa E.opn),E.B,oR E.n,X7 (p:Int) (-1)] (fun base σ=>by rw[bG,bG,bG,hB];simp[aH]) rfl hn h.hop (fun _=>by rw[hA.1];exact⟨by omega,by simp;omega⟩) lp;rw[←ha]at hask;cases ho:uO E.ac E.n [kp] with
   |none=>
    rw[ho]at hask;obtain⟨σ1,hask⟩:=hask;exact SO E p h hA kp hkp (aI lp hm) fp hc σ1 hask
   |some s=>
    rw[ho]at hask;obtain⟨r,X,hask,hR⟩:=hask;by_cases hw:16<s.l.length
    ·simp only[if_pos hw];exact KZ E p h hA kp hkp (aI lp hm) fp hc r s.b s.l X hR hask hw
    simp only[if_neg hw];refine⟨[p],r,X7 (p:Int) (-1),X,hpre,?_,hR⟩;simp only[BN,BX,ep,bV,bO,bj,bu,dy,fa,bG,bh,bS,Nat.reduceAdd];rw[dx (Nat.sub_le _ _)];exact NS E p h hkl hol hA kp hkp (aI lp hm) fp hc r s.b s.l X hR hask (by omega)
  rw[if_pos (.inr hr)];exact Mh E p h hA kp hkp (aI lp hm) fp hc
 rw[if_neg hA]at hpre;rw[hpre];exact Oq E p h hA
theorem akB(E:nS)(p q:Nat)(h:Tk E 2 [p,q])(ha:E.ask=je E.n.op)(hil:E.ac.length≤qU)(hol:E.opn.length+1≤most)(hkl:E.af.length+1≤most)(hkn:E.af.length≤E.ac.length)
  (hpre:u4 E.n E.opn=if E.n.l=(p:Int)∧E.n.r=(q:Int) then some [p,q] else none) (hp:p<E.af.length) (hq:q<E.af.length) (hk:∀s∈E.af,s.l.length≤qU) (hn:nO E.n):E.is:=by
 have hm:qU≤most:=by decide
 have hlti:=(al.1 h.hi).1;have hB:=h.hB;unfold nS.is mQ;by_cases hA:E.n.l=(p:Int)∧E.n.r=(q:Int)
 ·rw[if_pos hA]at hpre;rw[hpre];obtain⟨kp,hkp⟩:∃s,E.af[p]?=some s:=⟨_,am hp⟩;have ep:E.af.getD p lY=kp:=by rw[au,hkp];rfl
  have lp:=hk kp (aw hkp);obtain⟨kq,hkq⟩:∃s,E.af[q]?=some s:=⟨_,am hq⟩;have eq:E.af.getD q lY=kq:=by rw[au,hkq];rfl
  have lq:=hk kq (aw hkq);simp only[bG,bh,fW,ig,ep,eq,oc];rcases iz ((E.n.op != 11)&&qG kp.l) with fp|fp
  ·rw[if_pos (.inl (by simp only[fp,Bool.true_or]))];exact It E p q h hA kp hkp (aI lp hm) kq hkq (aI lq hm) fp
  rcases iz ((E.n.op != 11)&&qG kq.l) with fq|fq
  ·rw[if_pos (.inl (by simp only[fq,Bool.or_true]))];exact JK E p q h hA kp hkp (aI lp hm) kq hkq (aI lq hm) fp fq
  rcases ti E hlti with⟨hr,hc⟩|⟨hr,hc⟩
  ·rw[if_neg (by simp[hr,fp,fq])];have hask:=ami E.bn E.ac E.ep1 E.af.length E.ep2 E.opn.length E.n kp kq E.r0 [.arr 1 E.ep1 (E.af.map (dI.c (.int .i64))),.arr 1 E.ep2 (fa E.opn),E.B,oR E.n,X7 (p:Int) (q:Int)] (fun base σ=>by rw[bG,bG,bG,hB];simp[aH]) rfl hn h.hop lp lq;rw[←ha]at hask;cases ho:uO E.ac E.n [kp,kq] with
   |none=>
    rw[ho]at hask;obtain⟨σ1,hask⟩:=hask;exact TP E p q h hA kp hkp (aI lp hm) kq hkq (aI lq hm) fp fq hc σ1 hask
   |some s=>
    rw[ho]at hask;obtain⟨r,X,hask,hR⟩:=hask;by_cases hw:16<s.l.length
    ·simp only[if_pos hw];exact LO E p q h hA kp hkp (aI lp hm) kq hkq (aI lq hm) fp fq hc r s.b s.l X hR hask hw
    simp only[if_neg hw];refine⟨[p,q],r,X7 (p:Int) (q:Int),X,hpre,?_,hR⟩;simp only[BN,BX,ep,eq,bV,bO,bj,bu,dy,fa,bG,bh,bS,Nat.reduceAdd];rw[dx (Nat.sub_le _ _)];exact Ob E p q h hkl hol hA kp hkp (aI lp hm) kq hkq (aI lq hm) fp fq hc r s.b s.l X hR hask (by omega)
  rw[if_pos (.inr hr)];exact Mj E p q h hA kp hkp (aI lp hm) kq hkq (aI lq hm) fp fq hc
 rw[if_neg hA]at hpre;rw[hpre];exact PX E p q h hA
theorem PW(bn:Bool)(ac:List bL)(ep1 ep2:Nat)(af:List (dI Int))(opn:List Nat)(n0:rE)(n:bL)(a0 b0 r0:ap)(B:Obj)(i:Nat)(hi:ac[i]?=some n)(hil:ac.length≤qU)(hol:opn.length+1≤most)(hkl:af.length+1≤most)(hkn:af.length≤ac.length)
  (ho:∀p∈opn,p<af.length) (hk:∀s∈af,s.l.length≤qU) (hn:nO n) (hB:∀base σ,aH base σ B=B) :
  R9 bn ac ep1 ep2 af opn n B i (cA code I.qfo [.ptr 0 0 0 0,ar i,je n.op] (stK bn ac ep1 ep2 af opn n0 a0 b0 r0 B)) (mQ ac i n af opn):=by
 have hm:qU≤most:=by decide
 by_cases hb:eb n.op<0∨(opn.length:Int)<eb n.op∨lu n=false
 ·have e:mQ ac i n af opn=none:=by
   unfold mQ u4;rw[if_pos hb]
  rw[e];exact Py bn ac ep1 ep2 af opn n0 n a0 b0 r0 B _ i hi (aI hn.keys hm) (aI hn.ai hm) hb
 have hbl:lu n=true:=by
  cases h:lu n with
  |true=>rfl
  |false=>exact absurd (.inr (.inr h)) hb
 have hpl:=TJ n.op;have hpre:u4 n opn=match opn.drop (opn.length-(eb n.op).toNat) with
  |[]=>if n.l=-1∧n.r=-1 then some [] else none
  |[p]=>if n.l=p∧n.r=-1 then some [p] else none
  |[p,q]=>if n.l=p∧n.r=q then some [p,q] else none
  |_=>none:=by
  unfold u4;exact if_neg hb
 have hmem:∀p∈opn.drop (opn.length-(eb n.op).toNat),p<af.length:=fun p hp=>ho p (cQ hp);have hlen:(opn.drop (opn.length-(eb n.op).toNat)).length=(eb n.op).toNat:=by
  rw[dE];omega
 have tk:∀(k:Nat) (ps:List Nat),eb n.op=k→opn.drop (opn.length-k)=ps→Tk ⟨bn,ac,ep1,ep2,af,opn,n0,a0,b0,r0,B,je n.op,i,n⟩ k ps:=fun k ps h1 h2=>
  ⟨hi,aI hil hm,by show opn.length≤most;omega,aI hn.keys hm,aI hn.ai hm,h1,by show k≤opn.length;omega,h2,hbl,hB⟩
 have h012:eb n.op=0∨eb n.op=1∨eb n.op=2:=by omega
 rcases h012 with h|h|h
 ·have e:(eb n.op).toNat=0:=by omega
  rw[e]at hpre hmem hlen;generalize hd:opn.drop (opn.length-0)=l at *
  match l,hlen with
  |[],_=>exact ak1 ⟨bn,ac,ep1,ep2,af,opn,n0,a0,b0,r0,B,je n.op,i,n⟩ (tk 0 [] h hd) rfl hil hol hkl hkn hpre hk hn
 ·have e:(eb n.op).toNat=1:=by omega
  rw[e]at hpre hmem hlen;generalize hd:opn.drop (opn.length-1)=l at *
  match l,hlen with
  |[p],_=>exact aj4 ⟨bn,ac,ep1,ep2,af,opn,n0,a0,b0,r0,B,je n.op,i,n⟩ p (tk 1 [p] h hd) rfl hil hol hkl hkn hpre (hmem p (by simp)) hk hn
 have e:(eb n.op).toNat=2:=by omega
 rw[e]at hpre hmem hlen;generalize hd:opn.drop (opn.length-2)=l at *
 match l,hlen with
 |[p,q],_=>exact akB ⟨bn,ac,ep1,ep2,af,opn,n0,a0,b0,r0,B,je n.op,i,n⟩ p q (tk 2 [p,q] h hd) rfl hil hol hkl hkn hpre (hmem p (by simp)) (hmem q (by simp)) hk hn
def F1:List (ap×ap):=[(ar 1,.fn 177 [] []),(ar 9,.fn 178 [] []),(ar 2,.fn 179 [] []),(ar 3,.fn 180 [] []),(ar 4,.fn 181 [] []),(ar 10,.fn 182 [] []),(ar 11,.fn 183 [] []),(ar 5,.fn 184 [] []),(ar 6,.fn 185 [] []),(ar 7,.fn 186 [] []),(ar 8,.fn 187 [] [])]
theorem A1:aK I.qez []=some (.imap false F1):=by
 rw[aA ah7 rfl];simp[arp,abe,F1,gG,mput,s9]
theorem KR(op:Int):∃r,lookup (ar op) F1=some r∧r.getD .nilf=je op:=by
 unfold F1 je;by_cases h1:op=1
 ·subst h1;exact⟨some _,rfl,rfl⟩
 by_cases h9:op=9
 ·subst h9;exact⟨some _,rfl,rfl⟩
 by_cases h2:op=2
 ·subst h2;exact⟨some _,rfl,rfl⟩
 by_cases h3:op=3
 ·subst h3;exact⟨some _,rfl,rfl⟩
 by_cases h4:op=4
 ·subst h4;exact⟨some _,rfl,rfl⟩
 by_cases h10:op=10
 ·subst h10;exact⟨some _,rfl,rfl⟩
 by_cases h11:op=11
 ·subst h11;exact⟨some _,rfl,rfl⟩
 by_cases h5:op=5
 ·subst h5;exact⟨some _,rfl,rfl⟩
 by_cases h6:op=6
 ·subst h6;exact⟨some _,rfl,rfl⟩
 by_cases h7:op=7
 ·subst h7;exact⟨some _,rfl,rfl⟩
 by_cases h8:op=8
 ·subst h8;exact⟨some _,rfl,rfl⟩
 refine⟨none,?_,?_⟩
 ·simp[lookup,s9,bE (Ne.symm h1),bE (Ne.symm h9),bE (Ne.symm h2),bE (Ne.symm h3),bE (Ne.symm h4),bE (Ne.symm h10),bE (Ne.symm h11),bE (Ne.symm h5),bE (Ne.symm h6),bE (Ne.symm h7),bE (Ne.symm h8)]
 simp[h1,h9,h2,h3,h4,h10,h11,h5,h6,h7,h8]
structure Zs where
 af:List (dI Int)
 opn:List Nat
 z0:rE
 a0:ap
 b0:ap
 r0:ap
def FX(ac:List bL)(i:Nat)(n:bL)(s:Zs):Zs⊕Nat:=
 match mQ ac i n s.af s.opn with
 |none=>.inr i
 |some (x,o')=>.inl ⟨s.af++[x],o',n.z,BN s.af ((u4 n s.opn).getD []),BX s.af ((u4 n s.opn).getD []),.aa x.b (aZ x.l)⟩
@[simp] theorem ajc(af:List (dI Int))(ps:List Nat)(base:Nat)(σ:ay)(m:Nat):fz false true base σ (m+3) (BN af ps)=BN af ps:=by
 cases ps<;>simp[BN]
@[simp] theorem akt(af:List (dI Int))(ps:List Nat)(base:Nat)(σ:ay)(m:Nat):fz false true base σ (m+3) (BX af ps)=BX af ps:=by
 unfold BX;split<;>simp
abbrev Gs(bn:Bool)(ac:List bL)(bad e7 e8:ap)(k:Nat)(e15 e16:ap):List ap:=[.aa bn (ac.map bL.a),.aj,ar 0,ar 0,.ptr 0 0 0 0,.imap false F1,bad,e7,e8,.any,.any,.bool false,.aa bn (ac.map bL.a),ar ac.length,ar k,e15,e16,.any,.any,.any,.any,.any,.any]
abbrev oP(bn:Bool)(ac:List bL)(k:Nat)(s:Zs):ay:=[GM bn ac k s.af.length k s.opn.length s.z0 s.a0 s.b0 s.r0,.arr 1 k (s.af.map (dI.c (.int .i64))),.arr 1 k (fa s.opn)]
theorem Sz{ac:List bL}{i:Nat}{n:bL}{af:List (dI Int)}{opn o':List Nat}{x:dI Int}(h:mQ ac i n af opn=some (x,o')):x.l.length≤16∧o'.length≤opn.length+1∧∀p∈o',p∈opn∨p=i:=by
 unfold mQ at h;split at h
 ·cases h
 split at h
 ·cases h
 split at h
 ·cases h
 split at h
 ·cases h
 cases h;refine⟨by omega,by simp only[bV,bO,bj,bu];omega,fun p hp=>?_⟩;rcases bT.1 hp with h|h
 ·exact .inl (bv h)
 exact .inr (by simpa using h)
abbrev Zs.l(s:Zs):List ap:=[s.z0.c0,s.z0.c1,s.z0.c2,s.z0.c3,s.z0.c4,s.z0.c5,s.z0.c6,s.z0.c7,s.z0.c8,s.z0.c9,s.z0.c10,s.z0.c11,s.a0,s.b0,s.r0]
def Zok(s:Zs):Prop:=∀base σ m,s.l.map (fz false true base σ (m+3))=s.l
theorem ON(bn:Bool)(ac:List bL)(hN:ac.length≤qU)(hF:∀n∈ac,nO n)(z0:rE)(a0 b0 r0:ap)(hz:Zok ⟨[],[],z0,a0,b0,r0⟩) :
  match aV (FX ac) ac 0 ⟨[],[],z0,a0,b0,r0⟩ with
  |.inl s=>Zok s∧s.opn.length≤ac.length∧s.af.length=ac.length∧(∀x∈s.af,x.l.length≤qU)∧cq code 3 [7,8,15,16] tO ⟨Gs bn ac (.int .i64 (-1)) .any .any 0 .any .any,oP bn ac 0 ⟨[],[],z0,a0,b0,r0⟩⟩ =
    some (.ext 0,⟨Gs bn ac (ar (-1)) .any .any ac.length (.bool false) .any,oP bn ac ac.length s⟩)
  |.inr i=>∃o,cq code 3 [7,8,15,16] tO ⟨Gs bn ac (.int .i64 (-1)) .any .any 0 .any .any,oP bn ac 0 ⟨[],[],z0,a0,b0,r0⟩⟩=some o ∧
    ∃σ e7 e8 e15 e16,o=(.ext 0,⟨Gs bn ac (ar i) e7 e8 i e15 e16,σ⟩)∧i<ac.length:=by
 have hm:qU≤most:=by decide
 have hm1:qU+1≤most:=by decide
 have h:=cT (base:=3) (clr:=[7,8,15,16]) (b:=tO) ac
  (fun k (s:Zs)=>⟨Gs bn ac (ar (-1)) .any .any k .any .any,oP bn ac k s⟩)
  (fun k s=>s.af.length=k∧s.opn.length≤k∧(∀p∈s.opn,p<k)∧(∀x∈s.af,x.l.length≤qU)∧Zok s) (FX ac)
  (fun s=>(.ext 0,⟨Gs bn ac (ar (-1)) .any .any ac.length (.bool false) .any,oP bn ac ac.length s⟩))
  (fun i o=>∃σ e7 e8 e15 e16,o=(.ext 0,⟨Gs bn ac (ar i) e7 e8 i e15 e16,σ⟩)∧i<ac.length)
  (fun k n s hk hy hs=>by
   obtain⟨h1,h2,h3,h4,_⟩:=hs;have hn:=hF n (aw hy);have ht:=PW bn ac k k s.af s.opn s.z0 n s.a0 s.b0 s.r0 (oR n) k hy hN (by omega) (by omega) (by omega) (by rw[h1];exact h3) h4 hn (fun base σ=>by simp[aH]);obtain⟨ra,hr1,hr2⟩:=KR n.op;have ak:((k:Int)<(ac.length:Int)):=by omega
   unfold FX;cases hstep:mQ ac k n s.af s.opn with
   |none=>
    rw[hstep]at ht;obtain⟨σ',ht⟩:=ht;refine⟨_,?_,σ',ar k,.ptr 3 0 0 0,.bool true,.bool true,rfl,hk⟩;simp[stK]at ht;simp[tO,ak,hy,bL.a,gG,hr1,hr2,ht]
   |some q=>
    obtain⟨x,o'⟩:=q;rw[hstep]at ht;obtain⟨ps,r,AT,X,hps,ht,hR⟩:=ht;obtain⟨g1,g2,g3⟩:=Sz hstep;refine⟨?_,by simp[h1],by simp;omega,fun p hp=>?_,fun y hy=>?_,fun base σ m=>by simp⟩
    ·simp[stK]at ht;simp[tO,ak,hy,bL.a,gG,hr1,hr2,ht,hps,aE,aH,hR.fz,hR.nc,aX hk (aI hN hm),Gs,oP]
    ·rcases g3 p hp with h|h
     ·have:=h3 p h;omega
     omega
    rcases bT.1 hy with h|h
    ·exact h4 y h
    rw[ce.1 h];exact aI g1 (by decide))
  (fun s hs=>by simp[tO]) ⟨[],[],z0,a0,b0,r0⟩ ⟨rfl,aM _,by simp,by simp,hz⟩
 cases hq:aV (FX ac) ac 0 ⟨[],[],z0,a0,b0,r0⟩ with
 |inl s=>
  rw[hq]at h;exact⟨h.1.2.2.2.2,h.1.2.1,h.1.1,h.1.2.2.2.1,h.2⟩
 |inr i=>
  rw[hq]at h;exact h
def Wx(ac:List bL):List bL→Nat→List (dI Int)→List Nat→(List (dI Int)×List Nat)⊕Nat
 |[],_,k,o=>.inl (k,o)
 |n::r,i,k,o=>match mQ ac i n k o with
  |none=>.inr i
  |some (x,o')=>Wx ac r (i+1) (k++[x]) o'
theorem K3(ac:List bL):∀(l:List bL) (i:Nat) (s:Zs),match aV (FX ac) l i s with
  |.inl s'=>Wx ac l i s.af s.opn=.inl (s'.af,s'.opn)
  |.inr j=>Wx ac l i s.af s.opn=.inr j
 |[],i,s=>by simp[aV,Wx]
 |n::l,i,s=>by
  simp only[aV,Wx,FX];cases mQ ac i n s.af s.opn with
  |none=>simp
  |some q=>exact K3 ac l (i+1) ⟨s.af++[q.1],q.2,n.z,_,_,_⟩
def nT(ac:List bL):List (List Int)⊕Nat:=
 if ac.length<1∨60<ac.length then .inr 0 else
 match Wx ac ac 0 [] [] with
 |.inr i=>.inr i
 |.inl (k,o)=>if o.length=1 then .inl (k.map (·.l)) else .inr (ac.length-1)
def uT(l:List Int):ap:=.aa false (l.map (.int .i64))
instance:Nc uT 1 false:=⟨fun _=>rfl,fun _=>rfl⟩
instance:Fx uT:=⟨fun fl top base σ n y=>by simp[uT]⟩
def xK:List (List Int)⊕Nat→ap
 |.inl k=>.tup [.aa false (k.map uT),.int .i64 0,.int .i64 0]
 |.inr i=>.tup [.aa false [],.int .i64 i,.int .i64 291]
theorem Em{α β:Type}(f:α→β):∀(l:List α) (k:Nat) (acc:List β),aV (ρ:=Empty) (fun _ x acc=>.inl (acc++[f x])) l k acc=.inl (acc++l.map f)
 |[],k,acc=>by simp[aV]
 |x::l,k,acc=>by
  simp only[aV];rw[Em f l];simp
theorem IN(bn:Bool)(ac:List bL)(hF:∀n∈ac,nO n)(hN:ac.length≤qU):aK I.qey [.aa bn (ac.map bL.a)]=some (xK (nT ac)):=by
 rw[aA aiu rfl];by_cases h1:ac.length<1
 ·have h1':((ac.length:Int)<1):=by omega
  rw[show nT ac=.inr 0 by simp only[nT,if_pos (Or.inl h1)]];simp[aou,GI,h1',xK]
 have h1':¬((ac.length:Int)<1):=by omega
 by_cases h2:60<ac.length
 ·have h2':((60:Int)<(ac.length:Int)):=by omega
  rw[show nT ac=.inr 0 by simp only[nT,if_pos (Or.inr h2)]];simp[aou,GI,h1',h2',xK]
 have h2':¬((60:Int)<(ac.length:Int)):=by omega
 have e:nT ac=match Wx ac ac 0 [] [] with
   |.inr i=>.inr i
   |.inl (k,o)=>if o.length=1 then .inl (k.map (·.l)) else .inr (ac.length-1):=by
  simp only[nT,if_neg (show ¬(ac.length<1∨60<ac.length) by omega)]
 have hl:=ON bn ac hN hF ⟨ar 0,ar 0,ar 0,ar 0,.aj,.bool false,.aj,.aj,.aj,.aj,.aj,ar 0⟩ .aj .aj .aj (fun base σ m=>by simp);have hg:=K3 ac ac 0 ⟨[],[],⟨ar 0,ar 0,ar 0,ar 0,.aj,.bool false,.aj,.aj,.aj,.aj,.aj,ar 0⟩,.aj,.aj,.aj⟩;rw[e];cases hq:aV (FX ac) ac 0 ⟨[],[],⟨ar 0,ar 0,ar 0,ar 0,.aj,.bool false,.aj,.aj,.aj,.aj,.aj,ar 0⟩,.aj,.aj,.aj⟩ with
 |inr i=>
  rw[hq]at hl hg;simp only at hl hg;rw[hg];obtain⟨o,h3,σ,e7,e8,e15,e16,rfl,hi⟩:=hl;simp[Gs,oP,GM]at h3;simp[aou,GI,h1',h2',A1,h3,xK,show ¬((i:Int)<0) by omega]
 |inl s=>
  rw[hq]at hl hg;simp only at hl hg;rw[hg];obtain⟨hz,h5,h6,h12,h3⟩:=hl;simp[Gs,oP,GM]at h3;by_cases h7:s.opn.length=1
  ·have hc:=cT (ρ:=Empty) (base:=4) (clr:=[10,22]) (b:=Dr) s.af
    (fun k (acc:List (List Int))=>⟨[.aa bn (ac.map bL.a),.aj,ar 0,ar 0,.ptr 0 0 0 0,.imap false F1,ar (-1),.any,.any,.sl 3 k 0 acc.length,.any,.bool false,.aa bn (ac.map bL.a),ar ac.length,ar ac.length,.bool false,.any,.bool false,.bool false,.sl 1 ac.length 0 s.af.length,ar s.af.length,ar k,.any],
     oP bn ac ac.length s++[.arr 1 k (acc.map uT)]⟩)
    (fun k acc=>acc.length=k) (fun _ x acc=>.inl (acc++[x.l]))
    (fun acc=>(.ext 2,⟨[.aa bn (ac.map bL.a),.aj,ar 0,ar 0,.ptr 0 0 0 0,.imap false F1,ar (-1),.any,.any,.sl 3 s.af.length 0 acc.length,.any,.bool false,.aa bn (ac.map bL.a),ar ac.length,ar ac.length,.bool false,.any,.bool false,.bool false,.sl 1 ac.length 0 s.af.length,ar s.af.length,ar s.af.length,.bool false],
     oP bn ac ac.length s++[.arr 1 s.af.length (acc.map uT)]⟩))
    (fun r _=>r.elim)
    (fun k x acc hk hy hs=>by
     have ak:((k:Int)<(s.af.length:Int)):=by omega
     have hzz:=hz 4;simp[Zs.l]at hzz;have hkl:k+1≤most:=by unfold most;omega
     subst hs;obtain⟨hlx,hgx⟩:=al.1 hy;refine⟨?_,by simp⟩;simp[Dr,ak,hgx,hk,oP,GM,dI.c,append,hkl,aE,aH,hzz,aX hk (show s.af.length≤most by unfold most;omega),uT,aI (h12 x (aw hy)) (show qU≤most by decide)])
    (fun acc hs=>by simp[Dr]) [] rfl
   rw[Em]at hc;obtain⟨_,hc⟩:=hc;have hkl:(s.af.map (·.l)).length=s.af.length:=cf ..;rw[b9]at hc;simp only[if_pos h7];generalize s.af.map (·.l)=ks at hc hkl ⊢;have htk:List.take s.af.length (List.map uT ks)=List.map uT ks:=by rw[←hkl];exact lF ks uT
   simp[oP,GM,h7,hkl]at hc;simp[aou,GI,h1',h2',A1,h3,xK,h7,hc,hkl,htk];exact fun a _=>by simp[uT]
  have h7':((s.opn.length:Int) != 1)=true:=by simp;omega
  have h8:¬((ac.length:Int)-1<0):=by omega
  have h9:(1:Int)≤(ac.length:Int):=by omega
  have h10:=rn (n:=(ac.length:Int)-1) (by omega) (by omega);have h11:((ac.length-1:Nat):Int)=(ac.length:Int)-1:=by omega
  simp only[if_neg h7];simp[aou,GI,h1',h2',A1,h3,xK,h7',h8,h9,h10,h11]
def afK(root ah:List Int):Bool:=ah.any fun c=>decide (c<0) ||decide ((root.length:Int)≤c)
structure amx (root ah:List Int) (way:Int):Prop where
 wrong:afK root ah=false
 len:¬((16:Int)<(ah.length:Int))
 way1:¬way<1
 way4:¬4<way
 shuf:(way=1∧0<ah.length)∨(way≠1∧ah=[])

def O9:Nat→List aQ→List ap
 |_,[]=>[]
 |j,p::r=>.sl j p.length 0 p.length::O9 (j+1) r
@[simp] theorem Pj:∀(P:List aQ) (j:Nat),(O9 j P).length=P.length
 |[],_=>rfl
 |_::r,j=>by simp[O9,Pj r]

theorem Z3{root:List Int}{r:b8}(hl:root.length≤16)(h:Bh root r=true):lc r=true∧r.length=root.length:=by
 unfold Bh at h;simp only[aq,aP]at h;obtain⟨h1,h2⟩:=h;refine⟨?_,h1⟩;unfold lc;simp only[aq,aL];refine⟨by omega,?_⟩;rw[aG];intro v hv;obtain⟨i,hi,rfl⟩:=dm.1 hv
 have hz:(r[i],root[i]'(by omega))∈r.zip root:=by
  rw[dm];exact⟨i,by simp;omega,by simp⟩
 have:=aG.1 h2 _ hz;unfold Kx at this;simp only[aq]at this;exact this.1
theorem ko{α:Type}{l:List α}{n:Nat}(h:n<l.length)(h0:n≠0):l.take n≠[]:=g9 (by simp;omega)
theorem Xd{α:Type}{enc:α→ap}[Nc enc 12 true](b:Bool)(l:List α)(n:Nat)(h0:n≠0)(hn:n≤1000)(σ:ay) :
  ∃ep,cA code I.qx [.aa b (l.map enc),ar (n:Int)] σ=some (.sl σ.length ep 0 (l.take n).length,σ++[.arr 12 ep ((l.take n).map enc)]):=by
 rw[bp amw rfl];have hnc:∀(k:List α),∀a∈k.map enc,aC a=12:=fun k a ha=>by
  obtain⟨y,_,rfl⟩:=aU.1 ha;exact Nc.nc y
 have hnx:∀x:α,aC (enc x)=12:=fun x=>Nc.nc x;have hng:¬((n:Int)<0):=by omega
 by_cases h:n<l.length
 ·have hi:((n:Int)<l.length):=by omega
  have h1:min n l.length=n:=by omega
  have h2:l.take n≠[]:=ko h h0;have h4:n≤l.length:=by omega
  have h7:=hnc l;have h8:=hnc (l.take n);have h9:n≤most:=by unfold most;omega
  have h10:l≠[]:=by intro e;simp[e]at h
  refine⟨1,?_⟩;simp only[d6]at h8;simp[apd,Z8,hi,hnx,hng,append,h0,h1,h2,h4,h9,h10,if_pos h7,if_pos h8]
 have hi:¬((n:Int)<l.length):=by omega
 have e0:l.take n=l:=av (by omega);have h7:=hnc l;rw[e0];by_cases he:l=[]
 ·subst he;refine⟨0,?_⟩;simp[apd,Z8,append,hnx,hng]
 have h9:l.length≤most:=by unfold most;omega
 refine⟨1,?_⟩;simp[apd,Z8,hi,hnx,hng,append,he,if_pos h7,h9]
theorem aeb{α:Type}{enc:α→ap}[Nc enc 2 true](b:Bool)(l:List α)(n:Nat)(h0:n≠0)(hn:n≤1000)(σ:ay) :
  ∃ep,cA code I.qu [.aa b (l.map enc),ar (n:Int)] σ=some (.sl σ.length ep 0 (l.take n).length,σ++[.arr 2 ep ((l.take n).map enc)]):=by
 rw[bp aml rfl];have hnc:∀(k:List α),∀a∈k.map enc,aC a=2:=fun k a ha=>by
  obtain⟨y,_,rfl⟩:=aU.1 ha;exact Nc.nc y
 have hnx:∀x:α,aC (enc x)=2:=fun x=>Nc.nc x;have hng:¬((n:Int)<0):=by omega
 by_cases h:n<l.length
 ·have hi:((n:Int)<l.length):=by omega
  have h1:min n l.length=n:=by omega
  have h2:l.take n≠[]:=ko h h0;have h4:n≤l.length:=by omega
  have h7:=hnc l;have h8:=hnc (l.take n);have h9:n≤most:=by unfold most;omega
  have h10:l≠[]:=by intro e;simp[e]at h
  refine⟨1,?_⟩;simp only[d6]at h8;simp[ao0,Zf,hi,hnx,hng,append,h0,h1,h2,h4,h9,h10,if_pos h7,if_pos h8]
 have hi:¬((n:Int)<l.length):=by omega
 have e0:l.take n=l:=av (by omega);have h7:=hnc l;rw[e0];by_cases he:l=[]
 ·subst he;refine⟨0,?_⟩;simp[ao0,Zf,append,hnx,hng]
 have h9:l.length≤most:=by unfold most;omega
 refine⟨1,?_⟩;simp[ao0,Zf,hi,hnx,hng,append,he,if_pos h7,h9]
theorem ZM{α:Type}{enc:α→ap}[Nc enc 1 true](b:Bool)(l:List α)(n:Nat)(h0:n≠0)(hn:n≤1000)(σ:ay) :
  ∃ep,cA code I.qw [.aa b (l.map enc),ar (n:Int)] σ=some (.sl σ.length ep 0 (l.take n).length,σ++[.arr 1 ep ((l.take n).map enc)]):=by
 rw[bp alX rfl];have hnc:∀(k:List α),∀a∈k.map enc,aC a=1:=fun k a ha=>by
  obtain⟨y,_,rfl⟩:=aU.1 ha;exact Nc.nc y
 have hnx:∀x:α,aC (enc x)=1:=fun x=>Nc.nc x;have hng:¬((n:Int)<0):=by omega
 by_cases h:n<l.length
 ·have hi:((n:Int)<l.length):=by omega
  have h1:min n l.length=n:=by omega
  have h2:l.take n≠[]:=ko h h0;have h4:n≤l.length:=by omega
  have h7:=hnc l;have h8:=hnc (l.take n);have h9:n≤most:=by unfold most;omega
  have h10:l≠[]:=by intro e;simp[e]at h
  refine⟨1,?_⟩;simp only[d6]at h8;simp[apa,Zl,hi,hnx,hng,append,h0,h1,h2,h4,h9,h10,if_pos h7,if_pos h8]
 have hi:¬((n:Int)<l.length):=by omega
 have e0:l.take n=l:=av (by omega);have h7:=hnc l;rw[e0];by_cases he:l=[]
 ·subst he;refine⟨0,?_⟩;simp[apa,Zl,append,hnx,hng]
 have h9:l.length≤most:=by unfold most;omega
 refine⟨1,?_⟩;simp[apa,Zl,hi,hnx,hng,append,he,if_pos h7,h9]
theorem aad{α:Type}{enc:α→ap}[Nc enc 1 false](b:Bool)(l:List α)(n:Nat)(h0:n≠0)(hn:n≤1000)(σ:ay) :
  ∃ep,cA code I.qz [.aa b (l.map enc),ar (n:Int)] σ=some (.sl σ.length ep 0 (l.take n).length,σ++[.arr 1 ep ((l.take n).map enc)]):=by
 rw[bp amf rfl];have hnc:∀(k:List α),∀a∈k.map enc,aC a=1:=fun k a ha=>by
  obtain⟨y,_,rfl⟩:=aU.1 ha;exact Nc.nc y
 have hnx:∀x:α,aC (enc x)=1:=fun x=>Nc.nc x;have hng:¬((n:Int)<0):=by omega
 by_cases h:n<l.length
 ·have hi:((n:Int)<l.length):=by omega
  have h1:min n l.length=n:=by omega
  have h2:l.take n≠[]:=ko h h0;have h4:n≤l.length:=by omega
  have h7:=hnc l;have h8:=hnc (l.take n);have h9:n≤most:=by unfold most;omega
  have h10:l≠[]:=by intro e;simp[e]at h
  refine⟨1,?_⟩;simp only[d6]at h8;simp[aoS,Yg,hi,hnx,hng,append,h0,h1,h2,h4,h9,h10,if_pos h7,if_pos h8]
 have hi:¬((n:Int)<l.length):=by omega
 have e0:l.take n=l:=av (by omega);have h7:=hnc l;rw[e0];by_cases he:l=[]
 ·subst he;refine⟨0,?_⟩;simp[aoS,Yg,append,hnx,hng]
 have h9:l.length≤most:=by unfold most;omega
 refine⟨1,?_⟩;simp[aoS,Yg,hi,hnx,hng,append,he,if_pos h7,h9]
theorem WR{α:Type}{enc:α→ap}[Nc enc 1 false][Fx enc](b:Bool)(l:List α)(n:Nat)(h0:n≠0)(hn:n≤1000) :
  aK I.qab [.aa b (l.map enc),ar (n:Int)]=some (.aa false ((l.take n).map enc)):=by
 rw[aA ahv rfl];have hnc:∀(k:List α),∀a∈k.map enc,aC a=1:=fun k a ha=>by
  obtain⟨y,_,rfl⟩:=aU.1 ha;exact Nc.nc y
 have hfx:∀(k:List α) fl top base σ m,∀a∈k.map enc,fz fl top base σ (m+3) a=a:=fun k fl top base σ m a ha=>by
  obtain⟨y,_,rfl⟩:=aU.1 ha;exact Fx.fx fl top base σ m y
 have hfr:=fun (k:List α) (σ:ay) (ep:Nat) (h:σ[0]?=some (.arr 1 ep (k.map enc)))=>jk (f:=enc) (m:=1) k 0 ep σ h;have hnx:∀x:α,aC (enc x)=1:=fun x=>Nc.nc x;have hng:¬((n:Int)<0):=by omega
 by_cases h:n<l.length
 ·have hi:((n:Int)<l.length):=by omega
  have h1:min n l.length=n:=by omega
  have h2:l.take n≠[]:=ko h h0;have h4:n≤l.length:=by omega
  have h7:=hnc l;have h8:=hnc (l.take n);have h9:n≤most:=by unfold most;omega
  have h10:l≠[]:=by intro e;simp[e]at h
  have h11:=hfr (l.take n) [.arr 1 1 ((l.take n).map enc)] 1 rfl;have h12:=hfx (l.take n);have h13:((l.take n).map enc).take n=(l.take n).map enc:=av (by simp;omega);rw[show (l.take n).length=n by simp;omega]at h11;simp only[d6]at h8 h11 h12 h13;have h14:∀top base σ m,List.map (fz false top base σ (m+3)) (List.take n (List.map enc l))=List.take n (List.map enc l):=fun top base σ m=>by
   conv=>rhs;rw[←List.map_id (List.take n (List.map enc l))]
   exact bx fun a ha=>h12 false top base σ m a ha
  simp[aoQ,QB,hi,hnx,hng,append,h0,h1,h2,h4,h9,h10,if_pos h7,if_pos h8,h11,h13,h14];exact fun a ha=>by rw[h12 _ _ _ _ 16 a ha]
 have hi:¬((n:Int)<l.length):=by omega
 have e0:l.take n=l:=av (by omega);have h7:=hnc l;rw[e0];by_cases he:l=[]
 ·subst he;have h11:=hfr [] [.arr 1 0 []] 0 rfl;simp at h11;simp[aoQ,QB,append,hnx,hng,h11]
 have h9:l.length≤most:=by unfold most;omega
 have h11:=hfr l [.arr 1 1 (l.map enc)] 1 rfl;simp[aoQ,QB,hi,hnx,hng,append,he,if_pos h7,h9,h11];exact fun a ha=>by rw[hfx l _ _ _ _ 16 (enc a) (kr ha),hnx]
theorem Zw{α:Type}{enc:α→ap}[Nc enc 2 true][Fx enc](b:Bool)(l:List α)(n:Nat)(h0:n≠0)(hn:n≤1000) :
  aK I.qy [.aa b (l.map enc),ar (n:Int)]=some (.aa false ((l.take n).map enc)):=by
 rw[aA amc rfl];have hnc:∀(k:List α),∀a∈k.map enc,aC a=2:=fun k a ha=>by
  obtain⟨y,_,rfl⟩:=aU.1 ha;exact Nc.nc y
 have hfx:∀(k:List α) fl top base σ m,∀a∈k.map enc,fz fl top base σ (m+3) a=a:=fun k fl top base σ m a ha=>by
  obtain⟨y,_,rfl⟩:=aU.1 ha;exact Fx.fx fl top base σ m y
 have hfr:=fun (k:List α) (σ:ay) (ep:Nat) (h:σ[0]?=some (.arr 2 ep (k.map enc)))=>jk (f:=enc) (m:=2) k 0 ep σ h;have hnx:∀x:α,aC (enc x)=2:=fun x=>Nc.nc x;have hng:¬((n:Int)<0):=by omega
 by_cases h:n<l.length
 ·have hi:((n:Int)<l.length):=by omega
  have h1:min n l.length=n:=by omega
  have h2:l.take n≠[]:=ko h h0;have h4:n≤l.length:=by omega
  have h7:=hnc l;have h8:=hnc (l.take n);have h9:n≤most:=by unfold most;omega
  have h10:l≠[]:=by intro e;simp[e]at h
  have h11:=hfr (l.take n) [.arr 2 1 ((l.take n).map enc)] 1 rfl;have h12:=hfx (l.take n);have h13:((l.take n).map enc).take n=(l.take n).map enc:=av (by simp;omega);rw[show (l.take n).length=n by simp;omega]at h11;simp only[d6]at h8 h11 h12 h13;have h14:∀top base σ m,List.map (fz false top base σ (m+3)) (List.take n (List.map enc l))=List.take n (List.map enc l):=fun top base σ m=>by
   conv=>rhs;rw[←List.map_id (List.take n (List.map enc l))]
   exact bx fun a ha=>h12 false top base σ m a ha
  simp[ao9,YQ,hi,hnx,hng,append,h0,h1,h2,h4,h9,h10,if_pos h7,if_pos h8,h11,h13,h14];exact fun a ha=>by rw[h12 _ _ _ _ 16 a ha]
 have hi:¬((n:Int)<l.length):=by omega
 have e0:l.take n=l:=av (by omega);have h7:=hnc l;rw[e0];by_cases he:l=[]
 ·subst he;have h11:=hfr [] [.arr 2 0 []] 0 rfl;simp at h11;simp[ao9,YQ,append,hnx,hng,h11]
 have h9:l.length≤most:=by unfold most;omega
 have h11:=hfr l [.arr 2 1 (l.map enc)] 1 rfl;simp[ao9,YQ,hi,hnx,hng,append,he,if_pos h7,h9,h11];exact fun a ha=>by rw[hfx l _ _ _ _ 16 (enc a) (kr ha),hnx]
theorem UB{α:Type}{enc:α→ap}[Nc enc 8 true][Fx enc](b:Bool)(l:List α)(n:Nat)(h0:n≠0)(hn:n≤1000) :
  aK I.qv [.aa b (l.map enc),ar (n:Int)]=some (.frs 8 ((l.take n).map enc)):=by
 rw[aA amI rfl];have hnc:∀(k:List α),∀a∈k.map enc,aC a=8:=fun k a ha=>by
  obtain⟨y,_,rfl⟩:=aU.1 ha;exact Nc.nc y
 have hfx:∀(k:List α) fl top base σ m,∀a∈k.map enc,fz fl top base σ (m+3) a=a:=fun k fl top base σ m a ha=>by
  obtain⟨y,_,rfl⟩:=aU.1 ha;exact Fx.fx fl top base σ m y
 have hfr:=fun (k:List α) (σ:ay) (ep:Nat) (h:σ[0]?=some (.arr 8 ep (k.map enc)))=>jk (f:=enc) (m:=8) k 0 ep σ h;have hnx:∀x:α,aC (enc x)=8:=fun x=>Nc.nc x;have hng:¬((n:Int)<0):=by omega
 by_cases h:n<l.length
 ·have hi:((n:Int)<l.length):=by omega
  have h1:min n l.length=n:=by omega
  have h2:l.take n≠[]:=ko h h0;have h4:n≤l.length:=by omega
  have h7:=hnc l;have h8:=hnc (l.take n);have h9:n≤most:=by unfold most;omega
  have h10:l≠[]:=by intro e;simp[e]at h
  have h11:=hfr (l.take n) [.arr 8 1 ((l.take n).map enc)] 1 rfl;have h12:=hfx (l.take n);have h13:((l.take n).map enc).take n=(l.take n).map enc:=av (by simp;omega);rw[show (l.take n).length=n by simp;omega]at h11;simp only[d6]at h8 h11 h12 h13;have h14:∀top base σ m,List.map (fz false top base σ (m+3)) (List.take n (List.map enc l))=List.take n (List.map enc l):=fun top base σ m=>by
   conv=>rhs;rw[←List.map_id (List.take n (List.map enc l))]
   exact bx fun a ha=>h12 false top base σ m a ha
  simp[ape,aac,hi,hnx,hng,append,h0,h1,h2,h4,h9,h10,if_pos h7,if_pos h8,h11,h13,h14]
 have hi:¬((n:Int)<l.length):=by omega
 have e0:l.take n=l:=av (by omega);have h7:=hnc l;rw[e0];by_cases he:l=[]
 ·subst he;have h11:=hfr [] [.arr 8 0 []] 0 rfl;simp at h11;simp[ape,aac,append,hnx,hng,h11]
 have h9:l.length≤most:=by unfold most;omega
 have h11:=hfr l [.arr 8 1 (l.map enc)] 1 rfl;simp[ape,aac,hi,hnx,hng,append,he,if_pos h7,h9,h11]
end Go.AM
