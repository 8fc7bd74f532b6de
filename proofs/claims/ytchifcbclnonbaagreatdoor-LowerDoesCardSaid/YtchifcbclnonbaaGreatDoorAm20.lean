/- Part of the proof. -/
import Derived.Test.YtchifcbclnonbaaGreatDoorAm19
set_option linter.unusedVariables false
set_option linter.unusedSimpArgs false
set_option linter.unusedSectionVars false
namespace Go.AM
open P
set_option maxHeartbeats 64000000
set_option maxRecDepth 40000
attribute [local simp] aF br
def nE(g:ew):ap:=.agg [aL g.tag,.aa false (g.arg.map EN.a)]
def nv(e:kh):ap:=.agg [.aa false (e.l.map EN.a)]
instance:Nc nE 2 true:=⟨fun _=>rfl,fun _=>rfl⟩
instance:Fx nE:=⟨fun fl top base σ n y=>by simp[nE]⟩
instance:Nc nv 1 true:=⟨fun _=>rfl,fun _=>rfl⟩
instance:Fx nv:=⟨fun fl top base σ n y=>by simp[nv]⟩
structure mh (n:bB):Prop where
 ag:∀g∈n.ah,g.b=false
 ex:∀e∈n.items,e.b=false
theorem mh.ags{n:bB}(h:mh n):n.ah.map ew.a=n.ah.map nE:=aU fun g hg=>by simp[ew.a,nE,h.ag g hg]
theorem mh.exs{n:bB}(h:mh n):n.items.map kh.a=n.items.map nv:=aU fun e he=>by simp[kh.a,nv,h.ex e he]
def d6(by':Int)(n:bB):bB:=⟨n.op,if 0≤n.l then n.l+by' else n.l,if 0≤n.r then n.r+by' else n.r,n.tab,false,n.ac,n.left,false,n.cond,false,n.keys,false,n.ah,false,n.items,false,n.ords,n.limit⟩
abbrev nC(n:bB)(l r:Int):ap:=.agg [aL n.op,aL l,aL r,aL n.tab,.sl 2 0 0 n.ac.length,.bool n.left,.sl 5 0 0 n.cond.length,.sl 3 0 0 n.keys.length,.sl 6 0 0 n.ah.length,.sl 7 0 0 n.items.length,.sl 4 0 0 n.ords.length,aL n.limit]
abbrev stC(n:bB)(l r:Int)(z:ap):aw:=[.arr 12 0 [nC n l r],.arr 12 0 [z],.arr 1 0 (n.ac.map (.int .i64)),.arr 1 0 (n.keys.map (.int .i64)),.arr 2 0 (n.ords.map fU),.arr 8 0 (n.cond.map EN.a),.arr 2 0 (n.ah.map nE),.arr 1 0 (n.items.map nv)]
abbrev Lh:ap:=.agg [aL 0,aL 0,aL 0,aL 0,.ai,.bool false,.ai,.ai,.ai,.ai,.ai,aL 0]
theorem FL{α:Type}{l:List α}{k:Nat}{x:α}(h:l[k]?=some x):l.set k x=l:=by
 obtain⟨hk,rfl⟩:=ak.1 h;exact List.set_getElem_self hk
theorem LU(n:bB)(hf:mh n)(hn:su n)(by':Int)(h1:0≤n.l→-9223372036854775808≤n.l+by'∧n.l+by' < 9223372036854775808)(h2:0≤n.r→-9223372036854775808≤n.r+by'∧n.r+by' < 9223372036854775808) :
  bI I.qfg [n.a,aL by']=some (d6 by' n).a:=by
 rw[aQ ag2 rfl];have hm:wJ≤aV:=by decide
 have k1:=fun b=>nI (enc:=.int .i64) b n.ac (aZ hn.ac hm);have k2:=fun b=>nI (enc:=.int .i64) b n.keys (aZ hn.keys hm);have k3:=fun b=>ug (enc:=fU) b n.ords (aZ hn.ords hm);have k4:=fun b=>ir (enc:=EN.a) b n.cond (aZ hn.cond hm);have k5:=fun b=>uD (enc:=nE) b n.ah (aZ hn.ah hm);have k6:=fun b=>tg (enc:=nv) b n.items (aZ hn.items hm);have e1:=hf.ags;have e2:=hf.exs;generalize hl:(if 0≤n.l then n.l+by' else n.l)=l';generalize hr:(if 0≤n.r then n.r+by' else n.r)=r';have hc:d6 by' n=⟨n.op,l',r',n.tab,false,n.ac,n.left,false,n.cond,false,n.keys,false,n.ah,false,n.items,false,n.ords,n.limit⟩:=by unfold d6;rw[hl,hr]
 have loop1:=fun c6 c7:Bool=>(eh (base:=8) (clr:=[4,10]) (b:=DP) n.ah
  (fun k (_:Unit)=>⟨[n.a,aL by',.ptr 0 0 0 0,.ptr 1 0 0 0,.any,.any,.bool c6,.bool c7,aL n.ah.length,aL k,.any,.any,.any,.any],stC n l' r' Lh⟩)
  (fun _ _=>True) (fun _ _=>())
  (fun _=>(.ext 0,⟨[n.a,aL by',.ptr 0 0 0 0,.ptr 1 0 0 0,.any,.any,.bool c6,.bool c7,aL n.ah.length,aL n.ah.length,.bool false,.any,.any,.any],stC n l' r' Lh⟩))
  (fun k g _ hk hy _=>by
   have aj:((k:Int)<(n.ah.length:Int)):=by omega
   refine⟨?_,trivial⟩;have hcl:=fun b=>ir (enc:=EN.a) b g.arg (aZ (hn.args g (aD hy)) hm);have hgg:∀h:k<n.ah.length,n.ah[k]'h=g:=fun h=>(ak.1 hy).2;have n1:∀base σ m,fz false true base σ (m+3) n.a=n.a:=fun base σ m=>Ft.ft false true base σ m n rfl;have hset:(n.ah.map nE).set k (.agg [aL g.tag,.aa false (g.arg.map EN.a)])=n.ah.map nE:=FL (by rw[dA,hy];rfl);simp[DP,aj,hy,hk,hgg,nE,hcl,n1,bJ hk (aZ hn.ah hm),aT,aW,hset])
  (fun _ _=>by simp[DP]) () trivial).1
 have loop2:=fun c6 c7:Bool=>(eh (base:=8) (clr:=[5,13]) (b:=D2) n.items
  (fun k (_:Unit)=>⟨[n.a,aL by',.ptr 0 0 0 0,.ptr 1 0 0 0,.any,.any,.bool c6,.bool c7,aL n.ah.length,aL n.ah.length,.bool false,aL n.items.length,aL k,.any],stC n l' r' Lh⟩)
  (fun _ _=>True) (fun _ _=>())
  (fun _=>(.ext 2,⟨[n.a,aL by',.ptr 0 0 0 0,.ptr 1 0 0 0,.any,.any,.bool c6,.bool c7,aL n.ah.length,aL n.ah.length,.bool false,aL n.items.length,aL n.items.length,.bool false],stC n l' r' Lh⟩))
  (fun k g _ hk hy _=>by
   have aj:((k:Int)<(n.items.length:Int)):=by omega
   refine⟨?_,trivial⟩;have hcl:=fun b=>ir (enc:=EN.a) b g.l (aZ (hn.exprs g (aD hy)) hm);have hgg:∀h:k<n.items.length,n.items[k]'h=g:=fun h=>(ak.1 hy).2;have n1:∀base σ m,fz false true base σ (m+3) n.a=n.a:=fun base σ m=>Ft.ft false true base σ m n rfl;have hset:(n.items.map nv).set k (.agg [.aa false (g.l.map EN.a)])=n.items.map nv:=FL (by rw[dA,hy];rfl);simp[D2,aj,hy,hk,hgg,nv,hcl,n1,bJ hk (aZ hn.items hm),aT,aW,hset])
  (fun _ _=>by simp[D2]) () trivial).1
 have hna:n.a=.agg [aL n.op,aL n.l,aL n.r,aL n.tab,.aa n.bk (n.ac.map (.int .i64)),.bool n.left,.aa n.bc (n.cond.map EN.a),.aa n.by' (n.keys.map (.int .i64)),.aa n.bg (n.ah.map nE),.aa n.bi (n.items.map nv),.aa n.bo (n.ords.map fU),aL n.limit]:=by unfold bB.a;rw[e1,e2]
 have hca:(d6 by' n).a=.agg [aL n.op,aL l',aL r',aL n.tab,.aa false (n.ac.map (.int .i64)),.bool n.left,.aa false (n.cond.map EN.a),.aa false (n.keys.map (.int .i64)),.aa false (n.ah.map nE),.aa false (n.items.map nv),.aa false (n.ords.map fU),aL n.limit]:=by rw[hc];unfold bB.a;simp only;rw[e1,e2]
 rw[hca];simp only[show ((0:Nat):Int)=0 from rfl,stC,Lh,nC,hna]at loop1 loop2;rw[hna];have w1:=fun h=>tI (h1 h).1 (h1 h).2;have w2:=fun h=>tI (h2 h).1 (h2 h).2;by_cases d1:0≤n.l
 ·rw[if_pos d1]at hl;rw[hl]at w1;have w1:=w1 d1;by_cases d2:0≤n.r
  ·rw[if_pos d2]at hr;rw[hr]at w2;have w2:=w2 d2;simp[aoa,Mw,d1,d2,hl,hr,w1,w2,k1,k2,k3,k4,k5,k6,loop1,loop2];exact⟨fun a _=>by rw[Fx.fx (f:=nE) false false 0 _ 15 a],fun a _=>by rw[Fx.fx (f:=nv) false false 0 _ 15 a],fun a x h=>by rcases h with⟨_,rfl⟩|⟨_,rfl⟩<;>rw[Fx.fx (f:=fU) false false 0 _ 15 _]⟩
  rw[if_neg d2]at hr;subst hr;simp[aoa,Mw,d1,d2,hl,w1,k1,k2,k3,k4,k5,k6,loop1,loop2];exact⟨fun a _=>by rw[Fx.fx (f:=nE) false false 0 _ 15 a],fun a _=>by rw[Fx.fx (f:=nv) false false 0 _ 15 a],fun a x h=>by rcases h with⟨_,rfl⟩|⟨_,rfl⟩<;>rw[Fx.fx (f:=fU) false false 0 _ 15 _]⟩
 rw[if_neg d1]at hl;subst hl;by_cases d2:0≤n.r
 ·rw[if_pos d2]at hr;rw[hr]at w2;have w2:=w2 d2;simp[aoa,Mw,d1,d2,hr,w2,k1,k2,k3,k4,k5,k6,loop1,loop2];exact⟨fun a _=>by rw[Fx.fx (f:=nE) false false 0 _ 15 a],fun a _=>by rw[Fx.fx (f:=nv) false false 0 _ 15 a],fun a x h=>by rcases h with⟨_,rfl⟩|⟨_,rfl⟩<;>rw[Fx.fx (f:=fU) false false 0 _ 15 _]⟩
 rw[if_neg d2]at hr;subst hr;simp[aoa,Mw,d1,d2,k1,k2,k3,k4,k5,k6,loop1,loop2];exact⟨fun a _=>by rw[Fx.fx (f:=nE) false false 0 _ 15 a],fun a _=>by rw[Fx.fx (f:=nv) false false 0 _ 15 a],fun a x h=>by rcases h with⟨_,rfl⟩|⟨_,rfl⟩<;>rw[Fx.fx (f:=fU) false false 0 _ 15 _]⟩
end Go.AM
namespace Go.AM
open P
set_option maxHeartbeats 16000000
set_option maxRecDepth 8000
attribute [local simp] aF br
def pM(n:bB):ap:=.agg [.int .i64 n.op,.int .i64 n.l,.int .i64 n.r,.int .i64 n.tab,.aa false (n.ac.map (.int .i64)),.bool n.left,.aa false (n.cond.map EN.a),.aa false (n.keys.map (.int .i64)),.aa false (n.ah.map nE),.aa false (n.items.map nv),.aa false (n.ords.map fU),.int .i64 n.limit]
instance:Nc pM 12 true:=⟨fun _=>rfl,fun _=>rfl⟩
instance:Fx pM:=⟨fun fl top base σ n y=>by simp[pM]⟩
def XI(n:bB):List ap:=cellsOf (pM n)
theorem N3(n:bB)(fl top:Bool)(base:Nat)(σ:aw)(m:Nat):(XI n).map (fz fl top base σ (m+2))=XI n:=by
 have h:fz fl top base σ (m+3) (pM n)=pM n:=Fx.fx fl top base σ m n;have e:pM n=.agg (XI n):=rfl;rw[e]at h;simpa using h
theorem QE{n:bB}(h:mh n)(by':Int):(d6 by' n).a=pM (d6 by' n):=by
 have e1:(d6 by' n).ah.map ew.a=(d6 by' n).ah.map nE:=h.ags;have e2:(d6 by' n).items.map kh.a=(d6 by' n).items.map nv:=h.exs;unfold bB.a pM;rw[e1,e2];rfl
abbrev Sx(N L:ap)(e4:ap)(i by' len idx:Int)(b15:Bool)(bp:Bool)(ps:List bB)(k:Nat):List ap:=
 [N,L,.ptr 0 0 0 0,.ptr 1 0 0 0,e4,.ptr 2 0 0 0,.int .i64 i,.ptr 4 0 0 0,.int .i64 0,.int .i64 by',.any,.any,L,.int .i64 len,.int .i64 idx,.bool b15,.bool false,.aa bp (ps.map bB.a),.int .i64 ps.length,.int .i64 k,.any,.any,.any]
abbrev stJ(nb res:ap)(ep:Nat)(o:List bB)(P:ap):aw:=[.arr 12 0 [nb],.arr 1 0 [res],.arr 1 0 [.agg [.sl 3 ep 0 o.length]],.arr 12 ep (o.map pM),.arr 1 0 [P]]
theorem Vi(N L e4 nb res:ap)(i len idx:Int)(b15 bp:Bool)(ps o:List bB)(ep:Nat)(hz:∀n∈ps,mh n)(hF:∀n∈ps,su n)(hp:ps.length≤60)(ho:o.length≤8000)(hlr:∀n∈ps,n.l<100∧n.r<100)
  (hnb:aC nb=12) (hnf:∀base σ m,fz false true base σ (m+3) nb=nb) (hrf:∀base σ m,fz false true base σ (m+3) res=res) (hNf:∀base σ m,fz false true base σ (m+3) N=N) (hLf:∀base σ m,fz false true base σ (m+3) L=L) (hef:∀base σ m,fz false true base σ (m+3) e4=e4) :
  cc code 5 [10,20] Aj ⟨Sx N L e4 i o.length len idx b15 bp ps 0,stJ nb res ep o (.agg [.aa bp (ps.map bB.a)])⟩ =
   some (.ext 2,⟨(Sx N L e4 i o.length len idx b15 bp ps ps.length).set 20 (.bool false),stJ nb res (ep+ps.length) (o++ps.map (d6 o.length)) (.agg [.aa bp (ps.map bB.a)])⟩):=by
 have loop:=da (base:=5) (clr:=[10,20]) (b:=Aj)
  (fun k=>⟨Sx N L e4 i o.length len idx b15 bp ps k,stJ nb res (ep+k) (o++(ps.take k).map (d6 o.length)) (.agg [.aa bp (ps.map bB.a)])⟩) ps.length
  (.ext 2,⟨(Sx N L e4 i o.length len idx b15 bp ps ps.length).set 20 (.bool false),stJ nb res (ep+ps.length) (o++ps.map (d6 o.length)) (.agg [.aa bp (ps.map bB.a)])⟩)
  (fun k hk=>by
   have hy:ps[k]?=some ps[k]:=aq hk;have hgg:∀h:k<ps.length,ps[k]'h=ps[k]'hk:=fun _=>rfl;have hmem:=aO hk;have hcv:=LU ps[k] (hz _ hmem) (hF _ hmem) (o.length:Int) (fun h=>by have:=hlr _ hmem;omega) (fun h=>by have:=hlr _ hmem;omega);rw[QE (hz _ hmem)]at hcv;have hs:(ps.take (k+1)).map (d6 (o.length:Int))=(ps.take k).map (d6 (o.length:Int))++[d6 (o.length:Int) ps[k]]:=by rw[fo,hy,bR];rfl
   have hsl:((ps.take k).map (d6 (o.length:Int))).length=k:=by simp;omega
   generalize hcs:(ps.take k).map (d6 (o.length:Int))=cs at *;generalize ps[k]=n at *;rw[hs];have n3:aC n.a=12∧isAgg n.a=true:=⟨rfl,rfl⟩;have n1:∀base σ m,fz true false base σ (m+3) n.a=n.a:=fun base σ m=>Ft.ft true false base σ m n rfl;have n2:∀base σ m,fz false true base σ (m+3) n.a=n.a:=fun base σ m=>Ft.ft false true base σ m n rfl;have hkm:o.length+(k+1)≤aV:=by unfold aV;omega
   have w2:IntKind.i64.wrap ((k:Int)+1)=(k:Int)+1:=tI (by omega) (by omega);have htk:List.take (o.length+k) (o.map pM++cs.map pM)=o.map pM++cs.map pM:=ay (by simp[hsl]);generalize d6 (o.length:Int) n=c at *;have hzc:pM c=.agg (XI c):=rfl;have c3:(XI c).length=12:=rfl;have c4:=N3 c;rw[hzc]at hcv;simp[Sx,stJ,Aj,hk,hy,hgg,n1,n2,n3,w2,hcv,append,hkm,htk,hsl,hzc,c3,c4,aT,aW,hnf,hrf,hNf,hLf,hef,hnb,bG,dp,cA])
  (by
   simp[Aj])
 simpa using loop
end Go.AM
namespace Go.AM
open P
set_option maxHeartbeats 16000000
set_option maxRecDepth 8000
attribute [local simp] aF br
structure mO where
 b:Bool
 l:List bB
def mO.a(t:mO):ap:=.agg [.aa t.b (t.l.map bB.a)]
instance:Nc mO.a 1 true:=⟨fun _=>rfl,fun _=>rfl⟩
instance:Ft mO.a:=⟨fun fl top base σ n y h=>by cases fl<;>cases top<;>simp_all[mO.a]⟩
def tM(n:bB)(l r:Int):bB:={ n with l:=l,r:=r }
def jt(k:Nat)(t:mO)(s:List bB×Int×Int):(List bB×Int×Int)⊕Unit:=
 if (kj t.l).isSome then .inl (s.1++t.l.map (d6 s.1.length),if k=0 then (s.1.length:Int)+t.l.length-1 else s.2.1,if k=0 then s.2.2 else (s.1.length:Int)+t.l.length-1) else .inr ()
abbrev nLR(n:bB)(l r:Int):ap:=.agg [.int .i64 n.op,.int .i64 l,.int .i64 r,.int .i64 n.tab,.aa n.bk (n.ac.map (.int .i64)),.bool n.left,.aa n.bc (n.cond.map EN.a),.aa n.by' (n.keys.map (.int .i64)),.aa n.bg (n.ah.map ew.a),.aa n.bi (n.items.map kh.a),.aa n.bo (n.ords.map fU),.int .i64 n.limit]
abbrev xV(n:bB)(bl:Bool)(ts:List mO)(k:Nat):List ap:=
 [n.a,.aa bl (ts.map mO.a),.ptr 0 0 0 0,.ptr 1 0 0 0,ap.any,.ptr 2 0 0 0,.any,.any,.any,.any,.any,.any,.aa bl (ts.map mO.a),.int .i64 ts.length,.int .i64 k,.any,.any,.any,.any,.any,.any,.any,.any]
abbrev GT(n:bB)(s:List bB×Int×Int):aw:=[.arr 12 0 [nLR n s.2.1 s.2.2],.arr 1 0 [.agg [.ai]],.arr 1 0 [.agg [.sl 3 s.1.length 0 s.1.length]],.arr 12 s.1.length (s.1.map pM)]
structure TOk (t:mO):Prop where
 fl:∀n∈t.l,mh n
 fit:∀n∈t.l,su n
 lr:(kj t.l).isSome→∀n∈t.l,n.l<100∧n.r<100
theorem pi{ns:List bB}(h:(kj ns).isSome):1≤ns.length∧ns.length≤60:=by
 unfold kj at h;split at h
 ·cases h
 omega
theorem Nb(n:bB)(bl:Bool)(ts:List mO)(ht:ts.length≤100)(k:Nat)(t:mO)(s:List bB×Int×Int)(hk:k<ts.length)(hy:ts[k]?=some t)(hT:TOk t)(hs:s.1.length≤k*60) :
  match jt k t s with
  |.inl s'=>dE 4 [4,6,7,8,9,10,15,16,17,18,19,20,21] nM (run code nM ⟨xV n bl ts k,GT n s⟩)=cc code 4 [4,6,7,8,9,10,15,16,17,18,19,20,21] nM ⟨xV n bl ts (k+1),GT n s'⟩∧s'.1.length≤(k+1)*60
  |.inr _=>∃o,dE 4 [4,6,7,8,9,10,15,16,17,18,19,20,21] nM (run code nM ⟨xV n bl ts k,GT n s⟩)=some o∧∃q,o=(.ret,q)∧q.st[1]?=some (.arr 1 0 [.agg [.ai]])∧q.env[3]?=some (.ptr 1 0 0 0)∧q.env[4]?=some (.int .i64 230):=by
 obtain⟨c,hc⟩:=Hl t.b t.l hT.fit;have hgg:∀h:k<ts.length,ts[k]'h=t:=fun h=>(ak.1 hy).2;have n3:aC t.a=1∧isAgg t.a=true:=⟨rfl,rfl⟩;obtain⟨o,l,r⟩:=s;simp only at hs ⊢;unfold jt;cases hl:(kj t.l).isSome with
 |false=>
  rw[hl]at hc;simp only[aH,bQ]at hc ⊢;exact⟨_,by simp[nM,hk,hy,hgg,n3,hc,mO.a];rfl,_,rfl,rfl,rfl,rfl⟩
 |true=>
  rw[hl]at hc;simp only[bU]at hc ⊢;obtain⟨l1,l2⟩:=pi hl;have cj:=Vi n.a (.aa bl (ts.map mO.a)) .any (nLR n l r) (.agg [.ai]) k ts.length k true t.b t.l o o.length hT.fl hT.fit l2 (by omega) (hT.lr hl) rfl (by simp) (by simp) (fun base σ m=>Ft.ft false true base σ m n rfl) (by simp) (by simp);simp only[Sx,stJ,List.set,aJ]at cj;have hsz:o.length≤aV:=by unfold aV;omega
  have w2:IntKind.i64.wrap ((k:Int)+1)=(k:Int)+1:=tI (by omega) (by omega);have w3:IntKind.i64.wrap ((o.length:Int)+(t.l.length:Int)-1)=(o.length:Int)+(t.l.length:Int)-1:=tI (by omega) (by omega);have hna:∀base σ m,fz false true base σ (m+3) n.a=n.a:=fun base σ m=>Ft.ft false true base σ m n rfl;have hcl:(t.l.map (d6 (o.length:Int))).length=t.l.length:=by simp
  generalize t.l.map (d6 (o.length:Int))=cs at *;have w1:IntKind.i64.wrap 1=1:=rfl;refine⟨?_,by simp[hcl];omega⟩;by_cases k0:k=0
  ·subst k0;simp at cj;simp[xV,GT,nM,hk,hy,hgg,n3,hc,mO.a,cj,hsz,w1,w3,hna,hcl,aT,aW]
  have k1:((k:Int)==0)=false:=by simp;omega
  simp[k0]at cj;simp[xV,GT,nM,hk,hy,hgg,n3,hc,mO.a,cj,hsz,w1,w2,w3,hna,hcl,k0,k1,aT,aW]
end Go.AM
namespace Go.AM
open P
set_option maxHeartbeats 16000000
set_option maxRecDepth 8000
attribute [local simp] aF br
def fK(n:bB)(ts:List mO):Option (List bB):=
 match dm jt ts 0 ([],-1,-1) with
 |.inl s=>if (kj (s.1++[d6 0 (tM n s.2.1 s.2.2)])).isSome then some (s.1++[d6 0 (tM n s.2.1 s.2.2)]) else none
 |.inr _=>none
structure oI (n:bB):Prop where
 fl:mh n
 fit:su n
 z:n.a=pM n
theorem tK{n:bB}(h:mh n)(hf:su n)(by':Int):oI (d6 by' n):=⟨⟨h.ag,h.ex⟩,⟨hf.ac,hf.cond,hf.keys,hf.ah,hf.args,hf.items,hf.exprs,hf.ords⟩,QE h by'⟩
structure W4 (k:Nat) (s:List bB×Int×Int):Prop where
 len:s.1.length≤k*60
 own:∀m∈s.1,oI m
 l:-1≤s.2.1∧s.2.1≤k*60
 r:-1≤s.2.2∧s.2.2≤k*60
theorem EW{ns:List bB}(h:∀m∈ns,oI m):ns.map bB.a=ns.map pM:=aU fun m hm=>(h m hm).z
theorem Hh{k:Nat}{t:mO}{s s':List bB×Int×Int}(hT:TOk t)(hI:W4 k s)(h:jt k t s=.inl s'):W4 (k+1) s':=by
 unfold jt at h;split at h
 ·rename_i hl;obtain⟨l1,l2⟩:=pi hl;cases h;have:=hI.len;have:=hI.l;have:=hI.r;refine⟨by simp;omega,fun m hm=>?_,?_,?_⟩
  ·rcases cq.1 hm with hm|hm
   ·exact hI.own m hm
   obtain⟨n,hn,rfl⟩:=bK.1 hm;exact tK (hT.fl n hn) (hT.fit n hn) _
  all_goals
   simp only;split<;>omega
 cases h
theorem PG(n:bB)(hf:mh n)(hn:su n)(bl:Bool)(ts:List mO)(ht:ts.length≤100)(hT:∀t∈ts,TOk t) :
  bI I.qfh [n.a,.aa bl (ts.map mO.a)]=some (.tup [.agg [.aa false (((fK n ts).getD []).map bB.a)],.int .i64 (if (fK n ts).isSome then 0 else 230)]) ∧
  ∀w,fK n ts=some w→∀m∈w,oI m:=by
 have key:=eL (base:=4) (clr:=[4,6,7,8,9,10,15,16,17,18,19,20,21]) (b:=nM) ts (fun k s=>⟨xV n bl ts k,GT n s⟩) W4 jt
  (fun s=>(.ext 0,⟨(xV n bl ts ts.length).set 15 (.bool false),GT n s⟩)) (fun _ o=>∃q,o=(.ret,q)∧q.st[1]?=some (.arr 1 0 [.agg [.ai]])∧q.env[3]?=some (.ptr 1 0 0 0)∧q.env[4]?=some (.int .i64 230))
  (fun k t s hk hy hI=>by
   have hTt:=hT t (aD hy);have h:=Nb n bl ts ht k t s hk hy hTt hI.len;have hi:=fun s'=>Hh (s':=s') hTt hI;revert h hi;cases jt k t s with
   |inl s'=>exact fun h hi=>⟨h.1,hi s' rfl⟩
   |inr r=>exact fun h _=>h)
  (fun s _=>by simp[xV,GT,nM]) ([],-1,-1) ⟨by simp,fun m hm=>by simp at hm,by simp,by simp⟩
 unfold fK;revert key;cases dm jt ts 0 ([],-1,-1) with
 |inr u=>
  rintro⟨o,key,q,rfl,q1,q2,q3⟩;refine⟨?_,fun w h=>by cases h⟩;simp only[xV,GT,aJ,cE,cK]at key;rw[aQ abl rfl];have hna:n.a=nLR n n.l n.r:=rfl;simp only[hna,nLR]at key ⊢;simp[aou,R5,key,q1,q2,q3]
 |inl s=>
  rintro⟨hI,key⟩;obtain⟨o,l,r⟩:=s;have hc:=tK (n:=tM n l r) ⟨hf.ag,hf.ex⟩ ⟨hn.ac,hn.cond,hn.keys,hn.ah,hn.args,hn.items,hn.exprs,hn.ords⟩ 0;have hcv:=LU (tM n l r) ⟨hf.ag,hf.ex⟩ ⟨hn.ac,hn.cond,hn.keys,hn.ah,hn.args,hn.items,hn.exprs,hn.ords⟩ 0 (fun h=>by have:=hI.l;simp[tM]at *;omega) (fun h=>by have:=hI.r;simp[tM]at *;omega);rw[hc.z]at hcv;have hpa:(tM n l r).a=nLR n l r:=rfl;have ho:=hI.own;have hlen:=hI.len;simp only at ho hlen ⊢;have hw:∀m∈o++[d6 0 (tM n l r)],oI m:=fun m hm=>by
   rcases cq.1 hm with hm|hm
   ·exact ho m hm
   rw[cg.1 hm];exact hc
  obtain⟨c1,hck⟩:=Hl true (o++[d6 0 (tM n l r)]) fun m hm=>(hw m hm).fit;rw[EW hw]at hck;have hcz:=hc.z;generalize d6 0 (tM n l r)=c at *;simp only[xV,GT,aJ,cE,cK,List.set]at key;have hna:n.a=nLR n n.l n.r:=rfl;rw[hpa]at hcv;simp only[hna,nLR]at key hcv ⊢;have hkm:o.length+1≤aV:=by unfold aV;omega
  have htk:List.take o.length (o.map pM)=o.map pM:=ay (by simp);have hzc:pM c=.agg (XI c):=rfl;have c3:(XI c).length=12:=rfl;have c4:=N3 c;have hwz:(o++[c]).map bB.a=(o++[c]).map pM:=EW hw;have hwl:(o++[c]).length=o.length+1:=by simp
  have hxs:o.map pM++[ap.agg (XI c)]=(o++[c]).map pM:=by rw[bR];rfl
  rw[hzc]at hcv;generalize o++[c]=w at *;have hlz:∀fl top base σ m a,fz fl top base σ (m+3) (pM a)=pM a:=fun fl top base σ m a=>Fx.fx fl top base σ m a;have htk2:List.take (o.length+1) (w.map pM)=w.map pM:=ay (by simp[hwl]);rw[aQ abl rfl];cases hl:(kj w).isSome with
  |true=>
   rw[hl]at hck;refine⟨?_,fun w h=>by cases h;exact hw⟩;simp at hck;simp[aou,R5,key,hcv,hck,append,hkm,htk,htk2,hlz,hxs,hwl,c3,c4,hwz]
  |false=>
   rw[hl]at hck;refine⟨?_,fun w h=>by cases h⟩;simp at hck;simp[aou,R5,key,hcv,hck,append,hkm,htk,htk2,hlz,hxs,hwl,c3,c4]
end Go.AM
namespace Go.AM
open P
set_option maxHeartbeats 16000000
set_option maxRecDepth 8000
attribute [local simp] aF br
def JV(c:Int)(o:Option (List bB)):ap:=.tup [.agg [.aa false ((o.getD []).map bB.a)],.int .i64 (if o.isSome then 0 else c)]
theorem acT(n:bB)(hf:mh n)(hn:su n):bI I.qeo [n.a]=some (JV 230 (fK n [])):=by
 have h:=(PG n hf hn false [] (by simp) (fun t h=>by simp at h)).1;have hna:∀base σ m,fz true false base σ (m+3) n.a=n.a:=fun base σ m=>Ft.ft true false base σ m n rfl;have n3:aC n.a=12∧isAgg n.a=true:=⟨rfl,rfl⟩;rw[aQ af8 rfl];simp at h;unfold JV;generalize fK n []=o at *;have ho:∀a∈o.getD [],True:=fun _ _=>trivial;simp[apC,abx,hna,n3,h]
theorem aeT(n:bB)(hf:mh n)(hn:su n)(t:mO)(ht:TOk t):bI I.qep [n.a,t.a]=some (JV 230 (fK n [t])):=by
 have h:=(PG n hf hn true [t] (by simp) (fun t' h=>by rw[cg.1 h];exact ht)).1;have hna:∀base σ m,fz true false base σ (m+3) n.a=n.a:=fun base σ m=>Ft.ft true false base σ m n rfl;have n3:aC n.a=12∧isAgg n.a=true:=⟨rfl,rfl⟩;have hta:∀base σ m,fz true false base σ (m+3) t.a=t.a:=fun base σ m=>Ft.ft true false base σ m t rfl;have t3:aC t.a=1∧isAgg t.a=true:=⟨rfl,rfl⟩;rw[aQ ajN rfl];simp at h;unfold JV;generalize fK n [t]=o at *;simp[apb,aav,hna,n3,hta,t3,h]
theorem ah2(n:bB)(hf:mh n)(hn:su n)(t u:mO)(ht:TOk t)(hu:TOk u):bI I.qeq [n.a,t.a,u.a]=some (JV 230 (fK n [t,u])):=by
 have h:=(PG n hf hn true [t,u] (by simp) (fun t' h=>by
  rcases d4.1 h with rfl|h
  ·exact ht
  rw[cg.1 h];exact hu)).1
 have hna:∀base σ m,fz true false base σ (m+3) n.a=n.a:=fun base σ m=>Ft.ft true false base σ m n rfl;have n3:aC n.a=12∧isAgg n.a=true:=⟨rfl,rfl⟩;have hta:∀(t:mO) base σ m,fz true false base σ (m+3) t.a=t.a:=fun t base σ m=>Ft.ft true false base σ m t rfl;have t3:∀t:mO,aC t.a=1∧isAgg t.a=true:=fun t=>⟨rfl,rfl⟩;rw[aQ ahz rfl];simp at h;unfold JV;generalize fK n [t,u]=o at *;simp[apY,abT,hna,n3,hta,t3,h]
theorem US(n:bB)(hz:n.a=pM n)(by':Int)(h1:0≤n.l→-9223372036854775808≤n.l+by'∧n.l+by' < 9223372036854775808)(h2:0≤n.r→-9223372036854775808≤n.r+by'∧n.r+by' < 9223372036854775808) :
  bI I.qcc [n.a,.int .i64 by']=some (pM (d6 by' n)):=by
 rw[aQ ai5 rfl];have w1:=fun h=>tI (h1 h).1 (h1 h).2;have w2:=fun h=>tI (h2 h).1 (h2 h).2;rw[hz];unfold pM d6;by_cases d1:0≤n.l<;>by_cases d2:0≤n.r<;>simp[ap1,aa5,d1,d2,w1,w2]
end Go.AM
namespace Go.AM
set_option maxHeartbeats 16000000
set_option maxRecDepth 8000
structure A0 (t:mO):Prop where
 own:∀n∈t.l,oI n
 ns:∀n∈t.l,NS n
 len:t.l.length≤8000
theorem Ld{ns:List bB}(h:ko ns=true):∀n∈ns,n.l<100∧n.r<100:=by
 intro n hn;obtain⟨i,hi,rfl⟩:=bP.1 hn;unfold ko at h;simp only[am,aR,aI,eY]at h;have hk:=h.1.2 i hi;have hy:ns[i]?=some ns[i]:=aq hi;have hs:cI ns (i+1)≠0:=by
  intro h0;rw[kd,hy]at hk;simp[h0]at hk
 have:=h.1.1.2;have:=sQ hy hs;rcases this with h|h|h<;>omega
theorem A0.ok{t:mO}(h:A0 t):TOk t:=⟨fun n hn=>(h.own n hn).fl,fun n hn=>(h.own n hn).fit,fun hl=>Ld (by rw[←(mV t.l).1];exact hl)⟩
theorem RE{n:bB}(h:NS n)(hf:mh n)(by':Int):NS (d6 by' n):=⟨(tK hf h.fit by').fit,h.keys,h.ah,h.items⟩
theorem Vb{k:Nat}{t:mO}{s s':List bB×Int×Int}(hT:A0 t)(hI:∀m∈s.1,NS m)(h:jt k t s=.inl s'):∀m∈s'.1,NS m:=by
 unfold jt at h;split at h
 ·cases h;intro m hm;rcases cq.1 hm with hm|hm
  ·exact hI m hm
  obtain⟨n,hn,rfl⟩:=bK.1 hm;exact RE (hT.ns n hn) (hT.own n hn).fl _
 cases h
theorem FT{α σ ρ:Type}{g:Nat→α→σ→σ⊕ρ}(vE:Nat→σ→Prop):∀(l:List α) (k:Nat) (s:σ),vE k s→(∀k y s s',y∈l→vE k s→g k y s=.inl s'→vE (k+1) s')→∀s',dm g l k s=.inl s'→vE (k+l.length) s'
 |[],k,s,hI,_,s',h=>by rw[dm]at h;cases h;exact hI
 |y::l,k,s,hI,hg,s',h=>by
  rw[dm]at h;cases hy:g k y s with
  |inr r=>rw[hy]at h;cases h
  |inl s1=>
   rw[hy]at h;have:=FT vE l (k+1) s1 (hg k y s s1 (by simp) hI hy) (fun k y s s' hm=>hg k y s s' (bq _ hm)) s' h;simpa [cA,eE 1] using this
theorem LK{ts:List mO}(hT:∀t∈ts,A0 t){s:List bB×Int×Int}(h:dm jt ts 0 ([],-1,-1)=.inl s):W4 ts.length s∧∀m∈s.1,NS m:=by
 have:=FT (g:=jt) (fun k s=>W4 k s∧∀m∈s.1,NS m) ts 0 ([],-1,-1) ⟨⟨by simp,fun m hm=>by simp at hm,by simp,by simp⟩,fun m hm=>by simp at hm⟩
  (fun k y s s' hm hI hg=>⟨Hh (hT y hm).ok hI.1 hg,Vb (hT y hm) hI.2 hg⟩) s h
 simpa using this
theorem TR{n:bB}(hf:mh n)(hn:NS n)(l r:Int):mh (tM n l r)∧NS (tM n l r):=⟨⟨hf.ag,hf.ex⟩,⟨⟨hn.fit.ac,hn.fit.cond,hn.fit.keys,hn.fit.ah,hn.fit.args,hn.fit.items,hn.fit.exprs,hn.fit.ords⟩,hn.keys,hn.ah,hn.items⟩⟩
theorem PB{n:bB}(hf:mh n)(hn:NS n){ts:List mO}(ht:ts.length≤100)(hT:∀t∈ts,A0 t)(w:List bB)(h:fK n ts=some w):A0 ⟨false,w⟩:=by
 unfold fK at h;cases hf':dm jt ts 0 ([],-1,-1) with
 |inr u=>rw[hf']at h;cases h
 |inl s=>
  rw[hf']at h;simp only at h;split at h
  ·cases h;obtain⟨hI,hI2⟩:=LK hT hf';obtain⟨p1,p2⟩:=TR hf hn s.2.1 s.2.2;have hlen:=hI.len;refine⟨fun m hm=>?_,fun m hm=>?_,by simp;omega⟩
   ·rcases cq.1 hm with hm|hm
    ·exact hI.own m hm
    rw[cg.1 hm];exact tK p1 p2.fit 0
   rcases cq.1 hm with hm|hm
   ·exact hI2 m hm
   rw[cg.1 hm];exact RE p2 p1 0
  cases h
end Go.AM
namespace Go.AM
open P
set_option maxHeartbeats 16000000
set_option maxRecDepth 8000
attribute [local simp] aF br
structure eJ where
 name:List UInt8
 kind:Int
 deriving DecidableEq
def eJ.a(c:eJ):ap:=.agg [.str c.name,.int .i64 c.kind]
structure cM where
 name:List UInt8
 af:List eJ
 keys:List Int
def cM.a(t:cM):ap:=.agg [.str t.name,.aa false (t.af.map eJ.a),.aa false (t.keys.map (.int .i64))]
instance:Nc eJ.a 2 true:=⟨fun _=>rfl,fun _=>rfl⟩
instance:Fx eJ.a:=⟨fun fl top base σ n y=>by simp[eJ.a]⟩
instance:Nc cM.a 3 true:=⟨fun _=>rfl,fun _=>rfl⟩
instance:Fx cM.a:=⟨fun fl top base σ n y=>by simp[cM.a]⟩
abbrev eZ(c:List cM):ap:=.agg [.aa false (c.map cM.a)]
def cM.ac(t:cM):List Int:=t.af.map eJ.kind
abbrev xY(c:List cM)(L:ap)(acc:List Int)(i:Nat)(e5 e10:ap)(af:ap)(len idx:ap):List ap:=
 [eZ c,L,.ptr 0 0 0 0,.ai,.sl 1 acc.length 0 acc.length,e5,.any,L,.int .i64 1,.int .i64 i,e10,af,len,idx,.any]
abbrev G5(c:List cM)(acc:List Int):aw:=[.arr 1 0 [eZ c],.arr 1 acc.length (bE acc)]
theorem Md(c:List cM)(bl:Bool)(ls:List ap)(hls:∀base σ m,fz false true base σ (m+3) (.aa bl ls)=.aa bl ls)(t:Int)(af:List eJ)(hc:af.length≤8000)(bc:Bool) :
  cc code 2 [6,14] FU ⟨xY c (.aa bl ls) [] 0 (.int .i64 t) (.bool true) (.aa bc (af.map eJ.a)) (.int .i64 af.length) (.int .i64 0),G5 c []⟩ =
   some (.ext 2,⟨(xY c (.aa bl ls) (af.map eJ.kind) 0 (.int .i64 t) (.bool true) (.aa bc (af.map eJ.a)) (.int .i64 af.length) (.int .i64 af.length)).set 14 (.bool false),G5 c (af.map eJ.kind)⟩):=by
 have loop:=da (base:=2) (clr:=[6,14]) (b:=FU)
  (fun k=>⟨xY c (.aa bl ls) ((af.take k).map eJ.kind) 0 (.int .i64 t) (.bool true) (.aa bc (af.map eJ.a)) (.int .i64 af.length) (.int .i64 k),G5 c ((af.take k).map eJ.kind)⟩) af.length
  (.ext 2,⟨(xY c (.aa bl ls) (af.map eJ.kind) 0 (.int .i64 t) (.bool true) (.aa bc (af.map eJ.a)) (.int .i64 af.length) (.int .i64 af.length)).set 14 (.bool false),G5 c (af.map eJ.kind)⟩)
  (fun k hk=>by
   have hy:af[k]?=some af[k]:=aq hk;have hgg:∀h:k<af.length,af[k]'h=af[k]'hk:=fun _=>rfl;have hs:(af.take (k+1)).map eJ.kind=(af.take k).map eJ.kind++[af[k].kind]:=by rw[fo,hy,bR];rfl
   have hsl:((af.take k).map eJ.kind).length=k:=by simp;omega
   generalize (af.take k).map eJ.kind=cs at *;generalize af[k]=n at *;rw[hs];have hkm:k+1≤aV:=by unfold aV;omega
   have w2:IntKind.i64.wrap ((k:Int)+1)=(k:Int)+1:=tI (by omega) (by omega);have htk:List.take k (cs.map (ap.int .i64))=cs.map (ap.int .i64):=ay (by simp[hsl]);simp[xY,G5,FU,hk,hy,hgg,eJ.a,w2,append,hkm,htk,hsl,aT,aW,bG,dp])
  (by simp[FU])
 simpa using loop
theorem ZI(c:List cM)(t:Int)(tb:cM)(h0:0≤t)(ht:c[t.toNat]?=some tb)(hc:tb.af.length≤8000)(bl:Bool):bI I.qu [eZ c,.aa bl [.int .i64 t]]=some (.aa false (bE tb.ac)):=by
 have ki:=Md c bl [.int .i64 t] (by simp) t tb.af hc false;have aj:t.toNat < c.length:=(ak.1 ht).1;have hgg:∀h:t.toNat < c.length,c[t.toNat]'h=tb:=fun h=>(ak.1 ht).2;have hl2:t<(c.length:Int):=by omega
 have n3:aC tb.a=3∧isAgg tb.a=true:=⟨rfl,rfl⟩;have w1:IntKind.i64.wrap 1=1:=rfl;have tbk:tb.af.map eJ.kind=tb.ac:=rfl;simp only[xY,G5,tbk]at ki;have loop:=da (base:=2) (clr:=[5,6,10,11,12,13,14]) (b:=IC)
  (fun k=>⟨xY c (.aa bl [.int .i64 t]) (if k=0 then [] else tb.ac) k .any .any .any .any .any,G5 c (if k=0 then [] else tb.ac)⟩) 1
  (.ext 0,⟨(xY c (.aa bl [.int .i64 t]) tb.ac 1 .any (.bool false) .any .any .any),G5 c tb.ac⟩)
  (fun k hk=>by
   obtain rfl:k=0:=by omega
   simp at ki;simp[xY,G5,IC,h0,aj,ht,hgg,hl2,n3,cM.a,ki,w1,aT,aW,bG,dp])
  (by simp[IC])
 rw[aQ al2 rfl];simp[xY,G5]at loop;have htk:List.take tb.ac.length (tb.ac.map (ap.int .i64))=tb.ac.map (ap.int .i64):=ay (by simp);simp[apt,ail,loop,htk]
end Go.AM
namespace Go.AM
open P
set_option maxHeartbeats 16000000
set_option maxRecDepth 8000
attribute [local simp] aF br
theorem Px(c:List cM)(t:Int)(b:Bool):bI I.qo [.int .i64 t,.cptr b (eZ c) 0]=some (.bool (decide (t<0) ||decide ((c.length:Int)≤t))):=by
 rw[aQ alN rfl];cases b<;>simp[ao8,aeZ]<;>(repeat' (split<;>(try simp_all)))<;>omega
theorem So(c:List cM)(hk:bI I.qcu [eZ c]=some (.int .i64 0))(hc:∀tb∈c,tb.af.length≤8000)(t:Int)(bl:Bool) :
  bI I.qn [eZ c,.aa bl [.int .i64 t]]=some (if 0≤t∧t<c.length then .tup [.aa false (bE ((c[t.toNat]?.map cM.ac).getD [])),.int .i64 0] else .tup [.aa false [],.int .i64 4]):=by
 rw[aQ amp rfl]
 have hC:=oT (enc:=.int .i64) (b:=bl) (l:=[t]) (f:=iC [.arr 1 0 [eZ c]] (.fn I.qo [] [.ptr 0 0 0 0])) (p:=fun t=>decide (t<0) ||decide ((c.length:Int)≤t)) (by simp;unfold aV;omega) (fun _=>⟨rfl,rfl⟩) (fun σ=>pg _ _ _) (fun c _=>by
  simp[Px])
 simp only[md,List.any_nil,pw]at hC;by_cases h:0≤t∧t<c.length
 ·have aj:t.toNat < c.length:=by omega
  have hy:c[t.toNat]?=some c[t.toNat]:=aq aj;have hm:=aO aj;have hg:∀h:t.toNat < c.length,c[t.toNat]'h=c[t.toNat]'aj:=fun _=>rfl;have hv:=ZI c t c[t.toNat] h.1 hy (hc _ hm) bl;generalize c[t.toNat]=tb at *;have h1:(decide (t<0) ||decide ((c.length:Int)≤t))=false:=by simp;omega
  rw[h1]at hC;simp at hC;rw[if_pos h,hy];simp[aoP,aei,hk,hC,hv]
 have h1:(decide (t<0) ||decide ((c.length:Int)≤t))=true:=by simp;omega
 rw[h1]at hC;simp at hC;rw[if_neg h];simp[aoP,aei,hk,hC]
structure JX where
 left:Bool
 on:List EN
def JX.a(j:JX):ap:=.agg [.bool j.left,.aa false (j.on.map EN.a)]
instance:Nc JX.a 2 true:=⟨fun _=>rfl,fun _=>rfl⟩
instance:Fx JX.a:=⟨fun fl top base σ n y=>by simp[JX.a]⟩
structure jJ where
 tables:List Int
 joins:List JX
 whr:List EN
 having:List EN
 grouped:Bool
 distinct:Bool
 keys:List Int
 ah:List ew
 items:List kh
def jJ.c(s:jJ):List ap:=[.aa false (s.tables.map (.int .i64)),.aa false (s.joins.map JX.a),.aa false (s.whr.map EN.a),.aa false (s.having.map EN.a),.bool s.grouped,.bool s.distinct,.aa false (s.keys.map (.int .i64)),.aa false (s.ah.map nE),.aa false (s.items.map nv)]
def jJ.a(s:jJ):ap:=.agg s.c
instance:Nc jJ.a 9 true:=⟨fun _=>rfl,fun _=>rfl⟩
instance:Fx jJ.a:=⟨fun fl top base σ n y=>by simp[jJ.a,jJ.c]⟩
abbrev Bt(o:Option (List bB)):ap:=.aa false ((o.getD []).map bB.a)
abbrev KG(cv f0 f1 f2 f3 f4 f5 f6 f7 f8 tv:ap)(bad:Bool):ap:=.agg [cv,f0,f1,f2,f3,f4,f5,f6,f7,f8,tv,.bool bad]
theorem yJ(id:Nat)(cv f0 f1 f2 f3 f4 f5 f6 f7 f8 tv t:ap)(bad:Bool)(e:Int)(σ:aw)(h:σ[id]?=some (.arr 12 0 [KG cv f0 f1 f2 f3 f4 f5 f6 f7 f8 tv bad]))(ht:aC t=1) :
  db code I.qfz [.ptr id 0 0 0,.agg [t],.int .i64 e] σ=some (.tup [],(σ.set id (.arr 12 0 [KG cv f0 f1 f2 f3 f4 f5 f6 f7 f8 t (bad ||e != 0)]))++[.arr 1 0 [.agg [t]]]):=by
 rw[dq aiT rfl];have hl:=(ak.1 h).1;have h2:∀X,(σ++[X])[id]?=some (.arr 12 0 [KG cv f0 f1 f2 f3 f4 f5 f6 f7 f8 tv bad]):=fun X=>by rw[bu hl,h]
 have h3:∀X t,(σ.set id X++t)[id]?=some X:=fun X t=>by rw[bu (by simpa using hl)];simp[hl]
 have h4:∀X Y,(σ++[X]).set id Y=σ.set id Y++[X]:=fun X Y=>by rw[eG _ _ hl]
 have h5:∀X Y Z,(σ.set id X++[Z]).set id Y=σ.set id Y++[Z]:=fun X Y Z=>by rw[eG _ _ (by simpa using hl),mL]
 have aj:id<σ.length+1:=by omega
 have hg:∀h,σ[id]'h=.arr 12 0 [KG cv f0 f1 f2 f3 f4 f5 f6 f7 f8 tv bad]:=fun _=>(ak.1 h).2;cases bad<;>cases he:(e==0)<;>have he2:(e != 0)=!(e==0):=rfl<;>rw[he]at he2<;>simp[apn,aa0,ht,h,hg,h2,h3,h4,h5,hl,aj,he,he2]
end Go.AM
namespace Go.AM
open P
set_option maxHeartbeats 16000000
set_option maxRecDepth 8000
attribute [local simp] aF br
theorem FO:kj []=none:=by unfold kj;rw[if_pos (.inl (by simp))]
theorem HK(n:bB)(b:Bool)(ts:List mO):fK n (⟨b,[]⟩::ts)=none:=by
 unfold fK;have:dm jt (⟨b,[]⟩::ts) 0 ([],-1,-1)=.inr ():=by rw[dm];unfold jt;rw[FO];rfl
 rw[this]
theorem Sk(n:bB)(t:mO)(b:Bool):fK n [t,⟨b,[]⟩]=none:=by
 unfold fK;have:dm jt [t,⟨b,[]⟩] 0 ([],-1,-1)=.inr ():=by
  rw[dm];cases jt 0 t ([],-1,-1) with
  |inr _=>rfl
  |inl s=>simp only;rw[dm];unfold jt;rw[FO];rfl
 rw[this]
def cT(n:bB)(o:Option (List bB)):Option (List bB):=o.bind fun t=>fK n [⟨false,t⟩]
def eQ(n:bB)(o x:Option (List bB)):Option (List bB):=o.bind fun t=>x.bind fun u=>fK n [⟨false,t⟩,⟨false,u⟩]
theorem Lv(n:bB)(o:Option (List bB)):fK n [⟨false,o.getD []⟩]=cT n o:=by
 cases o with
 |none=>exact HK n false []
 |some t=>rfl
theorem Ma(n:bB)(o x:Option (List bB)):fK n [⟨false,o.getD []⟩,⟨false,x.getD []⟩]=eQ n o x:=by
 cases o with
 |none=>exact HK n false _
 |some t=>
  cases x with
  |none=>exact Sk n _ false
  |some u=>rfl
def fB(o:Option (List bB)):Prop:=A0 ⟨false,o.getD []⟩
theorem nP:fB none:=⟨fun n h=>by simp at h,fun n h=>by simp at h,by simp⟩
theorem Fq{n:bB}(ho:oI n)(hn:NS n){ts:List mO}(ht:ts.length≤100)(hT:∀t∈ts,A0 t):fB (fK n ts):=by
 have h:=PB ho.fl hn ht hT;cases hl:fK n ts with
 |none=>exact nP
 |some w=>exact h w hl
theorem fS{n:bB}(ho:oI n)(hn:NS n){o:Option (List bB)}(h:fB o):fB (cT n o):=by
 rw[←Lv];exact Fq ho hn (by simp) fun t ht=>by rw[cg.1 ht];exact h
theorem rp{n:bB}(ho:oI n)(hn:NS n){o x:Option (List bB)}(h:fB o)(hx:fB x):fB (eQ n o x):=by
 rw[←Ma]
 exact Fq ho hn (by simp) fun t ht=>by
  rcases d4.1 ht with rfl|ht
  ·exact h
  rw[cg.1 ht];exact hx
theorem VF(x:Option (List bB)):(false ||(if x.isSome then (0:Int) else 230) != 0)=x.isNone:=by cases x<;>rfl
theorem EC(id:Nat)(cv f0 f1 f2 f3 f4 f5 f6 f7 f8 N:ap)(n n':bB)(o:Option (List bB))(σ:aw)(h:σ[id]?=some (.arr 12 0 [KG cv f0 f1 f2 f3 f4 f5 f6 f7 f8 (Bt o) o.isNone]))
  (hN:∀σ,fz true false 0 σ 20 N=n'.a) (hc:aC N=12∧isAgg N=true) (hf:mh n') (hn:su n') (he:∀ts,fK n' ts=fK n ts) (hO:fB o) :
  db code I.qfv [.ptr id 0 0 0,N,.ai] σ=some (.tup [],(σ.set id (.arr 12 0 [KG cv f0 f1 f2 f3 f4 f5 f6 f7 f8 (Bt (cT n o)) (cT n o).isNone]))++[.arr 12 0 [N],.arr 1 0 [.agg [Bt (cT n o)]]]):=by
 rw[dq aa8 rfl];have hl:=(ak.1 h).1;have h2:∀X,(σ++[X])[id]?=some (.arr 12 0 [KG cv f0 f1 f2 f3 f4 f5 f6 f7 f8 (Bt o) o.isNone]):=fun X=>by rw[bu hl,h]
 have hg:∀h,σ[id]'h=.arr 12 0 [KG cv f0 f1 f2 f3 f4 f5 f6 f7 f8 (Bt o) o.isNone]:=fun _=>(ak.1 h).2;have h4:∀X Y,(σ++[X]).set id Y=σ.set id Y++[X]:=fun X Y=>by rw[eG _ _ hl]
 have h1:=aeT n' hf hn ⟨false,o.getD []⟩ hO.ok;rw[he,Lv]at h1;have hbad:(o.isNone ||(if (cT n o).isSome then (0:Int) else 230) != 0)=(cT n o).isNone:=by
  cases o with
  |none=>rfl
  |some t=>exact VF _
 have ht:=yJ id cv f0 f1 f2 f3 f4 f5 f6 f7 f8 (Bt o) (Bt (cT n o)) o.isNone (if (cT n o).isSome then 0 else 230) (σ++[.arr 12 0 [N]]) (h2 _) rfl;rw[hbad,h4]at ht;have hta:(mO.a ⟨false,o.getD []⟩)=.agg [Bt o]:=rfl;unfold JV at h1;rw[hta]at h1;generalize cT n o=o' at *;simp only[Bt]at *;generalize (o.getD []).map bB.a=tv at *;generalize o.isNone=bad at *;generalize (o'.getD []).map bB.a=tv' at *;generalize (if o'.isSome then (0:Int) else 230)=e' at *;simp[aoF,UH,hc,hl,hg,h2,hN,h1,ht]
theorem BG(id:Nat)(cv f0 f1 f2 f3 f4 f5 f6 f7 f8 N:ap)(n:bB)(o:Option (List bB))(σ:aw)(h:σ[id]?=some (.arr 12 0 [KG cv f0 f1 f2 f3 f4 f5 f6 f7 f8 (Bt o) o.isNone]))
  (hN:∀σ,fz true false 0 σ 20 N=n.a) (hc:aC N=12∧isAgg N=true) (ho:oI n) (hn:NS n) (hO:fB o) :
  db code I.qfv [.ptr id 0 0 0,N,.ai] σ=some (.tup [],(σ.set id (.arr 12 0 [KG cv f0 f1 f2 f3 f4 f5 f6 f7 f8 (Bt (cT n o)) (cT n o).isNone]))++[.arr 12 0 [N],.arr 1 0 [.agg [Bt (cT n o)]]]):=
 EC id cv f0 f1 f2 f3 f4 f5 f6 f7 f8 N n n o σ h hN hc ho.fl hn.fit (fun _=>rfl) hO
theorem Fb(id:Nat)(cv f0 f1 f2 f3 f4 f5 f6 f7 f8 N:ap)(n:bB)(o x:Option (List bB))(σ:aw)(h:σ[id]?=some (.arr 12 0 [KG cv f0 f1 f2 f3 f4 f5 f6 f7 f8 (Bt o) (o.isNone ||x.isNone)]))
  (hN:∀σ,fz true false 0 σ 20 N=n.a) (hc:aC N=12∧isAgg N=true) (ho:oI n) (hn:NS n) (hO:fB o) (hX:fB x) :
  db code I.qfv [.ptr id 0 0 0,N,.lst [.agg [Bt x]]] σ=some (.tup [],(σ.set id (.arr 12 0 [KG cv f0 f1 f2 f3 f4 f5 f6 f7 f8 (Bt (eQ n o x)) (eQ n o x).isNone]))++[.arr 12 0 [N],.arr 1 0 [.agg [Bt (eQ n o x)]]]):=by
 rw[dq aa8 rfl];have hl:=(ak.1 h).1;have h2:∀X,(σ++[X])[id]?=some (.arr 12 0 [KG cv f0 f1 f2 f3 f4 f5 f6 f7 f8 (Bt o) (o.isNone ||x.isNone)]):=fun X=>by rw[bu hl,h]
 have hg:∀h,σ[id]'h=.arr 12 0 [KG cv f0 f1 f2 f3 f4 f5 f6 f7 f8 (Bt o) (o.isNone ||x.isNone)]:=fun _=>(ak.1 h).2;have h4:∀X Y,(σ++[X]).set id Y=σ.set id Y++[X]:=fun X Y=>by rw[eG _ _ hl]
 have h1:=ah2 n ho.fl ho.fit ⟨false,o.getD []⟩ ⟨false,x.getD []⟩ hO.ok hX.ok;rw[Ma]at h1;have hbad:((o.isNone ||x.isNone) ||(if (eQ n o x).isSome then (0:Int) else 230) != 0)=(eQ n o x).isNone:=by
  cases o with
  |none=>rfl
  |some t=>
   cases x with
   |none=>rfl
   |some u=>exact VF _
 have ht:=yJ id cv f0 f1 f2 f3 f4 f5 f6 f7 f8 (Bt o) (Bt (eQ n o x)) (o.isNone ||x.isNone) (if (eQ n o x).isSome then 0 else 230) (σ++[.arr 12 0 [N]]) (h2 _) rfl;rw[hbad,h4]at ht;have hta:(mO.a ⟨false,o.getD []⟩)=.agg [Bt o]:=rfl;have htx:(mO.a ⟨false,x.getD []⟩)=.agg [Bt x]:=rfl;have hfx:∀σ m,fz true false 0 σ (m+3) (.agg [Bt x])=.agg [Bt x]:=fun σ m=>by simp
 unfold JV at h1;rw[hta,htx]at h1;generalize eQ n o x=o' at *;simp only[Bt]at *;generalize (o.getD []).map bB.a=tv at *;generalize (x.getD []).map bB.a=xv at *;generalize (o.isNone ||x.isNone)=bad at *;generalize (o'.getD []).map bB.a=tv' at *;generalize (if o'.isSome then (0:Int) else 230)=e' at *;simp[aoF,UH,hc,hl,hg,h2,hN,h1,ht]
end Go.AM
namespace Go.AM
open P
set_option maxHeartbeats 16000000
set_option maxRecDepth 8000
attribute [local simp] aF br
def dd:bB:=⟨0,0,0,0,false,[],false,false,[],false,[],false,[],false,[],false,[],0⟩
def js(t:Int)(ks:List Int):bB:={ dd with op:=1,tab:=t,ac:=ks }
def fW(j:JX):bB:={ dd with op:=2,left:=j.left,cond:=j.on }
def ky(e:List EN):bB:={ dd with op:=3,cond:=e }
def eS(ks:List Int)(gs:List ew):bB:={ dd with op:=4,keys:=ks,ah:=gs }
def jr(es:List kh):bB:={ dd with op:=5,items:=es }
def pK:bB:={ dd with op:=6 }
def kZ:bB:={ dd with op:=7 }
def iZ(o:List (Int×Bool))(l:Int):bB:={ dd with op:=8,ords:=o,limit:=l }
structure xZ (s:jJ):Prop where
 tl:s.tables.length≤8000
 jl:s.joins.length≤8000
 ons:∀j∈s.joins,j.on.length≤wJ
 whr:s.whr.length≤wJ
 having:s.having.length≤wJ
 keys:s.keys.length≤8000
 ah:s.ah.length≤8000
 items:s.items.length≤8000
 args:∀g∈s.ah,g.arg.length≤wJ
 exprs:∀e∈s.items,e.l.length≤wJ
 agb:∀g∈s.ah,g.b=false
 exb:∀e∈s.items,e.b=false
theorem wB{n:bB}(f:mh n)(h1:n.bk=false)(h2:n.bc=false)(h3:n.by'=false)(h4:n.bg=false)(h5:n.bi=false)(h6:n.bo=false)
  (k:n.ac.length≤8000) (c:n.cond.length≤wJ) (ke:n.keys.length≤8000) (ag:n.ah.length≤8000) (ar:∀g∈n.ah,g.arg.length≤wJ) (it:n.items.length≤8000) (ex:∀e∈n.items,e.l.length≤wJ) (od:n.ords.length≤8000):oI n∧NS n:=by
 have hm:8000≤wJ:=by decide
 have hf:su n:=⟨aZ k hm,c,aZ ke hm,aZ ag hm,ar,aZ it hm,ex,aZ od hm⟩;refine⟨⟨f,hf,?_⟩,⟨hf,ke,ag,it⟩⟩;unfold bB.a pM;rw[h1,h2,h3,h4,h5,h6,f.ags,f.exs]
theorem F1(t:Int){ks:List Int}(h:ks.length≤8000):oI (js t ks)∧NS (js t ks):=wB ⟨by simp[js,dd],by simp[js,dd]⟩ rfl rfl rfl rfl rfl rfl h (by simp[js,dd]) (by simp[js,dd]) (by simp[js,dd]) (by simp[js,dd]) (by simp[js,dd]) (by simp[js,dd]) (by simp[js,dd])
theorem vR{j:JX}(h:j.on.length≤wJ):oI (fW j)∧NS (fW j):=wB ⟨by simp[fW,dd],by simp[fW,dd]⟩ rfl rfl rfl rfl rfl rfl (by simp[fW,dd]) h (by simp[fW,dd]) (by simp[fW,dd]) (by simp[fW,dd]) (by simp[fW,dd]) (by simp[fW,dd]) (by simp[fW,dd])
theorem va{e:List EN}(h:e.length≤wJ):oI (ky e)∧NS (ky e):=wB ⟨by simp[ky,dd],by simp[ky,dd]⟩ rfl rfl rfl rfl rfl rfl (by simp[ky,dd]) h (by simp[ky,dd]) (by simp[ky,dd]) (by simp[ky,dd]) (by simp[ky,dd]) (by simp[ky,dd]) (by simp[ky,dd])
theorem Qu{ks:List Int}{gs:List ew}(h1:ks.length≤8000)(h2:gs.length≤8000)(h3:∀g∈gs,g.arg.length≤wJ)(h4:∀g∈gs,g.b=false):oI (eS ks gs)∧NS (eS ks gs):=
 wB ⟨h4,by simp[eS,dd]⟩ rfl rfl rfl rfl rfl rfl (by simp[eS,dd]) (by simp[eS,dd]) h1 h2 h3 (by simp[eS,dd]) (by simp[eS,dd]) (by simp[eS,dd])
theorem Ag{es:List kh}(h1:es.length≤8000)(h2:∀e∈es,e.l.length≤wJ)(h3:∀e∈es,e.b=false):oI (jr es)∧NS (jr es):=
 wB ⟨by simp[jr,dd],h3⟩ rfl rfl rfl rfl rfl rfl (by simp[jr,dd]) (by simp[jr,dd]) (by simp[jr,dd]) (by simp[jr,dd]) (by simp[jr,dd]) h1 h2 (by simp[jr,dd])
theorem uh:oI pK∧NS pK:=wB ⟨by simp[pK,dd],by simp[pK,dd]⟩ rfl rfl rfl rfl rfl rfl (by simp[pK,dd]) (by simp[pK,dd]) (by simp[pK,dd]) (by simp[pK,dd]) (by simp[pK,dd]) (by simp[pK,dd]) (by simp[pK,dd]) (by simp[pK,dd])
theorem qL:oI kZ∧NS kZ:=wB ⟨by simp[kZ,dd],by simp[kZ,dd]⟩ rfl rfl rfl rfl rfl rfl (by simp[kZ,dd]) (by simp[kZ,dd]) (by simp[kZ,dd]) (by simp[kZ,dd]) (by simp[kZ,dd]) (by simp[kZ,dd]) (by simp[kZ,dd]) (by simp[kZ,dd])
theorem Dt{o:List (Int×Bool)}(l:Int)(h:o.length≤8000):oI (iZ o l)∧NS (iZ o l):=wB ⟨by simp[iZ,dd],by simp[iZ,dd]⟩ rfl rfl rfl rfl rfl rfl (by simp[iZ,dd]) (by simp[iZ,dd]) (by simp[iZ,dd]) (by simp[iZ,dd]) (by simp[iZ,dd]) (by simp[iZ,dd]) (by simp[iZ,dd]) h
structure wl (c:List cM):Prop where
 chk:bI I.qcu [eZ c]=some (.int .i64 0)
 af:∀tb∈c,tb.af.length≤8000
def eA(c:List cM)(t:Int):Option (List bB):=if 0≤t∧t<c.length then fK (js t ((c[t.toNat]?.map cM.ac).getD [])) [] else none
theorem Hw{c:List cM}(h:∀tb∈c,tb.af.length≤8000)(t:Nat):((c[t]?.map cM.ac).getD []).length≤8000:=by
 cases hy:c[t]? with
 |none=>simp
 |some tb=>simpa [cM.ac] using h tb (aD hy)
theorem nB{c:List cM}(h:∀tb∈c,tb.af.length≤8000)(t:Int):fB (eA c t):=by
 unfold eA;split
 ·have:=F1 t (Hw h t.toNat);exact Fq this.1 this.2 (by simp) (fun t h=>by simp at h)
 exact nP
def FD(c:List cM)(t:Int):Int:=if 0≤t∧t<c.length then (if (eA c t).isSome then 0 else 230) else 4
theorem K2(c:List cM)(t:Int):(FD c t != 0)=(eA c t).isNone:=by
 unfold FD eA;split
 ·cases fK (js t ((c[t.toNat]?.map cM.ac).getD [])) []<;>rfl
 rfl
abbrev bS(c:List cM)(s:jJ)(tv:ap)(bad:Bool):ap:=KG (.aa false (c.map cM.a)) (.aa false (s.tables.map (.int .i64))) (.aa false (s.joins.map JX.a)) (.aa false (s.whr.map EN.a)) (.aa false (s.having.map EN.a)) (.bool s.grouped) (.bool s.distinct) (.aa false (s.keys.map (.int .i64))) (.aa false (s.ah.map nE)) (.aa false (s.items.map nv)) tv bad
theorem UP(c:List cM)(hc:wl c)(s:jJ)(xs:List ap)(bad b:Bool)(t:Int):bI I.qfy [.cptr b (bS c s (.aa false xs) bad) 0,.int .i64 t]=some (.tup [.agg [Bt (eA c t)],.int .i64 (FD c t)]):=by
 rw[aQ ai6 rfl];have h1:=So c hc.chk hc.af t true;have hk:=F1 t (Hw hc.af t.toNat);unfold FD eA;by_cases h:0≤t∧t<c.length
 ·have hL:=acT _ hk.1.fl hk.1.fit;simp only[if_pos h]at h1 ⊢;unfold JV at hL;generalize ((c[t.toNat]?.map cM.ac).getD [])=ks at *;generalize fK (js t ks) []=o at *;have hna:(js t ks).a=.agg [.int .i64 1,.int .i64 0,.int .i64 0,.int .i64 t,.aa false (bE ks),.bool false,.aa false [],.aa false [],.aa false [],.aa false [],.aa false [],.int .i64 0]:=rfl;rw[hna]at hL;simp only[Bt]at *;generalize (if o.isSome then (0:Int) else 230)=e' at *;cases b<;>simp[ao2,U4,h1,hL]
 simp only[if_neg h]at h1 ⊢;cases b<;>simp[ao2,U4,h1]
end Go.AM
namespace Go.AM
open P
set_option maxHeartbeats 16000000
set_option maxRecDepth 8000
attribute [local simp] aF br
abbrev sm(c:List cM)(s:jJ)(tv:ap)(bad:Bool):aw:=[.arr 1 0 [eZ c],.arr 9 0 [s.a],.arr 1 0 [.agg [.ai]],.arr 12 0 [bS c s tv bad]]
abbrev zr(s:jJ)(k:Nat):List ap:=[.ptr 3 0 0 0,.aa false (s.tables.map (.int .i64)),.any,.any,.any,.any,.bool false,.aa false (s.joins.map JX.a),.int .i64 s.joins.length,.int .i64 k,.any]
theorem ME(c:List cM)(hc:wl c)(s:jJ)(hs:xZ s)(hj:s.joins.length+1=s.tables.length)(ys:List ap)(k:Nat)(j:JX)(t:Int)(o:Option (List bB))(hk:k<s.joins.length)(hjk:s.joins[k]?=some j)(htk:s.tables[k+1]?=some t)(hO:fB o) :
  dE 5 [2,3,4,5,10] sR (run code sR ⟨zr s k,sm c s (Bt o) o.isNone++[.arr 1 0 [.agg [.aa false ys]]]⟩) =
   cc code 5 [2,3,4,5,10] sR ⟨zr s (k+1),sm c s (Bt (eQ (fW j) o (eA c t))) (eQ (fW j) o (eA c t)).isNone++[.arr 1 0 [.agg [.aa false ys]]]⟩:=by
 have hsc:=UP c hc s ((o.getD []).map bB.a) o.isNone true t;have hjn:=vR (hs.ons j (aD hjk));have hov:=Fb 3 (.aa false (c.map cM.a)) (.aa false (s.tables.map (.int .i64))) (.aa false (s.joins.map JX.a)) (.aa false (s.whr.map EN.a)) (.aa false (s.having.map EN.a)) (.bool s.grouped) (.bool s.distinct) (.aa false (s.keys.map (.int .i64))) (.aa false (s.ah.map nE)) (.aa false (s.items.map nv))
  (.agg [.int .i64 2,.int .i64 0,.int .i64 0,.int .i64 0,.ai,.bool j.left,.aa false (j.on.map EN.a),.ai,.ai,.ai,.ai,.int .i64 0]) (fW j) o (eA c t)
  (sm c s (Bt o) (o.isNone ||(eA c t).isNone)++[.arr 1 0 [.agg [.aa false ys]],.arr 2 0 [j.a],.arr 1 0 [.agg [Bt (eA c t)]]]) rfl
  (fun σ=>by
   have:(fW j).a=.agg [.int .i64 2,.int .i64 0,.int .i64 0,.int .i64 0,.aa false [],.bool j.left,.aa false (j.on.map EN.a),.aa false [],.aa false [],.aa false [],.aa false [],.int .i64 0]:=rfl;rw[this];simp) ⟨rfl,rfl⟩ hjn.1 hjn.2 hO (nB hc.af t)
 have hse:=K2 c t;have h1:k+1<s.tables.length:=by omega
 have h1':((k:Int)+1)<(s.tables.length:Int):=by omega
 have hgt:∀h:k+1<s.tables.length,s.tables[k+1]'h=t:=fun h=>(ak.1 htk).2;have hgj:∀h:k<s.joins.length,s.joins[k]'h=j:=fun h=>(ak.1 hjk).2;have w2:IntKind.i64.wrap ((k:Int)+1)=(k:Int)+1:=tI (by have:=hs.jl;omega) (by have:=hs.jl;omega);have i2:((k:Int)+1).toNat=k+1:=by omega
 have i3:(0:Int)≤(k:Int)+1:=by omega
 have hja:j.a=.agg [.bool j.left,.aa false (j.on.map EN.a)]:=rfl;have hsa:s.a=.agg s.c:=rfl;have hsc9:s.c.length=9:=rfl;have hscz:∀fl top base σ m,(s.c.map (fz fl top base σ (m+2)))=s.c:=fun fl top base σ m=>by simp[jJ.c]
 simp only[sm,Bt,bV,bN,List.set]at *;rw[hja,hsa]at hov;rw[hsa];generalize eQ (fW j) o (eA c t)=o' at *;generalize FD c t=e' at *;generalize (eA c t).isNone=xb at *;generalize ((eA c t).getD []).map bB.a=xv at *;generalize (o.getD []).map bB.a=tv at *;generalize (o'.getD []).map bB.a=tv' at *;generalize o.isNone=bad at *;generalize o'.isNone=bad' at *;generalize s.c=sc at *;cases bad<;>cases xb<;>simp only[Bool.or_self,Bool.or_true,Bool.true_or,pw,jK]at hov<;>simp[sR,zr,hk,hjk,hgj,hja,h1,h1',htk,hgt,i2,i3,w2,hsc,hse,hov,hsc9,hscz,aT,aW,bG,dp]
end Go.AM
namespace Go.AM
open P
set_option maxHeartbeats 16000000
set_option maxRecDepth 8000
attribute [local simp] aF br
def jj(c:List cM)(s:jJ):Option (List bB):=
 if s.tables.length<1∨3<s.tables.length∨s.joins.length+1≠s.tables.length then none
 else (s.joins.zip s.tables.tail).foldl (fun o p=>eQ (fW p.1) o (eA c p.2)) (eA c (s.tables.headD 0))
theorem OY(c:List cM)(hc:wl c)(s:jJ)(hs:xZ s)(hj:s.joins.length+1=s.tables.length)(ys:List ap)(o:Option (List bB))(hO:fB o) :
  cc code 5 [2,3,4,5,10] sR ⟨zr s 0,sm c s (Bt o) o.isNone++[.arr 1 0 [.agg [.aa false ys]]]⟩ =
   some (.ext 0,⟨(zr s s.joins.length).set 10 (.bool false),sm c s (Bt ((s.joins.zip s.tables.tail).foldl (fun o p=>eQ (fW p.1) o (eA c p.2)) o)) ((s.joins.zip s.tables.tail).foldl (fun o p=>eQ (fW p.1) o (eA c p.2)) o).isNone++[.arr 1 0 [.agg [.aa false ys]]]⟩) ∧
  fB ((s.joins.zip s.tables.tail).foldl (fun o p=>eQ (fW p.1) o (eA c p.2)) o):=by
 have hlen:(s.joins.zip s.tables.tail).length=s.joins.length:=by simp;omega
 have key:=eh (base:=5) (clr:=[2,3,4,5,10]) (b:=sR) (s.joins.zip s.tables.tail) (fun k o=>⟨zr s k,sm c s (Bt o) o.isNone++[.arr 1 0 [.agg [.aa false ys]]]⟩) (fun _ o=>fB o)
  (fun o p=>eQ (fW p.1) o (eA c p.2)) (fun o=>(.ext 0,⟨(zr s s.joins.length).set 10 (.bool false),sm c s (Bt o) o.isNone++[.arr 1 0 [.agg [.aa false ys]]]⟩))
  (fun k p o hk hy hO=>by
   obtain⟨j,t⟩:=p;have hk':k<s.joins.length:=by omega
   obtain⟨h1,h2⟩:=de.1 hy;rw[kY]at h2;have hjn:=vR (hs.ons j (aD h1));exact⟨ME c hc s hs hj ys k j t o hk' h1 h2 hO,rp hjn.1 hjn.2 hO (nB hc.af t)⟩)
  (fun o _=>by
   rw[hlen];simp[zr,sm,sR]) o hO
 exact key
theorem NO(c:List cM)(hc:wl c)(s:jJ)(hs:xZ s) :
  fB (jj c s)∧∃tv J,db code I.qfx [.ptr 3 0 0 0] (sm c s .ai false)=some (.tup [],sm c s tv (jj c s).isNone++J)∧((jj c s).isSome→tv=Bt (jj c s)):=by
 have w1:IntKind.i64.wrap ((s.tables.length:Int)-1)=(s.tables.length:Int)-1:=tI (by omega) (by have:=hs.tl;omega);by_cases h:s.tables.length<1∨3<s.tables.length∨s.joins.length+1≠s.tables.length
 ·have hr:jj c s=none:=by unfold jj;rw[if_pos h]
  rw[hr];refine⟨nP,.ai,[],?_,fun h=>by cases h⟩;rw[dq aaN rfl];by_cases h1:s.tables.length<1
  ·have h1':(s.tables.length:Int)<1:=by omega
   simp[aog,KX,h1']
  have h1':¬(s.tables.length:Int)<1:=by omega
  by_cases h2:3<s.tables.length
  ·have h2':(3:Int)<(s.tables.length:Int):=by omega
   simp[aog,KX,h1',h2']
  have h2':¬(3:Int)<(s.tables.length:Int):=by omega
  have h3:((s.joins.length:Int) != (s.tables.length:Int)-1)=true:=by simp;omega
  simp[aog,KX,h1',h2',h3,w1]
 have h1':¬(s.tables.length:Int)<1:=by omega
 have h2':¬(3:Int)<(s.tables.length:Int):=by omega
 have h3:((s.joins.length:Int) != (s.tables.length:Int)-1)=false:=by simp;omega
 have hr:jj c s=(s.joins.zip s.tables.tail).foldl (fun o p=>eQ (fW p.1) o (eA c p.2)) (eA c (s.tables.headD 0)):=by unfold jj;rw[if_neg h]
 have hO:=nB hc.af (s.tables.headD 0);obtain⟨loop,hO2⟩:=OY c hc s hs (by omega) (((eA c (s.tables.headD 0)).getD []).map bB.a) (eA c (s.tables.headD 0)) hO;rw[←hr]at loop hO2;refine⟨hO2,Bt (jj c s),[.arr 1 0 [.agg [Bt (eA c (s.tables.headD 0))]]],?_,fun _=>rfl⟩;have hsc:=UP c hc s [] false true (s.tables.headD 0);have hse:=K2 c (s.tables.headD 0);have htk:=yJ 3 (.aa false (c.map cM.a)) (.aa false (s.tables.map (.int .i64))) (.aa false (s.joins.map JX.a)) (.aa false (s.whr.map EN.a)) (.aa false (s.having.map EN.a)) (.bool s.grouped) (.bool s.distinct) (.aa false (s.keys.map (.int .i64))) (.aa false (s.ah.map nE)) (.aa false (s.items.map nv)) .ai
  (Bt (eA c (s.tables.headD 0))) false (FD c (s.tables.headD 0)) (sm c s .ai false) rfl rfl
 rw[hse]at htk;obtain⟨t,tr,ht⟩:∃t tr,s.tables=t::tr:=by
  cases ht:s.tables with
  |nil=>rw[ht]at h;simp at h
  |cons t tr=>exact⟨t,tr,rfl⟩
 have hhd:s.tables.headD 0=t:=by rw[ht];rfl
 have aj:0<s.tables.length:=by omega
 have hg0:∀h:0<s.tables.length,s.tables[0]'h=t:=fun h=>by simp[ht]
 have hg1:s.tables[0]?=some t:=by simp[ht]
 simp only[hhd]at hsc htk loop ⊢;simp only[sm,Bt,bV,bN,List.set,jK,zr,aJ]at *;rw[dq aaN rfl];generalize jj c s=o' at *;generalize FD c t=e' at *;generalize (eA c t).isNone=xb at *;generalize ((eA c t).getD []).map bB.a=xv at *;generalize (o'.getD []).map bB.a=tv' at *;generalize o'.isNone=bad' at *;simp[aog,KX,h1',h2',h3,w1,aj,hg0,hg1,hsc,htk,loop]
end Go.AM
namespace Go.AM
open P
set_option maxHeartbeats 16000000
set_option maxRecDepth 8000
attribute [local simp] aF br
theorem Bm(id:Nat)(cv f0 f1 f2 f3 f4 f5 f6 f7 f8 N:ap)(n:bB)(o:Option (List bB))(σ:aw)(h:σ[id]?=some (.arr 12 0 [KG cv f0 f1 f2 f3 f4 f5 f6 f7 f8 (Bt o) o.isNone]))
  (hN:∀σ,fz true false 0 σ 20 N=n.a) (hc:aC N=12∧isAgg N=true) (ho:oI n) (hn:NS n) (hO:fB o) :
  db code I.qga [.ptr id 0 0 0,.bool true,N] σ=some (.tup [],(σ.set id (.arr 12 0 [KG cv f0 f1 f2 f3 f4 f5 f6 f7 f8 (Bt (cT n o)) (cT n o).isNone]))++[.arr 12 0 [N],.arr 12 0 [N],.arr 1 0 [.agg [Bt (cT n o)]]]):=by
 rw[dq aaS rfl];have hl:=(ak.1 h).1;have h2:∀X,(σ++[X])[id]?=some (.arr 12 0 [KG cv f0 f1 f2 f3 f4 f5 f6 f7 f8 (Bt o) o.isNone]):=fun X=>by rw[bu hl,h]
 have h4:∀X Y,(σ++[X]).set id Y=σ.set id Y++[X]:=fun X Y=>by rw[eG _ _ hl]
 have hov:=BG id cv f0 f1 f2 f3 f4 f5 f6 f7 f8 N n o (σ++[.arr 12 0 [N]]) (h2 _) hN hc ho hn hO;rw[h4]at hov;generalize cT n o=o' at *;simp[aoE,WY,hc,hov]
theorem yX(p N:ap)(hc:aC N=12∧isAgg N=true)(σ:aw):db code I.qga [p,.bool false,N] σ=some (.tup [],σ++[.arr 12 0 [N]]):=by
 rw[dq aaS rfl];simp[aoE,WY,hc]
def qB(s:jJ)(o:Option (List bB)):Option (List bB):=if s.whr=[] then o else cT (ky s.whr) o
theorem K7{s:jJ}(hs:xZ s){o:Option (List bB)}(hO:fB o):fB (qB s o):=by
 unfold qB;split
 ·exact hO
 have:=va hs.whr;exact fS this.1 this.2 hO
abbrev CU(e:List EN):ap:=.agg [.int .i64 3,.int .i64 0,.int .i64 0,.int .i64 0,.ai,.bool false,.aa false (e.map EN.a),.ai,.ai,.ai,.ai,.int .i64 0]
theorem Q2(e:List EN)(σ:aw):fz true false 0 σ 20 (CU e)=(ky e).a:=by
 have:(ky e).a=.agg [.int .i64 3,.int .i64 0,.int .i64 0,.int .i64 0,.aa false [],.bool false,.aa false (e.map EN.a),.aa false [],.aa false [],.aa false [],.aa false [],.int .i64 0]:=rfl;rw[this];simp
theorem Km(c:List cM)(s:jJ)(hs:xZ s)(o:Option (List bB))(hO:fB o) :
  ∃J,db code I.qft [.ptr 3 0 0 0] (sm c s (Bt o) o.isNone)=some (.tup [],sm c s (Bt (qB s o)) (qB s o).isNone++J):=by
 rw[dq ajm rfl];unfold qB;by_cases h:s.whr=[]
 ·have h0:¬(0:Int)<(s.whr.length:Int):=by rw[h];simp
  rw[if_pos h];exact⟨_,by simp[aoK,U8,h,yX];rfl⟩
 have h0':0<s.whr.length:=fy.2 h;have h0:(0:Int)<(s.whr.length:Int):=by have:=fy.2 h;omega
 rw[if_neg h];have hn:=va hs.whr;have hw:=Bm 3 (.aa false (c.map cM.a)) (.aa false (s.tables.map (.int .i64))) (.aa false (s.joins.map JX.a)) (.aa false (s.whr.map EN.a)) (.aa false (s.having.map EN.a)) (.bool s.grouped) (.bool s.distinct) (.aa false (s.keys.map (.int .i64))) (.aa false (s.ah.map nE)) (.aa false (s.items.map nv))
  (CU s.whr) (ky s.whr) o (sm c s (Bt o) o.isNone) rfl (Q2 s.whr) ⟨rfl,rfl⟩ hn.1 hn.2 hO
 refine⟨[.arr 12 0 [CU s.whr],.arr 12 0 [CU s.whr],.arr 1 0 [.agg [Bt (cT (ky s.whr) o)]]],?_⟩;simp only[sm,Bt,bV,bN,List.set]at *;generalize cT (ky s.whr) o=o' at *;generalize (o.getD []).map bB.a=tv at *;generalize (o'.getD []).map bB.a=tv' at *;generalize o.isNone=bad at *;generalize o'.isNone=bad' at *;simp[aoK,U8,h0,h0',hw]
def qD(s:jJ)(o:Option (List bB)):Option (List bB):=if s.distinct then cT pK (cT (jr s.items) o) else cT (jr s.items) o
theorem KU{s:jJ}(hs:xZ s){o:Option (List bB)}(hO:fB o):fB (qD s o):=by
 have hp:=Ag hs.items hs.exprs hs.exb;unfold qD;split
 ·exact fS uh.1 uh.2 (fS hp.1 hp.2 hO)
 exact fS hp.1 hp.2 hO
abbrev ack:ap:=.agg [.int .i64 6,.int .i64 0,.int .i64 0,.int .i64 0,.ai,.bool false,.ai,.ai,.ai,.ai,.ai,.int .i64 0]
theorem Yz(σ:aw):fz true false 0 σ 20 ack=pK.a:=by
 have:pK.a=.agg [.int .i64 6,.int .i64 0,.int .i64 0,.int .i64 0,.aa false [],.bool false,.aa false [],.aa false [],.aa false [],.aa false [],.aa false [],.int .i64 0]:=rfl;rw[this];simp
abbrev UK(es:List kh):ap:=.agg [.int .i64 5,.int .i64 0,.int .i64 0,.int .i64 0,.ai,.bool false,.ai,.ai,.ai,.aa false (es.map nv),.ai,.int .i64 0]
theorem Ux(es:List kh)(h:∀e∈es,e.b=false)(σ:aw):fz true false 0 σ 20 (UK es)=(jr es).a:=by
 have he:es.map kh.a=es.map nv:=aU fun e he=>by simp[kh.a,nv,h e he]
 have:(jr es).a=.agg [.int .i64 5,.int .i64 0,.int .i64 0,.int .i64 0,.aa false [],.bool false,.aa false [],.aa false [],.aa false [],.aa false (es.map kh.a),.aa false [],.int .i64 0]:=rfl;rw[this,he];simp
theorem G0(c:List cM)(s:jJ)(hs:xZ s)(o:Option (List bB))(hO:fB o) :
  ∃J,db code I.qfw [.ptr 3 0 0 0] (sm c s (Bt o) o.isNone)=some (.tup [],sm c s (Bt (qD s o)) (qD s o).isNone++J):=by
 rw[dq afz rfl];have hp:=Ag hs.items hs.exprs hs.exb;have hO1:=fS hp.1 hp.2 hO;have hov:=BG 3 (.aa false (c.map cM.a)) (.aa false (s.tables.map (.int .i64))) (.aa false (s.joins.map JX.a)) (.aa false (s.whr.map EN.a)) (.aa false (s.having.map EN.a)) (.bool s.grouped) (.bool s.distinct) (.aa false (s.keys.map (.int .i64))) (.aa false (s.ah.map nE)) (.aa false (s.items.map nv))
   (UK s.items) (jr s.items) o (sm c s (Bt o) o.isNone) rfl (Ux s.items hs.exb) ⟨rfl,rfl⟩ hp.1 hp.2 hO
 have hwt:=Bm 3 (.aa false (c.map cM.a)) (.aa false (s.tables.map (.int .i64))) (.aa false (s.joins.map JX.a)) (.aa false (s.whr.map EN.a)) (.aa false (s.having.map EN.a)) (.bool s.grouped) (.bool s.distinct) (.aa false (s.keys.map (.int .i64))) (.aa false (s.ah.map nE)) (.aa false (s.items.map nv))
   ack pK (cT (jr s.items) o) (sm c s (Bt (cT (jr s.items) o)) (cT (jr s.items) o).isNone++[.arr 12 0 [UK s.items],.arr 1 0 [.agg [Bt (cT (jr s.items) o)]]]) rfl Yz ⟨rfl,rfl⟩ uh.1 uh.2 hO1
 have hwf:=fun σ=>yX (.ptr 3 0 0 0) ack ⟨rfl,rfl⟩ σ;unfold qD;simp only[sm,bS,Bt,bV,bN,List.set]at *;generalize cT pK (cT (jr s.items) o)=o2 at *;generalize cT (jr s.items) o=o1 at *;generalize (o.getD []).map bB.a=tv at *;generalize hq1:(o1.getD []).map bB.a=tv1 at *;generalize o.isNone=bad at *;generalize hq2:o1.isNone=bad1 at *;cases hd:s.distinct with
 |true=>
  rw[hd]at hov hwt;simp only[bU];generalize (o2.getD []).map bB.a=tv2 at *;generalize o2.isNone=bad2 at *;exact⟨_,by simp[aoS,Ww,hov,hwt];rfl⟩
 |false=>
  rw[hd]at hov;simp only[aH,bQ];rw[hq1,hq2];exact⟨_,by simp[aoS,Ww,hov,hwf];rfl⟩
end Go.AM
namespace Go.AM
open P
set_option maxHeartbeats 16000000
set_option maxRecDepth 8000
attribute [local simp] aF br
def eX(s:jJ):List ew:=if s.keys.length+s.ah.length=0 then [⟨1,false,[]⟩] else s.ah
def nm(s:jJ)(o:Option (List bB)):Option (List bB):=
 if s.grouped then (if s.having=[] then cT (eS s.keys (eX s)) o else cT (ky s.having) (cT (eS s.keys (eX s)) o))
 else if 0<s.keys.length+s.ah.length∨s.having≠[] then none else o
theorem FF{s:jJ}(hs:xZ s):oI (eS s.keys (eX s))∧NS (eS s.keys (eX s)):=by
 unfold eX;split
 ·exact Qu hs.keys (by simp) (fun g hg=>by rw[cg.1 hg];simp) (fun g hg=>by rw[cg.1 hg])
 exact Qu hs.keys hs.ah hs.args hs.agb
theorem K6{s:jJ}(hs:xZ s){o:Option (List bB)}(hO:fB o):fB (nm s o):=by
 have hp:=FF hs;have hf:=va hs.having;unfold nm
 repeat' split
 ·exact fS hp.1 hp.2 hO
 ·exact fS hf.1 hf.2 (fS hp.1 hp.2 hO)
 ·exact nP
 exact hO
abbrev J5(ks:List Int)(gs:List ew):ap:=.agg [.int .i64 4,.int .i64 0,.int .i64 0,.int .i64 0,.ai,.bool false,.ai,.aa false (ks.map (.int .i64)),.aa false (gs.map nE),.ai,.ai,.int .i64 0]
theorem Zx(ks:List Int)(gs:List ew)(h:∀g∈gs,g.b=false)(σ:aw):fz true false 0 σ 20 (J5 ks gs)=(eS ks gs).a:=by
 have he:gs.map ew.a=gs.map nE:=aU fun e he=>by simp[ew.a,nE,h e he]
 have:(eS ks gs).a=.agg [.int .i64 4,.int .i64 0,.int .i64 0,.int .i64 0,.aa false [],.bool false,.aa false [],.aa false (ks.map (.int .i64)),.aa false (gs.map ew.a),.aa false [],.aa false [],.int .i64 0]:=rfl;rw[this,he];simp
abbrev Ir(ks:List Int):ap:=.agg [.int .i64 4,.int .i64 0,.int .i64 0,.int .i64 0,.ai,.bool false,.ai,.aa false (ks.map (.int .i64)),.lst [.agg [.int .i64 1,.ai]],.ai,.ai,.int .i64 0]
def qA(ks:List Int):bB:={ eS ks [⟨1,false,[]⟩] with bg:=true }
theorem YF(ks:List Int)(σ:aw):fz true false 0 σ 20 (Ir ks)=(qA ks).a:=by
 have:(qA ks).a=.agg [.int .i64 4,.int .i64 0,.int .i64 0,.int .i64 0,.aa false [],.bool false,.aa false [],.aa false (ks.map (.int .i64)),.aa true [.agg [.int .i64 1,.aa false []]],.aa false [],.aa false [],.int .i64 0]:=rfl;rw[this];simp
theorem Ta(ks:List Int)(ts:List mO):fK (qA ks) ts=fK (eS ks [⟨1,false,[]⟩]) ts:=rfl
theorem RS{ks:List Int}(h:ks.length≤8000):mh (qA ks)∧su (qA ks):=by
 have hm:8000≤wJ:=by decide
 exact⟨⟨fun g hg=>by simp[qA,eS]at hg;simp[hg],fun e he=>by simp[qA,eS,dd]at he⟩,⟨by simp[qA,eS,dd],by simp[qA,eS,dd],by simp[qA,eS,dd];omega,by simp[qA,eS,dd];omega,fun g hg=>by simp[qA,eS]at hg;simp[hg],by simp[qA,eS,dd],by simp[qA,eS,dd],by simp[qA,eS,dd]⟩⟩
theorem Ly(c:List cM)(s:jJ)(hs:xZ s)(t:List bB)(hO:fB (some t)) :
  ∃tv J,db code I.qfu [.ptr 3 0 0 0] (sm c s (Bt (some t)) false)=some (.tup [],sm c s tv (nm s (some t)).isNone++J)∧((nm s (some t)).isSome→tv=Bt (nm s (some t))):=by
 rw[dq afu rfl];have hsa:s.a=.agg s.c:=rfl;have hsc:s.c=[.aa false (s.tables.map (.int .i64)),.aa false (s.joins.map JX.a),.aa false (s.whr.map EN.a),.aa false (s.having.map EN.a),.bool s.grouped,.bool s.distinct,.aa false (s.keys.map (.int .i64)),.aa false (s.ah.map nE),.aa false (s.items.map nv)]:=rfl;have hkl:=hs.keys;have hal:=hs.ah;have w1:IntKind.i64.wrap ((s.keys.length:Int)+(s.ah.length:Int))=(s.keys.length:Int)+(s.ah.length:Int):=tI (by omega) (by omega);by_cases hg:s.grouped=true
 ·have hp:=FF hs;have hf:=va hs.having;have hO1:=fS hp.1 hp.2 hO;refine⟨Bt (nm s (some t)),?_⟩;unfold nm;rw[if_pos hg];have hov:∀(N:ap) (n':bB) (τ:aw) (hN:∀σ,fz true false 0 σ 20 N=n'.a) (hc:aC N=12∧isAgg N=true) (hf:mh n') (hn:su n') (he:∀ts,fK n' ts=fK (eS s.keys (eX s)) ts),db code I.qfv [.ptr 3 0 0 0,N,.ai] (sm c s (Bt (some t)) false++τ)=some (.tup [],sm c s (Bt (cT (eS s.keys (eX s)) (some t))) (cT (eS s.keys (eX s)) (some t)).isNone++(τ++[.arr 12 0 [N],.arr 1 0 [.agg [Bt (cT (eS s.keys (eX s)) (some t))]]])):=fun N n' τ hN hc hf hn he=>by
   have:=EC 3 (.aa false (c.map cM.a)) (.aa false (s.tables.map (.int .i64))) (.aa false (s.joins.map JX.a)) (.aa false (s.whr.map EN.a)) (.aa false (s.having.map EN.a)) (.bool s.grouped) (.bool s.distinct) (.aa false (s.keys.map (.int .i64))) (.aa false (s.ah.map nE)) (.aa false (s.items.map nv))
    N (eS s.keys (eX s)) n' (some t) (sm c s (Bt (some t)) false++τ) rfl hN hc hf hn he hO
   rw[this];simp[sm]
  have hwt:=fun τ=>Bm 3 (.aa false (c.map cM.a)) (.aa false (s.tables.map (.int .i64))) (.aa false (s.joins.map JX.a)) (.aa false (s.whr.map EN.a)) (.aa false (s.having.map EN.a)) (.bool s.grouped) (.bool s.distinct) (.aa false (s.keys.map (.int .i64))) (.aa false (s.ah.map nE)) (.aa false (s.items.map nv))
   (CU s.having) (ky s.having) (cT (eS s.keys (eX s)) (some t)) (sm c s (Bt (cT (eS s.keys (eX s)) (some t))) (cT (eS s.keys (eX s)) (some t)).isNone++τ) rfl (Q2 s.having) ⟨rfl,rfl⟩ hf.1 hf.2 hO1
  have hwf:=fun σ=>yX (.ptr 3 0 0 0) (CU s.having) ⟨rfl,rfl⟩ σ;have hh:(s.having=[]∧decide (0<s.having.length)=false)∨(s.having≠[]∧decide (0<s.having.length)=true):=by
   cases s.having<;>simp
  by_cases hk:s.keys.length+s.ah.length=0
  ·have hT:=RS hs.keys;have hov1:=hov (Ir s.keys) (qA s.keys) [.arr 9 0 [s.a],.arr 12 0 [Ir s.keys]] (YF s.keys) ⟨rfl,rfl⟩ hT.1 hT.2
    (fun ts=>by unfold eX;rw[if_pos hk];exact Ta s.keys ts)
   have hk1:¬(0:Int)<(s.keys.length:Int)+(s.ah.length:Int):=by omega
   have hov1:=hov1;clear hov;have hcl:cellsOf (.lst [.agg [.int .i64 1,.ai]])=[.lst [.agg [.int .i64 1,.ai]]]:=rfl;rcases hh with⟨e1,e2⟩|⟨e1,e2⟩
   ·rw[if_pos e1];generalize cT (eS s.keys (eX s)) (some t)=o1 at *;refine⟨[.arr 9 0 [s.a],.arr 12 0 [Ir s.keys],.arr 12 0 [Ir s.keys],.arr 1 0 [.agg [Bt o1]],.arr 12 0 [CU s.having]],?_,fun _=>rfl⟩;simp only[sm,bS,Bt,bV,bN,List.set]at *;generalize (o1.getD []).map bB.a=tv1 at *;generalize ((some t).getD []).map bB.a=tv at *;generalize o1.isNone=b1 at *;rw[hsa,hsc]at *;simp only[hg]at *;simp[anT,Cw,w1,hk1,e2,hov1,hcl,hwf]
   rw[if_neg e1];have hwt:=hwt [.arr 9 0 [s.a],.arr 12 0 [Ir s.keys],.arr 12 0 [Ir s.keys],.arr 1 0 [.agg [Bt (cT (eS s.keys (eX s)) (some t))]]];generalize cT (ky s.having) (cT (eS s.keys (eX s)) (some t))=o2 at *;generalize cT (eS s.keys (eX s)) (some t)=o1 at *;refine⟨[.arr 9 0 [s.a],.arr 12 0 [Ir s.keys],.arr 12 0 [Ir s.keys],.arr 1 0 [.agg [Bt o1]],.arr 12 0 [CU s.having],.arr 12 0 [CU s.having],.arr 1 0 [.agg [Bt o2]]],?_,fun _=>rfl⟩;simp only[sm,bS,Bt,bV,bN,List.set]at *;generalize (o1.getD []).map bB.a=tv1 at *;generalize (o2.getD []).map bB.a=tv2 at *;generalize ((some t).getD []).map bB.a=tv at *;generalize o1.isNone=b1 at *;generalize o2.isNone=b2 at *;rw[hsa,hsc]at *;simp only[hg]at *;simp[anT,Cw,w1,hk1,e2,hov1,hcl,hwt]
  have hk1:(0:Int)<(s.keys.length:Int)+(s.ah.length:Int):=by omega
  have hov1:=hov (J5 s.keys s.ah) (eS s.keys (eX s)) [.arr 9 0 [s.a],.arr 12 0 [J5 s.keys s.ah]] (by
   unfold eX;rw[if_neg hk];exact Zx s.keys s.ah hs.agb) ⟨rfl,rfl⟩ hp.1.fl hp.1.fit (fun _=>rfl)
  clear hov;rcases hh with⟨e1,e2⟩|⟨e1,e2⟩
  ·rw[if_pos e1];generalize cT (eS s.keys (eX s)) (some t)=o1 at *;refine⟨[.arr 9 0 [s.a],.arr 12 0 [J5 s.keys s.ah],.arr 12 0 [J5 s.keys s.ah],.arr 1 0 [.agg [Bt o1]],.arr 12 0 [CU s.having]],?_,fun _=>rfl⟩;simp only[sm,bS,Bt,bV,bN,List.set]at *;generalize (o1.getD []).map bB.a=tv1 at *;generalize ((some t).getD []).map bB.a=tv at *;generalize o1.isNone=b1 at *;rw[hsa,hsc]at *;simp only[hg]at *;simp[anT,Cw,w1,hk1,e2,hov1,hwf]
  rw[if_neg e1];have hwt:=hwt [.arr 9 0 [s.a],.arr 12 0 [J5 s.keys s.ah],.arr 12 0 [J5 s.keys s.ah],.arr 1 0 [.agg [Bt (cT (eS s.keys (eX s)) (some t))]]];generalize cT (ky s.having) (cT (eS s.keys (eX s)) (some t))=o2 at *;generalize cT (eS s.keys (eX s)) (some t)=o1 at *;refine⟨[.arr 9 0 [s.a],.arr 12 0 [J5 s.keys s.ah],.arr 12 0 [J5 s.keys s.ah],.arr 1 0 [.agg [Bt o1]],.arr 12 0 [CU s.having],.arr 12 0 [CU s.having],.arr 1 0 [.agg [Bt o2]]],?_,fun _=>rfl⟩;simp only[sm,bS,Bt,bV,bN,List.set]at *;generalize (o1.getD []).map bB.a=tv1 at *;generalize (o2.getD []).map bB.a=tv2 at *;generalize ((some t).getD []).map bB.a=tv at *;generalize o1.isNone=b1 at *;generalize o2.isNone=b2 at *;rw[hsa,hsc]at *;simp only[hg]at *;simp[anT,Cw,w1,hk1,e2,hov1,hwt]
 have hg:s.grouped=false:=by simpa using hg
 unfold nm;rw[if_neg (by rw[hg];simp)];by_cases hk:0<s.keys.length+s.ah.length∨s.having≠[]
 ·rw[if_pos hk];refine⟨Bt (some t),[.arr 9 0 [s.a]],?_,fun h=>by cases h⟩;simp only[sm,bS,Bt,bV,bN,List.set]at *;generalize ((some t).getD []).map bB.a=tv at *;rw[hsa,hsc]at *;simp only[hg]at *;by_cases hk0:0<s.keys.length+s.ah.length
  ·have hk1:(0:Int)<(s.keys.length:Int)+(s.ah.length:Int):=by omega
   simp[anT,Cw,w1,hk1]
  have hk1:¬(0:Int)<(s.keys.length:Int)+(s.ah.length:Int):=by omega
  have hh:decide (0<s.having.length)=true:=by
   have:=hk.resolve_left hk0;simpa using fy.2 this
  simp[anT,Cw,w1,hk1,hh]
 rw[if_neg hk];refine⟨Bt (some t),[.arr 9 0 [s.a]],?_,fun _=>rfl⟩;have hk1:¬(0:Int)<(s.keys.length:Int)+(s.ah.length:Int):=by omega
 have hh:s.having=[]:=dP fun e=>hk (.inr e);have hh:decide (0<s.having.length)=false:=by rw[hh];rfl
 simp only[sm,bS,Bt,bV,bN,List.set]at *;generalize ((some t).getD []).map bB.a=tv at *;rw[hsa,hsc]at *;simp only[hg]at *;simp[anT,Cw,w1,hk1,hh]
end Go.AM
namespace Go.AM
open P
set_option maxHeartbeats 16000000
set_option maxRecDepth 8000
attribute [local simp] aF br
def fh(c:List cM)(s:jJ):Option (List bB):=qD s (nm s (qB s (jj c s)))
abbrev vl(c:List cM)(s:jJ)(k:Nat):List ap:=[eZ c,s.a,.ptr 0 0 0 0,.ptr 1 0 0 0,.ptr 2 0 0 0,.any,.ptr 3 0 0 0,.any,.agg [.fn I.qfx [.ptr 3 0 0 0] [],.fn I.qft [.ptr 3 0 0 0] [],.fn I.qfu [.ptr 3 0 0 0] [],.fn I.qfw [.ptr 3 0 0 0] []],.int .i64 k,.any,.any]
theorem wU(c:List cM)(s:jJ)(k f:Nat)(hk:(k=0∧f=I.qfx)∨(k=1∧f=I.qft)∨(k=2∧f=I.qfu)∨(k=3∧f=I.qfw))(tv tv':ap)(bad':Bool)(J:aw)
  (hcall:db code f [.ptr 3 0 0 0] (sm c s tv false)=some (.tup [],sm c s tv' bad'++J)) :
  (bad'=true→∃q,cc code 4 [5,7,10,11] qZ ⟨vl c s k,sm c s tv false⟩=some (.ret,q)∧q.st[2]?=some (.arr 1 0 [.agg [.ai]])∧q.env[4]?=some (.ptr 2 0 0 0)∧q.env[5]?=some (.int .i64 240)) ∧
  (bad'=false→(∀base σ m,fz false true base σ (m+3) tv'=tv')→cc code 4 [5,7,10,11] qZ ⟨vl c s k,sm c s tv false⟩=cc code 4 [5,7,10,11] qZ ⟨vl c s (k+1),sm c s tv' false⟩):=by
 have hsa:s.a=.agg s.c:=rfl;have hsc:s.c=[.aa false (s.tables.map (.int .i64)),.aa false (s.joins.map JX.a),.aa false (s.whr.map EN.a),.aa false (s.having.map EN.a),.bool s.grouped,.bool s.distinct,.aa false (s.keys.map (.int .i64)),.aa false (s.ah.map nE),.aa false (s.items.map nv)]:=rfl;have w1:IntKind.i64.wrap 1=1:=rfl;have w2:IntKind.i64.wrap 2=2:=rfl;have w3:IntKind.i64.wrap 3=3:=rfl;have w4:IntKind.i64.wrap 4=4:=rfl;simp only[sm,bS,bV,bN,hsa,hsc,vl]at hcall ⊢;rcases hk with⟨rfl,rfl⟩|⟨rfl,rfl⟩|⟨rfl,rfl⟩|⟨rfl,rfl⟩
 all_goals
  constructor
  ·intro hb;subst hb;rw[nr gz];exact⟨_,by simp[qZ,vl,hcall,tH];rfl,rfl,rfl,rfl⟩
  intro hb hz;subst hb;rw[nr gz];cases J<;>simp[qZ,vl,hcall,w1,w2,w3,w4,hz,aT,aW,bG,dp,hsa,hsc]
end Go.AM
namespace Go.AM
open P
set_option maxHeartbeats 16000000
set_option maxRecDepth 8000
attribute [local simp] aF br
theorem Bo(s:jJ):qB s none=none:=by unfold qB;split<;>rfl
theorem xp(s:jJ):nm s none=none:=by unfold nm;simp[cT]
theorem rk(s:jJ):qD s none=none:=by unfold qD;split<;>rfl
theorem R3(o:Option (List bB)):∀base σ m,fz false true base σ (m+3) (Bt o)=Bt o:=fun base σ m=>by simp
abbrev QSl(q:St):Prop:=q.st[2]?=some (.arr 1 0 [.agg [.ai]])∧q.env[4]?=some (.ptr 2 0 0 0)∧q.env[5]?=some (.int .i64 240)
theorem It(c:List cM)(hc:wl c)(s:jJ)(hs:xZ s):fB (fh c s)∧match fh c s with
  |none=>∃q,cc code 4 [5,7,10,11] qZ ⟨vl c s 0,sm c s .ai false⟩=some (.ret,q)∧QSl q
  |some w=>cc code 4 [5,7,10,11] qZ ⟨vl c s 0,sm c s .ai false⟩=some (.ext 0,⟨(vl c s 4).set 10 (.bool false),sm c s (Bt (some w)) false⟩):=by
 unfold fh;obtain⟨hO1,tv1,J1,h1,e1⟩:=NO c hc s hs;obtain⟨a1,b1⟩:=wU c s 0 _ (.inl ⟨rfl,rfl⟩) .ai tv1 _ J1 h1;revert hO1 h1 e1 a1 b1;cases jj c s with
 |none=>
  intro _ _ _ a1 _;rw[Bo,xp,rk];exact⟨nP,a1 rfl⟩
 |some t1=>
  intro hO1 h1 e1 a1 b1;obtain rfl:=e1 rfl;have b1:=b1 rfl (R3 _);rw[b1];have hO2:=K7 hs hO1;obtain⟨J2,h2⟩:=Km c s hs (some t1) hO1;obtain⟨a2,b2⟩:=wU c s 1 _ (.inr (.inl ⟨rfl,rfl⟩)) (Bt (some t1)) _ _ J2 h2;clear a1 b1 h1 e1 h2;revert hO2 a2 b2;cases qB s (some t1) with
  |none=>
   intro _ a2 _;rw[xp,rk];exact⟨nP,a2 rfl⟩
  |some t2=>
   intro hO2 a2 b2;have b2:=b2 rfl (R3 _);rw[b2];have hO3:=K6 hs hO2;obtain⟨tv3,J3,h3,e3⟩:=Ly c s hs t2 hO2;obtain⟨a3,b3⟩:=wU c s 2 _ (.inr (.inr (.inl ⟨rfl,rfl⟩))) (Bt (some t2)) tv3 _ J3 h3;clear a2 b2 h3;revert hO3 a3 b3 e3;cases nm s (some t2) with
   |none=>
    intro _ _ a3 _;rw[rk];exact⟨nP,a3 rfl⟩
   |some t3=>
    intro hO3 e3 a3 b3;obtain rfl:=e3 rfl;have b3:=b3 rfl (R3 _);rw[b3];have hO4:=KU hs hO3;obtain⟨J4,h4⟩:=G0 c s hs (some t3) hO3;obtain⟨a4,b4⟩:=wU c s 3 _ (.inr (.inr (.inr ⟨rfl,rfl⟩))) (Bt (some t3)) _ _ J4 h4;clear a3 b3 h4;revert hO4 a4 b4;cases qD s (some t3) with
    |none=>
     intro _ a4 _;exact⟨nP,a4 rfl⟩
    |some t4=>
     intro hO4 a4 b4;have b4:=b4 rfl (R3 _);rw[b4];refine⟨hO4,?_⟩;rw[nr gz];simp[qZ,vl,tH]
theorem Bd(c:List cM)(hc:wl c)(s:jJ)(hs:xZ s):bI I.qgb [eZ c,s.a]=some (JV 240 (fh c s))∧fB (fh c s):=by
 obtain⟨hO,h⟩:=It c hc s hs;refine⟨?_,hO⟩;have hsa:s.a=.agg s.c:=rfl;have hsc:s.c=[.aa false (s.tables.map (.int .i64)),.aa false (s.joins.map JX.a),.aa false (s.whr.map EN.a),.aa false (s.having.map EN.a),.bool s.grouped,.bool s.distinct,.aa false (s.keys.map (.int .i64)),.aa false (s.ah.map nE),.aa false (s.items.map nv)]:=rfl;rw[aQ ahQ rfl];unfold JV;revert h;cases fh c s with
 |none=>
  rintro⟨q,h,q1,q2,q3⟩;simp only[vl,sm,bS,hsa,hsc,aJ]at h ⊢;simp[aoH,UL,h,q1,q2,q3]
 |some w=>
  intro h;simp only[vl,sm,bS,hsa,hsc,aJ,List.set]at h ⊢;simp[aoH,UL,h]
theorem Wq(c:List cM)(hc:wl c)(s:jJ)(hs:xZ s):bI I.qfs [eZ c,s.a]=some (JV 240 (fh c s)):=by
 have h:=(Bd c hc s hs).1;have hk:=hc.chk;unfold JV at *;generalize fh c s=o at *;have hsa:s.a=.agg s.c:=rfl;have hsc:s.c=[.aa false (s.tables.map (.int .i64)),.aa false (s.joins.map JX.a),.aa false (s.whr.map EN.a),.aa false (s.having.map EN.a),.bool s.grouped,.bool s.distinct,.aa false (s.keys.map (.int .i64)),.aa false (s.ah.map nE),.aa false (s.items.map nv)]:=rfl;rw[aQ ajG rfl];simp only[hsa,hsc]at h ⊢;generalize (o.getD []).map bB.a=tv at *;generalize (if o.isSome then (0:Int) else 240)=e' at *;simp[apr,aal,h,hk]
end Go.AM
namespace Go.AM
open P
set_option maxHeartbeats 16000000
set_option maxRecDepth 8000
attribute [local simp] aF br
theorem gA(σ t:aw)(i:Nat):(σ++t)[σ.length+i]?=t[i]?:=by rw[bY (by omega)];congr 1;omega
theorem Vd(σ t:aw):(σ++t)[σ.length]?=t[0]?:=gA σ t 0
theorem sA(σ t:aw)(i:Nat)(x:Obj):(σ++t).set (σ.length+i) x=σ++t.set i x:=by rw[List.set_append_right _ _ (by omega)];congr 2;omega
theorem Wi(σ t:aw)(x:Obj):(σ++t).set σ.length x=σ++t.set 0 x:=sA σ t 0 x
abbrev SO(σ:aw)(N L e4:ap)(i by' k:Int)(c9 c10:ap):List ap:=
 [N,L,.ptr σ.length 0 0 0,.ptr (σ.length+1) 0 0 0,e4,.ptr (σ.length+2) 0 0 0,.int .i64 i,.int .i64 by',.int .i64 k,c9,c10,.any,.any,.any]
abbrev GE(σ:aw)(nb res:ap)(o:List bB):aw:=σ++[.arr 12 0 [nb],.arr 1 0 [res],.arr 1 0 [.agg [.sl (σ.length+3) o.length 0 o.length]],.arr 12 o.length (o.map pM)]
theorem WO(σ:aw)(N e4 nb res c9 c10:ap)(i:Nat)(ts:List mO)(t:mO)(hi:ts[i]?=some t)(o:List bB)(hz:∀n∈t.l,oI n)(hp:t.l.length≤60)(ho:o.length≤8000)(hlr:∀n∈t.l,n.l<100∧n.r<100) :
  cc code (σ.length+4) [11] AB ⟨SO σ N (.lst (ts.map mO.a)) e4 i o.length 0 c9 c10,GE σ nb res o⟩ =
   some (.ext 2,⟨(SO σ N (.lst (ts.map mO.a)) e4 i o.length t.l.length c9 c10).set 11 (.bool false),GE σ nb res (o++t.l.map (d6 o.length))⟩):=by
 have his:i<ts.length:=(ak.1 hi).1;have hit:∀h:i<ts.length,ts[i]'h=t:=fun h=>(ak.1 hi).2;have t3:aC t.a=1∧isAgg t.a=true:=⟨rfl,rfl⟩;have loop:=da (base:=σ.length+4) (clr:=[11]) (b:=AB)
  (fun k=>⟨SO σ N (.lst (ts.map mO.a)) e4 i o.length k c9 c10,GE σ nb res (o++(t.l.take k).map (d6 o.length))⟩) t.l.length
  (.ext 2,⟨(SO σ N (.lst (ts.map mO.a)) e4 i o.length t.l.length c9 c10).set 11 (.bool false),GE σ nb res (o++t.l.map (d6 o.length))⟩)
  (fun k hk=>by
   have hy:t.l[k]?=some t.l[k]:=aq hk;have hgg:∀h:k<t.l.length,t.l[k]'h=t.l[k]'hk:=fun _=>rfl;have hmem:=aO hk;have hcv:=US t.l[k] (hz _ hmem).z (o.length:Int) (fun h=>by have:=hlr _ hmem;omega) (fun h=>by have:=hlr _ hmem;omega);have hs:(t.l.take (k+1)).map (d6 (o.length:Int))=(t.l.take k).map (d6 (o.length:Int))++[d6 (o.length:Int) t.l[k]]:=by rw[fo,hy,bR];rfl
   have hsl:((t.l.take k).map (d6 (o.length:Int))).length=k:=by simp;omega
   generalize hcs:(t.l.take k).map (d6 (o.length:Int))=cs at *;generalize t.l[k]=n at *;rw[hs];have n3:aC n.a=12∧isAgg n.a=true:=⟨rfl,rfl⟩;have n1:∀base σ m,fz true false base σ (m+3) n.a=n.a:=fun base σ m=>Ft.ft true false base σ m n rfl;have hkm:o.length+(k+1)≤aV:=by unfold aV;omega
   have w2:IntKind.i64.wrap ((k:Int)+1)=(k:Int)+1:=tI (by omega) (by omega);have htk:List.take (o.length+k) (o.map pM++cs.map pM)=o.map pM++cs.map pM:=ay (by simp[hsl]);generalize d6 (o.length:Int) n=c at *;have hzc:pM c=.agg (XI c):=rfl;have c3:(XI c).length=12:=rfl;have c4:=N3 c;rw[hzc]at hcv;simp[SO,GE,AB,his,hi,hit,t3,mO.a,hk,hy,hgg,n1,n3,w2,hcv,append,hkm,htk,hsl,hzc,c3,c4,gA,Vd,sA,Wi,aT,cA])
  (by
   have hcl:(t.l.map (d6 (o.length:Int))).length=t.l.length:=by simp
   simp[AB,his,hi,hit,t3,mO.a])
 simpa using loop
end Go.AM
namespace Go.AM
set_option maxHeartbeats 4000000
set_option maxRecDepth 8000
theorem wm(n:bB):d6 0 n=⟨n.op,n.l,n.r,n.tab,false,n.ac,n.left,false,n.cond,false,n.keys,false,n.ah,false,n.items,false,n.ords,n.limit⟩:=by
 unfold d6;simp
theorem adt(n:bB):d6 0 (d6 0 n)=d6 0 n:=by rw[wm,wm]
theorem EK(ns:List bB):∀m,cI (ns.map (d6 0)) m=cI ns m:=by
 intro m;induction m using Nat.strongRecOn with
 |_ m ih=>
  cases m with
  |zero=>simp[cI]
  |succ m=>
   rw[cI,cI,dA];cases ns[m]? with
   |none=>rfl
   |some n=>
    have h1:=ih m (by omega);have h2:=ih (m-cI ns m) (by omega);have e1:(d6 0 n).op=n.op:=rfl;have e2:(d6 0 n).l=n.l:=by rw[wm]
    have e3:(d6 0 n).r=n.r:=by rw[wm]
    simp only[cL,h1,h2,e1,e2,e3]
theorem R8(n:bB)(a b:List Int):zh (d6 0 n) a b=zh n a b:=by
 rw[wm];rfl
theorem Tb(n:bB):sN (d6 0 n)=sN n:=by
 rw[wm];rfl
theorem Vj(ns:List bB):∀m,kd (ns.map (d6 0)) m=kd ns m:=by
 intro m;induction m using Nat.strongRecOn with
 |_ m ih=>
  cases m with
  |zero=>simp[kd]
  |succ m=>
   rw[kd,kd,dA];cases ns[m]? with
   |none=>rfl
   |some n=>
    have h1:=ih m (by omega);have h2:=ih (m-cI ns m) (by omega);have e1:(d6 0 n).op=n.op:=rfl;simp only[cL,h1,h2,e1,EK,Tb,R8,cR]
theorem Cc(ns:List bB):ko (ns.map (d6 0))=ko ns:=by
 unfold ko;simp only[cR,Vj,EK]
theorem Sw(o:List bB)(x y:bB)(h:d6 0 x=y):ko (o++[x])=(kj (o++[y])).isSome:=by
 rw[(mV _).1,←Cc (o++[x]),←Cc (o++[y])];simp only[bR,cH,cE,←h,adt]
end Go.AM
namespace Go.AM
open P
set_option maxHeartbeats 16000000
set_option maxRecDepth 8000
attribute [local simp] aF br
structure Raw (n n':bB) (x4 x6 x7 x8 x9 x10:ap):Prop where
 s4:∀τ m,fz true false 0 τ (m+4) x4=.aa n'.bk (n'.ac.map (.int .i64))
 s6:∀τ m,fz true false 0 τ (m+4) x6=.aa n'.bc (n'.cond.map EN.a)
 s7:∀τ m,fz true false 0 τ (m+4) x7=.aa n'.by' (n'.keys.map (.int .i64))
 s8:∀τ m,fz true false 0 τ (m+4) x8=.aa n'.bg (n'.ah.map ew.a)
 s9:∀τ m,fz true false 0 τ (m+4) x9=.aa n'.bi (n'.items.map kh.a)
 s10:∀τ m,fz true false 0 τ (m+4) x10=.aa n'.bo (n'.ords.map fU)
 f4:∀b τ m,fz false false b τ (m+4) x4=.aa false (n.ac.map (.int .i64))
 f6:∀b τ m,fz false false b τ (m+4) x6=.aa false (n.cond.map EN.a)
 f7:∀b τ m,fz false false b τ (m+4) x7=.aa false (n.keys.map (.int .i64))
 f8:∀b τ m,fz false false b τ (m+4) x8=.aa false (n.ah.map nE)
 f9:∀b τ m,fz false false b τ (m+4) x9=.aa false (n.items.map nv)
 f10:∀b τ m,fz false false b τ (m+4) x10=.aa false (n.ords.map fU)
 same:d6 0 n'=d6 0 n
 e:n'.op=n.op∧n'.tab=n.tab∧n'.left=n.left∧n'.limit=n.limit
 ns:NS n'
abbrev tf(n:bB)(x4 x6 x7 x8 x9 x10:ap)(l r:Int):ap:=.agg [.int .i64 n.op,.int .i64 l,.int .i64 r,.int .i64 n.tab,x4,.bool n.left,x6,x7,x8,x9,x10,.int .i64 n.limit]
abbrev qE(σ:aw)(N L:ap)(k:Nat):List ap:=
 [N,L,.ptr σ.length 0 0 0,.ptr (σ.length+1) 0 0 0,ap.any,.ptr (σ.length+2) 0 0 0,.int .i64 k,.any,.any,.any,.any,.any,.any,.any]
theorem NL(σ:aw)(N:ap)(n:bB)(x4 x6 x7 x8 x9 x10:ap)(ts:List mO)(ht:ts.length≤100)(k:Nat)(t:mO)(s:List bB×Int×Int)(hk:k<ts.length)(hy:ts[k]?=some t)(hT:A0 t)(hs:s.1.length≤k*60) :
  match jt k t s with
  |.inl s'=>dE (σ.length+4) [4,7,8,9,10,11,12] ll (run code ll ⟨qE σ N (.lst (ts.map mO.a)) k,GE σ (tf n x4 x6 x7 x8 x9 x10 s.2.1 s.2.2) (.agg [.ai]) s.1⟩)=cc code (σ.length+4) [4,7,8,9,10,11,12] ll ⟨qE σ N (.lst (ts.map mO.a)) (k+1),GE σ (tf n x4 x6 x7 x8 x9 x10 s'.2.1 s'.2.2) (.agg [.ai]) s'.1⟩
  |.inr _=>∃o,dE (σ.length+4) [4,7,8,9,10,11,12] ll (run code ll ⟨qE σ N (.lst (ts.map mO.a)) k,GE σ (tf n x4 x6 x7 x8 x9 x10 s.2.1 s.2.2) (.agg [.ai]) s.1⟩)=some o∧∃q t,o=(.ret,q)∧q.st=σ++t∧t[1]?=some (.arr 1 0 [.agg [.ai]])∧t≠[]∧q.env[3]?=some (.ptr (σ.length+1) 0 0 0)∧q.env[4]?=some (.bool false):=by
 have hc:=HZ t.l (by have:=hT.len;unfold aV;omega) hT.ns t.b;rw[←(mV t.l).1]at hc;have hgg:∀h:k<ts.length,ts[k]'h=t:=fun h=>(ak.1 hy).2;have n3:aC t.a=1∧isAgg t.a=true:=⟨rfl,rfl⟩;obtain⟨o,l,r⟩:=s;simp only at hs ⊢;unfold jt;simp only[TA]at hc;cases hl:(kj t.l).isSome with
 |false=>
  rw[hl]at hc;simp only[aH,bQ]at hc ⊢;exact⟨_,by simp[qE,GE,ll,hk,hy,hgg,n3,hc,mO.a,gA,Vd,sA,Wi];rfl,_,_,rfl,rfl,rfl,by simp,rfl,rfl⟩
 |true=>
  rw[hl]at hc;simp only[bU]at hc ⊢;obtain⟨l1,l2⟩:=pi hl;have cj:=WO σ N .any (tf n x4 x6 x7 x8 x9 x10 l r) (.agg [.ai]) (.bool true) (.bool false) k ts t hy o hT.own l2 (by omega) (Ld (by rw[←(mV t.l).1];exact hl));simp only[SO,GE,List.set,aJ]at cj;have hsz:o.length≤aV:=by unfold aV;omega
  have w2:IntKind.i64.wrap ((k:Int)+1)=(k:Int)+1:=tI (by omega) (by omega);have w3:IntKind.i64.wrap ((o.length:Int)+(t.l.length:Int)-1)=(o.length:Int)+(t.l.length:Int)-1:=tI (by omega) (by omega);have hcl:(t.l.map (d6 (o.length:Int))).length=t.l.length:=by simp
  generalize t.l.map (d6 (o.length:Int))=cs at *;have w1:IntKind.i64.wrap 1=1:=rfl;by_cases k0:k=0
  ·subst k0;simp[hcl]at cj;simp[qE,GE,ll,hk,hy,hgg,n3,hc,mO.a,cj,hsz,w1,w3,hcl,gA,Vd,sA,Wi,aT]
  have k1:((k:Int)==0)=false:=by simp;omega
  simp[k0,hcl]at cj;simp[qE,GE,ll,hk,hy,hgg,n3,hc,mO.a,cj,hsz,w1,w2,w3,hcl,k0,k1,gA,Vd,sA,Wi,aT]
end Go.AM
namespace Go.AM
open P
set_option maxHeartbeats 16000000
set_option maxRecDepth 8000
attribute [local simp] aF br
theorem nW{σ σ':aw}(h:∀τ b,σ.length≤b→σ.map (aW b τ)=σ')(o:Obj)(t:aw)(v:ap):pB σ (σ++o::t) v=(bG σ.length (σ++o::t) v,σ'):=by
 unfold pB;rw[if_neg (by simp)];rw[fM rfl,h _ _ (aB _)]
def kL(o:Option (List bB)):ap:=match o with
 |some w=>.aa false (w.map bB.a)
 |none=>.ai
theorem G6(fl top:Bool)(b:Nat)(τ:aw)(id ep len k m:Nat)(es es':List ap)(h:τ[id]?=some (.arr k ep es))(hb:b≤id)(hl:es.length=len)(he:es.map (fz fl false b τ m)=es')(hc:es'.map aC=es.map aC):fz fl top b τ (m+2) (.agg [.sl id ep 0 len])=.agg [.aa fl es']:=by
 show ap.agg [if id<b then (if top then .sl id ep 0 len else .any) else (sliceAt τ id ep 0 len).elim .any fun l=>kU fl l (l.map (fz fl false b τ m))]=_;rw[if_neg (by omega)];have:sliceAt τ id ep 0 len=some es:=by
  unfold sliceAt;rw[h];subst hl;simp
 rw[this];simp only[Option.elim_some,he,kU];rw[if_pos hc]
theorem Mz(σ:aw)(N L:ap)(n:bB)(x4 x6 x7 x8 x9 x10:ap)(ts:List mO)(ht:ts.length≤100)(hT:∀t∈ts,A0 t)(hL:L=.lst (ts.map mO.a)∨(ts=[]∧L=.ai)) :
  match dm jt ts 0 ([],-1,-1) with
  |.inl s=>cc code (σ.length+4) [4,7,8,9,10,11,12] ll ⟨qE σ N L 0,GE σ (tf n x4 x6 x7 x8 x9 x10 (-1) (-1)) (.agg [.ai]) []⟩=some (.ext 0,⟨(qE σ N L ts.length).set 9 (.bool false),GE σ (tf n x4 x6 x7 x8 x9 x10 s.2.1 s.2.2) (.agg [.ai]) s.1⟩)
  |.inr _=>∃o,cc code (σ.length+4) [4,7,8,9,10,11,12] ll ⟨qE σ N L 0,GE σ (tf n x4 x6 x7 x8 x9 x10 (-1) (-1)) (.agg [.ai]) []⟩=some o∧∃q t,o=(.ret,q)∧q.st=σ++t∧t[1]?=some (.arr 1 0 [.agg [.ai]])∧t≠[]∧q.env[3]?=some (.ptr (σ.length+1) 0 0 0)∧q.env[4]?=some (.bool false):=by
 rcases hL with rfl|⟨rfl,rfl⟩
 ·have key:=eL (base:=σ.length+4) (clr:=[4,7,8,9,10,11,12]) (b:=ll) ts (fun k s=>⟨qE σ N (.lst (ts.map mO.a)) k,GE σ (tf n x4 x6 x7 x8 x9 x10 s.2.1 s.2.2) (.agg [.ai]) s.1⟩) (fun k s=>s.1.length≤k*60) jt
   (fun s=>(.ext 0,⟨(qE σ N (.lst (ts.map mO.a)) ts.length).set 9 (.bool false),GE σ (tf n x4 x6 x7 x8 x9 x10 s.2.1 s.2.2) (.agg [.ai]) s.1⟩)) (fun _ o=>∃q t,o=(.ret,q)∧q.st=σ++t∧t[1]?=some (.arr 1 0 [.agg [.ai]])∧t≠[]∧q.env[3]?=some (.ptr (σ.length+1) 0 0 0)∧q.env[4]?=some (.bool false))
   (fun k t s hk hy hI=>by
    have hTt:=hT t (aD hy);have h:=NL σ N n x4 x6 x7 x8 x9 x10 ts ht k t s hk hy hTt hI;have hi:∀s',jt k t s=.inl s'→s'.1.length≤(k+1)*60:=fun s' h=>by
     unfold jt at h;split at h
     ·rename_i hl;obtain⟨l1,l2⟩:=pi hl;cases h;simp;omega
     cases h
    revert h hi;cases jt k t s with
    |inl s'=>exact fun h hi=>⟨h,hi s' rfl⟩
    |inr r=>exact fun h _=>h)
   (fun s _=>by simp[qE,GE,ll]) ([],-1,-1) (by simp)
  revert key;cases dm jt ts 0 ([],-1,-1) with
  |inl s=>exact fun h=>h.2
  |inr r=>exact fun h=>h
 have:dm jt [] 0 ([],-1,-1)=.inl ([],-1,-1):=by rw[dm]
 rw[this];simp only;rw[nr gz];simp[qE,GE,ll]
theorem acR(σ σ':aw)(hσ:∀τ b,σ.length≤b→σ.map (aW b τ)=σ')(n n':bB)(x4 x6 x7 x8 x9 x10:ap)(hR:Raw n n' x4 x6 x7 x8 x9 x10)(ho:oI n)(hn:NS n)(l0 r0:Int)(ts:List mO)(ht:ts.length≤100)(hT:∀t∈ts,A0 t)(L:ap)(hL:L=.lst (ts.map mO.a)∨(ts=[]∧L=.ai)) :
  db code I.qce [tf n x4 x6 x7 x8 x9 x10 l0 r0,L] σ=some (.tup [.agg [kL (fK n ts)],.bool (fK n ts).isSome],σ'):=by
 have key:=Mz σ (tf n x4 x6 x7 x8 x9 x10 l0 r0) L n x4 x6 x7 x8 x9 x10 ts ht hT hL;have hinv:=fun s h=>LK (s:=s) hT h;rw[eV aht rfl];unfold fK;revert key hinv;cases dm jt ts 0 ([],-1,-1) with
 |inr u=>
  rintro⟨o,key,q,t,rfl,q1,q2,q3,q4,q5⟩ _;obtain⟨q0,t',rfl⟩:∃a b,t=a::b:=by
   cases t with
   |nil=>exact absurd rfl q3
   |cons a b=>exact⟨a,b,rfl⟩
  simp only[qE,GE,aJ,cE,cK,tf]at key ⊢;simp[aop,Q3,gA,Vd,sA,Wi,key,q1,q2,q4,q5,nW hσ,bG,dp,kL]
 |inl s=>
  intro key hinv;obtain⟨hI,hI2⟩:=hinv s rfl;obtain⟨o,l,r⟩:=s;have hown:=hI.own;have hlen:=hI.len;obtain⟨p1,p2⟩:=TR ho.fl hn l r;obtain⟨e1,e2,e3,e4⟩:=hR.e;simp only at hown hlen hI2 ⊢;have hcp:d6 0 (tM n' l r)=d6 0 (tM n l r):=by
   have:=hR.same;rw[wm,wm]at this ⊢;simp only[bB.mk.injEq,tM]at this ⊢;simp[this]
  have hnp':NS (tM n' l r):=⟨⟨hR.ns.fit.ac,hR.ns.fit.cond,hR.ns.fit.keys,hR.ns.fit.ah,hR.ns.fit.args,hR.ns.fit.items,hR.ns.fit.exprs,hR.ns.fit.ords⟩,hR.ns.keys,hR.ns.ah,hR.ns.items⟩
  have hck:=HZ (o++[tM n' l r]) (by simp;unfold aV;omega) (fun m hm=>by
   rcases cq.1 hm with hm|hm
   ·exact hI2 m hm
   rw[cg.1 hm];exact hnp') true
  rw[Sw o _ _ hcp]at hck
  have hpa:(tM n' l r).a=.agg [.int .i64 n.op,.int .i64 l,.int .i64 r,.int .i64 n.tab,.aa n'.bk (n'.ac.map (.int .i64)),.bool n.left,.aa n'.bc (n'.cond.map EN.a),.aa n'.by' (n'.keys.map (.int .i64)),.aa n'.bg (n'.ah.map ew.a),.aa n'.bi (n'.items.map kh.a),.aa n'.bo (n'.ords.map fU),.int .i64 n.limit]:=by
   rw[←e1,←e2,←e3,←e4];rfl
  have hoz:=EW hown;have hwz:((o++[d6 0 (tM n l r)]).map bB.a)=o.map pM++[.agg [.int .i64 n.op,.int .i64 l,.int .i64 r,.int .i64 n.tab,.aa false (n.ac.map (.int .i64)),.bool n.left,.aa false (n.cond.map EN.a),.aa false (n.keys.map (.int .i64)),.aa false (n.ah.map nE),.aa false (n.items.map nv),.aa false (n.ords.map fU),.int .i64 n.limit]]:=by
   rw[bR,hoz];have hc:=(tK p1 p2.fit 0).z;simp only[cH,cE,hc];rw[wm];rfl
  simp only[TA,bR,cH,cE,hoz,hpa]at hck;have hkm:o.length+1≤aV:=by unfold aV;omega
  have htk:List.take o.length (o.map pM)=o.map pM:=ay (by simp);have htk2:∀X,List.take (o.length+1) (o.map pM++[X])=o.map pM++[X]:=fun X=>ay (by simp);have hlz:∀fl top base σ m a,fz fl top base σ (m+3) (pM a)=pM a:=fun fl top base σ m a=>Fx.fx fl top base σ m a
  have hs1:∀t0 t1 t2,fz true false 0 (σ++[t0,t1,t2,.arr 12 (o.length+1) (o.map pM++[tf n x4 x6 x7 x8 x9 x10 l r])]) 20 (.agg [.sl (σ.length+3) (o.length+1) 0 (o.length+1)])=.agg [.aa true (o.map pM++[.agg [.int .i64 n.op,.int .i64 l,.int .i64 r,.int .i64 n.tab,.aa n'.bk (n'.ac.map (.int .i64)),.bool n.left,.aa n'.bc (n'.cond.map EN.a),.aa n'.by' (n'.keys.map (.int .i64)),.aa n'.bg (n'.ah.map ew.a),.aa n'.bi (n'.items.map kh.a),.aa n'.bo (n'.ords.map fU),.int .i64 n.limit]])]:=fun t0 t1 t2=>
   G6 true false 0 _ _ _ _ 12 18 _ _ (gA σ _ 3) (by omega) (by simp) (by
    rw[bR,bD];simp[hR.s4,hR.s6,hR.s7,hR.s8,hR.s9,hR.s10]) (by simp)
  have hs2:∀t0 t1 t2,fz false true σ.length (σ++[t0,t1,t2,.arr 12 (o.length+1) (o.map pM++[tf n x4 x6 x7 x8 x9 x10 l r])]) 19 (.agg [.sl (σ.length+3) (o.length+1) 0 (o.length+1)])=.agg [.aa false (o.map pM++[.agg [.int .i64 n.op,.int .i64 l,.int .i64 r,.int .i64 n.tab,.aa false (n.ac.map (.int .i64)),.bool n.left,.aa false (n.cond.map EN.a),.aa false (n.keys.map (.int .i64)),.aa false (n.ah.map nE),.aa false (n.items.map nv),.aa false (n.ords.map fU),.int .i64 n.limit]])]:=fun t0 t1 t2=>
   G6 false true σ.length _ _ _ _ 12 17 _ _ (gA σ _ 3) (by omega) (by simp) (by
    rw[bR,bD];simp[hR.f4,hR.f6,hR.f7,hR.f8,hR.f9,hR.f10]) (by simp)
  simp only[tf]at hs1 hs2;cases hl:(kj (o++[d6 0 (tM n l r)])).isSome with
  |true=>
   rw[hl]at hck;simp only[qE,GE,aJ,cE,cK,tf,List.set,bU,kL,hwz]at key ⊢;simp[aop,Q3,gA,Vd,sA,Wi,key,hck,append,hkm,htk,htk2,hlz,nW hσ,bG,dp,↓hs1,↓hs2]
  |false=>
   rw[hl]at hck;simp only[qE,GE,aJ,cE,cK,tf,List.set,aH,bQ,kL]at key ⊢;simp[aop,Q3,gA,Vd,sA,Wi,key,hck,append,hkm,htk,htk2,hlz,nW hσ,bG,dp,↓hs1]
end Go.AM
namespace Go.AM
open P
set_option maxHeartbeats 16000000
set_option maxRecDepth 8000
attribute [local simp] aF br
abbrev AO(σ σ':aw):Prop:=∀τ b,σ.length≤b→σ.map (aW b τ)=σ'
theorem acp(σ σ':aw)(hσ:AO σ σ')(hσ':AO σ' σ')(n n':bB)(x4 x6 x7 x8 x9 x10 y4 y6 y7 y8 y9 y10:ap)(hR:Raw n n' x4 x6 x7 x8 x9 x10)(hY:∀b τ,fz false true b τ 19 x4=y4∧fz false true b τ 19 x6=y6∧fz false true b τ 19 x7=y7∧fz false true b τ 19 x8=y8∧fz false true b τ 19 x9=y9∧fz false true b τ 19 x10=y10)(ho:oI n)(hn:NS n)(ok:Bool)(ts:List mO)(ht:ts.length≤100)(hT:∀t∈ts,A0 t)(L:ap)(hL:L=.lst (ts.map mO.a)∨(ts=[]∧L=.ai)) :
  db code I.qcs [.bool ok,tf n x4 x6 x7 x8 x9 x10 0 0,L] σ=some (.tup [.agg [kL (if ok then fK n ts else none)],.bool (if ok then fK n ts else none).isSome],σ'):=by
 rw[eV aaC rfl];have hlen:σ'.length=σ.length:=by rw[←hσ [] σ.length (aB _)];simp
 cases ok with
 |false=>
  simp only[aH,bQ,kL];simp[aoi,LC,gA,Vd,sA,Wi,nW hσ,bG,dp]
 |true=>
  have hM:=acR (σ++[.arr 12 0 [tf n x4 x6 x7 x8 x9 x10 0 0],.arr 1 0 [.agg [.ai]]]) (σ'++[.arr 12 0 [tf n y4 y6 y7 y8 y9 y10 0 0],.arr 1 0 [.agg [.ai]]]) (fun τ b hb=>by
   rw[bR,hσ τ b (by simp at hb;omega)];simp[aW,hY,bG,dp]) n n' x4 x6 x7 x8 x9 x10 hR ho hn 0 0 ts ht hT L hL
  simp only[bU];have g1:∀t i,(σ'++t)[σ.length+i]?=t[i]?:=fun t i=>by rw[←hlen];exact gA σ' t i
  have s1:∀t i x,(σ'++t).set (σ.length+i) x=σ'++t.set i x:=fun t i x=>by rw[←hlen];exact sA σ' t i x
  have t1:∀o t v,pB σ (σ'++o::t) v=(bG σ.length (σ'++o::t) v,σ'):=fun o t v=>by
   unfold pB;rw[if_neg (by simp[hlen]),fM hlen,hσ' _ _ (by omega)]
  simp only[tf]at hM ⊢;generalize fK n ts=w at *;cases w with
  |none=>
   simp only[kL]at hM ⊢;simp[aoi,LC,gA,Vd,sA,Wi,hM,g1,s1,t1,bG,dp]
  |some w=>
   simp only[kL]at hM ⊢;simp[aoi,LC,gA,Vd,sA,Wi,hM,g1,s1,t1,bG,dp]
end Go.AM
namespace Go.AM
open P
set_option maxHeartbeats 16000000
set_option maxRecDepth 8000
attribute [local simp] aF br
abbrev akm:ap:=.agg [.int .i64 0,.int .i64 0,.int .i64 0,.int .i64 0,.ai,.bool false,.ai,.ai,.ai,.ai,.ai,.int .i64 0]
abbrev QB(c:List cM)(t:Int)(af:List eJ)(k:Nat):List ap:=[eZ c,.int .i64 t,.ptr 0 0 0 0,.ptr 1 0 0 0,.ptr 2 0 0 0,.any,.aa false (af.map eJ.a),.int .i64 af.length,.int .i64 k,.any]
abbrev ZB(c:List cM)(t:Int)(acc:List Int):aw:=[.arr 1 0 [eZ c],.arr 12 0 [akm],.arr 12 0 [.agg [.int .i64 1,.int .i64 0,.int .i64 0,.int .i64 t,.sl 3 acc.length 0 acc.length,.bool false,.ai,.ai,.ai,.ai,.ai,.int .i64 0]],.arr 1 acc.length (bE acc)]
theorem Wy(c:List cM)(t:Int)(tb:cM)(h0:0≤t)(ht:c[t.toNat]?=some tb)(hc:tb.af.length≤8000):bI I.qct [eZ c,.int .i64 t]=some (js t tb.ac).a:=by
 have aj:t.toNat < c.length:=(ak.1 ht).1;have hgg:∀h:t.toNat < c.length,c[t.toNat]'h=tb:=fun h=>(ak.1 ht).2;have hl2:t<(c.length:Int):=by omega
 have n3:aC tb.a=3∧isAgg tb.a=true:=⟨rfl,rfl⟩;have tbk:tb.af.map eJ.kind=tb.ac:=rfl;have loop:=da (base:=4) (clr:=[5,9]) (b:=DV)
  (fun k=>⟨QB c t tb.af k,ZB c t ((tb.af.take k).map eJ.kind)⟩) tb.af.length
  (.ext 0,⟨(QB c t tb.af tb.af.length).set 9 (.bool false),ZB c t (tb.af.map eJ.kind)⟩)
  (fun k hk=>by
   have hy:tb.af[k]?=some tb.af[k]:=aq hk;have hgg:∀h:k<tb.af.length,tb.af[k]'h=tb.af[k]'hk:=fun _=>rfl;have hs:(tb.af.take (k+1)).map eJ.kind=(tb.af.take k).map eJ.kind++[tb.af[k].kind]:=by rw[fo,hy,bR];rfl
   have hsl:((tb.af.take k).map eJ.kind).length=k:=by simp;omega
   generalize (tb.af.take k).map eJ.kind=cs at *;generalize tb.af[k]=n at *;rw[hs];have hkm:k+1≤aV:=by unfold aV;omega
   have w2:IntKind.i64.wrap ((k:Int)+1)=(k:Int)+1:=tI (by omega) (by omega);have htk:List.take k (cs.map (ap.int .i64))=cs.map (ap.int .i64):=ay (by simp[hsl]);simp[QB,ZB,DV,hk,hy,hgg,eJ.a,w2,append,hkm,htk,hsl,aT,aW,bG,dp])
  (by simp[DV])
 rw[tbk]at loop;have hna:(js t tb.ac).a=.agg [.int .i64 1,.int .i64 0,.int .i64 0,.int .i64 t,.aa false (bE tb.ac),.bool false,.aa false [],.aa false [],.aa false [],.aa false [],.aa false [],.int .i64 0]:=rfl;rw[aQ aix rfl,hna];simp[QB,ZB]at loop;have htk:List.take tb.ac.length (tb.ac.map (ap.int .i64))=tb.ac.map (ap.int .i64):=ay (by simp);have hta:tb.a=.agg [.str tb.name,.aa false (tb.af.map eJ.a),.aa false (tb.keys.map (.int .i64))]:=rfl;simp[apz,aaJ,h0,aj,ht,hgg,hl2,hta,loop,htk]
end Go.AM
namespace Go.AM
open P
set_option maxHeartbeats 16000000
set_option maxRecDepth 8000
attribute [local simp] aF br
def Rx(x:ap)(l:List ap):Prop:=(x=.ai∧l=[])∨x=.aa false l
theorem Rx.s{x:ap}{l:List ap}(h:Rx x l)(τ:aw)(m:Nat):fz true false 0 τ (m+4) x=.aa false l:=by
 rcases h with⟨rfl,rfl⟩|rfl<;>simp
theorem Rx.f{x:ap}{l:List ap}(h:Rx x l)(b:Nat)(τ:aw)(m:Nat):fz false false b τ (m+4) x=.aa false l:=by
 rcases h with⟨rfl,rfl⟩|rfl<;>simp
theorem Rx.t{x:ap}{l:List ap}(h:Rx x l)(b:Nat)(τ:aw):fz false true b τ 19 x=x:=by
 rcases h with⟨rfl,rfl⟩|rfl<;>simp
theorem Yi{n:bB}{x4 x6 x7 x8 x9 x10:ap}(ho:oI n)(hn:NS n)(h1:n.bk=false)(h2:n.bc=false)(h3:n.by'=false)(h4:n.bg=false)(h5:n.bi=false)(h6:n.bo=false)
  (r4:Rx x4 (n.ac.map (.int .i64))) (r6:Rx x6 (n.cond.map EN.a)) (r7:Rx x7 (n.keys.map (.int .i64))) (r8:Rx x8 (n.ah.map nE)) (r9:Rx x9 (n.items.map nv)) (r10:Rx x10 (n.ords.map fU)):Raw n n x4 x6 x7 x8 x9 x10 where
 s4:=by rw[h1];exact r4.s
 s6:=by rw[h2];exact r6.s
 s7:=by rw[h3];exact r7.s
 s8:=by rw[h4,ho.fl.ags];exact r8.s
 s9:=by rw[h5,ho.fl.exs];exact r9.s
 s10:=by rw[h6];exact r10.s
 f4:=r4.f
 f6:=r6.f
 f7:=r7.f
 f8:=r8.f
 f9:=r9.f
 f10:=r10.f
 same:=rfl
 e:=⟨rfl,rfl,rfl,rfl⟩
 ns:=hn
theorem xd(σ σ':aw)(hσ:AO σ σ')(N L:ap)(hN:aC N=12):db code I.qcs [.bool false,N,L] σ=some (.tup [.agg [.ai],.bool false],σ'):=by
 rw[eV aaC rfl];simp[aoi,LC,hN,gA,Vd,sA,Wi,nW hσ,bG,dp]
structure Wr (n:bB) (x4 x6 x7 x8 x9 x10:ap):Prop where
 own:oI n
 ns:NS n
 raw:∃n',Raw n n' x4 x6 x7 x8 x9 x10
 y:∃y4 y6 y7 y8 y9 y10,∀b τ,fz false true b τ 19 x4=y4∧fz false true b τ 19 x6=y6∧fz false true b τ 19 x7=y7∧fz false true b τ 19 x8=y8∧fz false true b τ 19 x9=y9∧fz false true b τ 19 x10=y10
theorem Bz{n:bB}{x4 x6 x7 x8 x9 x10:ap}(h:Wr n x4 x6 x7 x8 x9 x10)(σ σ':aw)(hσ:AO σ σ')(hσ':AO σ' σ')(ts:List mO)(ht:ts.length≤100)(hT:∀t∈ts,A0 t)(L:ap)(hL:L=.lst (ts.map mO.a)∨(ts=[]∧L=.ai)) :
  db code I.qcs [.bool true,tf n x4 x6 x7 x8 x9 x10 0 0,L] σ=some (.tup [.agg [kL (fK n ts)],.bool (fK n ts).isSome],σ'):=by
 obtain⟨n',hR⟩:=h.raw;obtain⟨y4,y6,y7,y8,y9,y10,hY⟩:=h.y;have:=acp σ σ' hσ hσ' n n' x4 x6 x7 x8 x9 x10 y4 y6 y7 y8 y9 y10 hR hY h.own h.ns true ts ht hT L hL;simpa using this
theorem yV{n:bB}{x4 x6 x7 x8 x9 x10:ap}(h:Wr n x4 x6 x7 x8 x9 x10)(σ σ':aw)(hσ:AO σ σ')(hσ':AO σ' σ')(o:Option (List bB))(hO:fB o) :
  db code I.qcs [.bool o.isSome,tf n x4 x6 x7 x8 x9 x10 0 0,.lst [.agg [kL o]]] σ=some (.tup [.agg [kL (cT n o)],.bool (cT n o).isSome],σ'):=by
 cases o with
 |none=>exact xd σ σ' hσ _ _ rfl
 |some t=>exact Bz h σ σ' hσ hσ' [⟨false,t⟩] (by simp) (fun t' h'=>by rw[cg.1 h'];exact hO) _ (.inl rfl)
theorem WD{n:bB}{x4 x6 x7 x8 x9 x10:ap}(h:Wr n x4 x6 x7 x8 x9 x10)(σ σ':aw)(hσ:AO σ σ')(hσ':AO σ' σ')(o x:Option (List bB))(hO:fB o)(hX:fB x) :
  db code I.qcs [.bool (o.isSome&&x.isSome),tf n x4 x6 x7 x8 x9 x10 0 0,.lst [.agg [kL o],.agg [kL x]]] σ=some (.tup [.agg [kL (eQ n o x)],.bool (eQ n o x).isSome],σ'):=by
 cases o with
 |none=>exact xd σ σ' hσ _ _ rfl
 |some t=>
  cases x with
  |none=>exact xd σ σ' hσ _ _ rfl
  |some u=>
   exact Bz h σ σ' hσ hσ' [⟨false,t⟩,⟨false,u⟩] (by simp) (fun t' h'=>by
    rcases d4.1 h' with rfl|h'
    ·exact hO
    rw[cg.1 h'];exact hX) _ (.inl rfl)
theorem vT{n:bB}{x4 x6 x7 x8 x9 x10:ap}(hh:oI n∧NS n)(h1:n.bk=false)(h2:n.bc=false)(h3:n.by'=false)(h4:n.bg=false)(h5:n.bi=false)(h6:n.bo=false)
  (r4:Rx x4 (n.ac.map (.int .i64))) (r6:Rx x6 (n.cond.map EN.a)) (r7:Rx x7 (n.keys.map (.int .i64))) (r8:Rx x8 (n.ah.map nE)) (r9:Rx x9 (n.items.map nv)) (r10:Rx x10 (n.ords.map fU)):Wr n x4 x6 x7 x8 x9 x10:=
 ⟨hh.1,hh.2,⟨n,Yi hh.1 hh.2 h1 h2 h3 h4 h5 h6 r4 r6 r7 r8 r9 r10⟩,⟨_,_,_,_,_,_,fun b τ=>⟨r4.t b τ,r6.t b τ,r7.t b τ,r8.t b τ,r9.t b τ,r10.t b τ⟩⟩⟩
theorem vJ:Rx .ai []:=.inl ⟨rfl,rfl⟩
theorem Tu(l:List ap):Rx (.aa false l) l:=.inr rfl
theorem DM(t:Int){ks:List Int}(h:ks.length≤8000):Wr (js t ks) (.aa false (ks.map (.int .i64))) (.aa false []) (.aa false []) (.aa false []) (.aa false []) (.aa false []):=
 vT (F1 t h) rfl rfl rfl rfl rfl rfl (Tu _) (Tu _) (Tu _) (Tu _) (Tu _) (Tu _)
theorem Z3{j:JX}(h:j.on.length≤wJ):Wr (fW j) .ai (.aa false (j.on.map EN.a)) .ai .ai .ai .ai:=vT (vR h) rfl rfl rfl rfl rfl rfl vJ (Tu _) vJ vJ vJ vJ
theorem TW{e:List EN}(h:e.length≤wJ):Wr (ky e) .ai (.aa false (e.map EN.a)) .ai .ai .ai .ai:=vT (va h) rfl rfl rfl rfl rfl rfl vJ (Tu _) vJ vJ vJ vJ
theorem XW{es:List kh}(h1:es.length≤8000)(h2:∀e∈es,e.l.length≤wJ)(h3:∀e∈es,e.b=false):Wr (jr es) .ai .ai .ai .ai (.aa false (es.map nv)) .ai:=vT (Ag h1 h2 h3) rfl rfl rfl rfl rfl rfl vJ vJ vJ vJ (Tu _) vJ
theorem acj:Wr pK .ai .ai .ai .ai .ai .ai:=vT uh rfl rfl rfl rfl rfl rfl vJ vJ vJ vJ vJ vJ
theorem acx:Wr kZ .ai .ai .ai .ai .ai .ai:=vT qL rfl rfl rfl rfl rfl rfl vJ vJ vJ vJ vJ vJ
theorem adq{o:List (Int×Bool)}(l:Int)(h:o.length≤8000):Wr (iZ o l) .ai .ai .ai .ai .ai (.aa false (o.map fU)):=vT (Dt l h) rfl rfl rfl rfl rfl rfl vJ vJ vJ vJ vJ (Tu _)
theorem ach{s:jJ}(hs:xZ s)(hk:¬s.keys.length+s.ah.length=0):Wr (eS s.keys (eX s)) .ai .ai (.aa false (s.keys.map (.int .i64))) (.aa false (s.ah.map nE)) .ai .ai:=by
 have he:eX s=s.ah:=by unfold eX;rw[if_neg hk]
 have:=FF hs;rw[he]at this ⊢;exact vT this rfl rfl rfl rfl rfl rfl vJ vJ (Tu _) (Tu _) vJ vJ
theorem Ze{s:jJ}(hs:xZ s)(hk:s.keys.length+s.ah.length=0):Wr (eS s.keys (eX s)) .ai .ai (.aa false (s.keys.map (.int .i64))) (.lst [.agg [.int .i64 1,.ai]]) .ai .ai:=by
 have he:eX s=[⟨1,false,[]⟩]:=by unfold eX;rw[if_pos hk]
 have h:=FF hs;have hT:=RS hs.keys;rw[he]at h ⊢;refine⟨h.1,h.2,⟨qA s.keys,?_⟩,⟨.ai,.ai,.aa false (s.keys.map (.int .i64)),.aa false [.agg [.int .i64 1,.aa false []]],.ai,.ai,fun b τ=>?_⟩⟩
 ·exact⟨fun τ m=>by simp[qA,eS,dd],fun τ m=>by simp[qA,eS,dd],fun τ m=>by simp[qA,eS,dd],fun τ m=>by simp[qA,eS,ew.a],fun τ m=>by simp[qA,eS,dd],fun τ m=>by simp[qA,eS,dd],
   fun b τ m=>by simp[eS,dd],fun b τ m=>by simp[eS,dd],fun b τ m=>by simp[eS],fun b τ m=>by simp[eS,nE],fun b τ m=>by simp[eS,dd],fun b τ m=>by simp[eS,dd],by rw[wm,wm];rfl,⟨rfl,rfl,rfl,rfl⟩,⟨hT.2,hs.keys,by simp[qA,eS],by simp[qA,eS,dd]⟩⟩
 simp
end Go.AM
namespace Go.AM
open P
set_option maxRecDepth 8000
def ka:av:=(.reg [i (.box 1 (e 0)),i (.box 9 (e 1)),i (.box 1 (v (.agg [.ai])))] [(2,l 0),(3,l 1),(4,l 2),(5,(v (.bool false)))])
def jR:av:=(.seq (.reg [i (.fld 0 (e 3)),i (.load false 1 (l 0)),i (.len (l 1)),i (.bin .lss (l 2) (v (.int .i64 1))),g (l 3) false (.fld 0 (e 3)),g (l 3) false (.load false 1 (l 4)),g (l 3) false (.len (l 5)),g (l 3) false (.bin .gtr (l 6) (v (.int .i64 3))),i (.pick (l 3) (v (.bool true)) (l 7)),g (l 8) false (.fld 1 (e 3)),g (l 8) false (.load false 1 (l 9)),g (l 8) false (.len (l 10)),g (l 8) false (.fld 0 (e 3)),g (l 8) false (.load false 1 (l 12)),g (l 8) false (.len (l 13)),g (l 8) false (.bin .sub (l 14) (v (.int .i64 1))),g (l 8) false (.bin .neq (l 11) (l 15)),i (.pick (l 8) (v (.bool true)) (l 16))] [(14,l 17)]) (.cond (e 14) (.seq (.reg [i (.build [.ai] []),i (.store 1 (e 4) (l 0))] [(5,(v (.bool false)))]) .ret) .skip))
def jV:av:=(.seq (.reg [i (.fld 0 (e 3)),i (.load false 1 (l 0)),i (.len (l 1))] [(15,l 1),(16,l 2),(17,(v (.int .i64 0)))]) (.blk 0 (.loop [5,6,18,19] uO)))
def jS:av:=(.seq (.reg [i (.fld 4 (e 3)),i (.load false 1 (l 0)),i (.una .not (l 1)),g (l 2) true (.fld 6 (e 3)),g (l 2) true (.load false 1 (l 3)),g (l 2) true (.len (l 4)),g (l 2) true (.fld 7 (e 3)),g (l 2) true (.load false 1 (l 6)),g (l 2) true (.len (l 7)),g (l 2) true (.bin .add (l 5) (l 8)),g (l 2) true (.fld 3 (e 3)),g (l 2) true (.fld 0 (l 10)),g (l 2) true (.load false 1 (l 11)),g (l 2) true (.len (l 12)),g (l 2) true (.bin .add (l 9) (l 13)),g (l 2) true (.bin .gtr (l 14) (v (.int .i64 0))),i (.pick (l 2) (l 15) (v (.bool false)))] [(20,l 16)]) (.cond (e 20) (.seq (.reg [i (.build [.ai] []),i (.store 1 (e 4) (l 0))] [(5,(v (.bool false)))]) .ret) .skip))
def pj:av:=(.regd [i (.load true 1 (e 2)),i (.fld 0 (e 3)),i (.load false 1 (l 1)),i (.idxs 1 (l 2) (v (.int .i64 0))),i (.load false 1 (l 3)),i (.call 235 [(l 0),(l 4)] false),i (.call 233 [(v (.bool true)),(l 5),(v (.ai))] false),i (.ext 0 (l 6)),i (.ext 1 (l 6)),i (.box 1 (v (.agg [.ai]))),i (.store 1 (l 9) (l 7))] [(7,l 9),(8,l 8)] [(0,10),(1,10),(2,10),(3,10),(4,10),(5,10)])
def o5:av:=(.seq (.reg [i (.fld 1 (e 3)),i (.load false 1 (l 0)),i (.len (l 1))] [(21,l 1),(22,l 2),(23,(v (.int .i64 0)))]) (.blk 2 (.loop [9,10,11,12,24] ra)))
def jN:av:=(.seq (.reg [i (.fld 2 (e 3)),i (.fld 0 (l 0)),i (.load false 1 (l 1)),i (.len (l 2)),i (.bin .gtr (l 3) (v (.int .i64 0)))] [(25,l 4)]) (.cond (e 25) (.reg [i (.fld 2 (e 3)),i (.load true 1 (l 0)),i (.build [.int .i64 0,.int .i64 0,.int .i64 0,.int .i64 0,.ai,.bool false,.ai,.ai,.ai,.ai,.ai,.int .i64 0] [(0,1,(v (.int .i64 3))),(6,1,(l 1))]),i (.load true 1 (e 7)),i (.mkl 1 [(l 3)]),i (.call 233 [(e 8),(l 2),(l 4)] false),i (.ext 0 (l 5)),i (.ext 1 (l 5)),i (.store 1 (e 7) (l 6))] [(8,l 7)]) .skip))
def gw:av:=(.seq (.reg [i (.fld 4 (e 3)),i (.load false 1 (l 0))] [(26,l 1)]) (.cond (e 26) (.seq (.reg [i (.fld 6 (e 3)),i (.load false 1 (l 0)),i (.fld 7 (e 3)),i (.load false 1 (l 2)),i (.build [.int .i64 0,.int .i64 0,.int .i64 0,.int .i64 0,.ai,.bool false,.ai,.ai,.ai,.ai,.ai,.int .i64 0] [(0,1,(v (.int .i64 4))),(7,1,(l 1)),(8,1,(l 3))]),i (.box 12 (v (.agg [.int .i64 0,.int .i64 0,.int .i64 0,.int .i64 0,.ai,.bool false,.ai,.ai,.ai,.ai,.ai,.int .i64 0]))),i (.store 12 (l 5) (l 4))] [(13,l 5)]) (.seq (.seq (.reg [i (.fld 6 (e 3)),i (.load false 1 (l 0)),i (.len (l 1)),i (.fld 7 (e 3)),i (.load false 1 (l 3)),i (.len (l 4)),i (.bin .add (l 2) (l 5)),i (.bin .eql (l 6) (v (.int .i64 0)))] [(27,l 7)]) (.cond (e 27) (.reg [i (.build [.int .i64 0,.ai] [(0,1,(v (.int .i64 1)))]),i (.mkl 2 [(l 0)]),i (.fld 8 (e 13)),i (.store 1 (l 2) (l 1))] []) .skip)) (.reg [i (.load true 12 (e 13)),i (.load true 1 (e 7)),i (.mkl 1 [(l 1)]),i (.call 233 [(e 8),(l 0),(l 2)] false),i (.ext 0 (l 3)),i (.ext 1 (l 3)),i (.store 1 (e 7) (l 4))] [(8,l 5)]))) .skip))
def jA:av:=(.seq (.reg [i (.fld 3 (e 3)),i (.fld 0 (l 0)),i (.load false 1 (l 1)),i (.len (l 2)),i (.bin .gtr (l 3) (v (.int .i64 0)))] [(28,l 4)]) (.cond (e 28) (.reg [i (.fld 3 (e 3)),i (.load true 1 (l 0)),i (.build [.int .i64 0,.int .i64 0,.int .i64 0,.int .i64 0,.ai,.bool false,.ai,.ai,.ai,.ai,.ai,.int .i64 0] [(0,1,(v (.int .i64 3))),(6,1,(l 1))]),i (.load true 1 (e 7)),i (.mkl 1 [(l 3)]),i (.call 233 [(e 8),(l 2),(l 4)] false),i (.ext 0 (l 5)),i (.ext 1 (l 5)),i (.store 1 (e 7) (l 6))] [(8,l 7)]) .skip))
def oY:av:=(.reg [i (.fld 8 (e 3)),i (.load false 1 (l 0)),i (.build [.int .i64 0,.int .i64 0,.int .i64 0,.int .i64 0,.ai,.bool false,.ai,.ai,.ai,.ai,.ai,.int .i64 0] [(0,1,(v (.int .i64 5))),(9,1,(l 1))]),i (.load true 1 (e 7)),i (.mkl 1 [(l 3)]),i (.call 233 [(e 8),(l 2),(l 4)] false),i (.ext 0 (l 5)),i (.ext 1 (l 5)),i (.store 1 (e 7) (l 6))] [(8,l 7)])
def je:av:=(.seq (.reg [i (.fld 5 (e 3)),i (.load false 1 (l 0))] [(29,l 1)]) (.cond (e 29) (.reg [i (.build [.int .i64 0,.int .i64 0,.int .i64 0,.int .i64 0,.ai,.bool false,.ai,.ai,.ai,.ai,.ai,.int .i64 0] [(0,1,(v (.int .i64 6)))]),i (.load true 1 (e 7)),i (.mkl 1 [(l 1)]),i (.call 233 [(e 8),(l 0),(l 2)] false),i (.ext 0 (l 3)),i (.ext 1 (l 3)),i (.store 1 (e 7) (l 4))] [(8,l 5)]) .skip))
def sK:av:=(.reg [i (.load true 1 (e 7)),i (.store 1 (e 4) (l 0))] [(5,e 8)])
def sF:av:=.ret
def oD:av:=.seq sK sF
def om:av:=.seq je oD
def oZ:av:=.seq oY om
def pf:av:=.seq jA oZ
def oS:av:=.seq gw pf
def o6:av:=.seq jN oS
def o9:av:=.seq o5 o6
def pd:av:=.seq pj o9
def pu:av:=.seq jS pd
def pq:av:=.seq jV pu
def jY:av:=.seq jR pq
theorem mK:aaq=.seq ka jY:=rfl
end Go.AM
