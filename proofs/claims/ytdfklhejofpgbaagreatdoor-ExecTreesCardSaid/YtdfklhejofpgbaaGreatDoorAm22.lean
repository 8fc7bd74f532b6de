/- Part of the proof. -/
import Derived.Test.YtdfklhejofpgbaaGreatDoorAm21
import Derived.Test.YtdfklhejofpgbaaGreatDoorAm20
import Derived.Test.YtdfklhejofpgbaaGreatDoorAm11
set_option linter.unusedVariables false
set_option linter.unusedSimpArgs false
set_option linter.unusedSectionVars false
namespace Go.AM
open P
theorem Es:aK I.qah []=some (.bool true):=fA TQ
theorem Bp{α:Type}(l:List α)(k:Nat)(h:k≤100):(l.take k).length≤qU:=by
 show _≤4294967296;rw[bO];omega
theorem I9(l:List EN):(um l).length≤qU:=by
 unfold um;rw[cf];exact Bp l 60 (by decide)
theorem Vx(n:bL):nO (pd n) where
 af:=Bp n.af 17 (by decide)
 cond:=I9 n.cond
 keys:=Bp n.keys 6 (by decide)
 ai:=by show ((n.ai.take 14).map Gv).length≤qU;rw[cf];exact Bp _ 14 (by decide)
 args:=fun g hg=>by
  obtain⟨y,_,rfl⟩:=aU.1 (show g∈(n.ai.take 14).map Gv from hg);exact I9 _
 items:=by show ((n.items.take 17).map GZ).length≤qU;rw[cf];exact Bp _ 17 (by decide)
 exprs:=fun g hg=>by
  obtain⟨y,_,rfl⟩:=aU.1 (show g∈(n.items.take 17).map GZ from hg);exact I9 _
 ords:=Bp n.ords 5 (by decide)
end Go.AM
namespace Go.AM
open P
set_option maxHeartbeats 64000000
set_option maxRecDepth 40000
attribute [local simp] aW bK
section
section
variable (l0 T0:List ap) (ns:List bL) (tabs:List dg) (want:dg) (e:Int)
 (hnd:∀b,aK I.qad [.aa b l0,ar 10]=some (.aa false (ns.map bL.a)))
 (htb:∀b,aK I.qac [.aa b T0,ar 12]=some (.aa false (tabs.map cV)))
 (hR:∀bn bt,aK I.qay [.agg [.aa bn (ns.map bL.a)],.agg [.aa bt (tabs.map cV)]]=some (.tup [.aa false (want.map aD),ar e]))
include hnd htb hR
theorem uv(he:e=0∨e=140)(got:dg)(f:Int)
  (hX:∀bn bc bt bi,aK I.qbz [Bt bn ns bc,.aa bt (tabs.map cV),.aa bi []]=some (.tup [.aa false (got.map aD),ar f]))
  (h:f=300∨f=e∧∀b b',aK I.qt [.aa b (got.map aD),.aa b' (want.map aD)]=some (.bool true)) :
  aK I.qs [.aa true l0,.aa true T0]=some (.bool true):=by
 rw[aA aeJ rfl];rcases h with rfl|⟨rfl,h⟩
 ·rcases he with rfl|rfl<;>simp[apg,Zy,Es,hnd,htb,hR,hX]
 rcases he with rfl|rfl<;>simp[apg,Zy,Es,hnd,htb,hR,hX,h]
omit hR in
theorem GY(e:Bool→Bool→Int)(hR:∀bn bt,aK I.qay [.agg [.aa bn (ns.map bL.a)],.agg [.aa bt (tabs.map cV)]]=some (.tup [.aa false [],ar (e bn bt)]))(h0:∀bn bt,e bn bt≠0)(h1:∀bn bt,e bn bt≠140):aK I.qs [.aa true l0,.aa true T0]=some (.bool true):=by
 rw[aA aeJ rfl];have h0':=fun bn bt=>eo (h0 bn bt);have h1':=fun bn bt=>eo (h1 bn bt);simp[apg,Zy,Es,hnd,htb,hR,h0',h1']
end
end
structure aat (n:bL) (op:Int) (rs:aQ):Prop where
 op:n.op=op
 ne:rs≠[]
 len:rs.length≤8000
 af:kOk (nT [Sj (NX rs),BK n])=true
 fit:Nr (NX rs) rs=true
theorem aat.row{n:bL}{op:Int}{rs:aQ}(h:aat n op rs):∀r∈rs,lc r=true∧r.length=(NX rs).length:=fun r hr=>by
 have hk:=(Tz h.af).1;have hf:=h.fit;unfold Nr at hf;simp only[aq,aL]at hf;exact Z3 hk (aG.1 hf.2 r hr)

end Go.AM
namespace Go.AM
theorem gH.sl_inv{a:Bool}{cs:List Sh}{x:ap}(h:gH (.sl a cs) x):∃xs,x=.aa true xs∧xs.length≤maxLen∧(∀x∈xs,isAgg x=a∧(cellsOf x).length=cs.length∧aC x=cs.length) ∧
  ∀x∈xs,∀i (h:i<cs.length) (h':i<(cellsOf x).length),gH cs[i] (cellsOf x)[i]:=by
 cases h with
 |sl h1 h2 h3=>exact⟨_,rfl,h1,h2,h3⟩
theorem U0{α:Type}(f:α→ap):∀{l:List ap},(∀x∈l,∃a,x=f a)→∃m:List α,l=m.map f
 |[],_=>⟨[],rfl⟩
 |x::l,h=>by
  obtain⟨a,rfl⟩:=h x (cr ..);obtain⟨m,rfl⟩:=U0 f fun y hy=>h y (aO _ hy);exact⟨a::m,rfl⟩
theorem FQ{cs:List Sh}{x:ap}(h:isAgg x=true∧(cellsOf x).length=cs.length∧aC x=cs.length)(h':∀i (h:i<cs.length) (h':i<(cellsOf x).length),gH cs[i] (cellsOf x)[i]) :
  ∃ys,x=.agg ys∧ys.length=cs.length∧∀i (h:i<cs.length) (h':i<ys.length),gH cs[i] ys[i]:=by
 cases x with
 |agg ys=>exact⟨ys,rfl,h.2.1,h'⟩
 |_=>cases h.1
theorem Ey{s:Sh}{x:ap}(h:isAgg x=false∧(cellsOf x).length=[s].length∧aC x=[s].length)(h':∀i (h:i < [s].length) (h':i<(cellsOf x).length),gH [s][i] (cellsOf x)[i]):gH s x:=by
 have hc:cellsOf x=[x]:=by
  cases x with
  |agg ys=>cases h.1
  |_=>rfl
 have:=h' 0 (by simp) (by rw[hc];simp);simpa only [hc,cO] using this
end Go.AM
namespace Go.AM
theorem Zt{α:Type}{cs:List Sh}{f:α→ap}(hd:∀ys:List ap,ys.length=cs.length→(∀i (h:i<cs.length) (h':i<ys.length),gH cs[i] ys[i])→∃a,ap.agg ys=f a){x:ap}(h:gH (.sl true cs) x):∃l:List α,x=.aa true (l.map f):=by
 obtain⟨xs,rfl,hn,h1,h2⟩:=h.sl_inv;obtain⟨m,rfl⟩:=U0 f (l:=xs) fun x hx=>by
  obtain⟨ys,rfl,hl,hy⟩:=FQ (h1 x hx) (h2 x hx);exact hd ys hl hy
 exact⟨m,rfl⟩
theorem Lq{x:ap}(h:gH (.sl false [.int .i64]) x):∃l:List Int,x=.aa true (l.map (.int .i64)):=by
 obtain⟨xs,rfl,hn,h1,h2⟩:=h.sl_inv;obtain⟨m,rfl⟩:=U0 (.int .i64) (l:=xs) fun x hx=>by
  obtain⟨a,rfl,_⟩:=(Ey (h1 x hx) (h2 x hx)).int_inv;exact⟨a,rfl⟩
 exact⟨m,rfl⟩
abbrev enX:List Sh:=[.int .i64,.int .i64,.int .i64,.int .i64,.int .i64,.int .i64,.int .u64,.str]
abbrev exX:List Sh:=[.sl true enX]
abbrev agX:List Sh:=[.int .i64,.sl true enX]
abbrev orX:List Sh:=[.int .i64,.bool]
theorem afi(ys:List ap)(hl:ys.length=orX.length)(hy:∀i (h:i<orX.length) (h':i<ys.length),gH orX[i] ys[i]):∃a,ap.agg ys=jl a:=by
 match ys,hl,hy with
 |[y0,y1],_,hy=>
  obtain⟨v0,rfl,_⟩:=(hy 0 (by simp) (by simp)).int_inv;obtain⟨v1,rfl⟩:=(hy 1 (by simp) (by simp)).bool_inv;exact⟨(v0,v1),rfl⟩
abbrev lnX:List Sh:=[.int .i64,.int .i64,.int .i64,.int .i64,.sl false [.int .i64],.bool,.sl true enX,.sl false [.int .i64],.sl true agX,.sl true exX,.sl true orX,.int .i64]
end Go.AM
namespace Go.AM
theorem Fk{α:Type}(f:α→ap)(p:α→Prop):∀{l:List ap},(∀x∈l,∃a,x=f a∧p a)→∃m:List α,l=m.map f∧∀a∈m,p a
 |[],_=>⟨[],rfl,by simp⟩
 |x::l,h=>by
  obtain⟨a,rfl,ha⟩:=h x (cr ..);obtain⟨m,rfl,hm⟩:=Fk f p fun y hy=>h y (aO _ hy);exact⟨a::m,rfl,fun b hb=>by
   rcases dz.1 hb with rfl|h
   ·exact ha
   exact hm b h⟩
theorem abR{n:Int}(h:(Lit.int .i64 n).wf=true):rg n:=by
 simp[Lit.wf,IntKind.min,IntKind.max,IntKind.signed,IntKind.bits]at h;unfold rg;omega
theorem Z0{x:ap}(h:gH (.sl true [.int .i64,.int .i64,.int .u64,.str]) x):∃r:b8,x=.aa true (da r)∧Ng r:=by
 obtain⟨xs,rfl,_,h1,h2⟩:=h.sl_inv;obtain⟨r,rfl,hr⟩:=Fk bW.a (fun v=>rg v.n) (l:=xs) fun x hx=>by
  obtain⟨ys,rfl,hl,hy⟩:=FQ (h1 x hx) (h2 x hx)
  match ys,hl,hy with
  |[t,u,v,w],_,hy=>
   obtain⟨a,rfl,_⟩:=(hy 0 (by simp) (by simp)).int_inv;obtain⟨b,rfl,hb⟩:=(hy 1 (by simp) (by simp)).int_inv;obtain⟨c,rfl,_⟩:=(hy 2 (by simp) (by simp)).int_inv;obtain⟨d,rfl,_⟩:=(hy 3 (by simp) (by simp)).str_inv;exact⟨⟨a,b,c,d⟩,rfl,abR hb⟩
 exact⟨r,rfl,hr⟩
theorem Wm{x:ap}(h:gH (.sl false [.sl true [.int .i64,.int .i64,.int .u64,.str]]) x):∃rs:aQ,x=.aa true (cI true rs)∧vb rs:=by
 obtain⟨xs,rfl,_,h1,h2⟩:=h.sl_inv;obtain⟨rs,rfl,hr⟩:=Fk (fun r=>.aa true (da r)) Ng (l:=xs) fun x hx=>Z0 (Ey (h1 x hx) (h2 x hx));exact⟨rs,rfl,hr⟩
theorem sT{α:Type}{cs:List Sh}{f:α→ap}{p:α→Prop}(hd:∀ys:List ap,ys.length=cs.length→(∀i (h:i<cs.length) (h':i<ys.length),gH cs[i] ys[i])→∃a,ap.agg ys=f a∧p a){x:ap}(h:gH (.sl true cs) x):∃l:List α,x=.aa true (l.map f)∧∀a∈l,p a:=by
 obtain⟨xs,rfl,hn,h1,h2⟩:=h.sl_inv;obtain⟨m,rfl,hm⟩:=Fk f p (l:=xs) fun x hx=>by
  obtain⟨ys,rfl,hl,hy⟩:=FQ (h1 x hx) (h2 x hx);exact hd ys hl hy
 exact⟨m,rfl,hm⟩
theorem Ph(ys:List ap)(hl:ys.length=enX.length)(hy:∀i (h:i<enX.length) (h':i<ys.length),gH enX[i] ys[i]):∃a,ap.agg ys=EN.a a∧rg a.v.n:=by
 match ys,hl,hy with
 |[y0,y1,y2,y3,y4,y5,y6,y7],_,hy=>
  obtain⟨v0,rfl,_⟩:=(hy 0 (by simp) (by simp)).int_inv;obtain⟨v1,rfl,_⟩:=(hy 1 (by simp) (by simp)).int_inv;obtain⟨v2,rfl,_⟩:=(hy 2 (by simp) (by simp)).int_inv;obtain⟨v3,rfl,_⟩:=(hy 3 (by simp) (by simp)).int_inv;obtain⟨v4,rfl,_⟩:=(hy 4 (by simp) (by simp)).int_inv;obtain⟨v5,rfl,h5⟩:=(hy 5 (by simp) (by simp)).int_inv;obtain⟨v6,rfl,_⟩:=(hy 6 (by simp) (by simp)).int_inv;obtain⟨v7,rfl,_⟩:=(hy 7 (by simp) (by simp)).str_inv;exact⟨⟨v0,v1,v2,v3,⟨v4,v5,v6,v7⟩⟩,rfl,abR h5⟩
theorem afs(ys:List ap)(hl:ys.length=exX.length)(hy:∀i (h:i<exX.length) (h':i<ys.length),gH exX[i] ys[i]):∃a,ap.agg ys=jM.a a∧tc a.l:=by
 match ys,hl,hy with
 |[y0],_,hy=>
  obtain⟨v0,rfl,h0⟩:=sT Ph (hy 0 (by simp) (by simp));exact⟨⟨true,v0⟩,rfl,h0⟩
theorem ae4(ys:List ap)(hl:ys.length=agX.length)(hy:∀i (h:i<agX.length) (h':i<ys.length),gH agX[i] ys[i]):∃a,ap.agg ys=cC.a a∧tc a.arg:=by
 match ys,hl,hy with
 |[y0,y1],_,hy=>
  obtain⟨v0,rfl,_⟩:=(hy 0 (by simp) (by simp)).int_inv;obtain⟨v1,rfl,h1⟩:=sT Ph (hy 1 (by simp) (by simp));exact⟨⟨v0,true,v1⟩,rfl,h1⟩
structure RgN (n:bL):Prop where
 cond:tc n.cond
 ai:∀a∈n.ai,tc a.arg
 items:∀a∈n.items,tc a.l
theorem ae2(ys:List ap)(hl:ys.length=lnX.length)(hy:∀i (h:i<lnX.length) (h':i<ys.length),gH lnX[i] ys[i]):∃a,ap.agg ys=bL.a a∧RgN a:=by
 match ys,hl,hy with
 |[y0,y1,y2,y3,y4,y5,y6,y7,y8,y9,y10,y11],_,hy=>
  obtain⟨v0,rfl,_⟩:=(hy 0 (by simp) (by simp)).int_inv;obtain⟨v1,rfl,_⟩:=(hy 1 (by simp) (by simp)).int_inv;obtain⟨v2,rfl,_⟩:=(hy 2 (by simp) (by simp)).int_inv;obtain⟨v3,rfl,_⟩:=(hy 3 (by simp) (by simp)).int_inv;obtain⟨v4,rfl⟩:=Lq (hy 4 (by simp) (by simp));obtain⟨v5,rfl⟩:=(hy 5 (by simp) (by simp)).bool_inv;obtain⟨v6,rfl,h6⟩:=sT Ph (hy 6 (by simp) (by simp));obtain⟨v7,rfl⟩:=Lq (hy 7 (by simp) (by simp));obtain⟨v8,rfl,h8⟩:=sT ae4 (hy 8 (by simp) (by simp));obtain⟨v9,rfl,h9⟩:=sT afs (hy 9 (by simp) (by simp));obtain⟨v10,rfl⟩:=Zt afi (hy 10 (by simp) (by simp));obtain⟨v11,rfl,_⟩:=(hy 11 (by simp) (by simp)).int_inv;exact⟨⟨v0,v1,v2,v3,true,v4,v5,true,v6,true,v7,true,v8,true,v9,true,v10,v11⟩,rfl,h6,h8,h9⟩
theorem Xt{rs:aQ}(h:vb rs)(k:Nat):vb ((rs.take k).map oS):=fun r hr v hv=>by
 obtain⟨q,hq,rfl⟩:=aU.1 hr;obtain⟨w,hw,rfl⟩:=aU.1 (show v∈(q.take 17).map FN from hv);exact h q (bv hq) w (bv hw)
theorem Br{e:List EN}(h:tc e):tc (um e):=fun n hn=>by
 obtain⟨y,hy,rfl⟩:=aU.1 (show n∈(e.take 60).map D9 from hn);exact h y (bv hy)
theorem Km{n:bL}(h:RgN n):RgN (pd n) where
 cond:=Br h.cond
 ai:=fun a ha=>by
  obtain⟨y,hy,rfl⟩:=aU.1 (show a∈(n.ai.take 14).map Gv from ha);exact Br (h.ai y (bv hy))
 items:=fun a ha=>by
  obtain⟨y,hy,rfl⟩:=aU.1 (show a∈(n.items.take 17).map GZ from ha);exact Br (h.items y (bv hy))
end Go.AM
namespace Go.AM
open P
set_option maxHeartbeats 4000000
theorem afS{n:bL}(h:RgN n):R8 (pd n) where
 fit:=Vx n
 flat:=⟨fun g hg=>by
  obtain⟨y,_,rfl⟩:=aU.1 (show g∈(n.ai.take 14).map Gv from hg);rfl,fun g hg=>by
  obtain⟨y,_,rfl⟩:=aU.1 (show g∈(n.items.take 17).map GZ from hg);rfl⟩
 rg:=⟨(Km h).cond,(Km h).ai,(Km h).items⟩
 bo:=rfl
theorem U2{v:bW}{k:Int}(h:HM (v,k)=false)(hk:1≤k∧k≤3)(hr:rg v.n):Iv v∧(v.k=0∨v.k=k):=by
 unfold HM at h;simp at h;obtain⟨h1,h2⟩:=h;have h3:v.k=0∨v.k=k:=by
  by_cases c:v.k=0
  ·exact .inl c
  exact .inr (h2 c)
 refine⟨⟨?_,hr⟩,h3⟩;unfold jS;rw[h1];simp;omega
theorem UD{af:List Int}{r:b8}(h:Gx af r=false)(hk:∀k∈af,1≤k∧k≤3)(hr:Ng r):iN af r:=by
 unfold Gx at h;simp only[eQ,bne_eq_false_iff_eq,bR]at h;obtain⟨h1,h2⟩:=h;have hz:∀(i:Nat) (v:bW) (k:Int),r[i]?=some v→af[i]?=some k→Iv v∧(v.k=0∨v.k=k):=fun i v k hv hk'=>by
  have hm:(v,k)∈r.zip af:=by
   refine aw (i:=i) ?_;rw[d5];exact⟨hv,hk'⟩
  exact U2 (by simpa using h2 _ hm) (hk k (aw hk')) (hr v (aw hv))
 refine⟨h1,fun v hv=>?_,fun i v k hv hk'=>(hz i v k hv hk').2⟩;obtain⟨i,hi⟩:=dt.1 hv;have hl:=(al.1 hi).1;exact (hz i v af[i] hi (am (by omega))).1
theorem XX{af:List Int}{rs:dg}(h:LI af rs=true)(hr:vb rs):(∀r∈rs,Gx af r=false)∧((∀k∈af,1≤k∧k≤3)→mX af rs):=by
 unfold LI at h;simp only[aq,cN,bR,aL]at h;have h2:∀r∈rs,Gx af r=false:=fun r hr=>by simpa using h.2 r hr
 exact⟨h2,fun hk r hr'=>UD (h2 r hr') hk (hr r hr')⟩
theorem TM{af:List Int}{r:b8}(h:Gx af r=false):Bh af r=true:=by
 unfold Gx at h;simp only[eQ,bne_eq_false_iff_eq,bR]at h;unfold Bh;simp only[aq,aP,aG];refine⟨h.1,fun p hp=>?_⟩;have:=h.2 p hp;unfold HM at this;unfold Kx;simp at this ⊢;refine⟨this.1,?_⟩;by_cases c:p.1.k=0
 ·exact .inl c
 exact .inr (this.2 c)
theorem EG{n:bL}(h:rD n=true):(∀k∈n.af,1≤k∧k≤3)∧0≤n.tab:=by
 unfold rD at h;simp only[aq,cN,bR,cK,aL,not_or]at h;exact⟨fun k hk=>by have:=h.1.1.1.1 k hk;omega,h.1.1.1.2⟩
theorem Q6{opD:List dg→bL→dg×Int}:∀(l:List bL) (k:Nat) (all:List dg) (e:Int),aV (pp opD) l k all=.inr e→e≠0
 |[],_,_,_,h=>by cases h
 |n::l,k,all,e,h=>by
  simp only[aV]at h;unfold pp at h;by_cases c:(opD all n).2≠0
  ·rw[if_pos c]at h;cases h;exact c
  rw[if_neg c]at h;by_cases c8:8000<(opD all n).1.length
  ·rw[if_pos c8]at h;cases h;decide
  rw[if_neg c8]at h;exact Q6 l _ _ _ h
theorem LN{ns:List bL}{s:List (dI Int)×List Nat}(h:lC ns s)(hR:∀n∈ns,RgX n){tabs:List dg}(hT:∀n∈ns,n.op=1→mX n.af (tabs.getD n.tab.toNat [])):∀(l:List bL) (k:Nat) (all r:List dg),k≤ns.length→ns.drop k=l→DZ ns s k all→aV (pp (iJ s tabs)) l k all=.inl r→DZ ns s ns.length r
 |[],k,all,r,hkl,hd,hF,hf=>by
  cases hf;have hk:ns.length≤k:=List.drop_eq_nil_iff.1 hd;have hkk:k=ns.length:=by omega
  rw[←hkk];exact hF
 |n::l,k,all,r,_,hd,hF,hf=>by
  have hk:k<ns.length:=by
   by_cases c:k<ns.length
   ·exact c
   rw[List.drop_eq_nil_of_le (by omega)]at hd;cases hd
  rw[dP hk]at hd;have e1:=List.cons.inj hd;have hn:ns[k]?=some n:=by rw[am hk,e1.1]
  simp only[aV]at hf;cases hg:pp (iJ s tabs) k n all with
  |inr e=>rw[hg]at hf;cases hf
  |inl all'=>
   rw[hg]at hf;exact LN h hR hT l (k+1) all' r (by omega) e1.2 (Ld h hR hT hn hF hg) hf
section
variable {ns:List bL} (hX:∀n∈ns,R8 n) (h60:ns.length≤60) {tabs:List dg} (hr:∀rs∈tabs,vb rs) (hs:∀rs∈tabs,∀r∈rs,r.length≤17)
 {l0 T0:List ap} (hnd:∀b,aK I.qad [.aa b l0,ar 10]=some (.aa false (ns.map bL.a)))
 (htb:∀b,aK I.qac [.aa b T0,ar 12]=some (.aa false (tabs.map cV)))
include hX h60 hr hs hnd htb
theorem Th:aK I.qs [.aa true l0,.aa true T0]=some (.bool true):=by
 have hN:∀n∈ns,nO n:=fun n hn=>(hX n hn).fit;have hsm:∀rs∈tabs,∀r∈rs,r.length≤most:=fun rs h1 r h2=>by have:=hs rs h1 r h2;unfold most;omega
 have bad:(mS ns=none∨ns.any (BC tabs)=true)→((mS ns).isSome=true→∀n∈ns,n.op=1→0≤n.tab)→aK I.qs [.aa true l0,.aa true T0]=some (.bool true):=fun hb h0=>by
  have hB:=fun bn bt=>Xu bn ns hN h60 h0 bt tabs hsm hb;exact GY l0 T0 ns tabs hnd htb (fun bn bt=>(hB bn bt).choose) (fun bn bt=>(hB bn bt).choose_spec.1) (fun bn bt=>(hB bn bt).choose_spec.2.1) (fun bn bt=>(hB bn bt).choose_spec.2.2)
 cases hl:mS ns with
 |none=>exact bad (.inl hl) (fun h=>by rw[hl]at h;cases h)
 |some s=>
  have h:=WO hl;have h0t:∀n∈ns,n.op=1→0≤n.tab:=fun n hn c=>by
   obtain⟨k,hk⟩:=dt.1 hn;obtain⟨_,_,l3,_⟩:=(h.node k n hk).scan c;exact (EG l3).2
  cases hb:ns.any (BC tabs) with
  |true=>exact bad (.inr hb) fun _=>h0t
  |false=>
   have hB:∀n∈ns,BC tabs n=false:=fun n hn=>by
    have:=bR.1 hb n hn;simpa using this
   have hrt:∀i,vb (tabs.getD i []):=fun i=>by
    rw[au];cases hi:tabs[i]? with
    |none=>exact fun r hr=>absurd hr (by simp)
    |some rs=>exact hr rs (aw hi)
   have hst:∀i,∀r∈tabs.getD i [],r.length≤most:=fun i=>by
    rw[au];cases hi:tabs[i]? with
    |none=>exact fun r hr=>absurd hr (by simp)
    |some rs=>exact hsm rs (aw hi)
   have hfit:∀n∈ns,n.op=1→n.tab.toNat < tabs.length∧LI n.af (tabs.getD n.tab.toNat [])=true:=fun n hn c=>by
    have hb:=hB n hn;have ht:=h0t n hn c;unfold BC at hb;simp[c]at hb;exact⟨by omega,by simpa using hb.2⟩
   have hT:∀n∈ns,n.op=1→mX n.af (tabs.getD n.tab.toNat []):=fun n hn c=>by
    obtain⟨k,hk⟩:=dt.1 hn;obtain⟨_,_,l3,_⟩:=(h.node k n hk).scan c;exact (XX (hfit n hn c).2 (hrt _)).2 (EG l3).1
   have hG:∀bt bi,∀n∈ns,n.op=1→Ew bt (tabs.map cV) bi [] n false (tabs.getD n.tab.toNat []):=fun bt bi n hn c=>by
    obtain⟨g1,g2⟩:=hfit n hn c;have ht:=h0t n hn c;refine⟨⟨n.tab.toNat,by omega,?_⟩,?_,hst _⟩
    ·rw[if_neg (by omega)];exact gu rfl g1
    have g3:=(XX g2 (hrt _)).1;unfold LI at g2;unfold Nr;simp only[aq,aL,aG]at g2 ⊢;exact⟨by omega,fun r hr=>TM (g3 r hr)⟩
   have hRg:∀n∈ns,RgX n:=fun n hn=>(hX n hn).rg;have hF0:DZ ns s 0 []:=⟨rfl,fun i hi=>by omega,fun i hi=>by omega,fun i n hi=>by omega⟩;have hops:∀n∈ns,1≤n.op∧n.op≤8:=fun n hn=>by
    obtain⟨k,hk⟩:=dt.1 hn;exact (h.node k n hk).op
   have h1:ns≠[]:=fun h0=>by have:=h.pos;rw[h0]at this;simp at this
   have hW:=fun k hk=>XL hl hN (fun n hn=>(hX n hn).flat) k hk
   have hRows:=fun bn bt=>aei bn ns hN (by rw[hl];rfl) h1 h60 bt tabs hsm hb h0t (fun i=>(dh s i).length) (DZ ns s) (iJ s tabs) hops hW
    (fun k n all all' hn _ hF hd=>Ld h hRg hT hn hF hd)
    (fun k n all hn _ hF h0 _ r hr'=>(UX h hn (hRg n (aw hn)) (hT n (aw hn)) hF h0 r hr').ok (h.node k n hn).len)
    (fun b k n all σ hn _ hF g2 g4 g5=>ajb h hX hT hn hF g2 g4 g5 hB) hF0
   by_cases hno:∃e,aV (pp (iJ s tabs)) ns 0 []=.inr e∧e≠140
   ·obtain⟨e,he,hne⟩:=hno;have he0:=Q6 ns 0 [] e he;rw[he]at hRows;exact GY l0 T0 ns tabs hnd htb (fun _ _=>e) hRows (fun _ _=>he0) (fun _ _=>hne)
   have hJ0:Er ns s tabs 0 []:=⟨hF0,fun e he=>by
    by_cases c:e=140
    ·exact c
    exact absurd ⟨e,he,c⟩ hno⟩
   obtain⟨ks,hk1,hk2,hk3⟩:=KT h
   have hRun:=fun bn bc bt bi=>ajk bc bt (tabs.map cV) bi [] bn ns (by omega) h1 hN ks hk1
    (fun n hn ak=>by
     obtain⟨k,hk⟩:=dt.1 hn;have hNk:=h.node k n hk;have hop:=hNk.op;have:n.op=1:=by
      have:n.op=1∨n.op=2∨n.op=3∨n.op=4∨n.op=5∨n.op=6∨n.op=7∨n.op=8:=by omega
      rcases this with c|c|c|c|c|c|c|c
      ·exact c
      ·obtain⟨x,y,l1,_⟩:=hNk.join c;omega
      ·obtain⟨x,l1,_⟩:=hNk.filter c;omega
      ·obtain⟨x,l1,_⟩:=hNk.group c;omega
      ·obtain⟨x,l1,_⟩:=hNk.project c;omega
      ·obtain⟨x,l1,_⟩:=hNk.distinct c;omega
      ·obtain⟨x,y,l1,_⟩:=hNk.union c;omega
      obtain⟨x,l1,_⟩:=hNk.sort c;omega
     exact⟨false,_,hG bt bi n hn this⟩)
    (Er ns s tabs) (nr s tabs) (fun k n all all' hn _ hJ hr=>(Lv h hRg hT hn hJ hr).1)
    (fun k n all σ hn _ hJ g1 g2=>by
     have hNk:=h.node k n hn;have hop:=hNk.op;have:n.op=1∨n.op=2∨n.op=3∨n.op=4∨n.op=5∨n.op=6∨n.op=7∨n.op=8:=by omega
     rcases this with c|c|c|c|c|c|c|c
     ·exact ahg h hX hT hn hJ g1 g2 c (hG bt bi n (aw hn) c)
     ·exact ak6 h hX hT hk3 hn hJ g1 g2 c
     ·exact akc h hX hT hn hJ g1 g2 c
     ·exact agq h hX hT hn hJ g1 g2 c
     ·exact aih h hX hT hn hJ g1 g2 c
     ·exact ahm h hX hT hn hJ g1 g2 c
     ·exact ajy h hX hT hn hJ g1 g2 c
     exact agW h hX hT hn hJ g1 g2 c) hJ0
   have hsame:=DS h hRg hT ns 0 [] rfl hJ0;cases hf:aV (pp (iJ s tabs)) ns 0 [] with
   |inr e=>
    have:=hJ0.rest e hf;subst this;rw[hf]at hRows hsame;rcases hsame with hs'|hs'<;>rw[hs']at hRun
    ·exact uv l0 T0 ns tabs [] 140 hnd htb hRows (.inr rfl) [] 140 hRun (.inr ⟨rfl,fun b b'=>DM b b' false false [] (by simp) (by simp)⟩)
    exact uv l0 T0 ns tabs [] 140 hnd htb hRows (.inr rfl) [] 300 hRun (.inl rfl)
   |inl r=>
    have hFin:=LN h hRg hT ns 0 [] r (by omega) rfl hF0 hf;rw[hf]at hRows hsame;have hpos:=h.pos;have hlast:r.getLastD []=r.getD (ns.length-1) []:=by
     rw[ic,d7,hFin.len,au]
    have hfew:=hFin.few (ns.length-1) (by omega);have hfit:=hFin.fit (ns.length-1) (by omega);have h16:=(h.node (ns.length-1) _ (am (by omega))).len;rw[←hlast]at hfew hfit;rcases hsame with hs'|hs'<;>rw[hs']at hRun
    ·exact uv l0 T0 ns tabs (r.getLastD []) 0 hnd htb hRows (.inl rfl) (r.getLastD []) 0 hRun (.inr ⟨rfl,fun b b'=>DM b b' false false _ (by unfold most;omega) fun x hx=>by
      have:=(hfit x hx).len;unfold most;omega⟩)
    exact uv l0 T0 ns tabs (r.getLastD []) 0 hnd htb hRows (.inl rfl) [] 300 hRun (.inl rfl)
end
theorem Sx(L:List bL)(hL:∀n∈L,RgN n)(T:List dg)(hT:∀rs∈T,vb rs)(hn:T.length≤9223372036854775807):aK I.qs [.aa true (L.map bL.a),.aa true (T.map oE)]=some (.bool true):=by
 refine Th (ns:=(L.take 10).map pd) (tabs:=rt 12 (min 8 T.length) T) (fun n hn=>?_) (by simp;omega) (fun rs hr=>?_) (fun rs hr r hr'=>?_) (fun b=>N8 b L 10 (by decide) (by decide)) (fun b=>HV 12 (by decide) (by decide) b T hn)
 ·obtain⟨y,hy,rfl⟩:=aU.1 hn;exact afS (hL y (bv hy))
 ·obtain⟨y,hy,rfl⟩:=aU.1 hr;exact Xt (hT y (bv hy)) 12
 obtain⟨y,hy,rfl⟩:=aU.1 hr;obtain⟨q,hq,rfl⟩:=aU.1 hr';simp[oS];omega
theorem TR{x:ap}(h:gH (.sl true lnX) x):∃l:List bL,x=.aa true (l.map bL.a)∧∀n∈l,RgN n:=sT ae2 h
theorem UI{x:ap}(h:gH (.sl false [.sl false [.sl true [.int .i64,.int .i64,.int .u64,.str]]]) x):∃T:List dg,x=.aa true (T.map oE)∧(∀rs∈T,vb rs)∧T.length≤9223372036854775807:=by
 obtain⟨xs,rfl,hn,h1,h2⟩:=h.sl_inv;obtain⟨T,rfl,hr⟩:=Fk oE vb (l:=xs) fun x hx=>Wm (Ey (h1 x hx) (h2 x hx));exact⟨T,rfl,hr,by simpa using (show (T.map oE).length≤9223372036854775807 from hn)⟩
end Go.AM
