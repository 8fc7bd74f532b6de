/- Part of the proof. -/
import Derived.Test.YtdfklhejofpgbaaGreatDoorAm19
set_option linter.unusedVariables false
set_option linter.unusedSimpArgs false
set_option linter.unusedSectionVars false
namespace Go.AM
open P
set_option maxHeartbeats 4000000
theorem sa(σ:ay)(n:bL):fz true false 0 σ 20 n.a=n.a:=Ft.ft true false 0 σ 17 n rfl
theorem nH{k:Nat}(h:k≤qU):k≤most:=by unfold qU at h;unfold most;omega
theorem Lr{K:List Int}{r:b8}(h:iN K r){ah:List Int}(hc:ah.length≤16)(hp:kf ah K=true):EK r ah=true:=by
 unfold EK;unfold kf at hp;simp only[aq,aL,aG];refine⟨hc,fun c hc=>?_⟩;unfold YP;rw[h.len];simp at hp;have:=hp c hc;simp;omega
theorem afg{K:List Int}{a:cC}{rows:aQ}(h:(ln K a).1=true)(hr:∀r∈rows,lc r=true):xo a.tag a.arg rows=true:=by
 have this:=h;unfold ln at this;unfold xo;have hra:rows.all lc=true:=aG.2 hr;rw[hra];by_cases t1:a.tag=1
 ·rw[if_pos t1]at this;rw[t1];simpa using this
 rw[if_neg t1]at this;simp only[aq,aP,aL]at this;have hk0:=this.1.1.1;have:zU a.arg=true:=by
  unfold eC at hk0;cases ho:zU a.arg with
  |true=>rfl
  |false=>rw[ho]at hk0;simp at hk0
 rw[if_neg t1,this];simp;omega
theorem FL{K ah:List Int}(hp:kf ah K=true):∀c∈ah,0≤c:=fun c hc=>by
 unfold kf at hp;simp at hp;exact (hp c hc).1
section
variable {ns:List bL} {s:List (dI Int)×List Nat} (h:lC ns s) (hX:∀n∈ns,R8 n) {tabs:List dg} (hT:∀n∈ns,n.op=1→mX n.af (tabs.getD n.tab.toNat []))
 {bn bc bt:Bool} {at':List ap} {bi:Bool} {ins:List ap} {ks:List (List Int)} (hks:∀q,q<ns.length→ks[q]?=some (dh s q))
 {k:Nat} {n:bL} {all:List dg} {σ:ay} (hn:ns[k]?=some n) (hJ:Er ns s tabs k all)
 (h1:σ[1]?=some (.arr 8 0 [afB bn ns bc bt at' bi ins ks (.sl 2 k 0 k)])) (h2:σ[2]?=some (.arr 1 k (all.map cV)))
abbrev wX(s:List (dI Int)×List Nat)(tabs:List dg)(all:List dg)(n:bL)(σ:ay):Prop:=
 dS code (AC n.op) [.ptr 1 0 0 0,n.a] σ=some (.tup [cV (nr s tabs all n).1,ar (nr s tabs all n).2],σ)
include h hX hT hn hJ
omit hX hT in
theorem ab3{x:Nat}(hx:x<k):(dh s x).length≤16:=by
 have:=(al.1 hn).1;exact (h.node x _ (am (show x<ns.length by omega))).len
omit hX hT in
theorem Tq{x:Nat}(hx:x<k):∀r∈all.getD x [],lc r=true:=fun r hr=>(hJ.fine.fit x hx r hr).ok (ab3 h hn hJ hx)
omit hX hT in
theorem CA{x:Nat}(hx:x<k):∀r∈all.getD x [],r.length≤8000:=fun r hr=>by
 have h1:=(hJ.fine.fit x hx r hr).len;have h2:=ab3 h hn hJ hx;omega
include h1 h2
theorem ahg(c:n.op=1)(hG:Ew bt at' bi ins n false (tabs.getD n.tab.toNat [])):wX s tabs all n σ:=by
 have hm:=aw hn;have hN:=h.node k n hn;obtain⟨_,_,_,l4⟩:=hN.scan c;have hl:=hJ.fine.len;have e:nr s tabs all n=(dL ez (tabs.getD n.tab.toNat []),0):=by unfold nr Bu;rw[if_pos c]
 have ha:AC n.op=.fn 98 [] []:=by rw[c];rfl
 have h16:=hN.len;rw[l4]at h16;unfold wX;rw[e,ha];exact nq ahp (pq hl h1 h2) (sa σ n) (ZK true _ _ _ _ bt at' bi ins _ _ (zI bn ns bc bt at' bi ins ks all) n false _ hG fun r hr=>(hT n hm c r hr).ok h16)
theorem akc(c:n.op=3):wX s tabs all n σ:=by
 have hm:=aw hn;have hN:=h.node k n hn;obtain⟨x,l1,l2,_,l4⟩:=hN.filter c;have hl:=hJ.fine.len;have e:nr s tabs all n=wN n.cond (all.getD x []):=by
  unfold nr Bu;rw[if_neg (by omega),if_neg (by omega),if_pos c,l1,aR]
 have ha:AC n.op=.fn 100 [] []:=by rw[c];rfl
 unfold wX;rw[e,ha];exact nq ali (pq hl h1 h2) (sa σ n) (Wj true _ _ _ _ _ _ _ _ _ (zI bn ns bc bt at' bi ins ks all) n x l1 false _ (gu hl l2) (hJ.fine.few x l2) (nH (hX n hm).fit.cond) (mX.rg (hJ.fine.fit x l2)) (hX n hm).rg.cond)
theorem aih(c:n.op=5):wX s tabs all n σ:=by
 have hm:=aw hn;have hN:=h.node k n hn;obtain⟨x,l1,l2,_,l4,l5,l6⟩:=hN.project c;have hl:=hJ.fine.len;have e:nr s tabs all n=s8 n.items (all.getD x []):=by
  unfold nr Bu;rw[if_neg (by omega),if_neg (by omega),if_neg (by omega),if_neg (by omega),if_pos c,l1,aR]
 have ha:AC n.op=.fn 101 [] []:=by rw[c];rfl
 have h16:=hN.len;rw[l6]at h16;unfold wX;rw[e,ha];refine nq aie (pq hl h1 h2) (sa σ n) (SF true _ _ _ _ _ _ _ _ _ (zI bn ns bc bt at' bi ins ks all) n x l1 false _ (gu hl l2) (hJ.fine.few x l2) (by omega) (fun y hy=>⟨nH ((hX n hm).fit.exprs y hy),(hX n hm).rg.it y hy⟩) (mX.rg (hJ.fine.fit x l2)) ?_);intro out ho;have hps:=CK n.items (all.getD x []) 0 [];cases hf:aV (TV n.items) (all.getD x []) 0 [] with
 |inr no=>rw[hf]at hps;rw[hps.2]at ho;cases ho
 |inl out'=>
  rw[hf]at hps;rw[hps.1]at ho;cases ho;refine hps.2.2 _ (by simp) fun r hr v hv=>?_;have:=AG (hJ.fine.fit x l2 r hr) n.items 0 [] v [] (fun e he=>⟨(hX n hm).rg.it e he,l5 e he⟩) iN.nil hv;exact this.ok (by simpa using h16)
theorem ahm(c:n.op=6):wX s tabs all n σ:=by
 have hN:=h.node k n hn;obtain⟨x,l1,l2,l3⟩:=hN.distinct c;have hl:=hJ.fine.len;have e:nr s tabs all n=(kQ (all.getD x []),0):=by
  unfold nr Bu;rw[if_neg (by omega),if_neg (by omega),if_neg (by omega),if_neg (by omega),if_neg (by omega),if_pos c,l1,aR]
 have ha:AC n.op=.fn 105 [] []:=by rw[c];rfl
 unfold wX;rw[e,ha];exact nq ajT (pq hl h1 h2) (sa σ n) (KL true _ _ _ _ _ _ _ _ _ (zI bn ns bc bt at' bi ins ks all) n x l1 false _ (gu hl l2) _ _ fun b=>D3 b _ (hJ.fine.few x l2) (Tq h hn hJ l2))
theorem ajy(c:n.op=7):wX s tabs all n σ:=by
 have hN:=h.node k n hn;obtain⟨x,y,l1,l2,l3,l4,_,_⟩:=hN.union c;have hl:=hJ.fine.len;have e:nr s tabs all n=(dL ez (all.getD x []++all.getD y []),0):=by
  unfold nr Bu;rw[if_neg (by omega),if_neg (by omega),if_neg (by omega),if_neg (by omega),if_neg (by omega),if_neg (by omega),if_pos c,l1,l2,aR,aR]
 have hg:=wd h hn hJ;have e':iJ s tabs all n=(all.getD x []++all.getD y [],0):=by
  unfold iJ pe;rw[if_neg (by omega),if_neg (by omega),if_neg (by omega),if_neg (by omega),if_neg (by omega),if_neg (by omega),if_pos c,l1,l2,aR,aR]
 rw[e']at hg;have hlen:(all.getD x []).length+(all.getD y []).length≤8000:=by
  rcases hg with⟨_,g⟩|g
  ·simpa using g
  cases g
 have ha:AC n.op=.fn 106 [] []:=by rw[c];rfl
 unfold wX;rw[e,ha];refine nq ah1 (pq hl h1 h2) (sa σ n) (Yo true _ _ _ _ _ _ _ _ _ (zI bn ns bc bt at' bi ins ks all) n x y l1 l2 false false _ _ (gu hl l3) (gu hl l4) hlen fun r hr=>?_);rcases bT.1 hr with hr|hr
 ·exact Tq h hn hJ l3 r hr
 exact Tq h hn hJ l4 r hr
theorem agW(c:n.op=8):wX s tabs all n σ:=by
 have hm:=aw hn;have hN:=h.node k n hn;obtain⟨x,l1,l2,l3,_,_⟩:=hN.sort c;have hl:=hJ.fine.len;have e:nr s tabs all n=(J7 n.limit (dL (yg n.ords) (all.getD x [])),0):=by
  unfold nr Bu;rw[if_neg (by omega),if_neg (by omega),if_neg (by omega),if_neg (by omega),if_neg (by omega),if_neg (by omega),if_neg (by omega),l1,aR]
 have ha:AC n.op=.fn 107 [] []:=by rw[c];rfl
 unfold wX;rw[e,ha];refine nq aj1 (pq hl h1 h2) (sa σ n) (Zp true _ _ _ _ _ _ _ _ _ (zI bn ns bc bt at' bi ins ks all) n x l1 false _ (gu hl l2) _ _ fun b=>?_);have hs:=Tf b false n.ords n.limit (all.getD x []) (hJ.fine.few x l2);have hgood:Rp n.ords n.limit (all.getD x [])=true:=by
  unfold sortF at l3;unfold Rp;simp only[aq,aL,aG,cN,bR,cK,not_or]at l3 ⊢;refine⟨⟨⟨Tq h hn hJ l2,l3.1.1.2⟩,l3.1.2⟩,fun r hr=>?_⟩;unfold uW;simp only[aG,aq,aL];intro o ho;have:=l3.1.1.1 o ho;have hlen:=(hJ.fine.fit x l2 r hr).len;omega
 rw[hgood,if_pos rfl]at hs;rw[(hX n hm).bo];exact hs
theorem agq(c:n.op=4):wX s tabs all n σ:=by
 have hm:=aw hn;have hN:=h.node k n hn;obtain⟨x,l1,l2,l3,l4,l5⟩:=hN.group c;have hl:=hJ.fine.len;have e:nr s tabs all n=A9 n (all.getD x []):=by
  unfold nr Bu;rw[if_neg (by omega),if_neg (by omega),if_neg (by omega),if_pos c,l1,aR]
 have ha:AC n.op=.fn 102 [] []:=by rw[c];rfl
 have h16:=hN.len;rw[l5]at h16;unfold nu jA at l3;simp only[aq,aL]at l3;obtain⟨⟨⟨q1,q2⟩,q3⟩,q4⟩:=l3;have fx:=hJ.fine.fit x l2;have hagg:∀(rows:aQ),(∀r∈rows,lc r=true)→∀a∈n.ai,xo a.tag a.arg rows=true:=fun rows hr a ha=>afg (l4 a ha) hr;unfold wX;rw[e,ha];refine nq aj3 (pq hl h1 h2) (sa σ n) (Xz true _ _ _ _ _ _ _ _ _ (zI bn ns bc bt at' bi ins ks all) n x l1 false _ (gu hl l2) _ _ fun b=>?_);refine Vl n b _ (hJ.fine.few x l2) (Tq h hn hJ l2) (mX.rg fx) (fun r hr=>Lr (fx r hr) (by omega) q4) (by omega) (FL q4) (by omega) (fun a ha=>⟨nH ((hX n hm).fit.args a ha),(hX n hm).rg.ag a ha⟩) ?_ ?_
 ·intro O ho;have hgs:=IE n (ey n.keys (all.getD x [])) (fun g hg a ha=>hagg g.2 (fun r hr=>Tq h hn hJ l2 r ((lk hg).1 r hr)) a ha) 0 [];cases hf:aV (Gm n) (ey n.keys (all.getD x [])) 0 [] with
  |inr no=>rw[hf]at hgs;rw[hgs.2]at ho;cases ho
  |inl out=>
   rw[hf]at hgs;rw[hgs.1]at ho;cases ho;refine hgs.2 _ (by simp) fun g hg v hv=>?_;obtain⟨m1,m2,a,m3,m4⟩:=lk hg;have hfew:=hJ.fine.few x l2;have:=Jx (fun r hr=>fx r (m1 r hr)) (by omega) n.ai 0 g.1 v _ (fun a ha=>⟨(hX n hm).rg.ag a ha,l4 a ha⟩) (by rw[m4];exact EH (fx a m3) n.keys q4) hv;exact this.ok h16
 intro vals hv;have has:=IF n [] (hagg [] (by simp)) n.ai (fun _ h=>h) 0 [];cases hf:aV (HL []) n.ai 0 [] with
 |inr no=>rw[hf]at has;rw[has.2]at hv;cases hv
 |inl v=>
  rw[hf]at has;rw[has]at hv;cases hv;have:=Jx (K:=dh s x) (rows:=[]) (fun r hr=>absurd hr (by simp)) (by simp) n.ai 0 [] _ [] (fun a ha=>⟨(hX n hm).rg.ag a ha,l4 a ha⟩) iN.nil hf;exact this.ok (by simp at h16 ⊢;omega)
include hks
theorem ak6(c:n.op=2):wX s tabs all n σ:=by
 have hm:=aw hn;have hN:=h.node k n hn;obtain⟨x,y,l1,l2,l3,l4,_,l6⟩:=hN.join c;have hl:=hJ.fine.len;have hk:=(al.1 hn).1;have h16:=hN.len;rw[l6]at h16;have fx:=hJ.fine.fit x l3;have fy:=hJ.fine.fit y l4;have hps:=ui n.cond (all.getD y []) (all.getD x []) 0 (List.replicate (all.getD x []).length false,[]);have hg:=wd h hn hJ;have e':iJ s tabs all n=yL n (dh s y).length (all.getD x []) (all.getD y []):=by
  unfold iJ pe;rw[if_neg (by omega),if_pos c,l1,l2,aR,aR]
 rw[e']at hg;unfold yL at hg;have ha:AC n.op=.fn 99 [] []:=by rw[c];rfl
 have hcc:¬40000<(all.getD x []).length*(all.getD y []).length:=fun hc=>by
  rw[if_pos hc]at hg;rcases hg with⟨g,_⟩|g<;>cases g
 rw[if_neg hcc]at hg;unfold wX;rw[ha];cases hleft:n.left with
 |false=>
  have e:nr s tabs all n=Hc n (all.getD x []) (all.getD y []):=by
   unfold nr Bu;rw[if_neg (by omega),if_pos c,l1,l2,aR,aR,hleft];rfl
  rw[e];refine nq abC (pq hl h1 h2) (sa σ n) (aaj true _ _ _ _ _ _ _ _ _ (zI bn ns bc bt at' bi ins ks all) n x y l1 l2 false false _ _ (gu hl l3) (gu hl l4) (hJ.fine.few x l3) (hJ.fine.few y l4) (CA h hn hJ l3) (CA h hn hJ l4) (mX.rg fx) (mX.rg fy) (nH (hX n hm).fit.cond) (hX n hm).rg.cond hleft ?_);intro t ht;cases hf:aV (nW n.cond (all.getD y [])) (all.getD x []) 0 (List.replicate (all.getD x []).length false,[]) with
  |inr no=>rw[hf]at hps;rw[hps.2]at ht;cases ht
  |inl t'=>
   rw[hf]at hps hg;rw[hps.1]at ht;cases ht;rw[hleft]at hg;refine⟨?_,hps.2.2 _ (by simp) fun a ha b hb=>((fx a ha).app (fy b hb)).ok h16⟩;rcases hg with⟨_,g⟩|g
   ·simpa [gj] using g
   cases g
 |true=>
  have e:nr s tabs all n=AF n ((dh s y).map (ap.int .i64)).length (all.getD x []) (all.getD y []):=by
   unfold nr Bu;rw[if_neg (by omega),if_pos c,l1,l2,aR,aR,hleft,cf];rfl
  have hk':(ks.map uT)[y]?=some (.aa false ((dh s y).map (.int .i64))):=by
   rw[dp,hks y (by omega)];rfl
  rw[e];have hK:((dh s y).map (ap.int .i64)).length=(dh s y).length:=cf _;refine nq abC (pq hl h1 h2) (sa σ n) (Vh true _ _ _ _ _ _ _ _ _ _ (zI bn ns bc bt at' bi ins ks all) n x y l1 l2 false false _ _ (gu hl l3) (gu hl l4) false _ hk' (by rw[hK];simp at h16;omega) (hJ.fine.few x l3) (hJ.fine.few y l4) (CA h hn hJ l3) (CA h hn hJ l4) (mX.rg fx) (mX.rg fy) (nH (hX n hm).fit.cond) (hX n hm).rg.cond hleft ?_);intro t ht O hO;rw[hK]at hO;cases hf:aV (nW n.cond (all.getD y [])) (all.getD x []) 0 (List.replicate (all.getD x []).length false,[]) with
  |inr no=>rw[hf]at hps;rw[hps.2]at ht;cases ht
  |inl t'=>
   rw[hf]at hps hg;rw[hps.1]at ht;cases ht;rw[hleft]at hg;obtain⟨O',m1,m2⟩:=zD (dh s y).length t.1 (all.getD x []) 0 t.2;rw[m1]at hO;cases hO;refine⟨?_,m2 _ (hps.2.2 _ (by simp) fun a ha b hb=>((fx a ha).app (fy b hb)).ok h16) fun a ha=>((fx a ha).app (iN.nul _)).ok h16⟩;simp only[cW,m1]at hg;rcases hg with⟨_,g⟩|g
   ·simpa [gj] using g
   cases g
end
end Go.AM
namespace Go.AM
open P
set_option maxHeartbeats 16000000
set_option maxRecDepth 8000
abbrev fnD(bt:Bool)(tabs:List ap)(all:List dg)(W:Nat→Nat)(k:Nat):ap:=
 .cptr true (fV (.aa bt tabs) true (all.map cV) true (oV W k)) 0
theorem aeD{σ:ay}{bt:Bool}{tabs:List ap}{W:Nat→Nat}{k:Nat}{all:List dg}(hl:all.length=k)(h2:σ[2]?=some (.arr 3 0 [.agg [.aa bt tabs,.sl 4 k 0 k,.sl 5 k 0 k]]))(h4:σ[4]?=some (.arr 1 k (all.map cV)))(h5:σ[5]?=some (.arr 1 k (oV W k))) :
  fz true false 0 σ 20 (.ptr 2 0 0 0)=fnD bt tabs all W k:=by
 have htk:List.take k (all.map cV)=all.map cV:=av (by simp[hl]);have htw:List.take k (oV W k)=oV W k:=av (by simp[yB]);have hw:∀fl top base σ m,(oV W k).map (fz fl top base σ (m+1))=oV W k:=fun fl top base σ m=>by
  unfold oV;rw[cE];exact bx fun i _=>by simp
 simp[h2,h4,h5,htk,htw,hl,yB,hw];refine⟨fun a _=>by rw[Fx.fx (f:=cV) true false 0 _ 14 a],fun a ha=>?_⟩;obtain⟨i,_,rfl⟩:=aU.1 ha;simp
theorem aiM(bt:Bool)(tabs:List ap)(all:List dg)(W:Nat→Nat)(k:Nat):∀fl top base σ m,(fl ||top)=true→fz fl top base σ (m+4) (fnD bt tabs all W k)=fnD bt tabs all W k:=fun fl top base σ m h=>by
 cases fl<;>cases top
 ·cases h
 all_goals simp
theorem SZ{f:Nat}{σ:ay}{c x F N r:ap}(hf:aT f)(hc:fz true false 0 σ 20 c=F)(hx:fz true false 0 σ 20 x=N)(h:aK f [F,N]=some r):dS code (.fn f [c] []) [x] σ=some (r,σ):=by
 rw[TK];simp only[b9,cR,cM];rw[hf];simp only[bG,bh,po,hc,hx,h,dd]
theorem U1(W:Nat→Nat){k i:Nat}(h:i<k):(oV W k)[i]?=some (ar ((W i:Nat):Int)):=by simp[oV,h]
section
variable {ns:List bL} {s:List (dI Int)×List Nat} (h:lC ns s) (hX:∀n∈ns,R8 n) {tabs:List dg} (hT:∀n∈ns,n.op=1→mX n.af (tabs.getD n.tab.toNat []))
 {bt:Bool} {k:Nat} {n:bL} {all:List dg} {σ:ay} (hn:ns[k]?=some n) (hF:DZ ns s k all)
 (h2:σ[2]?=some (.arr 3 0 [.agg [.aa bt (tabs.map cV),.sl 4 k 0 k,.sl 5 k 0 k]])) (h4:σ[4]?=some (.arr 1 k (all.map cV))) (h5:σ[5]?=some (.arr 1 k (oV (fun i=>(dh s i).length) k)))
abbrev ai5(s:List (dI Int)×List Nat)(tabs:List dg)(all:List dg)(n:bL)(σ:ay):Prop:=
 ∃b X,(n.op=8→b=false)∧dS code (doD n.op) [n.a] σ=some (.tup [.aa b ((iJ s tabs all n).1.map aD),ar (iJ s tabs all n).2],σ++X)
theorem tH{f:Nat}{σ:ay}{F:ap}{rs:aQ}{e:Int}(hd:doD n.op=.fn f [.ptr 2 0 0 0] [])(hf:aT f)(hs:fz true false 0 σ 20 (.ptr 2 0 0 0)=F)(ho:iJ s tabs all n=(rs,e))(hp:aK f [F,n.a]=some (.tup [.aa false (rs.map aD),ar e])):ai5 s tabs all n σ:=by
 refine⟨false,[],fun _=>rfl,?_⟩;rw[hd,ho,cR];exact SZ hf hs (sa σ n) hp
include h hX hT hn hF
omit hX hT in
theorem VP{x:Nat}(hx:x<k):(dh s x).length≤16:=by
 have:=(al.1 hn).1;exact (h.node x _ (am (show x<ns.length by omega))).len
omit hX hT in
theorem aeM{x:Nat}(hx:x<k):∀r∈all.getD x [],lc r=true:=fun r hr=>(hF.fit x hx r hr).ok (VP h hn hF hx)
omit hX hT in
theorem RZ{x:Nat}(hx:x<k):∀r∈all.getD x [],r.length≤8000:=fun r hr=>by
 have h1:=(hF.fit x hx r hr).len;have h2:=VP h hn hF hx;omega
include h2 h4 h5
theorem ajb(hB:∀n∈ns,BC tabs n=false):ai5 s tabs all n σ:=by
 have hm:=aw hn;have hN:=h.node k n hn;have ho:=hN.op;have hl:=hF.len;have hS:=aeD hl h2 h4 h5;have hz:=aiM bt (tabs.map cV) all (fun i=>(dh s i).length) k;have:n.op=1∨n.op=2∨n.op=3∨n.op=4∨n.op=5∨n.op=6∨n.op=7∨n.op=8:=by omega
 rcases this with c|c|c|c|c|c|c|c
 ·have hd:doD n.op=.fn 85 [.ptr 2 0 0 0] []:=by rw[c];rfl
  have e':iJ s tabs all n=(tabs.getD n.tab.toNat [],0):=by unfold iJ pe;rw[if_pos c]
  obtain⟨_,_,l3,_⟩:=hN.scan c;have hb:=hB n hm;unfold BC at hb;unfold rD at l3;simp[c]at hb l3;have ht0:(n.tab.toNat:Int)=n.tab:=by omega
  have htl:n.tab.toNat < tabs.length:=by omega
  have hg:(tabs.map cV)[n.tab.toNat]?=some (.aa false ((tabs.getD n.tab.toNat []).map aD)):=gu rfl htl;refine⟨false,[.arr 12 0 [n.a]],fun _=>rfl,?_⟩;rw[hd,e',TK];exact Yn 2 bt (tabs.map cV) _ _ σ h2 n n.tab.toNat ht0.symm false _ hg
 ·obtain⟨x,y,l1,l2,l3,l4,_,l6⟩:=hN.join c;have e':iJ s tabs all n=yL n (dh s y).length (all.getD x []) (all.getD y []):=by
   unfold iJ pe;rw[if_neg (by omega),if_pos c,l1,l2,aR,aR]
  exact tH (by rw[c];rfl) ahx hS e' (aaf true _ _ _ _ _ hz n x y l1 l2 false false _ _ (gu hl l3) (gu hl l4) _ (U1 _ l4) (by have:=VP h hn hF l4;omega) (hF.few x l3) (hF.few y l4) (RZ h hn hF l3) (RZ h hn hF l4) (mX.rg (hF.fit x l3)) (mX.rg (hF.fit y l4)) (nH (hX n hm).fit.cond) (hX n hm).rg.cond)
 ·obtain⟨x,l1,l2,_,l4⟩:=hN.filter c;have e':iJ s tabs all n=tM n.cond (all.getD x []):=by
   unfold iJ pe;rw[if_neg (by omega),if_neg (by omega),if_pos c,l1,aR]
  exact tH (by rw[c];rfl) akz hS e' (S3 true _ _ _ _ _ hz n x l1 false _ (gu hl l2) (hF.few x l2) (nH (hX n hm).fit.cond) (mX.rg (hF.fit x l2)) (hX n hm).rg.cond)
 ·obtain⟨x,l1,l2,l3,l4,l5⟩:=hN.group c;have e':iJ s tabs all n=xQ n (all.getD x []):=by
   unfold iJ pe;rw[if_neg (by omega),if_neg (by omega),if_neg (by omega),if_pos c,l1,aR]
  unfold nu jA at l3;simp only[aq,aL]at l3;obtain⟨⟨⟨q1,q2⟩,q3⟩,q4⟩:=l3;have fx:=hF.fit x l2;exact tH (by rw[c];rfl) ah3 hS e' (UL true _ _ _ _ _ hz n x l1 false _ (gu hl l2) (hF.few x l2) (aeM h hn hF l2) (mX.rg fx) (fun r hr=>Lr (fx r hr) (by omega) q4) (by omega) (FL q4) (by omega) (fun a ha=>⟨nH ((hX n hm).fit.args a ha),(hX n hm).rg.ag a ha⟩))
 ·obtain⟨x,l1,l2,_,l4,l5,l6⟩:=hN.project c;have e':iJ s tabs all n=p9 n.items (all.getD x []):=by
   unfold iJ pe;rw[if_neg (by omega),if_neg (by omega),if_neg (by omega),if_neg (by omega),if_pos c,l1,aR]
  exact tH (by rw[c];rfl) ahD hS e' (PY true _ _ _ _ _ hz n x l1 false _ (gu hl l2) (hF.few x l2) (by omega) (fun y hy=>⟨nH ((hX n hm).fit.exprs y hy),(hX n hm).rg.it y hy⟩) (mX.rg (hF.fit x l2)))
 ·obtain⟨x,l1,l2,l3⟩:=hN.distinct c;have e':iJ s tabs all n=(kQ (all.getD x []),0):=by
   unfold iJ pe;rw[if_neg (by omega),if_neg (by omega),if_neg (by omega),if_neg (by omega),if_neg (by omega),if_pos c,l1,aR]
  exact tH (by rw[c];rfl) ahR hS e' (Mq true _ _ _ _ _ hz n x l1 false _ (gu hl l2) _ _ fun b=>D3 b _ (hF.few x l2) (aeM h hn hF l2))
 ·obtain⟨x,y,l1,l2,l3,l4,_,_⟩:=hN.union c;have e':iJ s tabs all n=(all.getD x []++all.getD y [],0):=by
   unfold iJ pe;rw[if_neg (by omega),if_neg (by omega),if_neg (by omega),if_neg (by omega),if_neg (by omega),if_neg (by omega),if_pos c,l1,l2,aR,aR]
  have f1:=hF.few x l3;have f2:=hF.few y l4;exact tH (by rw[c];rfl) ahH hS e' (WZ true _ _ _ _ _ hz n x l1 false _ (gu hl l3) y l2 false _ (gu hl l4) (by unfold most;omega))
 obtain⟨x,l1,l2,l3,_,_⟩:=hN.sort c;have e':iJ s tabs all n=(J7 n.limit (dL (yg n.ords) (all.getD x [])),0):=by
  unfold iJ pe;rw[if_neg (by omega),if_neg (by omega),if_neg (by omega),if_neg (by omega),if_neg (by omega),if_neg (by omega),if_neg (by omega),l1,aR]
 have hsr:∀b,aK I.qbw [.aa b (cI false (all.getD x [])),.aa false (gV n.ords),ar n.limit]=some (.aa false (cI false (J7 n.limit (dL (yg n.ords) (all.getD x []))))):=fun b=>by
  have f1:=hF.few x l2;unfold sortF at l3;simp only[aq,aL,cN,bR,cK,not_or]at l3;refine zv b false n.ords n.limit (all.getD x []) (by unfold most;omega) (by unfold most;omega) fun r hr=>⟨aeM h hn hF l2 r hr,?_⟩;unfold uW;simp only[aG,aq,aL];intro o ho;have:=l3.1.1.1 o ho;have hlen:=(hF.fit x l2 r hr).len;omega
 refine tH (by rw[c];rfl) ahT hS e' (Uu true _ _ _ _ _ hz n x l1 false _ (gu hl l2) _ fun b=>?_);rw[(hX n hm).bo];exact hsr b
end
end Go.AM
namespace Go.AM
open P
set_option maxHeartbeats 8000000
set_option maxRecDepth 8000
abbrev oE(rs:dg):ap:=.aa true (cI true rs)
abbrev Tt(mo:Nat)(rs:dg):dg:=(rs.take mo).map oS
def rt(mo k:Nat)(T:List dg):List dg:=(T.take k).map (Tt mo)
theorem N9(mo k:Nat)(T:List dg)(h:k<T.length):rt mo (k+1) T=rt mo k T++[Tt mo T[k]]:=by
 unfold rt;rw[List.take_add_one,am h,dy];rfl
theorem AB(mo k:Nat)(T:List dg)(h:k≤T.length):(rt mo k T).length=k:=by simp[rt,h]
theorem Sq{k n:Nat}(h1:k<n)(h2:n≤9223372036854775807):IntKind.i64.wrap ((k:Int)+1)=((k+1:Nat):Int):=by
 simp[IntKind.wrap,IntKind.bits,IntKind.signed];omega
theorem JA(mo:Nat)(h0:mo≠0)(hm:mo≤1000)(b:Bool)(T:List dg)(hn:T.length≤9223372036854775807) :
  cq code 1 [4,5,9,10] wu ⟨[.aa b (T.map oE),ar mo,.aj,.sl 0 0 0 0,.any,.any,.aa b (T.map oE),ar T.length,ar 0,.any,.any],[.arr 1 0 []]⟩ =
   some (.ext 0,⟨[.aa b (T.map oE),ar mo,.aj,.sl 0 (min 8 T.length) 0 (min 8 T.length),.any,.any,.aa b (T.map oE),ar T.length,ar T.length,.bool false,.any],[.arr 1 (min 8 T.length) ((rt mo (min 8 T.length) T).map cV)]⟩):=by
 have:=cL (base:=1) (clr:=[4,5,9,10]) (b:=wu) (fun k=>⟨[.aa b (T.map oE),ar mo,.aj,.sl 0 (min 8 k) 0 (min 8 k),.any,.any,.aa b (T.map oE),ar T.length,ar k,.any,.any],[.arr 1 (min 8 k) ((rt mo (min 8 k) T).map cV)]⟩) T.length
  (.ext 0,⟨[.aa b (T.map oE),ar mo,.aj,.sl 0 (min 8 T.length) 0 (min 8 T.length),.any,.any,.aa b (T.map oE),ar T.length,ar T.length,.bool false,.any],[.arr 1 (min 8 T.length) ((rt mo (min 8 T.length) T).map cV)]⟩)
  (fun k hk=>by
   have ak:((k:Int)<(T.length:Int)):=by omega
   have hr:aK I.qaf [oE T[k],ar (mo:Int)]=some (cV (Tt mo T[k])):=O4 mo h0 hm true T[k];have hrr:∀fl top base σ m,fz fl top base σ (m+3) (cV (Tt mo T[k]))=cV (Tt mo T[k]):=fun fl top base σ m=>Fx.fx fl top base σ m _;generalize hR:Tt mo T[k]=R at *;have hro:cV R=.aa false (R.map aD):=rfl;rw[hro]at hr;have hrx:=fun fl top base σ m=>hrr fl top base σ m;rw[hro]at hrx;have hall:∀(l:List dg) base σ m,(l.map cV).map (fz false true base σ (m+3))=l.map cV:=fun l base σ m=>by
    rw[cE];exact bx fun r _=>Fx.fx (f:=cV) false true base σ m r
   have hnc:∀(l:List dg) (base:Nat) (σ:ay) (m:Nat),(∀a,a∈l→aC (fz false true base σ (m+3) (cV a))=aC (cV a))↔True:=fun l base σ m=>⟨fun _=>trivial,fun _ a _=>by rw[Fx.fx (f:=cV) false true base σ m a]⟩;by_cases c:k<8
   ·have c':((k:Int)<8):=by omega
    have e1:min 8 k=k:=by omega
    have e2:min 8 (k+1)=k+1:=by omega
    have hs:=N9 mo k T hk;rw[hR]at hs;have hl:=AB mo k T (by omega);have h5:k+1≤most:=by unfold most;omega
    rw[e1,e2,hs,dy,List.map_singleton,hro];generalize rt mo k T=A at *;have htk:List.take k (A.map cV)=A.map cV:=av (by simp[hl]);simp[wu,ak,hk,hr,hrx,c',h5,hl,htk,append,Sq hk hn,aE,aH,ec,iB]
   have c':¬((k:Int)<8):=by omega
   have e1:min 8 k=8:=by omega
   have e2:min 8 (k+1)=8:=by omega
   rw[e1,e2];have hl:=AB mo 8 T (by omega);generalize rt mo 8 T=A at *;have htk:List.take 8 (A.map cV)=A.map cV:=av (by simp[hl]);simp[wu,ak,hk,c',hl,htk,Sq hk hn,aE,aH,ec,iB])
  (by simp[wu])
 simpa [rt] using this
theorem HV(mo:Nat)(h0:mo≠0)(hm:mo≤1000)(b:Bool)(T:List dg)(hn:T.length≤9223372036854775807):aK I.qac [.aa b (T.map oE),ar (mo:Int)]=some (.aa false ((rt mo (min 8 T.length) T).map cV)):=by
 rw[aA akf rfl];have h:=JA mo h0 hm b T hn;have hl:=AB mo (min 8 T.length) T (by omega);have hk:min 8 T.length≤most:=by unfold most;omega
 generalize min 8 T.length=k at *;generalize rt mo k T=A at *;have htk:List.take k (A.map cV)=A.map cV:=av (by simp[hl]);have hfx:∀(a:dg) base σ m,fz false true base σ (m+3) (cV a)=cV a:=fun a base σ m=>Fx.fx (f:=cV) false true base σ m a;simp[aqg,ab4,h,htk,hl];exact fun a _=>by rw[Fx.fx (f:=cV) false false 0 _ 16 a]
end Go.AM
