/- Part of the proof. -/
import Derived.Test.YtchifcbclnonbaaGreatDoorAm04
import Derived.RangeFuncLeaves
import Derived.RangeFuncRecord
import Derived.Laws.NewFold
import Derived.Scope
set_option linter.unusedVariables false
set_option linter.unusedSimpArgs false
set_option linter.unusedSectionVars false
namespace Go.AM
variable {M:cO} {P:Program}
variable {bT:Nat→Bool} {ops:Array Oper} {ins:List bC} {em:List Tmp} {its:C4} {bef:Nat→Nat} {chk:List (Nat×Nat)} {late:Option Nat} {nt:Nat} {env ls:List ap} {s:Nat→aw} {C:gl} {w0:World} {c0:cJ} {a0:Act}
theorem KM{ls:List ap}{n:Nat}(h:n<ls.length):lU ls n=ls[n]:=by
 unfold lU;rw[aq h];rfl
theorem JF(hok:vv M P bT ops ins em its bef chk late nt)(hT:xS C env ins ls s)(hp:tW bT C)(hchk:∀(n j:Nat) (I:bC),(n,j)∈chk→ins[n]?=some I→aY C env (ls.take n) (s j) I.op=some (lU ls n,s j))
  (hC:jG M P C) (hR:ji M P C) {F:Fence} {n0:Nat} (hF:qk F) (hg:iR M w0 c0) (ht0:lc M w0 c0 env [] (fun t=>(em.idxOf? t).map .env) a0.tmps) (hsz:nt≤a0.tmps.size)
  {Q:Exit→Act→World→Prop} {i:Nat} {o:Oper} (ho:ops[i]?=some o) {x:Option (Tmp×Nat×Go.Obj)} (hxr:∀t b ob,x=some (t,b,ob)→G2 ops.toList em its bef i t=none∧o.dst≠some t) {S:Nat→Prop} (hi:¬S i) (hall:∀n,eN its i=some n→ju bT ins chk n=true→∀k m,k<i→eN its k=some m→ju bT ins chk m=true→S k) (hb:∀k,(bef i).testBit k=true→S k) {a:Act} {w:World}
  (hinv:vE M bT ops ins its bef chk env ls s c0 w0 a0 x S a w) :
  wpOpIn F n0 P ops Q i (vE M bT ops ins its bef chk env ls s c0 w0 a0 x fun j=>S j∨j=i) a w:=by
 obtain⟨cl,lt,c,p,hs,hst,hcut,hv,hun,hts,hdf,hhid⟩:=hinv;have hio:i<ops.size:=(bd.1 ho).1;have hg':iR M w c:=hg.ext hst.toExt
 have hT1:lc M w c env ls (G2 ops.toList em its bef i) a.tmps:=by
  intro t x' hx;have hxt:∀b ob,x≠some (t,b,ob):=fun b ob e=>by rw[(hxr t b ob e).1]at hx;cases hx
  unfold G2 at hx;have base:(em.idxOf? t).map cB.env=some x'→(∀(i:Nat) (o:Oper),S i→ops[i]?=some o→o.dst≠some t)→R M w c (x'.eval env ls) (a.tmps.getD t undef):=fun h1 h2=>by
   rw[hun t h2 hxt];have:=(ht0 t x' h1).ext hst.toExt;obtain⟨j,_,rfl⟩:=aX h1;exact this
  split at hx
  ·rename_i hw;exact base hx fun k ok _ hk=>Hm hw hk
  rename_i k hw;obtain⟨ok,hk,hkd⟩:=HJ hw;split at hx
  ·rename_i hbk;cases hx;exact hv k ok t (hb k hbk) hk hkd
  split at hx
  ·rename_i hc;refine base hx fun k' ok' hS hk' hd'=>?_;have:=hok.uniq k' k ok' ok t hk' hk hd' hkd;subst this;simp only[dI,aG]at hc;rcases hc with rfl|hc
   ·exact hi hS
   exact hi (cl _ _ hS hc)
  cases hx
 have hT2:∀n,lc M w c env (ls.take n) (G2 ops.toList em its bef i) a.tmps:=fun n t x hx=>(hT1 t x hx).take n
 have upd:∀(cv:Value) (w':World) (c':cJ) (p':Nat),ek M w' c' (s p')→gG c w c' w'→Cut bT ins its chk (fun j=>S j∨j=i) p'→R M w' c' ((qC its i).eval env ls) cv →
   vE M bT ops ins its bef chk env ls s c0 w0 a0 x (fun j=>S j∨j=i) (a.put o.dst cv) w':=fun cv w' c' p' h1 h2 h3 h4=>by
  refine⟨fun j k hj hk=>?_,fun j hj=>?_,c',p',h1,hst.trans h2,h3,fun j oj d hj hoj hd=>?_,fun t ht hxt=>?_,?_,?_,fun t b ob e=>?_⟩
  ·rcases hj with hj|rfl
   ·exact .inl (cl j k hj hk)
   exact .inl (hb k hk)
  ·rcases hj with hj|rfl
   ·exact lt j hj
   exact hio
  ·by_cases e:j=i
   ·subst e;rw[ho]at hoj;cases hoj;rw[hd,rJ (by rw[hts];exact aN (hok.dst _ _ _ ho hd) hsz),if_pos rfl];exact h4
   have hSj:S j:=hj.resolve_right e;have:=(hv j oj d hSj hoj hd).ext h2.toExt;cases hod:o.dst with
   |none=>exact this
   |some d'=>
    have hne:¬d=d':=fun e2=>by
     subst e2;exact e (hok.uniq _ _ _ _ _ hoj ho hd hod)
    rw[rJ (by rw[hts];exact aN (hok.dst _ _ _ ho hod) hsz),if_neg hne];exact this
  ·have hne:o.dst≠some t:=ht i o (.inr rfl) ho;have:=hun t (fun j oj hj=>ht j oj (.inl hj)) hxt;cases hod:o.dst with
   |none=>exact this
   |some d'=>
    have hne':¬t=d':=fun e2=>hne (by rw[hod,e2]);rw[rJ (by rw[hts];exact aN (hok.dst _ _ _ ho hod) hsz),if_neg hne'];exact this
  ·cases hod:o.dst with
   |none=>exact hts
   |some d=>simp[Act.put,hts]
  ·cases hod:o.dst with
   |none=>exact hdf
   |some d=>exact hdf
  obtain⟨y1,y2,y3,y4,y5⟩:=hhid t b ob e;have hne:=(hxr t b ob e).2;have hbl:b<w.heap.size:=(bd.1 y3).1;refine⟨?_,y2,by rw[h2.frame b hbl y5];exact y3,fun hb=>?_,fun id z1 z2=>?_⟩
  ·cases hod:o.dst with
   |none=>exact y1
   |some d'=>
    have hne':¬t=d':=fun e2=>hne (by rw[hod,e2]);rw[rJ (by rw[hts];exact aN (hok.dst _ _ _ ho hod) hsz),if_neg hne'];exact y1
  ·rcases h2.oldb b hb hbl with hb|⟨q,q1,q2⟩
   ·exact y4 hb
   exact y5 q q1 q2
  obtain⟨q,q1,q2⟩:=h2.liv id b z1 z2 hbl;exact y5 q q1 q2
 have hpl:p≤ins.length:=by
  rcases hcut.1 with rfl|⟨k,n,_,hk,_,rfl⟩
  ·exact cd _
  exact hok.bound k n hk
 unfold wpOpIn;rw[ho];simp only;rcases hok.item i o ho with⟨hn,hel⟩|⟨n,I,hn,hI,hval,hop,hgo,hnw,hx⟩
 ·
  unfold NM at hel;simp only[am,gL]at hel;obtain⟨hgn,hel⟩:=hel;have hw:Region.wanted o (yielded ops a.tmps)=true:=by unfold Region.wanted;rw[hgn]
  rw[if_pos hw];have hcut':Cut bT ins its chk (fun j=>S j∨j=i) p:=by
   refine⟨hcut.1.imp id fun ⟨k,n,h1,h2⟩=>⟨k,n,.inl h1,h2⟩,fun k n hk hnw=>?_⟩;rw[←hcut.2 k n hk hnw];refine⟨fun h=>h.resolve_right fun e=>?_,.inl⟩;rw[e,hn]at hk;cases hk
  have fin:∀y,QF o.op=some y→R M w c ((qC its i).eval env ls) (a.eval y)→o.wpIn F n0 P a w (vE M bT ops ins its bef chk env ls s c0 w0 a0 x fun j=>S j∨j=i) Q:=fun y hm hr=>by
   refine⟨fun f _=>hF.fn f,?_⟩;have hex:(execOp a.eval o)=pure (.value (a.eval y)):=by
    unfold execOp;cases hopp:o.op<;>rw[hopp]at hm<;>simp only[QF]at hm<;>first|(cases hm;done)|(cases hm;rfl)
   rw[Oper.semAt_eq _ _ _ (fun d e=>by rw[e]at hm;cases hm),hex];exact upd _ w c p hs (.refl c w) hcut' hr
  split at hel
  ·rename_i t hm;split at hel
   ·rename_i x hx;refine fin _ hm ?_;have:=hT1 t x hx;rw[tP hel]at this;exact this
   cases hel
  ·rename_i v hm;split at hel
   ·rename_i x hx;refine fin _ hm ?_;rw[←tP hel];exact ajp hx
   cases hel
  cases hel
 obtain⟨hnl,hIe⟩:=ak.1 hI;have hnl':n<ls.length:=by rw[hT.len];exact hnl
 have hvR:∀(j:Nat) (oj:Oper) (d:Tmp),(bef i).testBit j=true→ops[j]?=some oj→oj.dst=some d→R M w c ((qC its j).eval env ls) (a.tmps.getD d undef):=fun j oj d hj=>hv j oj d (hb j hj);have hvaln:(qC its i).eval env ls=ls[n]:=by
  rw[hval];exact KM hnl'
 have hcutN:ju bT ins chk n=true→s p=s n:=fun hw=>by
  refine AG hT hp hchk hok.guards hok.onto hpl (by omega) fun k m hk hm=>?_;rw[←hcut.2 k m hk hm];rcases fq k i with h|h|h
  ·exact⟨fun _=>hok.mono _ _ _ _ hk hn h,fun _=>hall n hn hw k m h hk hm⟩
  ·subst h;rw[hn]at hk;cases hk;exact⟨fun h=>absurd h hi,fun h=>absurd h (dn _)⟩
  have hnm:=hok.mono _ _ _ _ hn hk h;refine⟨fun hS=>absurd ((hcut.2 i n hn hw).2 (by have:=(hcut.2 k m hk hm).1 hS;omega)) hi,fun h2=>?_⟩;omega
 have cutN:ju bT ins chk n=true→Cut bT ins its chk (fun j=>S j∨j=i) (n+1):=fun hw=>by
  refine⟨.inr ⟨i,n,.inr rfl,hn,hw,rfl⟩,fun k m hk hm=>?_⟩;rcases fq k i with h|h|h
  ·have:=hok.mono _ _ _ _ hk hn h;exact⟨fun _=>by omega,fun _=>.inl (hall n hn hw k m h hk hm)⟩
  ·subst h;rw[hn]at hk;cases hk;exact⟨fun _=>by omega,fun _=>.inr rfl⟩
  have:=hok.mono _ _ _ _ hn hk h;refine⟨fun hS=>?_,fun h2=>by omega⟩;rcases hS with hS|rfl
  ·exact absurd ((hcut.2 i n hn hw).2 (by have:=(hcut.2 k m hk hm).1 hS;omega)) hi
  exact absurd h (dn _)
 have cutX:ju bT ins chk n=false→Cut bT ins its chk (fun j=>S j∨j=i) p:=fun hw=>by
  refine⟨hcut.1.imp id fun ⟨k,n,h1,h2⟩=>⟨k,n,.inl h1,h2⟩,fun k m hk hm=>?_⟩;rw[←hcut.2 k m hk hm];refine⟨fun h=>h.resolve_right fun e=>?_,.inl⟩;rw[e,hn]at hk;cases hk;rw[hw]at hm;cases hm
 rcases hT.step n hnl hnl' with⟨h1,h2⟩|⟨h1,h2,h3⟩
 ·
  rw[hIe]at h1 h2;have hw:Region.wanted o (yielded ops a.tmps)=true:=PZ hgo h1 hvR;rw[if_pos hw];have run:∀p',aY C env (ls.take n) (s p) I.op=some (ls[n],s p')→Cut bT ins its chk (fun j=>S j∨j=i) p'→o.wpIn F n0 P a w (vE M bT ops ins its bef chk env ls s c0 w0 a0 x fun j=>S j∨j=i) Q:=fun p' hstep hc'=>
   ah0 hF hC hR hs (hT2 n) hg' hop hstep fun cv w' c' b1 b2 b3=>upd cv w' c' p' b1 b2 hc' (by rw[hvaln];exact b3)
  cases hw2:ju bT ins chk n with
  |true=>
   refine run (n+1) ?_ (cutN hw2);rw[hcutN hw2];exact h2
  |false=>
   refine run p ?_ (cutX hw2);have hsn:s (n+1)=s n:=yq hT hp hchk hok.guards (d9 n) hnl fun m a1 a2=>by
    have:m=n:=by omega
    rw[this];exact hw2
   rw[hsn]at h2;have same:(∀k m,eN its k=some m→ju bT ins chk m=true→(m<p↔m<n))→aY C env (ls.take n) (s p) I.op=some (ls[n],s p):=fun h=>by
    rw[AG hT hp hchk hok.guards hok.onto hpl (by omega) h];exact h2
   have byChk:(n,p)∈chk→aY C env (ls.take n) (s p) I.op=some (ls[n],s p):=fun h=>by
    rw[hchk n p I h hI,KM hnl']
   rcases hx hw2 with h0|⟨hz,hk⟩
   ·exact Wv h0 h2 (s p)
   rcases hcut.1 with rfl|⟨k,m,hS,hkm,hmw,rfl⟩
   ·rcases hz with⟨k,m,b1,b2,b3⟩|hz|hz
    ·have:=(hcut.2 k m b1 b2).1 (hb k b3);omega
    ·exact same fun k m b1 b2=>⟨fun h=>by omega,fun h=>absurd h (hz k m b1 b2)⟩
    exact byChk hz
   rcases hk k m hkm hmw with h|⟨k',m',b1,b2,b3,b4⟩|⟨b1,b2⟩|h
   ·exact absurd (cl k i hS h) hi
   ·have:=(hcut.2 k' m' b1 b2).1 (hb k' b4);omega
   ·exact same fun k' m' e1 e2=>⟨fun h=>by omega,fun h=>by
     by_cases e:m<m'
     ·exact absurd h (b2 k' m' e1 e2 e)
     omega⟩
   exact byChk h
 rw[hIe]at h1;have hw:Region.wanted o (yielded ops a.tmps)=false:=PZ hgo h1 hvR;rw[if_neg (by rw[hw];simp)];refine⟨fun f _=>hF.fn f,?_⟩;have hany:R M w c ((qC its i).eval env ls) undef:=by rw[hvaln,h2];exact R.undef
 cases hw2:ju bT ins chk n with
 |true=>exact upd _ w c (n+1) (by rw[h3,←hcutN hw2];exact hs) (.refl c w) (cutN hw2) hany
 |false=>exact upd _ w c p hs (.refl c w) (cutX hw2) hany
end Go.AM
namespace Go.AM
variable {M:cO} {P:Program} {w w':World} {c c':cJ} {σ:aw}
theorem ek.over(hs:ek M w c σ)(h:∀b,b<w.heap.size→(c.bor b∨∃id,c.H id≠.dead∧c.place id=some b)→w'.heap[b]?=w.heap[b]?)(hz:w.heap.size≤w'.heap.size):ek M w' c σ∧Ext c w c w':=by
 have hext:Ext c w c w':=⟨fun _ h=>h,fun _ h=>h,fun b hb=>h b (hs.low b (hb.elim (fun h=>h) (hs.sb b))) (.inl (hb.elim (fun h=>h) (hs.sb b))),aB _,fun _ _=>.inl rfl,fun _ _ _ _=>⟨rfl,rfl,rfl⟩⟩;refine⟨⟨hs.H,hs.N,hs.sb,fun b hb=>aN (hs.low b hb) hz,fun id b h1 h2=>?_,hs.inj,fun id o ho=>?_⟩,hext⟩
 ·obtain⟨p1,p2⟩:=hs.plow id b h1 h2;exact⟨aN p1 hz,p2⟩
 refine (hs.obj id o ho).ext hext (fun _=>⟨rfl,rfl,rfl⟩) fun hnd b hb=>?_;have hd:c.H id≠.dead:=by rw[hs.H];exact fun h=>hnd ((pz ho).1 h)
 exact h b (hs.plow id b hd hb).1 (.inr ⟨id,hd,hb⟩)
end Go.AM
namespace Go.AM
variable {M:cO} {P:Program}
variable {bT:Nat→Bool} {ops:Array Oper} {ins:List bC} {em:List Tmp} {its:C4} {bef:Nat→Nat} {chk:List (Nat×Nat)} {late:Option Nat} {nt:Nat} {env ls:List ap} {s:Nat→aw} {C:gl} {w0:World} {c0:cJ} {a0:Act}
def t7(em:List Tmp)(t:Tmp):Option cB:=(em.idxOf? t).map .env
def qW(e:Nat):List (Nat×cB)→Option cB
 |[]=>none
 |(k,x)::r=>if k=e then some x else qW e r
def ub(ops:List Oper)(em:List Tmp)(its:C4)(os:List (Nat×cB)):Bool:=
 (os.map (·.1)).Nodup&&em.zipIdx.all fun te=>match Of ops te.1 with
  |none=>(qW te.2 os).isNone
  |some k=>(match qW te.2 os with
   |some x=>Ck (qC its k) x
   |none=>false)
theorem ze{env:List ap}{k e:Nat}{v:ap}(h:k≠e):lU (env.set k v) e=lU env e:=by
 unfold lU;rw[cX h]
theorem KJ{old ls:List ap}{e:Nat}:∀{os:List (Nat×cB)} {env:List ap},qW e os=none→lU (qm env old ls os) e=lU env e
 |[],_,_=>rfl
 |(k,x)::r,env,h=>by
  simp only[qW]at h;split at h
  ·cases h
  rename_i hk;simp only[qm];rw[KJ h,ze hk]
theorem QR{old ls:List ap}{e:Nat}{x:cB}:∀{os:List (Nat×cB)} {env:List ap},(os.map (·.1)).Nodup→qW e os=some x→lU (qm env old ls os) e=x.eval old ls∨lU (qm env old ls os) e=.any
 |[],_,_,h=>by cases h
 |(k,y)::r,env,hn,h=>by
  simp only[qW]at h;simp only[cH,List.nodup_cons]at hn;simp only[qm];split at h
  ·rename_i hk;subst hk;cases h;have:qW k r=none:=by
    have hni:=hn.1;clear hn;induction r with
    |nil=>rfl
    |cons q r ih=>
     simp only[cH,d4,not_or]at hni;unfold qW;rw[if_neg (fun e=>hni.1 e.symm)];exact ih hni.2
   rw[KJ this];unfold lU;rw[dc];split
   ·split
    ·exact .inl rfl
    exact .inr rfl
   exact absurd rfl (by assumption)
  exact QR hn.2 h
def UR(M:cO)(em:List Tmp)(env ls:List ap)(os:List (Nat×cB))(c0:cJ)(w0:World)(a0:Act)(σ':aw)(a:Act)(w:World):Prop:=
 ∃c,ek M w c σ'∧gG c0 w0 c w∧lc M w c (qm env env ls os) [] (t7 em) a.tmps∧a.tmps.size=a0.tmps.size∧a.defers=a0.defers
theorem HW(hok:vv M P bT ops ins em its bef chk late nt)(hT:xS C env ins ls s)(hp:tW bT C)(hchk:∀(n j:Nat) (I:bC),(n,j)∈chk→ins[n]?=some I→aY C env (ls.take n) (s j) I.op=some (lU ls n,s j))
  (ht0:lc M w0 c0 env [] (t7 em) a0.tmps) {os:List (Nat×cB)} (hos:ub ops.toList em its os=true) {S:Nat→Prop} (hS:∀i,i<ops.size→S i) {a:Act} {w:World}
  (hinv:vE M bT ops ins its bef chk env ls s c0 w0 a0 none S a w):UR M em env ls os c0 w0 a0 (s ins.length) a w:=by
 obtain⟨cl,lt,c,p,hs,hst,hcut,hv,hun,hts,hdf,_⟩:=hinv;have hpl:p≤ins.length:=by
  rcases hcut.1 with rfl|⟨k,n,_,hk,_,rfl⟩
  ·exact cd _
  exact hok.bound k n hk
 have hsp:s p=s ins.length:=AG hT hp hchk hok.guards hok.onto hpl (aB _) fun k m hk hm=>by
  have hkl:k<ops.size:=by
   rw[←hok.size];unfold eN at hk;obtain⟨x,hx,_⟩:=bv hk;exact (ak.1 hx).1
  exact⟨fun _=>hok.bound k m hk,fun _=>(hcut.2 k m hk hm).1 (hS k hkl)⟩
 refine⟨c,hsp▸hs,hst,fun t x hx=>?_,hts,hdf⟩;unfold t7 at hx;obtain⟨e,he,rfl⟩:=aX hx;unfold ub at hos;simp only[am,aR,aI]at hos;obtain⟨hnd,hall⟩:=hos;have hm:(t,e)∈em.zipIdx:=by
  rw[List.idxOf?,cD]at he;obtain⟨h1,h2,_⟩:=he;rw[List.mem_zipIdx_iff_getElem?];rw[aq h1];simpa using h2
 have:=hall _ hm;simp only at this;show R M w c (lU (qm env env ls os) e) _;cases hw:Of ops.toList t with
 |none=>
  rw[hw]at this;rw[KJ (by simpa using this),hun t (fun i o _ ho=>Hm hw ho) (fun _ _ e=>by cases e)];exact (ht0 t (.env e) (by unfold t7;rw[he];rfl)).ext hst.toExt
 |some k=>
  rw[hw]at this;simp only at this;split at this
  ·rename_i x hx';obtain⟨ok,hk,hkd⟩:=HJ hw;have hr:=hv k ok t (hS k (bd.1 hk).1) hk hkd;rw[tP this]at hr;rcases QR (old:=env) (ls:=ls) (env:=env) hnd hx' with h|h
   ·rw[h];exact hr
   rw[h];exact .any
  cases this
theorem HO{w:World}(hs:ek M w c0 (s 0))(hst:gG c0 w0 c0 w){S:Nat→Prop}(hS:∀i,¬S i):vE M bT ops ins its bef chk env ls s c0 w0 a0 none S a0 w:=
 ⟨fun i k h=>absurd h (hS i),fun i h=>absurd h (hS i),c0,0,hs,hst,⟨.inl rfl,fun k n _ _=>⟨fun h=>absurd h (hS k),fun h=>absurd h (cF _)⟩⟩,fun i o d h=>absurd h (hS i),fun t _ _=>rfl,rfl,rfl,fun _ _ _ e=>by cases e⟩
theorem vE.congr{x:Option (Tmp×Nat×Go.Obj)}{S S':Nat→Prop}(h:∀i,S i↔S' i){a:Act}{w:World}(hi:vE M bT ops ins its bef chk env ls s c0 w0 a0 x S a w):vE M bT ops ins its bef chk env ls s c0 w0 a0 x S' a w:=by
 have:S=S':=funext fun i=>propext (h i);rw[←this];exact hi
section
variable {F:Fence} {n0:Nat} {Q:Exit→Act→World→Prop} {os:List (Nat×cB)}
theorem Mc(hok:vv M P bT ops ins em its (fun i=>2^i-1) chk none nt)(hT:xS C env ins ls s)(hp:tW bT C)(hchk:∀(n j:Nat) (I:bC),(n,j)∈chk→ins[n]?=some I→aY C env (ls.take n) (s j) I.op=some (lU ls n,s j))
  (hC:jG M P C) (hR:ji M P C) (hF:qk F) (hg:iR M w0 c0) (hs:ek M w0 c0 (s 0)) (ht0:lc M w0 c0 env [] (t7 em) a0.tmps) (hsz:nt≤a0.tmps.size) (hos:ub ops.toList em its os=true)
  (hQ:∀a w,UR M em env ls os c0 w0 a0 (s ins.length) a w→Q .normal a w) (id:Nat):(Code.region id ops false).wpIn F n0 P Q a0 w0:=by
 apply wpIn_region;have key:∀(m i:Nat) (a:Act) (w:World),i+m=ops.size→vE M bT ops ins its (fun i=>2^i-1) chk env ls s c0 w0 a0 none (fun j=>j<i) a w→wpOpsIn F n0 P ops Q (List.range' i m) a w:=by
  intro m;induction m with
  |zero=>
   intro i a w hi hinv;exact hQ a w (HW hok hT hp hchk ht0 hos (fun j hj=>by omega) hinv)
  |succ m ih=>
   intro i a w hi hinv;rw[mq,wpOpsIn_cons];have hio:i<ops.size:=by omega
   refine wpOpIn_mono (fun a' w' h=>ih (i+1) a' w' (by omega) h) ?_
   have:=JF (Q:=Q) (n0:=n0) hok hT hp hchk hC hR hF hg ht0 hsz (i:=i) (o:=ops[i]) (by simp[hio]) (x:=none) (fun _ _ _ e=>by cases e) (S:=fun j=>j<i) (dn i) (fun n hn hw k m hlt hk hm=>hlt) (fun k hk=>by
    rw[d5]at hk;simpa using hk) hinv
   exact wpOpIn_mono (fun a' w' h=>h.congr fun j=>by omega) this
 rw[nu];exact key ops.size 0 a0 w0 (by omega) (HO hs (.refl c0 w0) fun i=>cF i)
structure PU (ops:Array Oper) (bef:Nat→Nat):Prop where
 low:∀(i:Nat) (o:Oper),ops[i]?=some o→∀e∈o.after,Region.binds .any e=true→e.on<i
 clos:∀(i:Nat) (o:Oper),ops[i]?=some o→∀k,(bef i).testBit k=true→∃e∈o.after,Region.binds .any e=true∧(k=e.on∨(bef e.on).testBit k=true)
theorem A9{listed:Array Bool}{i:Nat}:i∈Region.ready .any ops listed↔i<ops.size∧listed.getD i true=false∧∃o,ops[i]?=some o∧∀e∈o.after,Region.binds .any e=true→listed.getD e.on false=true:=by
 unfold Region.ready;simp only[List.mem_filter,eY,am,eM];constructor
 ·rintro⟨h1,h2,h3⟩;refine⟨h1,h2,ops[i],by simp[h1],fun e he hb=>?_⟩;rw[bW h1]at h3;simp only[cL,dl,g0]at h3;have:=h3 e he;simpa [hb] using this
 rintro⟨h1,h2,o,ho,h3⟩;refine⟨h1,h2,?_⟩;rw[ho];simp only[cL,dl,g0];intro e he;cases hb:Region.binds .any e with
 |false=>rfl
 |true=>simpa using h3 e he hb
theorem Tn(hok:vv M P bT ops ins em its bef chk late nt)(hT:xS C env ins ls s)(hp:tW bT C)(hchk:∀(n j:Nat) (I:bC),(n,j)∈chk→ins[n]?=some I→aY C env (ls.take n) (s j) I.op=some (lU ls n,s j))
  {d:Nat} {o:Oper} {t:Tmp} {n kk b:Nat} {z:ap} {v0:Value} {T:TypeId} (hd:ops[d]?=some o) (hdt:o.dst=some t) (hn:eN its d=some n) (hI:ins[n]?=some ⟨.box kk (.val z),none⟩) (hnw:ju bT ins chk n=true) (hval:qC its d=.loc n)
  (hk0:kk≠0) (hz:mF M.fm 8 v0 z=true) (hbd:bef d=0) {S:Nat→Prop} (hS:¬S d) (hall:∀k m,eN its k=some m→ju bT ins chk m=true→m<n→S k) {a:Act} {w:World}
  (hinv:vE M bT ops ins its bef chk env ls s c0 w0 a0 (some (t,b,.cells v0.cells T (0,0))) S a w):vE M bT ops ins its bef chk env ls s c0 w0 a0 none (fun j=>S j∨j=d) a w:=by
 obtain⟨cl,lt,c,p,hs,hst,hcut,hv,hun,hts,hdf,hhid⟩:=hinv;obtain⟨y1,y2,y3,y4,y5⟩:=hhid t b _ rfl;have hnl:n<ins.length:=(ak.1 hI).1;have hnl':n<ls.length:=by rw[hT.len];exact hnl
 have hpl:p≤ins.length:=by
  rcases hcut.1 with rfl|⟨k,n,_,hk,_,rfl⟩
  ·exact cd _
  exact hok.bound k n hk
 have hnp:¬n<p:=fun h=>hS ((hcut.2 d n hn hnw).2 h);have hiff:∀k m,eN its k=some m→ju bT ins chk m=true→(m<p↔m<n):=fun k m hk hm=>by
  refine⟨fun h=>by omega,fun h=>(hcut.2 k m hk hm).1 (hall k m hk hm h)⟩
 have hsp:s p=s n:=AG hT hp hchk hok.guards hok.onto hpl (by omega) hiff;have hstep:aY C env (ls.take n) (s n) (.box kk (.val z))=some (ls[n],s (n+1)):=by
  have hIe:=(ak.1 hI).2;rcases hT.step n hnl hnl' with⟨_,h2⟩|⟨h1,_,_⟩
  ·rw[hIe]at h2;exact h2
  rw[hIe]at h1;cases h1
 have hstep':(if aC z=kk then some (ap.ptr (s n).length 0 0 0,s n++[.arr kk 0 [z]]) else none)=some (ls[n],s (n+1)):=hstep;split at hstep'
 ·rename_i hzk;simp only[az,dx]at hstep';obtain⟨e1,e2⟩:=hstep';rw[hsp]at hs;obtain⟨g,hg,hgs,hgc⟩:=qP (qH (M:=M) (w:=w) (c:=c) hz) (by omega)
  obtain⟨c',a1,a2,a3,a4,a5,a6,a7⟩:=hs.adopt hst (k:=kk) (xs:=[z]) (f:=fun _ j=>g j) y2 y3 y4 y5 hk0 (by simp[hzk]) (by simp;omega)
   (fun i j hi hj=>by
    have:i=0:=by simp at hi;omega
    subst this;rw[kG,cu];exact⟨hgc j (by omega),hg.one j (by omega)⟩)
   (fun i hi j hj=>by
    have:i=0:=by simp at hi;omega
    subst this;exact hg.rel j hj)
  refine⟨fun i k hi hk=>?_,fun i hi=>?_,c',n+1,by rw[←e2];exact a5,a6,⟨.inr ⟨d,n,.inr rfl,hn,hnw,rfl⟩,fun k m hk hm=>?_⟩,fun i oi di hi hoi hdi=>?_,fun t' ht' _=>?_,hts,hdf,fun _ _ _ e=>by cases e⟩
  ·rcases hi with hi|rfl
   ·exact .inl (cl i k hi hk)
   rw[hbd]at hk;simp at hk
  ·rcases hi with hi|rfl
   ·exact lt i hi
   exact (bd.1 hd).1
  ·constructor
   ·rintro (h|rfl)
    ·have:=(hcut.2 k m hk hm).1 h;have:=(hiff k m hk hm).1 this;omega
    rw[hn]at hk;cases hk;omega
   intro h;by_cases e:m=n
   ·subst e;right;rcases fq k d with h|h|h
    ·have:=hok.mono _ _ _ _ hk hn h;omega
    ·exact h
    have:=hok.mono _ _ _ _ hn hk h;omega
   exact .inl (hall k m hk hm (by omega))
  ·by_cases e:i=d
   ·subst e;rw[hd]at hoi;cases hoi;rw[hdt]at hdi;cases hdi;rw[y1,hval];have e3:(cB.loc n).eval env ls=.ptr (s n).length 0 0 0:=by
     show lU ls n=_;rw[KM hnl',←e1]
    rw[e3];have:=R.ptr (M:=M) (w:=w) (c:=c') (id:=(s n).length) (ep:=0) (i:=0) (off:=0) (by omega) a2 a3;simpa using this
   exact (hv i oi di (hi.resolve_right e) hoi hdi).ext a7
  refine hun t' (fun i oi hi=>ht' i oi (.inl hi)) fun b' ob' e=>?_;cases e;exact ht' d o (.inr rfl) hd hdt
 cases hstep'
def F2(M:cO)(P:Program)(bT:Nat→Bool)(ops:Array Oper)(ins:List bC)(its:C4)(bef:Nat→Nat)(chk:List (Nat×Nat))(late:Option Nat)(env ls:List ap)(s:Nat→aw)(c0:cJ)(w0:World)(a0:Act)(S:Nat→Prop)(a:Act)(w:World):Prop:=
 vE M bT ops ins its bef chk env ls s c0 w0 a0 none S a w ∨
 ∃d o t n kk b z v0 T,late=some d∧ops[d]?=some o∧o.dst=some t∧eN its d=some n∧ins[n]?=some ⟨.box kk (.val z),none⟩∧qC its d=.loc n∧kk≠0∧mF M.fm 8 v0 z=true∧S d ∧
  (∃k m,eN its k=some m∧ju bT ins chk m=true∧m<n∧¬S k)∧vE M bT ops ins its bef chk env ls s c0 w0 a0 (some (t,b,.cells v0.cells T (0,0))) (fun j=>S j∧j≠d) a w
theorem Wd(hok:vv M P bT ops ins em its bef chk late nt)(hT:xS C env ins ls s)(hp:tW bT C)(hchk:∀(n j:Nat) (I:bC),(n,j)∈chk→ins[n]?=some I→aY C env (ls.take n) (s j) I.op=some (lU ls n,s j))
  (hC:jG M P C) (hR:ji M P C) (hF:qk F) (hg:iR M w0 c0) (ht0:lc M w0 c0 env [] (t7 em) a0.tmps) (hsz:nt≤a0.tmps.size)
  {i:Nat} {o:Oper} (ho:ops[i]?=some o) {S:Nat→Prop} (hi:¬S i) (hb:∀k,(bef i).testBit k=true→S k) {a:Act} {w:World}
  (hinv:F2 M P bT ops ins its bef chk late env ls s c0 w0 a0 S a w):wpOpIn F n0 P ops Q i (F2 M P bT ops ins its bef chk late env ls s c0 w0 a0 fun j=>S j∨j=i) a w:=by
 have hio:i<ops.size:=(bd.1 ho).1
 have ord:late≠some i→∀n,eN its i=some n→ju bT ins chk n=true→∀k m,k<i→eN its k=some m→ju bT ins chk m=true→(bef i).testBit k=true:=fun hl n hn hw k m hk hkm hm=>by
  rcases hok.item i o ho with⟨h1,_⟩|⟨m',I,h1,h2,h3,h4,h5,h6,h7⟩
  ·rw[h1]at hn;cases hn
  rw[h1]at hn;cases hn;exact h6 hw hl k m hk hkm hm
 rcases hinv with hinv|⟨d,od,t,n,kk,b,z,v0,T,hl,hd,hdt,hn,hI,hval,hk0,hz,hSd,⟨k0,m0,hk0',hm0,hlt0,hnS0⟩,hinv⟩
 ·by_cases hA:late=some i∧∃n k m,eN its i=some n∧eN its k=some m∧ju bT ins chk m=true∧m<n∧¬S k
  ·
   obtain⟨hl,n',k',m',hn',hk',hm',hlt',hnS'⟩:=hA;obtain⟨hbd,o',T,t,n,kk,z,l1,l2,l3,l4,l5,l6,l7,l8,l9⟩:=hok.lateOk i hl;rw[ho]at l1;cases l1;rw[l5]at hn';cases hn';have hitem:=hok.item i o ho;rcases hitem with⟨h1,_⟩|⟨m,I,h1,h2,h3,h4,_⟩
   ·rw[h1]at l5;cases l5
   rw[h1]at l5;cases l5;rw[l6]at h2;cases h2;rw[l2]at h4;simp only[Gk,am]at h4;obtain⟨z1,z2⟩:=h4;obtain⟨z3,z4⟩:=jD z1;obtain⟨ii,v0,i1,i2,i3,i4⟩:=pU z2;unfold wpOpIn;rw[ho];simp only;have hw:Region.wanted o (yielded ops a.tmps)=true:=by unfold Region.wanted;rw[l3]
   rw[if_pos hw];refine⟨fun f _=>hF.fn f,?_⟩;have hex:(execOp a.eval o).run P w=.ok (.value (.pointer (some ⟨w.heap.size,0,none⟩))) (iw w (.cells v0.cells T (0,0))):=by
    unfold execOp;rw[l2];simp[Instr.alloc,i3,newVar,newRow];rfl
   rw[Oper.semAt_eq _ _ _ (fun q e=>by rw[e]at l2;cases l2),hex];obtain⟨cl,lt,c,p,hs,hst,hcut,hv,hun,hts,hdf,_⟩:=hinv;obtain⟨s1,x1⟩:=hs.over (w':=iw w (.cells v0.cells T (0,0))) (fun b hb _=>fa hb) (by rw[eu];omega);have st1:gG c w c (iw w (.cells v0.cells T (0,0))):={ x1 with same:=lW,size:=by rw[eu];omega,frame:=fun b hb _=>fa hb,liv:=fun i b h1 h2 _=>⟨i,h1,h2⟩,old:=fun _ h _=>.inl h,oldb:=fun _ h _=>.inl h };have hdsz:t<a.tmps.size:=by rw[hts];exact aN (hok.dst _ _ _ ho l4) hsz
   refine .inr ⟨i,o,t,_,kk,w.heap.size,z,v0,T,hl,ho,l4,h1,l6,h3,z4,i4,.inr rfl,⟨k',m',hk',hm',hlt',fun h=>h.elim hnS' fun e=>?_⟩,fun j k hj hk=>?_,fun j hj=>?_,c,p,s1,hst.trans st1,?_,fun j oj dj hj hoj hdj=>?_,fun t' ht' hx'=>?_,?_,?_,fun t' b' ob' e=>?_⟩
   ·subst e;rw[h1]at hk';cases hk';omega
   ·have hj':S j:=hj.1.resolve_right hj.2;refine⟨.inl (cl j k hj' hk),fun e=>?_⟩;subst e;exact hi (cl j k hj' hk)
   ·exact lt j (hj.1.resolve_right hj.2)
   ·refine⟨hcut.1.imp id fun ⟨k,q,q1,q2⟩=>⟨k,q,⟨.inl q1,fun e=>hi (e▸q1)⟩,q2⟩,fun k q q1 q2=>?_⟩;rw[←hcut.2 k q q1 q2];exact⟨fun h=>h.1.resolve_right h.2,fun h=>⟨.inl h,fun e=>hi (e▸h)⟩⟩
   ·have hj':S j:=hj.1.resolve_right hj.2;have hne:¬dj=t:=fun e=>by
     subst e;exact hj.2 (hok.uniq _ _ _ _ _ hoj ho hdj l4)
    rw[l4,rJ hdsz,if_neg hne];exact (hv j oj dj hj' hoj hdj).ext x1
   ·have hne:¬t'=t:=fun e=>hx' _ _ (by rw[e]);rw[l4,rJ hdsz,if_neg hne];exact hun t' (fun j oj hj=>ht' j oj ⟨.inl hj,fun e=>hi (e▸hj)⟩) fun _ _ e=>by cases e
   ·rw[l4];simp[Act.put,hts]
   ·rw[l4];exact hdf
   cases e;refine⟨by rw[l4,rJ hdsz,if_pos rfl],hst.size,nU,fun h=>absurd (hs.low _ h) (dn _),fun id h1 h2=>absurd (hs.plow id _ h1 h2).1 (dn _)⟩
  refine wpOpIn_mono (fun a' w' h=>.inl h) (JF (Q:=Q) (n0:=n0) hok hT hp hchk hC hR hF hg ht0 hsz ho (x:=none) (fun _ _ _ e=>by cases e) hi (fun n hn hw k m hk hkm hm=>?_) hb hinv);by_cases hl:late=some i
  ·by_cases hS:S k
   ·exact hS
   exact absurd ⟨hl,n,k,m,hn,hkm,hm,hok.mono _ _ _ _ hkm hn hk,hS⟩ hA
  exact hb k (ord hl n hn hw k m hk hkm hm)
 obtain⟨hbd,o',T',t',n',kk',z',l1,l2,l3,l4,l5,l6,l7,l8,l9⟩:=hok.lateOk d hl;rw[hd]at l1;cases l1;rw[hdt]at l4;cases l4;rw[hn]at l5;cases l5;have hid:i≠d:=fun e=>hi (e▸hSd);have hli:late≠some i:=fun e=>by rw[hl]at e;cases e;exact hid rfl
 have hnbd:¬(bef i).testBit d=true:=fun h=>hnS0 (hb k0 (l8 i h k0 m0 hk0' hm0 hlt0));have hb':∀k,(bef i).testBit k=true→S k∧k≠d:=fun k hk=>⟨hb k hk,fun e=>by subst e;exact hnbd hk⟩;refine wpOpIn_mono (fun a' w' h=>?_) (JF (Q:=Q) (n0:=n0) hok hT hp hchk hC hR hF hg ht0 hsz ho (x:=some (t,b,.cells v0.cells T (0,0))) (fun t1 b1 ob1 e=>?_) (fun h=>hi h.1) (fun n1 hn1 hw1 k m hk hkm hm=>hb' k (ord hli n1 hn1 hw1 k m hk hkm hm)) hb' hinv)
 ·by_cases hmore:∃k m,eN its k=some m∧ju bT ins chk m=true∧m<n∧¬(S k∨k=i)
  ·refine .inr ⟨d,od,t,n,kk,b,z,v0,T,hl,hd,hdt,hn,hI,hval,hk0,hz,.inl hSd,hmore,h.congr fun j=>?_⟩;constructor
   ·rintro (⟨h1,h2⟩|rfl)
    ·exact⟨.inl h1,h2⟩
    exact⟨.inr rfl,hid⟩
   rintro⟨h1|rfl,h2⟩
   ·exact .inl ⟨h1,h2⟩
   exact .inr rfl
  have hall:∀k m,eN its k=some m→ju bT ins chk m=true→m<n→(S k∧k≠d)∨k=i:=fun k m h1 h2 h3=>by
   by_cases h4:S k∨k=i
   ·rcases h4 with h4|h4
    ·refine .inl ⟨h4,fun e=>?_⟩;subst e;rw[hn]at h1;cases h1;omega
    exact .inr h4
   exact absurd ⟨k,m,h1,h2,h3,h4⟩ hmore
  have:=Tn hok hT hp hchk hd hdt hn hI l7 hval hk0 hz hbd (S:=fun j=>(S j∧j≠d)∨j=i) (fun h=>h.elim (fun h=>h.2 rfl) fun e=>hid e.symm) hall h;refine .inl (this.congr fun j=>?_);constructor
  ·rintro ((⟨h1,h2⟩|rfl)|rfl)
   ·exact .inl h1
   ·exact .inr rfl
   exact .inl hSd
  rintro (h1|rfl)
  ·by_cases e:j=d
   ·exact .inr e
   exact .inl (.inl ⟨h1,e⟩)
  exact .inl (.inr rfl)
 cases e;refine⟨?_,fun e=>hid (hok.uniq _ _ _ _ _ ho hd e hdt)⟩;cases hq:G2 ops.toList em its bef i t with
 |none=>rfl
 |some q=>exact absurd (l9 i hio hid (by rw[hq];simp)) hnbd
theorem F2.final(hok:vv M P bT ops ins em its bef chk late nt){S:Nat→Prop}(hS:∀i,i<ops.size→S i){a:Act}{w:World}(hinv:F2 M P bT ops ins its bef chk late env ls s c0 w0 a0 S a w):vE M bT ops ins its bef chk env ls s c0 w0 a0 none S a w:=by
 rcases hinv with h|⟨d,o,t,n,kk,b,z,v0,T,hl,hd,hdt,hn,hI,hval,hk0,hz,hSd,⟨k0,m0,hk0',hm0,hlt0,hnS0⟩,hinv⟩
 ·exact h
 have hkl:k0<ops.size:=by
  rw[←hok.size];unfold eN at hk0';obtain⟨x,hx,_⟩:=bv hk0';exact (ak.1 hx).1
 exact absurd (hS k0 hkl) hnS0
theorem F2.congr{S S':Nat→Prop}(h:∀i,S i↔S' i){a:Act}{w:World}(hi:F2 M P bT ops ins its bef chk late env ls s c0 w0 a0 S a w):F2 M P bT ops ins its bef chk late env ls s c0 w0 a0 S' a w:=by
 have:S=S':=funext fun i=>propext (h i);rw[←this];exact hi
theorem F2.closed(hok:vv M P bT ops ins em its bef chk late nt){S:Nat→Prop}{a:Act}{w:World}(hinv:F2 M P bT ops ins its bef chk late env ls s c0 w0 a0 S a w):∀i k,S i→(bef i).testBit k=true→S k:=by
 rcases hinv with h|⟨d,o,t,n,kk,b,z,v0,T,hl,hd,hdt,hn,hI,hval,hk0,hz,hSd,_,hinv⟩
 ·exact h.1
 intro i k hi hk;by_cases e:i=d
 ·subst e;rw[(hok.lateOk i hl).1]at hk;simp at hk
 exact (hinv.1 i k ⟨hi,e⟩ hk).1
theorem Ev(hm:P.follows .mixedOrders=true)(he:PU ops bef)(hok:vv M P bT ops ins em its bef chk late nt)(hT:xS C env ins ls s)(hp:tW bT C)(hchk:∀(n j:Nat) (I:bC),(n,j)∈chk→ins[n]?=some I→aY C env (ls.take n) (s j) I.op=some (lU ls n,s j))
  (hC:jG M P C) (hR:ji M P C) (hF:qk F) (hg:iR M w0 c0) (hs:ek M w0 c0 (s 0)) (ht0:lc M w0 c0 env [] (t7 em) a0.tmps) (hsz:nt≤a0.tmps.size) (hos:ub ops.toList em its os=true)
  (hQ:∀a w,UR M em env ls os c0 w0 a0 (s ins.length) a w→Q .normal a w) (id:Nat):(Code.region id ops true).wpIn F n0 P Q a0 w0:=by
 apply wpIn_region_any hm;have key:∀(dp:Nat) (listed:Array Bool) (a:Act) (w:World),listed.size=ops.size→listed.toList.countP (fun b=>!b)≤dp→F2 M P bT ops ins its bef chk late env ls s c0 w0 a0 (fun j=>listed[j]?=some true) a w →
   wpAnyIn F n0 P .any ops Q dp listed a w:=by
  intro dp;have done:∀(listed:Array Bool) (a:Act) (w:World),listed.size=ops.size→(∀i,i<ops.size→listed[i]?=some true)→F2 M P bT ops ins its bef chk late env ls s c0 w0 a0 (fun j=>listed[j]?=some true) a w→Q .normal a w:=fun listed a w hz hall hinv=>
   hQ a w (HW hok hT hp hchk ht0 hos hall (hinv.final hok hall))
  have allOf:∀(listed:Array Bool),listed.size=ops.size→Region.ready .any ops listed=[]→∀i,i<ops.size→listed[i]?=some true:=fun listed hz hr i=>by
   induction i using Nat.strongRecOn with
   |_ i ih=>
    intro hi;have hi':i<listed.size:=by omega
    cases hb:listed[i] with
    |true=>rw[bW hi',hb]
    |false=>
     have:i∈Region.ready .any ops listed:=A9.2 ⟨hi,by simp[Array.getD,hi',hb],ops[i],by simp[hi],fun e hee hbd=>by
      have hlt:=he.low i ops[i] (by simp[hi]) e hee hbd;have:=ih e.on hlt (by omega);simp[bA,this]⟩
     rw[hr]at this;cases this
  induction dp with
  |zero=>
   intro listed a w hz hc hinv;have hall:∀i,i<ops.size→listed[i]?=some true:=fun i hi=>by
    have hi':i<listed.size:=by omega
    have h0:=List.countP_eq_zero.1 (Nat.le_zero.1 hc) listed[i] (by simp);rw[bW hi'];simpa using h0
   refine⟨?_,done listed a w hz hall hinv⟩;rw[List.eq_nil_iff_forall_not_mem];intro i hi;obtain⟨h1,h2,_⟩:=A9.1 hi;have:=hall i h1;rw[bA,this]at h2;cases h2
  |succ dp ih=>
   intro listed a w hz hc hinv;refine⟨fun hr=>done listed a w hz (allOf listed hz hr) hinv,fun i hi=>?_⟩;obtain⟨h1,h2,o,ho,h3⟩:=A9.1 hi;have hi':i<listed.size:=by omega
   have hfalse:listed[i]=false:=by simpa [Array.getD,hi'] using h2
   have hset:∀j,(listed.setIfInBounds i true)[j]?=some true↔(listed[j]?=some true∨j=i):=fun j=>by
    rw[dt];by_cases e:i=j
    ·subst e;simp[hi']
    have:¬j=i:=fun h=>e h.symm;simp[e,this]
   refine wpOpIn_mono (fun a' w' h=>ih (listed.setIfInBounds i true) a' w' (by simpa using hz) ?_ h) ?_
   ·rw[Array.toList_setIfInBounds,List.countP_set (by simpa using hi')];simp only[gJ,hfalse,Bool.not_false,bU,pp,aH,bQ];have:0<listed.toList.countP (fun b=>!b):=List.countP_pos_iff.2 ⟨false,by rw[←hfalse];simp,rfl⟩;omega
   have:=Wd (Q:=Q) (n0:=n0) hok hT hp hchk hC hR hF hg ht0 hsz ho (S:=fun j=>listed[j]?=some true) (by rw[bW hi',hfalse];simp) (fun k hk=>by
    obtain⟨e,e1,e2,e3⟩:=he.clos i o ho k hk;have hl:listed[e.on]?=some true:=by
     have:=h3 e e1 e2;rw[bA]at this;cases hq:listed[e.on]? with
     |none=>rw[hq]at this;cases this
     |some b=>rw[hq]at this;simp at this;rw[this]
    rcases e3 with rfl|e3
    ·exact hl
    exact hinv.closed hok e.on k hl e3) hinv
   exact wpOpIn_mono (fun a' w' h=>h.congr fun j=>(hset j).symm) this
 refine key ops.size _ a0 _ (by simp) ?_ ?_
 ·exact aZ (List.countP_le_length) (by simp)
 refine .inl (HO (w0:=w0) (w:={ w0 with drawn:=w0.drawn+1 }) (hs.heap rfl) (gG.ofHeap rfl ⟨rfl,rfl,rfl,aB _⟩) fun i h=>?_);rw[Array.getElem?_replicate]at h;split at h<;>cases h
end
end Go.AM
namespace Go.AM
variable {M:cO} {w:World}
structure adO (fl:Bool) (base:Nat) (c d:cJ):Prop where
 sld:∀b,c.sld b→d.sld b
 sb:∀b,d.sld b→d.bor b
 bor:∀b,c.bor b→d.bor b
 gone:∀id b,base≤id→c.H id≠.dead→c.place id=some b→if fl then d.bor b else d.sld b
 N:∀id,id<base→id<c.N→id<d.N
 keep:∀id,id<base→id<c.N→(d.H id=c.H id∧(c.H id≠.dead→d.place id=c.place id∧d.room id=c.room id∧d.loops id=c.loops id))∨d.H id=.dead
def cJ.view(d:cJ)(fl top:Bool):cJ:=if top then d else d.still fl
theorem nJ{d:cJ}{fl top:Bool}:(d.view fl top).sld=d.sld:=by cases top<;>rfl
theorem wW{d:cJ}{fl top:Bool}(h:fl=true∨top=true):(d.view fl top).bor=d.bor:=by cases top<;>cases fl<;>first|rfl|simp at h
theorem Er{d:cJ}{top:Bool}:(d.view true top).bor=d.bor:=by cases top<;>rfl
theorem yv{d:cJ}{fl top:Bool}:(d.view fl top).still fl=d.still fl:=by cases top<;>cases fl<;>rfl
theorem T6{d:cJ}{fl top:Bool}(hsb:∀b,d.sld b→d.bor b):Ext (d.still fl) w (d.view fl top) w:=by
 cases top
 ·exact .refl _ _
 exact .ofStill hsb fl
theorem qQ{c d:cJ}{b:Bool}(h1:∀x,c.sld x→d.sld x)(h2:b=true→∀x,c.bor x→d.bor x):Ext (c.still b) w (d.still b) w where
 sld:=h1
 bor:=fun x hx=>by
  cases b
  ·exact h1 x hx
  exact h2 rfl x hx
 rest:=fun _ _=>rfl
 N:=aB _
 head:=fun id hid=>absurd hid (cF _)
 place:=fun id hid=>absurd hid (cF _)
theorem Xx{fl top:Bool}{base:Nat}{σ:aw}{n:Nat}{v:ap}(h:isAgg v=false):isAgg (fz fl top base σ n v)=false:=by
 cases n with
 |zero=>rfl
 |succ n=>
  have hl:∀l l',isAgg (kU fl l l')=false:=fun l l'=>by unfold kU;split<;>rfl
  have hc':∀g x x' o,isAgg (iF g x x' o)=false:=fun g x x' o=>by unfold iF;split<;>rfl
  have hc:∀x x' o,isAgg (iF fl x x' o)=false:=fun x x' o=>hc' _ _ _ _;have ho:∀{α:Type} (o:Option α) (f:α→ap),(∀a,isAgg (f a)=false)→isAgg (o.elim .any f)=false:=fun o f hf=>by cases o<;>first|rfl|exact hf _
  cases v with
  |agg cs=>simp[isAgg]at h
  |aa b xs=>simp only[fz];split<;>rfl
  |ai=>simp only[fz];split<;>rfl
  |imap b xs=>simp only[fz];split<;>rfl
  |lst xs=>exact hl _ _
  |cptr b x o=>
   simp only[fz];cases b
   ·rfl
   cases fl
   ·cases top
    ·rfl
    exact hc' _ _ _ _
   exact hc _ _ _
  |sl id ep off len=>
   simp only[fz];split
   ·split<;>rfl
   exact ho _ _ fun l=>hl _ _
  |ptr id ep i off=>
   simp only[fz];split
   ·split<;>rfl
   exact ho _ _ fun l=>hc _ _ _
  |mp id=>
   simp only[fz];split
   ·split<;>rfl
   exact ho _ _ fun l=>rfl
  |asl id ep i off m=>simp only[fz];split<;>rfl
  |yld l s e=>simp only[fz];split<;>rfl
  |it id=>simp only[fz];split<;>rfl
  |_=>rfl
section
variable {fl:Bool} {base:Nat} {σ:aw} {c d:cJ}
def YQ(M:cO)(w:World)(fl:Bool)(base:Nat)(σ:aw)(c d:cJ)(n:Nat):Prop:=∀(top:Bool) (v:ap) (cv:Value),R M w c v cv→R M w (d.view fl top) (fz fl top base σ n v) cv
theorem A6{n:Nat}{top:Bool}(ih:∀m,m≤n→YQ M w fl base σ c d m){x:ap}{f:Nat→Value}(h:∀j (hj:j<(cellsOf x).length),R M w c (cellsOf x)[j] (f j)) :
  ∀j (hj:j<(cellsOf (fz fl top base σ n x)).length),R M w (d.view fl top) (cellsOf (fz fl top base σ n x))[j] (f j):=by
 intro j hj;cases ha:isAgg x with
 |true=>
  obtain⟨cs,rfl⟩:=pk ha;cases n with
  |zero=>
   have e:cellsOf (fz fl top base σ 0 (.agg cs))=[.any]:=rfl;simp only[e,cn,cK]at hj ⊢;have:j=0:=by omega
   subst this;exact .any
  |succ n=>
   have e:cellsOf (fz fl top base σ (n+1) (.agg cs))=cs.map (fz fl top base σ n):=rfl;simp only[e,cR,cP]at hj ⊢;exact ih n (by omega) top _ _ (h j hj)
 |false=>
  have e:cellsOf (fz fl top base σ n x)=[fz fl top base σ n x]:=pn (Xx ha);have e2:cellsOf x=[x]:=pn ha;simp only[e,cn,cK]at hj ⊢;have:j=0:=by omega
  subst this;have h0:=h 0 (by rw[e2];simp);simp only[e2,cC]at h0;exact ih n (aB _) top _ _ h0
theorem D6{n:Nat}(ih:∀m,m≤n→YQ M w fl base σ c d m){x:ap}{f:Nat→Value}(h:∀j (hj:j<(cellsOf x).length),R M w c (cellsOf x)[j] (f j)) :
  ∀j (hj:j<(cellsOf (fz fl false base σ n x)).length),R M w (d.still fl) (cellsOf (fz fl false base σ n x))[j] (f j):=A6 (top:=false) ih h
theorem yg{l l':List ap}(h:l'.map aC=l.map aC):l'.length=l.length∧∀i (h1:i<l'.length) (h2:i<l.length),aC l'[i]=aC l[i]:=by
 have hl:l'.length=l.length:=by simpa using congrArg List.length h
 refine⟨hl,fun i h1 h2=>?_⟩;have:=congrArg (fun q=>q[i]?) h;simpa [h1,h2] using this
theorem Mm{n:Nat}(hd:∀b,d.sld b→d.bor b)(ih:∀m,m≤n→YQ M w fl base σ c d m){top:Bool}{l:List ap}{a:Addr}{cap K:Nat}{f:Nat→Nat→Value}(hb:if fl then d.bor a.block else d.sld a.block)(ha:a.spot=none)(hcap:l.length≤cap)(hK:K≠0)
  (hn:∀x∈l,aC x=K) (hc:∀i j,i<l.length→j<K→w.cell? ⟨a.block,a.off+i*K+j,none⟩=some (f i j)∧(f i j).oneCell'=true)
  (hr:∀i (hi:i<l.length) j (hj:j<(cellsOf l[i]).length),R M w c (cellsOf l[i])[j] (f i j)) :
  R M w (d.view fl top) (kU fl l (l.map (fz fl false base σ n))) (.slice (some a) l.length cap):=by
 unfold kU;split
 ·rename_i hm;obtain⟨m1,m2⟩:=yg hm;have hlen:(l.map (fz fl false base σ n)).length=l.length:=by simp
  have:=R.aa (M:=M) (w:=w) (c:=d.view fl top) (b:=fl) (xs:=l.map (fz fl false base σ n)) (cap:=cap) (a:=a) K f (by
    cases fl
    ·rw[nJ];exact hb
    ·rw[Er];exact hb) ha (by rw[hlen];exact hcap) hK (fun x hx=>by
    obtain⟨i,hi,rfl⟩:=bP.1 hx;rw[m2 i hi (by rw[←hlen];exact hi)];exact hn _ (aO _)) (fun i j hi hj=>hc i j (by rw[←hlen];exact hi) hj) (fun i hi j hj=>by
    rw[yv];have hi':i<l.length:=by rw[←hlen];exact hi
    simp only[cP]at hj ⊢;exact D6 ih (hr i hi') j hj)
  rw[hlen]at this;exact this
 exact .any
theorem Lq{n:Nat}(hd:∀b,d.sld b→d.bor b)(ih:∀m,m≤n→YQ M w fl base σ c d m){top:Bool}{x:ap}{off o blk:Nat}{f:Nat→Value}(hb:if fl then d.bor blk else d.sld blk)(hn:aC x≠0)
  (hc:∀j,j<aC x→w.cell? ⟨blk,o+j,none⟩=some (f j)∧(f j).oneCell'=true) (hr:∀j (hj:j<(cellsOf x).length),R M w c (cellsOf x)[j] (f j)) :
  R M w (d.view fl top) (iF fl x (fz fl false base σ n x) off) (.pointer (some ⟨blk,o+off,none⟩)):=by
 unfold iF;split
 ·rename_i hm;refine .cptr f ?_ (by omega) (fun j hj=>hc j (by omega)) fun j hj=>?_
  ·cases fl
   ·rw[nJ];exact hb
   rw[Er];exact hb
  have:=D6 ih hr j hj;cases fl
  ·have e:(if false=true then d.view false top else (d.view false top).still false)=d.still false:=yv (fl:=false);rw[e];exact this
  exact this.ext (T6 hd)
 exact .any
theorem YQ.zero:YQ M w fl base σ c d 0:=fun _ _ _ _=>.any
theorem aaR{id ep k:Nat}{es:List ap}(hs:ek M w c σ)(ho:σ[id]?=some (.arr k ep es))(h:∀k e,c.H id=.arr k e→ep<e):False:=
 absurd (h k ep (by rw[hs.H,dV ho])) (dn _)
theorem O1(hs:ek M w c σ)(ht:adO fl base c d):∀n,YQ M w fl base σ c d n:=by
 intro n;induction n using Nat.strongRecOn with
 |_ n ihs=>
 cases n with
 |zero=>exact YQ.zero
 |succ n=>
  have ih:∀m,m≤n→YQ M w fl base σ c d m:=fun m hm=>ihs m (by omega);have IH:∀{top:Bool} {v:ap} {cv:Value},R M w c v cv→R M w (d.view fl top) (fz fl top base σ n v) cv:=fun {top v cv} h=>ih n (aB _) top v cv h;intro top v cv h;have bsld:∀b,d.sld b→(if fl then d.bor b else d.sld b):=fun b hb=>by
   cases fl
   ·exact hb
   exact ht.sb b hb
  cases h with
  |any=>exact .any
  |int=>exact .int
  |bool=>exact .bool
  |str h=>exact .str h
  |nilp=>exact .nilp
  |nilf=>exact .nilf
  |nilm=>exact .nilm
  |@ai _ a=>
   show R M w _ (if !fl&&top then .ai else .aa false []) _;split
   ·exact .ai
   exact .imm0
  |emp h=>exact .emp h
  |@agg _ cs vs f h1 h2 h3 h4=>
   show R M w _ (.agg (cs.map (fz fl top base σ n))) _;have hr:∀i (hi:i<(cs.map (fz fl top base σ n)).length),R M w (d.view fl top) (cs.map (fz fl top base σ n))[i] (f i):=fun i hi=>by
    rw[cP];exact IH (h4 i (by simpa using hi))
   exact .agg f (by simpa using h1) (fun i hi=>h2 i (by simpa using hi)) (fun i hi=>(hr i hi).small (h2 i (by simpa using hi)).2) hr
  |@tup _ cs vs f h1 h2 h3=>
   show R M w _ (.tup (cs.map (fz fl top base σ n))) _
   exact .tup f (by simpa using h1) (fun i hi=>h2 i (by simpa using hi)) fun i hi=>by
    rw[cP];exact IH (h3 i (by simpa using hi))
  |@fn _ g first cap fs cs f1 f2 h1 h2 h3 h4 h5 h6=>
   show R M w _ (.fn g (first.map (fz fl top base σ n)) (cap.map (fz fl top base σ n))) _
   exact .fn f1 f2 (by simpa using h1) (by simpa using h2) (fun i hi=>h3 i (by simpa using hi)) (fun i hi=>h4 i (by simpa using hi)) (fun i hi=>by
    rw[cP];exact IH (h5 i (by simpa using hi))) (fun i hi=>by rw[cP];exact IH (h6 i (by simpa using hi)))
  |@aa _ b xs cap a K f h1 h2 h3 h4 h5 h6 h7=>
   show R M w _ (if b&&!fl&&!top then .any else .aa b xs) _;split
   ·exact .any
   rename_i hc;have hbf:b=true→fl=true∨top=true:=fun e=>by subst e;cases fl<;>cases top<;>simp at hc ⊢
   refine .aa K f ?_ h2 h3 h4 h5 h6 fun i hi j hj=>(h7 i hi j hj).ext (qQ (fun x hx=>by rw[nJ];exact ht.sld x hx) fun e x hx=>?_)
   ·cases b
    ·rw[nJ];exact ht.sld _ h1
    rw[if_pos rfl,wW (hbf rfl)];exact ht.bor _ h1
   rw[wW (hbf e)];exact ht.bor _ hx
  |@imm0 _ b cap a=>
   show R M w _ (if b&&!fl&&!top then .any else .aa b []) _;split
   ·exact .any
   exact .imm0
  |@lst _ xs cap a K f h1 h2 h3 h4 h5 h6 h7=>
   exact Mm ht.sb ih (bsld _ (ht.sld _ h1)) h2 h3 h4 h5 h6 h7
  |@lst0 _ cap a=>exact .imm0
  |@cptr _ b x off o blk f h1 h2 h3 h4=>
   show R M w _ (if b then (if fl then iF true x (fz fl false base σ n x) off else if top then iF true x (fz fl top base σ n x) off else .any) else .cptr false x off) _;cases b with
   |true=>
    cases fl with
    |true=>exact Lq (fl:=true) ht.sb ih (ht.bor _ h1) h2 h3 h4
    |false=>
     cases top with
     |false=>exact .any
     |true=>
      show R M w d (iF true x (fz false true base σ n x) off) _;unfold iF;split
      ·rename_i hm;exact .cptr f (ht.bor _ h1) (by omega) (fun j hj=>h3 j (by omega)) fun j hj=>A6 (top:=true) ih h4 j hj
      exact .any
   |false=>
    refine .cptr f (by rw[nJ];exact ht.sld _ h1) h2 h3 fun j hj=>?_;exact (h4 j hj).ext (qQ (fun x hx=>by rw[nJ];exact ht.sld x hx) fun e=>by cases e)
  |@imap _ b es r clock en f g h1 h2 h3 h4 h5 h6=>
   show R M w _ (if b&&!fl&&!top then .any else .imap b es) _;split
   ·exact .any
   rename_i hc;have hbf:b=true→fl=true∨top=true:=fun e=>by subst e;cases fl<;>cases top<;>simp at hc ⊢
   have hx:Ext (c.still b) w ((d.view fl top).still b) w:=qQ (fun x hx=>by rw[nJ];exact ht.sld x hx) fun e x hx=>by
    rw[wW (hbf e)];exact ht.bor _ hx
   refine .imap f g ?_ h2 h3 h4 (fun i hi=>(h5 i hi).ext hx) (fun i hi=>(h6 i hi).ext hx);cases b
   ·rw[nJ];exact ht.sld _ h1
   rw[if_pos rfl,wW (hbf rfl)];exact ht.bor _ h1
  |@sl _ id ep off len cap k blk h1 h2 h3 h4 h5=>
   show R M w _ (if id<base then (if top then .sl id ep off len else .any) else (sliceAt σ id ep off len).elim .any fun l=>kU fl l (l.map (fz fl false base σ n))) _;split
   ·rename_i hb;cases top with
    |false=>exact .any
    |true=>
     rcases ht.keep id hb h1 with⟨k1,k2⟩|k1
     ·obtain⟨p1,p2,_⟩:=k2 (by rw[h2];simp);exact .sl (ht.N id hb h1) (k1.trans h2) (p1.trans h3) h4 (by show _≤d.room id;rw[p2];exact h5)
     exact .slOld rfl (ht.N id hb h1) (by show ∀k e,d.H id=_→_;rw[k1];simp) (by show d.H id≠_;rw[k1];simp) (by show d.H id≠_;rw[k1];simp)
   rename_i hb;cases hsl:sliceAt σ id ep off len with
   |none=>exact .any
   |some l=>
    obtain⟨k2,es,ho,hl,rfl⟩:=nA hsl;have hH:c.H id=.arr k2 ep:=by rw[hs.H,dV ho]
    have hkk:k=k2:=by rw[hH]at h2;cases h2;rfl
    subst hkk;obtain⟨o1,o2,o3,o4⟩:=hs.obj id _ ho;obtain⟨cs,T,F,q1,q2,q3,q4,q5⟩:=o4 blk h3;have hlen:((es.drop off).take len).length=len:=by simp;omega
    have:=Mm (M:=M) (w:=w) (fl:=fl) (base:=base) (σ:=σ) (c:=c) (d:=d) (n:=n) (top:=top) (l:=(es.drop off).take len) (a:=⟨blk,off*k,none⟩) (cap:=cap) (K:=k) (f:=fun i j=>F (off+i) j) ht.sb ih (ht.gone id blk (by omega) (by rw[h2];simp) h3) rfl (by omega) o1
     (fun x hx=>o2 x (dC (cN hx))) (fun i j hi hj=>by
      rw[hlen]at hi;obtain⟨a1,a2⟩:=q4 (off+i) j (by omega) hj;refine⟨?_,a2⟩;simp only[World.cell?,q1];rw[show off*k+i*k+j=(off+i)*k+j by rw[dy]];exact a1) (fun i hi j hj=>by
      rw[hlen]at hi;have e:((es.drop off).take len)[i]'(by rw[hlen];exact hi)=es[off+i]'(by omega):=by simp
      have hj':j<(cellsOf (es[off+i]'(by omega))).length:=by rw[←e];exact hj
      have:=q5 (off+i) (by omega) j hj';simp only[dB,dY];exact this)
    rw[hlen]at this;exact this
  |@sl0 _ id ep off k a h1 h2=>
   show R M w _ (if id<base then (if top then .sl id ep off 0 else .any) else (sliceAt σ id ep off 0).elim .any fun l=>kU fl l (l.map (fz fl false base σ n))) _;split
   ·rename_i hb;cases top with
    |false=>exact .any
    |true=>
     rcases ht.keep id hb h1 with⟨k1,k2⟩|k1
     ·exact .sl0 (ht.N id hb h1) (k1.trans h2)
     exact .slOld rfl (ht.N id hb h1) (by show ∀k e,d.H id=_→_;rw[k1];simp) (by show d.H id≠_;rw[k1];simp) (by show d.H id≠_;rw[k1];simp)
   cases hsl:sliceAt σ id ep off 0 with
   |none=>exact .any
   |some l=>
    obtain⟨k2,es,ho,hl,rfl⟩:=nA hsl;exact .imm0
  |@slOld _ id ep off len _ h0 h1 h2 h3 h4=>
   show R M w _ (if id<base then (if top then .sl id ep off len else .any) else (sliceAt σ id ep off len).elim .any fun l=>kU fl l (l.map (fz fl false base σ n))) _;split
   ·rename_i hb;cases top with
    |false=>exact .any
    |true=>
     rcases ht.keep id hb h1 with⟨k1,k2⟩|k1
     ·exact .slOld h0 (ht.N id hb h1) (by show ∀k e,d.H id=_→_;rw[k1];exact h2) (by show d.H id≠_;rw[k1];exact h3) (by show d.H id≠_;rw[k1];exact h4)
     exact .slOld h0 (ht.N id hb h1) (by show ∀k e,d.H id=_→_;rw[k1];simp) (by show d.H id≠_;rw[k1];simp) (by show d.H id≠_;rw[k1];simp)
   cases hsl:sliceAt σ id ep off len with
   |none=>exact .any
   |some l=>
    obtain⟨k2,es,ho,hl,rfl⟩:=nA hsl;exact (aaR hs ho h2).elim
  |@ptr _ id ep i off k blk h1 h2 h3=>
   show R M w _ (if id<base then (if top then .ptr id ep i off else .any) else (rS σ id ep i).elim .any fun x=>iF fl x (fz fl false base σ n x) off) _;split
   ·rename_i hb;cases top with
    |false=>exact .any
    |true=>
     rcases ht.keep id hb h1 with⟨k1,k2⟩|k1
     ·obtain⟨p1,p2,_⟩:=k2 (by rw[h2];simp);exact .ptr (ht.N id hb h1) (k1.trans h2) (p1.trans h3)
     exact .ptrOld rfl (ht.N id hb h1) (by show ∀k e,d.H id=_→_;rw[k1];simp) (by show d.H id≠_;rw[k1];simp) (by show d.H id≠_;rw[k1];simp)
   rename_i hb;cases hsl:rS σ id ep i with
   |none=>exact .any
   |some x=>
    obtain⟨k2,es,ho,hx⟩:=ym hsl;have hH:c.H id=.arr k2 ep:=by rw[hs.H,dV ho]
    have hkk:k=k2:=by rw[hH]at h2;cases h2;rfl
    subst hkk;obtain⟨b,f,hbp,hcr,hnk,hk0,hcell⟩:=hs.elem ho hx;rw[h3]at hbp;cases hbp;exact Lq (o:=i*k) ht.sb ih (ht.gone id blk (by omega) (by rw[h2];simp) h3) (by omega) (fun j hj=>⟨hcell j (by omega),hcr.one j hj⟩) hcr.rel
  |@ptrOld _ id ep i off _ h0 h1 h2 h3 h4=>
   show R M w _ (if id<base then (if top then .ptr id ep i off else .any) else (rS σ id ep i).elim .any fun x=>iF fl x (fz fl false base σ n x) off) _;split
   ·rename_i hb;cases top with
    |false=>exact .any
    |true=>
     rcases ht.keep id hb h1 with⟨k1,k2⟩|k1
     ·exact .ptrOld h0 (ht.N id hb h1) (by show ∀k e,d.H id=_→_;rw[k1];exact h2) (by show d.H id≠_;rw[k1];exact h3) (by show d.H id≠_;rw[k1];exact h4)
     exact .ptrOld h0 (ht.N id hb h1) (by show ∀k e,d.H id=_→_;rw[k1];simp) (by show d.H id≠_;rw[k1];simp) (by show d.H id≠_;rw[k1];simp)
   cases hsl:rS σ id ep i with
   |none=>exact .any
   |some x=>
    obtain⟨k2,es,ho,hx⟩:=ym hsl;exact (aaR hs ho h2).elim
  |@asl _ id ep i off m k blk h1 h2 h3=>
   show R M w _ (if id<base&&top then .asl id ep i off m else .any) _;split
   ·rename_i hc;simp only[am,aR]at hc;obtain⟨hb,rfl⟩:=hc;rcases ht.keep id hb h1 with⟨k1,k2⟩|k1
    ·obtain⟨p1,p2,_⟩:=k2 (by rw[h2];simp);exact .asl (ht.N id hb h1) (k1.trans h2) (p1.trans h3)
    exact .aslOld (ht.N id hb h1) (by show ∀k e,d.H id=_→_;rw[k1];simp) (by show d.H id≠_;rw[k1];simp) (by show d.H id≠_;rw[k1];simp)
   exact .any
  |@aslOld _ id ep i off m _ h1 h2 h3 h4=>
   show R M w _ (if id<base&&top then .asl id ep i off m else .any) _;split
   ·rename_i hc;simp only[am,aR]at hc;obtain⟨hb,rfl⟩:=hc;rcases ht.keep id hb h1 with⟨k1,k2⟩|k1
    ·exact .aslOld (ht.N id hb h1) (by show ∀k e,d.H id=_→_;rw[k1];exact h2) (by show d.H id≠_;rw[k1];exact h3) (by show d.H id≠_;rw[k1];exact h4)
    exact .aslOld (ht.N id hb h1) (by show ∀k e,d.H id=_→_;rw[k1];simp) (by show d.H id≠_;rw[k1];simp) (by show d.H id≠_;rw[k1];simp)
   exact .any
  |@mp _ id blk h1 h2 h3=>
   show R M w _ (if id<base then (if top then .mp id else .any) else (gj σ id).elim .any fun es=>.imap fl (es.map fun e=>(e.1,fz fl false base σ n e.2))) _;split
   ·rename_i hb;cases top with
    |false=>exact .any
    |true=>
     rcases ht.keep id hb h1 with⟨k1,k2⟩|k1
     ·obtain⟨p1,p2,_⟩:=k2 (by rw[h2];simp);exact .mp (ht.N id hb h1) (k1.trans h2) (p1.trans h3)
     exact .mpOld rfl (ht.N id hb h1) k1
   rename_i hb;cases he:gj σ id with
   |none=>exact .any
   |some es=>
    unfold gj at he;split at he
    ·rename_i es' ho;cases he;obtain⟨b,cl,en,f,g,q1,q2,q3,q4,q5,q6⟩:=hs.obj id _ ho;rw[q1]at h3;cases h3;have hgone:=ht.gone id _ (by omega) (by rw[h2];simp) q1;refine .imap f g ?_ q2 (by simpa using q3) (fun i hi=>?_) (fun i hi=>?_) (fun i hi=>?_)
     ·cases fl
      ·rw[nJ];exact hgone
      rw[Er];exact hgone
     ·obtain⟨e,e1,e2,e3,e4⟩:=q4 i (by simpa using hi);exact⟨e,e1,e2,e3,by simpa using e4⟩
     ·obtain⟨e,e1,e2,e3,e4⟩:=q4 i (by simpa using hi);simp only[cP];exact P6 (q5 i (by simpa using hi)) e4.1
     rw[yv];simp only[cP];exact IH (top:=false) (q6 i (by simpa using hi))
    cases he
  |@mpOld _ id _ h0 h1 h2=>
   show R M w _ (if id<base then (if top then .mp id else .any) else (gj σ id).elim .any fun es=>.imap fl (es.map fun e=>(e.1,fz fl false base σ n e.2))) _;split
   ·rename_i hb;cases top with
    |false=>exact .any
    |true=>
     rcases ht.keep id hb h1 with⟨k1,k2⟩|k1
     ·exact .mpOld h0 (ht.N id hb h1) (k1.trans h2)
     exact .mpOld h0 (ht.N id hb h1) k1
   cases he:gj σ id with
   |none=>exact .any
   |some es=>
    unfold gj at he;split at he
    ·rename_i es' ho;rw[hs.H,dV ho]at h2;cases h2
    cases he
  |@yld _ l site env em blk f h1 h2 h3 h4 h5 h6 h7=>
   show R M w _ (if l<base&&top then .yld l site (env.map (fz fl top base σ n)) else .any) _;split
   ·rename_i hc;simp only[am,aR]at hc;obtain⟨hb,rfl⟩:=hc;rcases ht.keep l hb h1 with⟨k1,k2⟩|k1
    ·obtain⟨p1,p2,p3⟩:=k2 (by rw[h2];simp);refine .yld f (ht.N l hb h1) (k1.trans h2) (p1.trans h3) (by show M.site site (d.loops l) em;rw[p3];exact h4) (by simpa using h5) (fun i hi hx=>by show (d.loops l).tmps[em[i]]?=_;rw[p3];exact h6 i hi (by simpa using hx)) fun i hx=>?_;rw[cP];exact IH (top:=true) (h7 i (by simpa using hx))
    exact .yldOld rfl (ht.N l hb h1) k1
   exact .any
  |@yldOld _ l site env _ h0 h1 h2=>
   show R M w _ (if l<base&&top then .yld l site (env.map (fz fl top base σ n)) else .any) _;split
   ·rename_i hc;simp only[am,aR]at hc;obtain⟨hb,rfl⟩:=hc;rcases ht.keep l hb h1 with⟨k1,k2⟩|k1
    ·exact .yldOld h0 (ht.N l hb h1) (k1.trans h2)
    exact .yldOld h0 (ht.N l hb h1) k1
   exact .any
  |@it _ id blk h1 h2 h3=>
   show R M w _ (if id<base&&top then .it id else .any) _;split
   ·rename_i hc;simp only[am,aR]at hc;obtain⟨hb,rfl⟩:=hc;rcases ht.keep id hb h1 with⟨k1,k2⟩|k1
    ·obtain⟨p1,_,_⟩:=k2 (by rw[h2];simp);exact .it (ht.N id hb h1) (k1.trans h2) (p1.trans h3)
    exact .itOld rfl (ht.N id hb h1) k1
   exact .any
  |@itOld _ id _ h0 h1 h2=>
   show R M w _ (if id<base&&top then .it id else .any) _;split
   ·rename_i hc;simp only[am,aR]at hc;obtain⟨hb,rfl⟩:=hc;rcases ht.keep id hb h1 with⟨k1,k2⟩|k1
    ·exact .itOld h0 (ht.N id hb h1) (k1.trans h2)
    exact .itOld h0 (ht.N id hb h1) k1
   exact .any
end
end Go.AM
namespace Go.AM
variable {M:cO} {w:World}
def cJ.sealUp(c:cJ)(base:Nat)(τ:aw):cJ:={ c with
 sld:=fun b=>c.sld b∨∃id,base≤id∧c.H id≠.dead∧c.place id=some b
 bor:=fun b=>c.bor b∨∃id,base≤id∧c.H id≠.dead∧c.place id=some b
 H:=hd τ
 N:=τ.length }
def iu(base:Nat)(σ:aw):aw:=(σ.take base).map (aW base σ)
variable {c:cJ} {σ:aw} {base:Nat}
theorem rV(hb:base≤σ.length):(iu base σ).length=base:=by simp[iu];omega
theorem M8{id:Nat}{o:Obj}(h:(iu base σ)[id]?=some o):id<base∧∃o0,σ[id]?=some o0∧o=aW base σ o0:=by
 unfold iu at h;rw[dA]at h;obtain⟨o0,h1,h2⟩:=aX h;rw[dO]at h1;split at h1
 ·exact⟨by assumption,o0,h1,h2.symm⟩
 cases h1
theorem Tt{id:Nat}{o:Obj}(hid:id<base)(h:σ[id]?=some o):(iu base σ)[id]?=some (aW base σ o):=by
 unfold iu;rw[dA,dO,if_pos hid,h];rfl
theorem rl{id:Nat}(hid:id<base)(hb:base≤σ.length):hd (iu base σ) id=hd σ id∨hd (iu base σ) id=.dead:=by
 have hlt:id<σ.length:=by omega
 obtain⟨o,ho⟩:∃o,σ[id]?=some o:=⟨_,aq hlt⟩;have h1:=Tt (base:=base) (σ:=σ) hid ho;unfold hd;rw[h1,ho];cases o with
 |arr k ep es=>
  simp only[aW,Ri];by_cases hm:(es.map (bG base σ)).map aC=es.map aC
  ·rw[if_pos hm];exact .inl rfl
  rw[if_neg hm];exact .inr rfl
 |map es=>exact .inl rfl
 |pend b j=>exact .inl rfl
 |it s pos=>exact .inl rfl
 |mit es cur k=>exact .inl rfl
 |dead=>exact .inl rfl
theorem pR(hs:ek M w c σ)(hb:base≤σ.length):adO false base c (c.sealUp base (iu base σ)) where
 sld:=fun b h=>.inl h
 sb:=fun b h=>h.imp (hs.sb b) fun h=>h
 bor:=fun b h=>.inl h
 gone:=fun id b h1 h2 h3=>.inr ⟨id,h1,h2,h3⟩
 N:=fun id h1 _=>by show id<(iu base σ).length;rw[rV hb];exact h1
 keep:=fun id h1 _=>by
  rcases rl (σ:=σ) h1 hb with h|h
  ·exact .inl ⟨by show hd (iu base σ) id=c.H id;rw[h,hs.H],fun _=>⟨rfl,rfl,rfl⟩⟩
  exact .inr h
theorem ek.sealUp(hs:ek M w c σ)(hb:base≤σ.length):ek M w (c.sealUp base (iu base σ)) (iu base σ):=by
 have ht:=pR hs hb;have hF:=fun n=>O1 hs ht n;have live:∀id,hd (iu base σ) id≠.dead→id<base∧c.H id≠.dead:=fun id h=>by
  have hlt:=FM h;rw[rV hb]at hlt;refine⟨hlt,?_⟩;rcases rl (σ:=σ) hlt hb with h'|h'
  ·rw[hs.H,←h'];exact h
  exact absurd h' h
 refine⟨rfl,rfl,ht.sb,fun b h=>?_,fun id b h1 h2=>?_,fun i j b hi hj hbi hbj=>hs.inj i j b (live i hi).2 (live j hj).2 hbi hbj,fun id o ho=>?_⟩
 ·rcases h with h|⟨id,_,h1,h2⟩
  ·exact hs.low b h
  exact (hs.plow id b h1 h2).1
 ·obtain⟨hlt,hl⟩:=live id h1;obtain⟨p1,p2⟩:=hs.plow id b hl h2;refine⟨p1,fun h=>h.elim p2 fun ⟨id',q1,q2,q3⟩=>?_⟩;have:=hs.inj id id' b hl q2 h2 q3;omega
 obtain⟨hlt,o0,h0,rfl⟩:=M8 ho;have hobj:=hs.obj id o0 h0;cases o0 with
 |arr k ep es=>
  simp only[aW,Ri];by_cases hm:(es.map (bG base σ)).map aC=es.map aC
  ·rw[if_pos hm];obtain⟨m1,m2⟩:=yg hm;obtain⟨o1,o2,o3,o4⟩:=hobj;refine⟨o1,fun x hx=>?_,fun hn=>by rw[o3 hn];rfl,fun b hb'=>?_⟩
   ·obtain⟨i,hi,rfl⟩:=bP.1 hx;rw[m2 i hi (by omega)];exact o2 _ (aO _)
   obtain⟨cs,T,f,q1,q2,q3,q4,q5⟩:=o4 b hb';refine⟨cs,T,f,q1,by rw[m1];exact q2,q3,fun i j hi hj=>q4 i j (by omega) hj,fun i hi j hj=>?_⟩;simp only[cP]at hj ⊢;exact A6 (top:=true) (n:=dp) (fun m _=>hF m) (q5 i (by omega)) j hj
  rw[if_neg hm];trivial
 |map es=>
  obtain⟨b,cl,en,f,g,q1,q2,q3,q4,q5,q6⟩:=hobj;refine⟨b,cl,en,f,g,q1,q2,by simpa using q3,fun i hi=>?_,fun i hi=>?_,fun i hi=>?_⟩
  ·obtain⟨e,e1,e2,e3,e4⟩:=q4 i (by simpa using hi);exact⟨e,e1,e2,e3,by simpa using e4⟩
  ·obtain⟨e,e1,e2,e3,e4⟩:=q4 i (by simpa using hi);simp only[cP];exact P6 (q5 i (by simpa using hi)) e4.1
  simp only[cP];exact hF dp true _ _ (q6 i (by simpa using hi))
 |pend bz j=>exact hobj
 |it s pos=>exact hobj
 |mit es cur k=>
  obtain⟨b,r,last,cl,seen,en,f,g,q1,q2,q3,q4,q5,q6,q7,q8,q9,q10,q11⟩:=hobj;have he:Ext (c.still false) w ((c.sealUp base (iu base σ)).still false) w:=qQ (fun b h=>.inl h) (fun h=>by cases h);refine⟨b,r,last,cl,seen,en,f,g,q1,q2,.inl q3,q4,q5,q6,fun i hi=>(q7 i hi).ext he,fun i hi=>(q8 i hi).ext he,q9,q10,fun e h=>?_⟩;obtain⟨l1,st,q,l2,l3,l4,l5⟩:=q11 e h;exact⟨l1,st,q,l2,l3,l4.ext he,l5.ext he⟩
 |dead=>trivial
theorem gG.sealUp{c0:cJ}{w0:World}(h:gG c0 w0 c w)(hs:ek M w c σ)(hN:c0.N=base)(hb:base≤σ.length):gG c0 w0 (c.sealUp base (iu base σ)) w where
 sld:=fun b hb=>.inl (h.sld b hb)
 bor:=fun b hb=>.inl (h.bor b hb)
 rest:=h.rest
 N:=by show c0.N≤(iu base σ).length;rw[rV hb,hN];exact aB _
 head:=fun id hid=>by
  show (c0.H id).le (hd (iu base σ) id);rcases rl (σ:=σ) (show id<base by omega) hb with h'|h'
  ·rw[h',←hs.H];exact h.head id hid
  rw[h'];exact .inr (.inl rfl)
 place:=fun id hid hq hd'=>by
  refine h.place id hid ?_ hd';have hq':c0.H id=hd (iu base σ) id:=hq;rcases rl (σ:=σ) (show id<base by omega) hb with h'|h'
  ·rw[hq',h',←hs.H]
  exact absurd (hq'.trans h') hd'
 same:=h.same
 size:=h.size
 frame:=h.frame
 old:=fun b h1 hx=>by
  rcases h1 with h1|⟨id,_,h2,h3⟩
  ·exact h.old b h1 hx
  exact .inr (h.liv id b h2 h3 hx)
 oldb:=fun b h1 hx=>by
  rcases h1 with h1|⟨id,_,h2,h3⟩
  ·exact h.oldb b h1 hx
  exact .inr (h.liv id b h2 h3 hx)
 liv:=fun id b h1 h2 hx=>by
  refine h.liv id b ?_ h2 hx;have h1':hd (iu base σ) id≠.dead:=h1;have hlt:=FM h1';rw[rV hb]at hlt;rcases rl (σ:=σ) hlt hb with h'|h'
  ·rw[hs.H,←h'];exact h1'
  exact absurd h' h1'
theorem Hu{e:Nat}:∀{l:List Nat} {env:List ap},lU (clear env l) e=lU env e∨lU (clear env l) e=.any
 |[],_=>.inl rfl
 |i::r,env=>by
  simp only[clear];rcases Hu (e:=e) (l:=r) (env:=env.set i .any) with h|h
  ·rw[h];by_cases hi:i=e
   ·subst hi;unfold lU;rw[dc];simp only[bU];split
    ·exact .inr rfl
    exact .inr rfl
   exact .inl (ze hi)
  exact .inr h
theorem lc.clear{env:List ap}{em:List Tmp}{tmps:Array Value}(h:lc M w c env [] (t7 em) tmps)(l:List Nat):lc M w c (clear env l) [] (t7 em) tmps:=fun t x hx=>by
 have hr:=h t x hx;unfold t7 at hx;obtain⟨e,_,rfl⟩:=aX hx;show R M w c (lU (Go.AM.clear env l) e) _;rcases Hu (e:=e) (l:=l) (env:=env) with h'|h'
 ·rw[h'];exact hr
 rw[h'];exact .any
theorem EZ{c0:cJ}{w0:World}{s:St}{em:List Tmp}{tmps:Array Value}{clr:List Nat}(hs:ek M w c s.st)(hst:gG c0 w0 c w)(hN:c0.N=base)(ht:lc M w c s.env [] (t7 em) tmps) :
  ∃c',ek M w c' (aT base clr s).st∧gG c0 w0 c' w∧lc M w c' (aT base clr s).env [] (t7 em) tmps ∧
   ∀r,¬c.bor r→(∀id,c.H id≠.dead→c.place id≠some r)→¬c'.bor r∧∀id,c'.H id≠.dead→c'.place id≠some r:=by
 have hb:base≤s.st.length:=by rw[←hN,←hs.N];exact hst.N
 unfold aT;split
 ·exact⟨c,hs,hst,ht.clear clr,fun r h1 h2=>⟨h1,h2⟩⟩
 refine⟨c.sealUp base (iu base s.st),hs.sealUp hb,hst.sealUp hs hN hb,fun t x hx=>?_,fun r h1 h2=>⟨fun h=>?_,fun id hl=>?_⟩⟩
 rotate_left
 ·rcases h with h|⟨id,_,h3,h4⟩
  ·exact h1 h
  exact h2 id h3 h4
 ·have hl':hd (iu base s.st) id≠.dead:=hl;have hlt:=FM hl';rw[rV hb]at hlt;refine h2 id ?_;rcases rl (σ:=s.st) hlt hb with h'|h'
  ·rw[hs.H,←h'];exact hl'
  exact absurd h' hl'
 have hr:=(ht.clear clr) t x hx;unfold t7 at hx;obtain⟨e,_,rfl⟩:=aX hx;have hr':R M w c (lU (Go.AM.clear s.env clr) e) (tmps.getD t undef):=hr;show R M w _ (lU ((Go.AM.clear s.env clr).map (bG base s.st)) e) _;have e1:lU ((Go.AM.clear s.env clr).map (bG base s.st)) e=bG base s.st (lU (Go.AM.clear s.env clr) e)∨lU ((Go.AM.clear s.env clr).map (bG base s.st)) e=.any:=by
  unfold lU;rw[dA];cases (Go.AM.clear s.env clr)[e]? with
  |none=>exact .inr rfl
  |some v=>exact .inl rfl
 rcases e1 with e1|e1
 ·rw[e1];exact O1 hs (pR hs hb) dp true _ _ hr'
 rw[e1];exact .any
end Go.AM
namespace Go.AM
variable {M:cO} {P:Program} {w w':World} {c c':cJ} {σ:aw}
structure Hid (n0:Nat) (w:World) (c:cJ) (r:Nat):Prop where
 new:n0≤r
 at_:w.heap[r]?=some (.deferred (some []))
 bor:¬c.bor r
 place:∀id,c.H id≠.dead→c.place id≠some r
theorem Hid.lt{n0 r:Nat}(h:Hid n0 w c r):r<w.heap.size:=(bd.1 h.at_).1
theorem Hid.stp{n0 r:Nat}(h:Hid n0 w c r)(hst:gG c w c' w'):Hid n0 w' c' r where
 new:=h.new
 at_:=by rw[hst.frame r h.lt h.place];exact h.at_
 bor:=fun hb=>by
  rcases hst.oldb r hb h.lt with hb|⟨i,h1,h2⟩
  ·exact h.bor hb
  exact h.place i h1 h2
 place:=fun id h1 h2=>by
  obtain⟨i,a1,a2⟩:=hst.liv id r h1 h2 h.lt;exact h.place i a1 a2
def oN(n0:Nat)(w:World)(c:cJ):List Deferred→Prop
 |[]=>True
 |d::ds=>(∃r,d.target=.collected r∧Hid n0 w c r∧∀d'∈ds,d'.target≠.collected r)∧oN n0 w c ds
theorem oN.stp{n0:Nat}(hst:gG c w c' w'):∀{ds:List Deferred},oN n0 w c ds→oN n0 w' c' ds
 |[],_=>trivial
 |_::_,⟨⟨r,h1,h2,h3⟩,h⟩=>⟨⟨r,h1,h2.stp hst,h3⟩,h.stp hst⟩
theorem oN.same{n0:Nat}(h:∀r,¬c.bor r→(∀id,c.H id≠.dead→c.place id≠some r)→¬c'.bor r∧∀id,c'.H id≠.dead→c'.place id≠some r):∀{ds:List Deferred},oN n0 w c ds→oN n0 w c' ds
 |[],_=>trivial
 |_::_,⟨⟨r,h1,h2,h3⟩,hm⟩=>⟨⟨r,h1,⟨h2.new,h2.at_,(h r h2.bor h2.place).1,(h r h2.bor h2.place).2⟩,h3⟩,hm.same h⟩
theorem oN.lt{n0:Nat}:∀{ds:List Deferred},oN n0 w c ds→∀d∈ds,∃r,d.target=.collected r∧r<w.heap.size
 |_::_,⟨⟨r,h1,h2,_⟩,h⟩,d,hd=>by
  rcases d4.1 hd with rfl|hd
  ·exact⟨r,h1,h2.lt⟩
  exact h.lt d hd
theorem gG.hid{c0:cJ}{w0:World}{r:Nat}{o:Go.Obj}(h:gG c0 w0 c w)(hs:ek M w c σ)(hr:Hid w0.heap.size w c r)(hw:rF w w' r o):ek M w' c σ∧Ext c w c w'∧gG c0 w0 c w':=by
 have hne:∀b,(c.bor b∨∃id,c.H id≠.dead∧c.place id=some b)→b≠r:=fun b hb e=>by
  subst e;rcases hb with hb|⟨i,h1,h2⟩
  ·exact hr.bor hb
  exact hr.place i h1 h2
 obtain⟨a1,a2⟩:=hs.over (w':=w') (fun b _ hb=>by rw[hw.get b hr.lt,if_neg (hne b hb)]) (by rw[hw.size];exact aB _);refine⟨a1,a2,{ Ext.trans h.toExt a2 with
  same:=h.same.trans hw.toSame
  size:=by rw[hw.size];exact h.size
  frame:=fun b hb hn=>by
   rw[hw.get b hr.lt,if_neg (by have:=hr.new;omega)];exact h.frame b hb hn
  liv:=h.liv
  old:=h.old
  oldb:=h.oldb }⟩
theorem oN.over{n0 r:Nat}{o:Go.Obj}(hlt:r<w.heap.size)(hw:rF w w' r o):∀{ds:List Deferred},(∀d∈ds,d.target≠.collected r)→oN n0 w c ds→oN n0 w' c ds
 |[],_,_=>trivial
 |d::ds,hn,⟨⟨q,h1,h2,h3⟩,h⟩=>by
  refine⟨⟨q,h1,⟨h2.new,?_,h2.bor,h2.place⟩,h3⟩,h.over hlt hw fun d' hd'=>hn d' (bq _ hd')⟩;rw[hw.get q hlt,if_neg]
  ·exact h2.at_
  intro e;subst e;exact hn d cQ h1
theorem zI{F:Fence}{n:Nat}{fn:Func}{tmps:Array Value}{c0:cJ}{w0:World}{R:Ending→World→Prop}:∀(ds:List Deferred) (w:World),ek M w c σ→gG c0 w0 c w→oN w0.heap.size w c ds →
  (∀w',ek M w' c σ→Ext c w c w'→gG c0 w0 c w'→∃v,(Go.results fn tmps).run P w'=.ok v w'∧R (.returned v) w')→LeavesInM F n P fn tmps R ds .returning w
 |[],w,hs,hst,_,h=>h w hs (.refl c w) hst
 |d::ds,w,hs,hst,⟨⟨r,h1,h2,h3⟩,hm⟩,h=>by
  have hset:rF w (w.putObj r (.deferred none)) r (.deferred none):=⟨⟨rfl,rfl,rfl,aB _⟩,rfl⟩;obtain⟨a1,a2,a3⟩:=hst.hid hs h2 hset;exact⟨by simp,.inl ⟨r,_,h1,run_takeDeferred h2.at_,zI ds _ a1 a3 (hm.over h2.lt hset h3) fun w' b1 b2 b3=>h w' b1 (a2.trans b2) b3⟩⟩
theorem ek.drop(hs:ek M w c σ){id b:Nat}{o:Go.Obj}(hl:c.H id≠.dead)(hb:c.place id=some b)(hw:rF w w' b o) :
  ek M w' { c with H:=hd (σ.set id .dead) } (σ.set id .dead)∧gG c w { c with H:=hd (σ.set id .dead) } w':=by
 have hlt:=(hs.plow id b hl hb).1;have hh:∀i,hd (σ.set id .dead) i=if i=id then .dead else hd σ i:=fun i=>by
  by_cases e:i=id
  ·subst e;rw[if_pos rfl];unfold hd;rw[dc];simp only[bU];split<;>rename_i h<;>split at h<;>simp_all
  rw[if_neg e,iN e]
 have live:∀i,hd (σ.set id .dead) i≠.dead→c.H i≠.dead∧i≠id:=fun i h=>by
  rw[hh]at h;split at h
  ·exact absurd rfl h
  rw[hs.H];exact⟨h,by assumption⟩
 have hext:Ext c w { c with H:=hd (σ.set id .dead) } w':=⟨fun _ h=>h,fun _ h=>h,fun x hx=>by
  rw[hw.get x hlt,if_neg];rintro rfl;exact (hs.plow id x hl hb).2 (hx.elim (fun h=>h) (hs.sb x)),aB _,fun i hi=>by
  show (c.H i).le (hd (σ.set id .dead) i);rw[hh];split
  ·exact .inr (.inl rfl)
  exact .inl (by rw[hs.H]),fun i hi h hne=>⟨rfl,rfl,rfl⟩⟩
 refine⟨⟨rfl,by rw[gy];exact hs.N,hs.sb,fun x hx=>by rw[hw.size];exact hs.low x hx,fun i x h1 h2=>?_,fun i j x hi hj=>hs.inj i j x (live i hi).1 (live j hj).1,fun i o' ho=>?_⟩,{ hext with same:=hw.toSame,size:=by rw[hw.size];exact aB _,frame:=fun x hx hn=>?_,liv:=fun i x h1 h2 _=>⟨i,(live i h1).1,h2⟩,old:=fun _ h _=>.inl h,oldb:=fun _ h _=>.inl h }⟩
 ·obtain⟨p1,p2⟩:=hs.plow i x (live i h1).1 h2;exact⟨by rw[hw.size];exact p1,p2⟩
 ·by_cases e:i=id
  ·subst e;rw[dc]at ho;simp only[bU]at ho;split at ho
   ·cases ho;trivial
   cases ho
  rw[cX (fun h=>e h.symm)]at ho;refine (hs.obj i o' ho).ext hext (fun _=>⟨rfl,rfl,rfl⟩) fun hnd x hx=>?_;rw[hw.get x hlt,if_neg];rintro rfl;exact e (hs.inj i id x (by rw[hs.H];exact fun h=>hnd ((pz ho).1 h)) hl hx hb)
 rw[hw.get x hlt,if_neg (fun e=>hn id hl (by subst e;exact hb))]
theorem ek.pend(hs:ek M w c σ){id b:Nat}{bz bz':Bool}{j j':Option Ex}{o:Go.Obj}(ho:σ[id]?=some (.pend bz j))(hb:c.place id=some b)(hw:rF w w' b o)
  (hobj:o=.loop (match bz',j' with
    |true,_=>pI (c.loops id) .busy none
    |false,none=>pI (c.loops id) .ready none
    |false,some e=>pI (c.loops id) .done (rC e))) :
  ek M w' c (σ.set id (.pend bz' j'))∧gG c w c w':=by
 have hl:c.H id≠.dead:=by rw[hs.H,dV ho];simp
 have hlt:=(hs.plow id b hl hb).1;have hext:Ext c w c w':=⟨fun _ h=>h,fun _ h=>h,fun x hx=>by
  rw[hw.get x hlt,if_neg];rintro rfl;exact (hs.plow id x hl hb).2 (hx.elim (fun h=>h) (hs.sb x)),aB _,fun i hi=>.inl rfl,fun i hi h hne=>⟨rfl,rfl,rfl⟩⟩
 have hsz:id<σ.length:=(ak.1 ho).1;have hself:(σ.set id (.pend bz' j'))[id]?=some (.pend bz' j'):=by simp[hsz]
 have hH:hd (σ.set id (.pend bz' j'))=hd σ:=by
  funext i;by_cases e:i=id
  ·subst e;rw[dV hself,dV ho]
  rw[iN e]
 refine⟨⟨by rw[hH];exact hs.H,by rw[gy];exact hs.N,hs.sb,fun x hx=>by rw[hw.size];exact hs.low x hx,fun i x h1 h2=>?_,hs.inj,fun i o' ho'=>?_⟩,gG.setB hs hl hb hw hext⟩
 ·obtain⟨p1,p2⟩:=hs.plow i x h1 h2;exact⟨by rw[hw.size];exact p1,p2⟩
 by_cases e:i=id
 ·subst e;rw[hself]at ho';cases ho';exact⟨b,hb,by rw[hw.get b hlt,if_pos rfl,hobj];cases bz'<;>cases j'<;>rfl⟩
 rw[cX (fun h=>e h.symm)]at ho';refine (hs.obj i o' ho').ext hext (fun _=>⟨rfl,rfl,rfl⟩) fun hnd x hx=>?_;rw[hw.get x hlt,if_neg];rintro rfl;exact e (hs.inj i id x (by rw[hs.H];exact fun h=>hnd ((pz ho').1 h)) hl hx hb)
end Go.AM
namespace Go.AM
variable {M:cO} {P:Program} {w w':World} {c c':cJ} {σ:aw}
theorem Kk{blk r cl last:Nat}{seen:Array Nat}{en:Array MapEntry}{T:TypeId}(h1:w.heap[blk]?=some (.mapIter (some r) cl seen last))(h2:w.heap[r]?=some (.map en cl))(hb:∀e∈en,e.born<cl)(hl:seen.isEmpty=false→last=cl) :
  (∃w1,(Instr.next (.pointer (some ⟨blk,0,none⟩)) false T).run P w=.ok (.tuple #[.bool false]) w1∧w1.heap=w.heap∧Same w w1∧∀e∈en,e.born∈seen) ∨
  ∃e∈en,¬e.born∈seen∧∃w1,(Instr.next (.pointer (some ⟨blk,0,none⟩)) false T).run P w=.ok (.tuple #[.bool true,e.key,e.val]) w1∧rF w w1 blk (.mapIter (some r) cl (seen.push e.born) cl):=by
 have hne:¬((¬seen=#[]∧¬en=#[])∧∀(i:Nat) (x:i<en.size),last≤en[i].born):=by
  rintro⟨⟨h3,h4⟩,h5⟩;have h6:=hl (by simpa using h3);subst h6;have h0:0<en.size:=Array.size_pos_iff.2 h4;have:=hb en[0] (lz h0);have:=h5 0 h0;omega
 have f2:(en.filter fun a=>decide (cl≤a.born)&&!decide (a.born∈seen))=#[]:=by
  rw[gN];intro e he;have:=hb e he;have h3:¬cl≤e.born:=by omega
  simp[h3]
 by_cases hA:∀a:MapEntry,a∈en→a.born<cl→a.born∈seen
 ·left;refine⟨w,?_,rfl,Same.refl w,fun e he=>hA e he (hb e he)⟩;have f1:(en.filter fun a=>decide (a.born<cl)&&!decide (a.born∈seen))=#[]:=by
   rw[gN];intro e he;have:=hA e he (hb e he);simp[this]
  simp[Instr.next,getObj,Sem.run,h1,h2,hne,f1,f2];rw[if_pos hA];simp[Question.forced]
 right;have hsz:0<(en.filter fun a=>decide (a.born<cl)&&!decide (a.born∈seen)).size:=by
  apply Array.size_pos_iff.2;intro h;rw[gN]at h;apply hA;intro a ha hlt;have:=h a ha;simpa [hlt] using this
 have hmem:∀e∈en.filter fun a=>decide (a.born<cl)&&!decide (a.born∈seen),e∈en∧¬e.born∈seen:=fun e he=>by
  have:=Array.mem_filter.1 he;simp only[am,aR,eM,fZ]at this;exact⟨this.1,this.2.2⟩
 generalize hL:(en.filter fun a=>decide (a.born<cl)&&!decide (a.born∈seen))=L at *;by_cases hq:(Question.mapNext L.size).forced=true
 ·obtain⟨m1,m2⟩:=hmem L[0] (lz hsz);refine⟨L[0],m1,m2,{ w with heap:=w.heap.setIfInBounds blk (.mapIter (some r) cl (seen.push L[0].born) cl) },?_,⟨⟨rfl,rfl,rfl,aB _⟩,rfl⟩⟩;simp[Instr.next,getObj,Sem.run,h1,h2,hne,hL,f2];rw[if_neg hA];simp[hq,hsz,setObj,Sem.run,h1]
 have hk:(Question.mapNext L.size).cut (w.tape w.drawn (.mapNext L.size))<L.size:=pC _ hsz;generalize hkk:(Question.mapNext L.size).cut (w.tape w.drawn (.mapNext L.size))=k at hk;obtain⟨m1,m2⟩:=hmem L[k] (lz hk);refine⟨L[k],m1,m2,{ w.drew with heap:=w.heap.setIfInBounds blk (.mapIter (some r) cl (seen.push L[k].born) cl) },?_,⟨⟨rfl,rfl,rfl,aB _⟩,rfl⟩⟩;simp[Instr.next,getObj,Sem.run,h1,h2,hne,hL,f2];rw[if_neg hA];have h1':w.drew.heap[blk]?=some (.mapIter (some r) cl seen last):=h1;simp[hq,hk,hkk,setObj,Sem.run];rw[h1'];rfl
theorem CA{α:Type}{p q:α→Bool}:∀{l:List α},(∀x∈l,q x=true→p x=true)→(∃x∈l,p x=true∧q x=false)→(l.filter q).length<(l.filter p).length
 |[],_,h=>by obtain⟨x,hx,_⟩:=h;cases hx
 |a::l,h,hx=>by
  have hle:(l.filter q).length≤(l.filter p).length:=by
   have:∀{l:List α},(∀x∈l,q x=true→p x=true)→(l.filter q).length≤(l.filter p).length:=fun {l} h=>by
    induction l with
    |nil=>exact aB _
    |cons b l ih=>
     have ih:=ih fun x hx=>h x (bq _ hx);cases hq:q b with
     |true=>rw[eb hq,eb (h b (cQ ..) hq)];simpa using ih
     |false=>
      rw[fk (by simp[hq])];cases hp:p b with
      |true=>rw[eb hp];simp;omega
      |false=>rw[fk (by simp[hp])];exact ih
   exact this fun x hx=>h x (bq _ hx)
  obtain⟨x,hx,h1,h2⟩:=hx;rcases d4.1 hx with rfl|hx
  ·rw[eb h1,fk (by simp[h2])];simp;omega
  have ih:=CA (p:=p) (q:=q) (l:=l) (fun x hx=>h x (bq _ hx)) ⟨x,hx,h1,h2⟩;cases hq:q a with
  |true=>rw[eb hq,eb (h a (cQ ..) hq)];simpa using ih
  |false=>
   rw[fk (by simp[hq])];cases hp:p a with
   |true=>rw[eb hp];simp;omega
   |false=>rw[fk (by simp[hp])];exact ih
end Go.AM
namespace Go.AM
variable {M:cO} {P:Program}
section
variable {F:Fence} {n:Nat} {Q:Exit→Act→World→Prop} {a:Act} {w:World}
theorem nh{b:Frame}{k:List Item}{cs:List Frame}{c:Go.Code}:Go.step P (lone (b.atR a (.code (.scope c)::k)) cs w)=.next (lone (b.atR a (.code c::.inScope c::k)) cs w):=
 step_lone_go (by simp[stepG,stepG.exec,Frame.atR])
theorem GX{b:Frame}{k:List Item}{cs:List Frame}{c:Go.Code}:Go.step P (lone (b.atR a (.inScope c::k)) cs w)=.next (lone (b.atR a k) cs w):=
 step_lone_go (by simp[stepG,stepG.exec,Frame.atR])
theorem Oy{c:Go.Code}(h:c.wpIn F n P (Exit.noGoto Q) a w):(Go.Code.scope c).wpIn F n P Q a w:=by
 intro b k cs hro hb hr;have h0:(lone (b.atR a (.code (.scope c)::k)) cs w).fenced P F:=fenced_calm hb hr rfl;obtain⟨e,a₁,w₁,hq,harr⟩:=h b (.inScope c::k) cs hro hb hr;cases e with
 |normal=>exact⟨.normal,a₁,w₁,hq,.head h0 nh (StepsIn.trans harr (.one (fenced_calm hb hr rfl) GX))⟩
 |exit id=>
  have hx:exitTo id (.inScope c::k)=exitTo id k:=by simp[exitTo]
  exact⟨.exit id,a₁,w₁,hq,fun k' hk=>.head h0 nh (harr.1 k' (by rw[hx];exact hk)),
   fun hr' hk=>let ⟨k₁,h1,h2⟩:=harr.2 hr' (by rw[hx];exact hk);⟨k₁,h1,.head h0 nh h2⟩⟩
 |goto l=>exact hq.elim
 |ret=>exact⟨_,a₁,w₁,hq,.of_steps (.one h0 nh) harr⟩
 |panic ch=>exact⟨_,a₁,w₁,hq,.of_steps (.one h0 nh) harr⟩
 |outgrown=>exact⟨_,a₁,w₁,hq,.of_steps (.one h0 nh) harr⟩
end
def OV:Ex→Exit
 |.nrm=>.normal
 |.ext id=>.exit id
 |.ret=>.ret
def Cu:Go.Code→Bool
 |.skip=>true
 |.label _=>true
 |_=>false
inductive fd (M:cO) (P:Program) (bT:Nat→Bool) (em:List Tmp) (nt:Nat) (top:Bool):Go.Code→av→Prop
 |nop {c}:Cu c=true→fd M P bT em nt top c .skip
 |text {id ops ins os its}:vv M P bT ops ins em its (fun i=>2^i-1) [] none nt→ub ops.toList em its os=true→fd M P bT em nt top (.region id ops false) (.reg ins os)
 |any {id ops ins os its bef late}:vv M P bT ops ins em its bef [] late nt→PU ops bef→ub ops.toList em its os=true→fd M P bT em nt top (.region id ops true) (.reg ins os)
 |anyd {id ops ins os its bef chk late}:vv M P bT ops ins em its bef chk late nt→PU ops bef→ub ops.toList em its os=true→fd M P bT em nt top (.region id ops true) (.regd ins os chk)
 |seq {a b x y}:fd M P bT em nt top a x→fd M P bT em nt top b y→fd M P bT em nt top (.seq a b) (.seq x y)
 |left {a b x}:Cu b=true→fd M P bT em nt top a x→fd M P bT em nt top (.seq a b) x
 |right {a b y}:Cu a=true→fd M P bT em nt top b y→fd M P bT em nt top (.seq a b) y
 |cond {t a b t' x y}:jv M (t7 em) t t'=true→fd M P bT em nt top a x→fd M P bT em nt top b y→fd M P bT em nt top (.cond t a b) (.cond t' x y)
 |blk {id a x}:fd M P bT em nt top a x→fd M P bT em nt top (.block id a) (.blk id x)
 |loop {clr a x}:fd M P bT em nt top a x→fd M P bT em nt top (.loop a) (.loop clr x)
 |mloop {clr it ok rid o1 o2 rest x t t1 t2}:o1.op=.next (.tmp t) false→o1.dst=some t1→o1.guard=none→o2.op=.extract (.tmp t1) 0→o2.dst=some t2→o2.guard=none →
   em[it]?=some t→em[ok]?=some t2→em.Nodup→t1∉em→t1<nt→t2<nt→fd M P bT em nt top rest x→fd M P bT em nt top (.loop (.seq (.region rid #[o1,o2] false) rest)) (.mloop clr it ok x)
 |exit {id}:fd M P bT em nt top (.exit id) (.exit id)
 |ret:fd M P bT em nt top .ret .ret
 |scope {a x}:fd M P bT em nt top a x→fd M P bT em nt top (.scope a) (.scope x)
 |lift {c x i off k}:fd M P bT em nt top c x→fd M P bT em nt top c (.lift i off k x)
 |rng {g ps assign body f site n}:top=true→jv M (t7 em) g f=true→em.Nodup→(∀t∈em,t<nt)→n=em.length →
   (∀fn tmps defers,nt≤tmps.size→M.site site ⟨fn,tmps,ps,assign,body,defers⟩ em)→fd M P bT em nt top (.rangeFunc g ps assign body) (.rng n f site)
structure SR (M:cO) (em:List Tmp) (nt m0:Nat) (c:cJ) (w:World) (s:St) (a:Act):Prop where
 sim:ek M w c s.st
 tmp:lc M w c s.env [] (t7 em) a.tmps
 size:nt≤a.tmps.size
 base:m0≤w.heap.size
 marks:oN m0 w c a.defers
section
variable {bT:Nat→Bool} {em:List Tmp} {nt:Nat} {top:Bool} {C:gl} {n:Nat} {F:Fence} {n0:Nat}
theorem N9{c:Go.Code}(h:Cu c=true){Q:Exit→Act→World→Prop}{a:Act}{w:World}(hq:Q .normal a w):c.wpIn F n0 P Q a w:=by
 cases c<;>simp[Cu]at h
 ·exact wpIn_skip hq
 exact wpIn_label hq
theorem An{p:Nat→Prop}(h:∃k,p k):∃k,p k∧∀j,p j→k≤j:=by
 obtain⟨k,hk⟩:=h;induction k using Nat.strongRecOn with
 |_ k ih=>
  by_cases hl:∃j,j<k∧p j
  ·obtain⟨j,h1,h2⟩:=hl;exact ih j h1 h2
  exact⟨k,hk,fun j hj=>Nat.le_of_not_lt fun hlt=>hl ⟨j,hlt,hj⟩⟩
open Classical in
noncomputable def xI(p:Nat→Prop):Nat:=if h:∃k,p k∧∀j,p j→k≤j then Classical.choose h else 0
theorem Eb{p:Nat→Prop}(h:∃k,p k):p (xI p):=by
 have h':=An h;unfold xI;rw[dif_pos h'];exact (jn h').1
theorem LB{p:Nat→Prop}{k:Nat}(h:p k):xI p≤k:=by
 have h':=An ⟨k,h⟩;unfold xI;rw[dif_pos h'];exact (jn h').2 k h
def Lc(M:cO)(P:Program)(em:List Tmp)(nt:Nat)(F:Fence)(n0:Nat)(f:St→Option (Ex×St))(code:Go.Code):Prop:=
 ∀(s:St) (e:Ex) (s':St),f s=some (e,s')→∀(m0:Nat) (c0:cJ) (w0:World) (a0:Act),iR M w0 c0→SR M em nt m0 c0 w0 s a0→∀Q:Exit→Act→World→Prop,
  (∀a w c,SR M em nt m0 c w s' a→gG c0 w0 c w→Q (OV e) a w)→code.wpIn F n0 P Q a0 w0
theorem NG{f:St→Option (Ex×St)}{code:Go.Code}(h:Lc M P em nt F n0 f code)(clr:List Nat)(k0:Nat):Lc M P em nt F n0 (fun s=>pP s.st.length clr f k0 ⟨clear s.env clr,s.st⟩) (.loop code):=by
 intro s e s' hr m0 c0 w0 a0 hg hs Q hQ;have hN:c0.N=s.st.length:=hs.sim.N
 let J:Nat→Act→World→Prop:=fun k a w=>∃s1 c,SR M em nt m0 c w s1 a∧gG c0 w0 c w∧pP s.st.length clr f k s1=some (e,s')
 have hJ0:J k0 a0 w0:=⟨⟨clear s.env clr,s.st⟩,c0,⟨hs.sim,hs.tmp.clear clr,hs.size,hs.base,hs.marks⟩,.refl c0 w0,hr⟩;refine wpIn_loop (fun a w=>∃k,J k a w) (fun a w=>xI fun k=>J k a w) ⟨k0,hJ0⟩ fun a w hI=>?_;have hk:J (xI fun k=>J k a w) a w:=Eb (p:=fun k=>J k a w) hI;generalize hke:(xI fun k=>J k a w)=k at hk;obtain⟨s1,c,hs1,hst,hl⟩:=hk;cases k with
 |zero=>simp[pP]at hl
 |succ k=>
  simp only[pP]at hl;obtain⟨⟨e1,s2⟩,h1,h2⟩:=bv hl;refine h s1 e1 s2 h1 m0 c w a (hg.ext hst.toExt) hs1 _ fun a' w' c' hs2 hst2=>?_;cases e1 with
  |nrm=>
   obtain⟨c'',r1,r2,r3,r4⟩:=EZ (clr:=clr) hs2.sim (hst.trans hst2) hN hs2.tmp;have hJ:J k a' w':=⟨_,c'',⟨r1,r3,hs2.size,hs2.base,hs2.marks.same r4⟩,r2,h2⟩;refine⟨⟨k,hJ⟩,?_⟩;exact Nat.lt_succ_of_le (LB (p:=fun k=>J k a' w') hJ)
  |ext id=>
   simp only[az,dx]at h2;obtain⟨rfl,rfl⟩:=h2;exact hQ a' w' c' hs2 (hst.trans hst2)
  |ret=>
   simp only[az,dx]at h2;obtain⟨rfl,rfl⟩:=h2;exact hQ a' w' c' hs2 (hst.trans hst2)
theorem Rk{w:World}{c:cJ}{env:List ap}{a:Act}{x:Operand}{x':cB}(ht:lc M w c env [] (t7 em) a.tmps)(hg:iR M w c)(h:jv M (t7 em) x x'=true):R M w c (x'.eval env []) (a.eval x):=Ha ht hg h
theorem xy{α:Type}{l:List α}(h:l.Nodup){i j:Nat}(hi:i<l.length)(hj:j<l.length)(e:l[i]=l[j]):i=j:=by
 have hp:=kN.1 h;rcases fq i j with hlt|heq|hlt
 ·exact absurd e (hp i j hi hj hlt)
 ·exact heq
 exact absurd e.symm (hp j i hj hi hlt)
theorem jZ.ext{w w':World}{c c':cJ}{xs:List ap}{A:Array Value}(h:jZ M w c xs A)(he:Ext c w c' w'):jZ M w' c' xs A:=
 ⟨h.1,fun i hi=>let ⟨x,h1,h2⟩:=h.2 i hi;⟨x,h1,h2.ext he⟩⟩
theorem BW{em:List Tmp}(hnd:em.Nodup){i:Nat}{t:Tmp}(h:em[i]?=some t):em.idxOf? t=some i:=by
 obtain⟨hi,he⟩:=ak.1 h;rw[List.idxOf?,cD];refine⟨hi,by simp[he],fun j hj=>?_⟩
 have:em[j]'(by omega)≠t:=fun e=>by
  have:=xy hnd (i:=j) (j:=i) (by omega) hi (e.trans he.symm);omega
 simpa using this
theorem KZ(hF:qk F){o:Oper}{a:Act}{w w':World}{v:Value}(hd:∀c,o.op≠.defer c)(h:(execOp a.eval o).run P w=.ok (.value v) w'){K:Act→World→Prop}{Q:Exit→Act→World→Prop}(hK:K (a.put o.dst v) w'):o.wpIn F n0 P a w K Q:=by
 refine⟨fun f _=>hF.fn f,?_⟩;rw[Oper.semAt_eq _ _ _ hd,h];exact hK
theorem QO(hF:qk F){rid:Nat}{o1 o2:Oper}{t t1 t2:Tmp}(e1:o1.op=.next (.tmp t) false)(d1:o1.dst=some t1)(g1:o1.guard=none)(e2:o2.op=.extract (.tmp t1) 0)(d2:o2.dst=some t2)(g2:o2.guard=none)
  {a:Act} {w w1:World} {vs:Array Value} {b:Bool} (hrun:(Instr.next (a.tmps.getD t undef) false o1.type).run P w=.ok (.tuple vs) w1) (hv:vs[0]?=some (.bool b)) (ht1:t1<a.tmps.size) {Q:Exit→Act→World→Prop}
  (hQ:Q .normal ((a.put (some t1) (.tuple vs)).put (some t2) (.bool b)) w1):(Code.region rid #[o1,o2] false).wpIn F n0 P Q a w:=by
 apply wpIn_region;show wpOpsIn F n0 P #[o1,o2] Q [0,1] a w;rw[wpOpsIn_cons];unfold wpOpIn;have h0:(#[o1,o2]:Array Oper)[0]?=some o1:=rfl;have h1:(#[o1,o2]:Array Oper)[1]?=some o2:=rfl;have w0:∀y,Region.wanted o1 y=true:=fun y=>by unfold Region.wanted;rw[g1]
 have w2:∀y,Region.wanted o2 y=true:=fun y=>by unfold Region.wanted;rw[g2]
 simp only[h0,w0,bU];refine KZ hF (fun c=>by rw[e1];simp) (v:=.tuple vs) (w':=w1) ?_ ?_
 ·unfold execOp;rw[e1];have:a.eval (.tmp t)=a.tmps.getD t undef:=rfl;simp only[this,Sem.run_bind,hrun,Result.andThen_ok,Sem.run_pure]
 rw[wpOpsIn_cons];unfold wpOpIn;simp only[h1,w2,bU];refine KZ hF (fun c=>by rw[e2];simp) (v:=.bool b) (w':=w1) ?_ ?_
 ·unfold execOp;rw[e2];have:(a.put o1.dst (.tuple vs)).eval (.tmp t1)=.tuple vs:=by
   rw[d1];show (a.tmps.setIfInBounds t1 _).getD t1 undef=_;simp[Array.getD,ht1]
  simp[this,Instr.extract,hv]
 rw[d1,d2];exact hQ
theorem MU{w:World}{c:cJ}{env:List ap}{a:Act}{t1 t2:Tmp}{ok:Nat}{vs:Array Value}{b:Bool}(h:lc M w c env [] (t7 em) a.tmps)(hok:em[ok]?=some t2)(hnd:em.Nodup)(h1:t1∉em)(l2:t2<a.tmps.size) :
  lc M w c (env.set ok (.bool b)) [] (t7 em) ((a.put (some t1) (.tuple vs)).put (some t2) (.bool b)).tmps:=fun t x hx=>by
 have hx0:=hx;unfold t7 at hx;obtain⟨i,hi,rfl⟩:=aX hx;have hm:em[i]?=some t:=by
  rw[List.idxOf?,cD]at hi;obtain⟨a1,a2,_⟩:=hi;rw[aq a1];simpa using a2
 have hne:t≠t1:=fun e=>h1 (e▸aD hm);show R M w c (lU (env.set ok (.bool b)) i) (((a.tmps.setIfInBounds t1 (.tuple vs)).setIfInBounds t2 (.bool b)).getD t undef);by_cases ht:t=t2
 ·subst ht;have hio:i=ok:=by
   have e1:=BW hnd hm;rw[BW hnd hok]at e1;exact (dz e1).symm
  subst hio;have e2:((a.tmps.setIfInBounds t1 (.tuple vs)).setIfInBounds t (.bool b)).getD t undef=.bool b:=by
   simp[Array.getD,l2]
  rw[e2];unfold lU;by_cases hl:i<env.length
  ·rw[cr hl];exact .bool
  rw[eC (by simp;omega)];exact .any
 have hio:ok≠i:=fun e=>by
  subst e;rw[hok]at hm;exact ht (dz hm).symm
 have e2:((a.tmps.setIfInBounds t1 (.tuple vs)).setIfInBounds t2 (.bool b)).getD t undef=a.tmps.getD t undef:=by
  simp only[bA,fO (Ne.symm ht),fO (Ne.symm hne)]
 rw[e2];have e3:lU (env.set ok (.bool b)) i=lU env i:=by
  unfold lU;rw[cX hio]
 rw[e3];exact h t _ hx0
theorem ek.tell{w:World}{c:cJ}{σ:aw}(hs:ek M w c σ){id:Nat}{es:List (ap×ap)}{cur cur':Option (ap×ap)}{k k':Nat}(ho:σ[id]?=some (.mit es cur k))(hobj:rz M w c id (.mit es cur' k')):ek M w c (σ.set id (.mit es cur' k')):=by
 have hlt:id<σ.length:=(ak.1 ho).1;have hH:hd (σ.set id (.mit es cur' k'))=hd σ:=by
  funext i;by_cases hi:id=i
  ·subst hi;rw[dV (cr hlt),dV ho]
  unfold hd;rw[cX hi]
 refine⟨by rw[hH];exact hs.H,by rw[hs.N];simp,hs.sb,hs.low,hs.plow,hs.inj,fun i o hoi=>?_⟩;by_cases hi:id=i
 ·subst hi;rw[cr hlt]at hoi;cases hoi;exact hobj
 rw[cX hi]at hoi;exact hs.obj i o hoi
theorem Lm{f:St→Option (Ex×St)}{rest:Go.Code}(h:Lc M P em nt F n0 f rest)(hF:qk F){clr:List Nat}{it ok rid:Nat}{o1 o2:Oper}{t t1 t2:Tmp}(e1:o1.op=.next (.tmp t) false)(d1:o1.dst=some t1)(g1:o1.guard=none)(e2:o2.op=.extract (.tmp t1) 0)(d2:o2.dst=some t2)(g2:o2.guard=none)
  (hit:em[it]?=some t) (hok:em[ok]?=some t2) (hnd:em.Nodup) (h1:t1∉em) (l1:t1<nt) (l2:t2<nt):Lc M P em nt F n0 (A3 clr it ok f) (.loop (.seq (.region rid #[o1,o2] false) rest)):=by
 intro s e s' hr m0 c0 w0 a0 hg hs Q hQ;unfold A3 at hr;split at hr
 ·rename_i id hid;split at hr
  ·rename_i es k ho;dsimp only at hr;split at hr
   ·rename_i hc;obtain⟨hk,hall⟩:=hc;obtain⟨⟨e3,s3⟩,hfin,hr⟩:=bv hr;have hN:c0.N=s.st.length:=hs.sim.N;have hlt:id<s.st.length:=(ak.1 ho).1;generalize hE:clear s.env clr=env at *;have hJ0:SR M em nt m0 c0 w0 ⟨env,s.st.set id (.mit es none k)⟩ a0:=⟨by
     have:s.st.set id (.mit es none k)=s.st:=by
      obtain⟨q1,q2⟩:=ak.1 ho;rw[←q2];exact List.set_getElem_self q1
     show ek M w0 c0 (s.st.set id (.mit es none k));rw[this];exact hs.sim,by rw[←hE];exact hs.tmp.clear clr,hs.size,hs.base,hs.marks⟩
    let J:Nat→Act→World→Prop:=fun j a w=>∃c,SR M em nt m0 c w ⟨env,s.st.set id (.mit es none j)⟩ a∧gG c0 w0 c w∧j≤es.length
    refine wpIn_loop (fun a w=>∃j,J j a w) (fun a w=>xI fun j=>J j a w) ⟨k,c0,hJ0,.refl c0 w0,by omega⟩ fun a w hI=>?_;have hj:J (xI fun j=>J j a w) a w:=Eb (p:=fun j=>J j a w) hI;generalize hje:(xI fun j=>J j a w)=j at hj;obtain⟨c,hs1,hst,hle⟩:=hj;have hoj:(s.st.set id (.mit es none j))[id]?=some (.mit es none j):=cr hlt;have hH:c.H id=.it:=by rw[hs1.sim.H,dV hoj]
    obtain⟨b,r,last,cl,seen,en,f',g',q1,q2,q3,q4,q5,q6,q7,q8,q9,q10,q11⟩:=hs1.sim.obj id _ hoj;have hv:a.tmps.getD t undef=.pointer (some ⟨b,0,none⟩):=by
     have:=hs1.tmp t (.env it) (by unfold t7;rw[BW hnd hit];rfl);have this':R M w c (lU env it) (a.tmps.getD t undef):=this;rw[hid]at this';generalize a.tmps.getD t undef=q at this';cases this' with
     |it a1 a2 a3=>rw[q1]at a3;cases a3;rfl
     |itOld a0 a1 a2=>rw[hH]at a2;cases a2
    have hborn:∀e∈en,e.born<cl:=fun e he=>by
     obtain⟨i,hi,rfl⟩:=Array.mem_iff_getElem.1 he;obtain⟨e',p1,_,_,_,p5⟩:=q6 i (by omega);rw[bW hi]at p1;cases p1;exact p5
    have hsz:=hs1.size;apply wpIn_seq;rcases Kk (P:=P) (T:=o1.type) q2 q4 hborn q10 with⟨w1,hrun,hheap,hsame,hno⟩|⟨en1,he,hns,w1,hrun,hset⟩
    ·
     refine QO hF e1 d1 g1 e2 d2 g2 (b:=false) (by rw[hv];exact hrun) rfl (aN l1 hsz) ?_;have hnil:(en.toList.filter fun e=>!decide (e.born∈seen)).length≤0:=by
      have:(en.toList.filter fun e=>!decide (e.born∈seen))=[]:=by
       rw[List.filter_eq_nil_iff];intro x hx;have:=hno x (by simpa using hx);simp[this]
      rw[this];exact aB _
     have hs2:ek M w c (s.st.set id (.mit es none 0)):=by
      have:=hs1.sim.tell hoj (cur':=none) (k':=0) ⟨b,r,last,cl,seen,en,f',g',q1,q2,q3,q4,q5,q6,q7,q8,hnil,q10,fun e h=>by cases h⟩
      rwa [mL]at this
     have hst1:gG c w c w1:=.ofHeap hheap hsame;refine h ⟨env.set ok (.bool false),s.st.set id (.mit es none 0)⟩ e3 s3 hfin m0 c w1 _ (hg.ext (hst.trans hst1).toExt) ⟨hs2.heap hheap,MU (hs1.tmp.ext hst1.toExt) hok hnd h1 (aN l2 hsz),by simp[Act.put];exact hsz,by rw[hheap];exact hs1.base,hs1.marks.stp hst1⟩ _ fun a' w' c' hs3 hst3=>?_;cases e3 with
     |nrm=>cases hr
     |ext q=>
      simp only[az,dx]at hr;obtain⟨rfl,rfl⟩:=hr;exact hQ a' w' c' hs3 ((hst.trans hst1).trans hst3)
     |ret=>
      simp only[az,dx]at hr;obtain⟨rfl,rfl⟩:=hr;exact hQ a' w' c' hs3 ((hst.trans hst1).trans hst3)
    refine QO hF e1 d1 g1 e2 d2 g2 (b:=true) (by rw[hv];exact hrun) rfl (aN l1 hsz) ?_;have hlive:c.H id≠.dead:=by rw[hH];simp
    have hbn:=hs1.sim.plow id b hlive q1
    have hfind:∃i q,∃hi:i<es.length,en[i]?=some q∧en.find? (fun q=>q.born==en1.born)=some q:=by
     cases hq:en.find? (fun q=>q.born==en1.born) with
     |none=>
      have:=Array.find?_eq_none.1 hq en1 he;simp at this
     |some q=>
      obtain⟨i,hi,hqi⟩:=Array.mem_iff_getElem.1 (Array.mem_of_find?_eq_some hq);exact⟨i,q,by omega,by rw[bW hi,hqi],rfl⟩
    obtain⟨i,q,hi,p1,p2⟩:=hfind;have hless:(en.toList.filter fun e=>!decide (e.born∈seen.push en1.born)).length<(en.toList.filter fun e=>!decide (e.born∈seen)).length:=by
     refine CA (fun x _ hx=>?_) ⟨en1,by simpa using he,by simp[hns],by simp⟩;simp only[Array.mem_push,eM,fZ,not_or]at hx ⊢;exact hx.1
    have hj0:0<j:=by omega
    have hext:Ext c w c w1:=⟨fun _ h=>h,fun _ h=>h,fun y hy=>by rw[hset.get _ hbn.1,if_neg (fun e=>by subst e;exact hbn.2 (hy.elim (fun h=>h) (hs1.sim.sb _)))],aB _,fun _ _=>.inl rfl,fun _ _ _ _=>⟨rfl,rfl,rfl⟩⟩;obtain⟨e',y1,y2,y3,y4,_⟩:=q6 i hi;have hqe:e'=q:=dz (y1.symm.trans p1);subst hqe;have hrb:r≠b:=fun e=>by
     subst e;exact hbn.2 (hs1.sim.sb _ q3)
    have hobj:rz M w1 c id (.mit es (some es[i]) (j-1)):=by
     have hes:=hext.still false;refine⟨b,r,cl,cl,seen.push en1.born,en,f',g',q1,by rw[hset.get _ hbn.1,if_pos rfl],q3,by rw[hext.rest _ (.inr q3)];exact q4,q5,q6,fun i hi=>(q7 i hi).ext hes,fun i hi=>(q8 i hi).ext hes,by omega,fun _=>rfl,fun e h=>?_⟩;cases h;exact⟨rfl,en1.born,e',by simp,p2,by rw[y2];exact (q7 i hi).ext hes,by rw[y3];exact (q8 i hi).ext hes⟩
    obtain⟨hs2,_⟩:=hs1.sim.setObj' hoj (by simp) (by rw[dV (cr (by simpa using hlt)),dV hoj]) q1 hset hobj;rw[mL]at hs2;have hst1:gG c w c w1:=gG.setB hs1.sim hlive q1 hset hext;have hm:=aI.1 hall (j-1) (by simp;omega);have hm:=aI.1 hm es[i] (aO hi);unfold BE at hm;split at hm
    ·rename_i s4 hf4;simp only[am]at hm;obtain⟨m1,m2⟩:=hm;have m1:=kD m1;have m2:=zD m2;refine h ⟨env.set ok (.bool true),s.st.set id (.mit es (some es[i]) (j-1))⟩ .nrm s4 hf4 m0 c w1 _ (hg.ext (hst.trans hst1).toExt) ⟨hs2,MU (hs1.tmp.ext hst1.toExt) hok hnd h1 (aN l2 hsz),by simp[Act.put];exact hsz,aZ hs1.base hst1.size,hs1.marks.stp hst1⟩ _ fun a' w' c' hs3 hst3=>?_;obtain⟨c'',r1,r2,r3,r4⟩:=EZ (clr:=clr) hs3.sim ((hst.trans hst1).trans hst3) hN hs3.tmp;rw[m2]at r1;rw[m1]at r3;have ho4:(s.st.set id (.mit es (some es[i]) (j-1)))[id]?=some (.mit es (some es[i]) (j-1)):=cr hlt;obtain⟨b',r',last',cl',seen',en',f'',g'',z1,z2,z3,z4,z5,z6,z7,z8,z9,z10,z11⟩:=r1.obj id _ ho4;have hs5:ek M w' c'' (s.st.set id (.mit es none (j-1))):=by
      have:=r1.tell ho4 (cur':=none) (k':=j-1) ⟨b',r',last',cl',seen',en',f'',g'',z1,z2,z3,z4,z5,z6,z7,z8,z9,z10,fun e h=>by cases h⟩
      rwa [mL]at this
     have hJ:J (j-1) a' w':=⟨c'',⟨hs5,r3,hs3.size,hs3.base,hs3.marks.same r4⟩,r2,by omega⟩;refine⟨⟨j-1,hJ⟩,?_⟩;have:=LB (p:=fun j=>J j a' w') hJ;exact Nat.lt_of_le_of_lt this (by omega)
    cases hm
   cases hr
  cases hr
 cases hr
theorem SC(hC:jG M P C)(hF:qk F)(hro:F.round=none){g:Operand}{ps:Array Tmp}{assign body:Go.Code}{f:cB}{site:Nat}(hf:jv M (t7 em) g f=true)(hnd:em.Nodup)(hnt:∀t∈em,t<nt){s s':St}{e:Ex}(hlen:s.env.length=em.length)
  (hsite:∀fn tmps defers,nt≤tmps.size→M.site site ⟨fn,tmps,ps,assign,body,defers⟩ em) {v:ap} {σ':aw} (h1:D7 C (f.eval s.env []) [.yld s.st.length site s.env] (s.st++[.pend false none])=some (v,σ'))
  (h2:tH s.st.length s.env σ'=some (e,s')) {m0:Nat} {c0:cJ} {w0:World} {a0:Act} (hg:iR M w0 c0) (hs:SR M em nt m0 c0 w0 s a0) (Q:Exit→Act→World→Prop)
  (hQ:∀a w c,SR M em nt m0 c w s' a→gG c0 w0 c w→Q (OV e) a w):(Go.Code.rangeFunc g ps assign body).wpIn F n0 P Q a0 w0:=by
 have hfv:=Rk (env:=s.env) hs.tmp hg hf;unfold D7 at h1;split at h1
 ·rename_i f0 first cap hfe
  rw[hfe]at hfv;obtain⟨fs,cs,he,hfirst,hcap⟩:=M2 hfv;apply wpIn_rangeFunc;intro fn hfn;generalize hrec:(⟨fn,a0.tmps,ps,assign,body,w0.heap.size⟩:kB)=rec;have hent:=run_enterLoop_outer (P:=P) (w:=w0) fn a0.tmps ps assign body;rw[hro]
  have hd1:∀b,b<w0.heap.size→(iw w0 (.deferred (some []))).heap[b]?=w0.heap[b]?:=fun b hb=>fa hb;obtain⟨s1,x1⟩:=hs.sim.over (w':=iw w0 (.deferred (some []))) (fun b hb _=>fa hb) (by rw[eu];omega);have st1:gG c0 w0 c0 (iw w0 (.deferred (some []))):={ x1 with same:=lW,size:=by rw[eu];omega,frame:=fun b hb _=>fa hb,liv:=fun i b h1 h2 _=>⟨i,h1,h2⟩,old:=fun _ h _=>.inl h,oldb:=fun _ h _=>.inl h };generalize hw1:iw w0 (.deferred (some []))=w1 at s1 x1 st1;have hz1:w1.heap.size=w0.heap.size+1:=by rw[←hw1,eu]
  have hgw:∀b,b<w1.heap.size→(iw w1 (.loop (pI rec .ready none))).heap[b]?=w1.heap[b]?:=fun b hb=>fa hb;have s2:ek M (iw w1 (.loop (pI rec .ready none))) (c0.grow (s.st++[.pend false none]) (some w1.heap.size) 0 rec) (s.st++[.pend false none]):=by
   refine s1.grow _ _ _ _ hgw (by rw[eu];omega) (fun b hb=>by cases hb;rw[eu];omega) ⟨w1.heap.size,by simp[cJ.grow,s1.N],?_⟩;rw[nU];simp[cJ.grow,s1.N]
  have st2:gG c0 w1 (c0.grow (s.st++[.pend false none]) (some w1.heap.size) 0 rec) (iw w1 (.loop (pI rec .ready none))):=
   gG.grow s1 _ _ _ _ lW hgw (by rw[eu];omega) (fun b hb=>by cases hb;exact aB _)
  have hN:c0.N=s.st.length:=hs.sim.N;have hl2:(c0.grow (s.st++[.pend false none]) (some w1.heap.size) 0 rec).loops s.st.length=rec:=by simp[cJ.grow,hN]
  have hp2:(c0.grow (s.st++[.pend false none]) (some w1.heap.size) 0 rec).place s.st.length=some w1.heap.size:=by simp[cJ.grow,hN]
  have hH2:(c0.grow (s.st++[.pend false none]) (some w1.heap.size) 0 rec).H s.st.length=.pend:=by
   show hd (s.st++[.pend false none]) s.st.length=_;rw[dV kE]
  have hN2:s.st.length<(c0.grow (s.st++[.pend false none]) (some w1.heap.size) 0 rec).N:=by simp[cJ.grow]
  generalize hc2:c0.grow (s.st++[.pend false none]) (some w1.heap.size) 0 rec=c2 at s2 st2 hl2 hp2 hH2 hN2;generalize hw2:iw w1 (.loop (pI rec .ready none))=w2 at s2 st2;have st02:=st1.trans st2;have hyld:R M w2 c2 (.yld s.st.length site s.env) (.func (.yield w1.heap.size) #[] #[]):=by
   refine .yld (em:=em) (fun i=>a0.tmps.getD (em.getD i 0) undef) hN2 hH2 hp2 ?_ hlen.symm ?_ ?_
   ·rw[hl2,←hrec];exact hsite _ _ _ hs.size
   ·intro i hi hx;have hlt:em[i]<a0.tmps.size:=aN (hnt _ (aO hi)) hs.size;rw[hl2,←hrec];show a0.tmps[em[i]]?=_;simp[Array.getD,hi,hlt]
   intro i hi;have hi':i<em.length:=by omega
   have hr:=hs.tmp em[i] (.env i) (by
    unfold t7;rw[show em.idxOf? em[i]=some i by
     rw[List.idxOf?,cD];refine⟨hi',by simp,fun j hj=>?_⟩;simp only[aG];exact fun e=>absurd (xy hnd _ _ e) (by omega)]
    rfl)
   have e1:(cB.env i).eval s.env []=s.env[i]:=by
    show lU s.env i=_;unfold lU;rw[aq hi];rfl
   rw[e1]at hr;simpa [List.getD,hi'] using hr.ext st02.toExt
  have hargs:jZ M w2 c2 (first++[.yld s.st.length site s.env]++cap) (fs++#[.func (.yield w1.heap.size) #[] #[]]++cs):=
   ((jZ.ext hfirst st02.toExt).append ⟨rfl,fun i hi=>by
    have:i=0:=by simpa using hi
    subst this;exact⟨_,rfl,hyld⟩⟩).append (jZ.ext hcap st02.toExt)
  have hcall:=hC f0 _ _ v σ' h1 F (n0-1) w2 c2 _ hF s2 (hg.ext st02.toExt) hargs;have henter:=hcall.2 ⟨.yld s.st.length site s.env,by simp,rfl⟩ (fs++#[.func (.yield w1.heap.size) #[] #[]]++cs) w2;have hin:CallsIn F (n0-1) P (M.fm f0) (fs++#[.func (.yield w1.heap.size) #[] #[]]++cs) w2 fun e w'=>∃cv,e=.returned cv∧fX M c2 w2 σ' v cv w':=by
   rcases hcall.1 with⟨_,h⟩|⟨cv,w',h,_⟩
   ·exact h
   rw[henter]at h;cases h
  refine⟨w0.heap.size+1,[{ target:=.collected w0.heap.size,args:=#[] }],w2,{ target:=.fn (.func (M.fm f0)) cs,args:=fs++#[.func (.yield w1.heap.size) #[] #[]] },w2,M.fm f0,_,w2,?_,?_,fun f' _=>hF.fn f',?_,fun h=>absurd h (by rw[hF.depth];simp),hin.mono ?_⟩
  ·rw[hent,←hw2,←hw1,←hrec];rfl
  ·have:a0.eval g=.func (.func (M.fm f0)) fs cs:=he;simp only[rangeCall,Go.resolve,this,Deferred.ofValue,hz1];show Sem.run P (pure (⟨Target.fn (Fn.func (M.fm f0)) cs,fs++(#[Operand.const (Value.func (Fn.yield (w0.heap.size+1)) #[] #[])].map a0.eval)⟩:Deferred)) w2=_;simp[Act.eval]
  ·exact henter
  intro e' w' ⟨cv,hcv,c3,s3,st3,_⟩;subst hcv
  have hst3:∃j,σ'[s.st.length]?=some (.pend false j)∧e=(match j with|none=>.nrm|some e=>e)∧s'=⟨s.env,σ'.set s.st.length .dead⟩:=by
   unfold tH at h2;split at h2
   ·cases h2;exact⟨none,by assumption,rfl,rfl⟩
   ·cases h2;exact⟨some _,by assumption,rfl,rfl⟩
   cases h2
  obtain⟨j,hj,hej,hs'⟩:=hst3;have hH3:c3.H s.st.length=.pend:=by rw[s3.H,dV hj]
  obtain⟨p1,p2,p3⟩:=st3.place s.st.length hN2 (by rw[hH2,hH3]) (by rw[hH2];simp);obtain⟨b,b1,b2⟩:=s3.obj _ _ hj;rw[p1,hp2]at b1;cases b1;rw[p3,hl2]at b2;have hl3:c3.H s.st.length≠.dead:=by rw[hH3];simp
  have hp3:c3.place s.st.length=some w1.heap.size:=by rw[p1,hp2]
  obtain⟨r,hrr,hnb,hpend⟩:∃r:Loop,w'.heap[w1.heap.size]?=some (.loop r)∧r.state≠.busy∧r.pending=rC e:=by
   refine⟨_,b2,?_,?_⟩
   ·cases j<;>simp[pI]
   rw[hej];cases j with
   |none=>rfl
   |some e=>rfl
  have hend:=run_endLoop (P:=P) hrr hnb;have hset:rF w' (w'.putObj w1.heap.size (.loop { r with state:=.exhausted })) w1.heap.size (.loop { r with state:=.exhausted }):=⟨⟨rfl,rfl,rfl,aB _⟩,rfl⟩;obtain⟨s4,st4⟩:=s3.drop hl3 hp3 hset;have st:=(st02.trans st3).trans st4;have hmk:oN m0 w2 c2 ({ target:=.collected w0.heap.size,args:=#[] }::a0.defers):=by
   refine⟨⟨w0.heap.size,rfl,⟨hs.base,?_,?_,?_⟩,fun d hd e=>?_⟩,hs.marks.stp st02⟩
   ·rw[←hw2,fa (by omega),←hw1,nU]
   ·rw[←hc2];exact fun h=>absurd (hs.sim.low _ h) (by omega)
   ·intro id hl hpl;obtain⟨i,i1,i2⟩:=st2.liv id _ hl hpl (by omega);exact absurd (hs.sim.plow i _ i1 i2).1 (by omega)
   obtain⟨q,q1,q2⟩:=hs.marks.lt d hd;rw[q1]at e;cases e;omega
  have hfin:SR M em nt m0 _ (w'.putObj w1.heap.size (.loop { r with state:=.exhausted })) s' { a0 with defers:=[{ target:=.collected w0.heap.size,args:=#[] }]++a0.defers }:=
   ⟨by rw[hs'];exact s4,by rw[hs'];exact fun t x hx=>(hs.tmp t x hx).ext st.toExt,hs.size,aZ hs.base st.size,hmk.stp (st3.trans st4)⟩
  have hq:=hQ _ _ _ hfin st;generalize w'.putObj w1.heap.size (.loop { r with state:=.exhausted })=W at hend hq;rw[hpend,hz1]at hend;refine⟨rC e,W,hend,?_⟩;cases e with
  |nrm=>exact hq
  |ext id=>exact wpIn_exit hq
  |ret=>exact wpIn_ret hq
 cases h1
theorem ek.reval{w:World}{c:cJ}{σ:aw}(hs:ek M w c σ){id k ep:Nat}{es es':List ap}(ho:σ[id]?=some (.arr k ep es))(hl:es'.length=es.length)(hn:∀x∈es',aC x=k)
  (hr:∀f:Nat→Nat→Value,(∀i (hi:i<es.length) j (hj:j<(cellsOf es[i]).length),R M w c (cellsOf es[i])[j] (f i j))→∀i (hi:i<es'.length) j (hj:j<(cellsOf es'[i]).length),R M w c (cellsOf es'[i])[j] (f i j)) :
  ek M w c (σ.set id (.arr k ep es')):=by
 have hsz:id<σ.length:=(ak.1 ho).1;have hself:(σ.set id (.arr k ep es'))[id]?=some (.arr k ep es'):=by simp[hsz]
 have hH:hd (σ.set id (.arr k ep es'))=hd σ:=by
  funext i;by_cases e:i=id
  ·subst e;rw[dV hself,dV ho]
  rw[iN e]
 refine⟨by rw[hH];exact hs.H,by rw[gy];exact hs.N,hs.sb,hs.low,hs.plow,hs.inj,fun i o hoi=>?_⟩;by_cases e:i=id
 ·subst e;rw[hself]at hoi;cases hoi;obtain⟨o1,o2,o3,o4⟩:=hs.obj i _ ho;refine⟨o1,hn,fun hp=>bM (by rw[hl,o3 hp];rfl),fun b hb=>?_⟩;obtain⟨cs,T,f,q1,q2,q3,q4,q5⟩:=o4 b hb;exact⟨cs,T,f,q1,by rw[hl];exact q2,q3,fun i j hi hj=>q4 i j (by omega) hj,hr f q5⟩
 rw[cX (fun h=>e h.symm)]at hoi;exact hs.obj i o hoi
theorem EA{w:World}{c:cJ}{σ σ':aw}(hs:ek M w c σ){id ep j p0 k:Nat}(h:Ba id ep j p0 k σ=some σ'):∃c',ek M w c' σ'∧gG c w c' w:=by
 unfold Ba at h;split at h
 ·rename_i k' e es ho;split at h
  ·rename_i hc;obtain⟨_,hk⟩:=hc;split at h
   ·rename_i cs hes;split at h
    ·rename_i hcs;cases h;obtain⟨hj,hej⟩:=ak.1 hes;obtain⟨hq,heq⟩:=ak.1 hcs;have hid:id<σ.length:=(ak.1 ho).1;obtain⟨c',s1,s2,s3⟩:=DT hs hk none;have ho':(σ++[.arr k 0 []])[id]?=some (.arr k' e es):=by rw[bu hid];exact ho
     have hH:c'.H σ.length=.arr k 0:=by rw[s1.H,dV kE]
     have hN:σ.length<c'.N:=by rw[s1.N];simp
     refine⟨c',?_,s2⟩;have:=s1.reval (es':=es.set j (.agg (cs.set p0 (.sl σ.length 0 0 0)))) ho' (by simp) (fun x hx=>?_) (fun f hf i hi q hq'=>?_)
     ·rwa [eG _ _ hid]at this
     ·obtain⟨_,o2,_⟩:=hs.obj id _ ho;rcases ev hx with hx|rfl
      ·exact o2 x hx
      rw[←o2 es[j] (aO hj),hej];simp[aC]
     have hi':i<es.length:=by simpa using hi
     by_cases e1:i=j
     ·subst e1;have e2:(es.set i (.agg (cs.set p0 (.sl σ.length 0 0 0))))[i]=.agg (cs.set p0 (.sl σ.length 0 0 0)):=by simp
      simp only[e2]at hq' ⊢;have key:∀q (hq:q<(cs.set p0 (.sl σ.length 0 0 0)).length),R M w c' (cs.set p0 (.sl σ.length 0 0 0))[q] (f i q):=fun q hq=>by
       have hql:q<cs.length:=by simpa using hq
       have hold:R M w c' cs[q] (f i q):=by
        have:=hf i hi' q (by rw[hej];exact hql);simp only[hej]at this;exact this
       by_cases e3:q=p0
       ·subst e3;rw[gF];rw[heq]at hold;generalize f i q=v at hold;cases hold with
        |ai=>exact .sl0 hN hH
       rw[gi (fun h=>e3 h.symm)];exact hold
      exact key q hq'
     have e2:(es.set j (.agg (cs.set p0 (.sl σ.length 0 0 0))))[i]=es[i]:=by rw[gi (fun h=>e1 h.symm)]
     simp only[e2]at hq' ⊢;exact hf i hi' q hq'
    cases h
   ·rename_i hes;split at h
    ·cases h;obtain⟨hj,hej⟩:=ak.1 hes;have hid:id<σ.length:=(ak.1 ho).1;obtain⟨c',s1,s2,s3⟩:=DT hs hk none;have ho':(σ++[.arr k 0 []])[id]?=some (.arr k' e es):=by rw[bu hid];exact ho
     have hH:c'.H σ.length=.arr k 0:=by rw[s1.H,dV kE]
     have hN:σ.length<c'.N:=by rw[s1.N];simp
     refine⟨c',?_,s2⟩;have:=s1.reval (es':=es.set j (.sl σ.length 0 0 0)) ho' (by simp) (fun x hx=>?_) (fun f hf i hi q hq'=>?_)
     ·rwa [eG _ _ hid]at this
     ·obtain⟨_,o2,_⟩:=hs.obj id _ ho;rcases ev hx with hx|rfl
      ·exact o2 x hx
      rw[←o2 es[j] (aO hj),hej];rfl
     have hi':i<es.length:=by simpa using hi
     by_cases e1:i=j
     ·subst e1;have e2:(es.set i (.sl σ.length 0 0 0))[i]=.sl σ.length 0 0 0:=by simp
      simp only[e2]at hq' ⊢;have hq0:q=0:=by simpa [cellsOf] using hq'
      subst hq0;show R M w c' (.sl σ.length 0 0 0) _;have hold:R M w c' .ai (f i 0):=by
       have:=hf i hi' 0 (by rw[hej];simp[cellsOf]);simp only[hej]at this;exact this
      generalize f i 0=v at hold;cases hold with
      |ai=>exact .sl0 hN hH
     have e2:(es.set j (.sl σ.length 0 0 0))[i]=es[i]:=by rw[gi (fun h=>e1 h.symm)]
     simp only[e2]at hq' ⊢;exact hf i hi' q hq'
    cases h
   cases h
  cases h
 cases h
theorem Hk{id ep k:Nat}:∀(n:Nat) {w:World} {c:cJ} {σ σ':aw},ek M w c σ→zz id ep k n σ=some σ'→∃c',ek M w c' σ'∧gG c w c' w
 |0,w,c,σ,σ',hs,h=>by cases h;exact⟨c,hs,.refl c w⟩
 |n+1,w,c,σ,σ',hs,h=>by
  unfold zz at h;obtain⟨σ1,h1,h2⟩:=bv h;obtain⟨c1,s1,t1⟩:=Hk n hs h1;obtain⟨c2,s2,t2⟩:=EA s1 h2;exact⟨c2,s2,t1.trans t2⟩
theorem ac2{w:World}{c:cJ}{σ σ':aw}(hs:ek M w c σ){p:ap}{off k:Nat}(h:EV p off k σ=some σ'):∃c',ek M w c' σ'∧gG c w c' w:=by
 unfold EV at h;split at h
 ·exact EA hs h
 ·split at h
  ·split at h
   ·exact Hk _ hs h
   cases h
  exact EA hs h
 cases h
theorem uu(hm:P.follows .mixedOrders=true)(hp:tW bT C)(hC:jG M P C)(hR:ji M P C)(hF:qk F)(htop:top=true→F.round=none){code:Go.Code}{x:av}(h:fd M P bT em nt top code x):Lc M P em nt F n0 (exec C n x) code:=by
 induction h with
 |nop hc=>
  intro s e s' hr m0 c0 w0 a0 hg hs Q hQ;simp only[exec,az,dx]at hr;obtain⟨rfl,rfl⟩:=hr;exact N9 hc (hQ a0 w0 c0 hs (.refl c0 w0))
 |@text id ops ins os its hok hos=>
  intro s e s' hr m0 c0 w0 a0 hg hs Q hQ;simp only[exec]at hr;obtain⟨⟨ls,σ'⟩,h1,h2⟩:=aX hr;cases h2;obtain⟨st,t1,t2,t3⟩:=Mh h1;refine Mc hok t1 hp (fun n j I h=>by cases h) hC hR hF hg (by rw[t2];exact hs.sim) hs.tmp hs.size hos (fun a w hf=>?_) id;obtain⟨c,f1,f2,f3,f4,f5⟩:=hf;rw[t3]at f1;exact hQ a w c ⟨f1,f3,by rw[f4];exact hs.size,aZ hs.base f2.size,by rw[f5];exact hs.marks.stp f2⟩ f2
 |@any id ops ins os its bef late hok he hos=>
  intro s e s' hr m0 c0 w0 a0 hg hs Q hQ;simp only[exec]at hr;obtain⟨⟨ls,σ'⟩,h1,h2⟩:=aX hr;cases h2;obtain⟨st,t1,t2,t3⟩:=Mh h1;refine Ev hm he hok t1 hp (fun n j I h=>by cases h) hC hR hF hg (by rw[t2];exact hs.sim) hs.tmp hs.size hos (fun a w hf=>?_) id;obtain⟨c,f1,f2,f3,f4,f5⟩:=hf;rw[t3]at f1;exact hQ a w c ⟨f1,f3,by rw[f4];exact hs.size,aZ hs.base f2.size,by rw[f5];exact hs.marks.stp f2⟩ f2
 |@anyd id ops ins os its bef chk late hok he hos=>
  intro s e s' hr m0 c0 w0 a0 hg hs Q hQ;simp only[exec]at hr;obtain⟨⟨ls,ss,σ'⟩,h1,h2⟩:=bv hr;obtain⟨u,hc,h3⟩:=aX h2;cases h3;obtain⟨st,t1,t2,t3,t4⟩:=SD h1 hc;refine Ev hm he hok t1 hp t4 hC hR hF hg (by rw[t2];exact hs.sim) hs.tmp hs.size hos (fun a w hf=>?_) id;obtain⟨c,f1,f2,f3,f4,f5⟩:=hf;rw[t3]at f1;exact hQ a w c ⟨f1,f3,by rw[f4];exact hs.size,aZ hs.base f2.size,by rw[f5];exact hs.marks.stp f2⟩ f2
 |@seq a b x y _ _ ih1 ih2=>
  intro s e s' hr m0 c0 w0 a0 hg hs Q hQ;simp only[exec]at hr;obtain⟨⟨e1,s1⟩,h1,h2⟩:=bv hr;apply wpIn_seq;refine ih1 s e1 s1 h1 m0 c0 w0 a0 hg hs _ fun a1 w1 c1 hs1 hst1=>?_;cases e1 with
  |nrm=>
   exact ih2 s1 e s' h2 m0 c1 w1 a1 (hg.ext hst1.toExt) hs1 Q fun a2 w2 c2 hs2 hst2=>hQ a2 w2 c2 hs2 (hst1.trans hst2)
  |ext id=>
   simp only[az,dx]at h2;obtain⟨rfl,rfl⟩:=h2;exact hQ a1 w1 c1 hs1 hst1
  |ret=>
   simp only[az,dx]at h2;obtain⟨rfl,rfl⟩:=h2;exact hQ a1 w1 c1 hs1 hst1
 |@left a b x hb _ ih=>
  intro s e s' hr m0 c0 w0 a0 hg hs Q hQ;apply wpIn_seq;refine ih s e s' hr m0 c0 w0 a0 hg hs _ fun a1 w1 c1 hs1 hst1=>?_;have:=hQ a1 w1 c1 hs1 hst1;cases e with
  |nrm=>exact N9 hb this
  |ext id=>exact this
  |ret=>exact this
 |@right a b y ha _ ih=>
  intro s e s' hr m0 c0 w0 a0 hg hs Q hQ;apply wpIn_seq;exact N9 ha (ih s e s' hr m0 c0 w0 a0 hg hs Q hQ)
 |@cond t a b t' x y ht _ _ ih1 ih2=>
  intro s e s' hr m0 c0 w0 a0 hg hs Q hQ;have hc:=Rk (env:=s.env) hs.tmp hg ht;simp only[exec]at hr;split at hr
  ·rename_i he;rw[he]at hc;have hv:a0.eval t=.bool true:=by
    generalize a0.eval t=q at hc;cases hc;rfl
   exact wpIn_cond_true hv (ih1 s e s' hr m0 c0 w0 a0 hg hs Q hQ)
  ·rename_i he;rw[he]at hc;have hv:a0.eval t=.bool false:=by
    generalize a0.eval t=q at hc;cases hc;rfl
   exact wpIn_cond_false hv (ih2 s e s' hr m0 c0 w0 a0 hg hs Q hQ)
  cases hr
 |@blk id a x _ ih=>
  intro s e s' hr m0 c0 w0 a0 hg hs Q hQ;simp only[exec]at hr;obtain⟨⟨e1,s1⟩,h1,h2⟩:=aX hr;apply wpIn_block;refine ih s e1 s1 h1 m0 c0 w0 a0 hg hs _ fun a1 w1 c1 hs1 hst1=>?_;cases e1 with
  |nrm=>
   cases h2;exact hQ a1 w1 c1 hs1 hst1
  |ret=>
   cases h2;exact hQ a1 w1 c1 hs1 hst1
  |ext j=>
   simp only at h2;show if j=id then Q .normal a1 w1 else Q (.exit j) a1 w1
   split at h2
   ·rename_i hj;cases h2;rw[if_pos hj];exact hQ a1 w1 c1 hs1 hst1
   rename_i hj;cases h2;rw[if_neg hj];exact hQ a1 w1 c1 hs1 hst1
 |@loop clr a x _ ih=>exact NG ih clr n
 |mloop e1 d1 g1 e2 d2 g2 hit hok hnd h1 l1 l2 _ ih=>exact Lm ih hF e1 d1 g1 e2 d2 g2 hit hok hnd h1 l1 l2
 |exit=>
  intro s e s' hr m0 c0 w0 a0 hg hs Q hQ;simp only[exec,az,dx]at hr;obtain⟨rfl,rfl⟩:=hr;exact wpIn_exit (hQ a0 w0 c0 hs (.refl c0 w0))
 |ret=>
  intro s e s' hr m0 c0 w0 a0 hg hs Q hQ;simp only[exec,az,dx]at hr;obtain⟨rfl,rfl⟩:=hr;exact wpIn_ret (hQ a0 w0 c0 hs (.refl c0 w0))
 |@scope a x _ ih=>
  intro s e s' hr m0 c0 w0 a0 hg hs Q hQ;apply Oy;refine ih s e s' hr m0 c0 w0 a0 hg hs _ fun a1 w1 c1 hs1 hst1=>?_;have:=hQ a1 w1 c1 hs1 hst1;cases e<;>exact this
 |@lift code x i off k _ ih=>
  intro s e s' hr m0 c0 w0 a0 hg hs Q hQ;simp only[exec]at hr;obtain⟨σ,h1,h2⟩:=bv hr;obtain⟨c1,l1,l2⟩:=ac2 hs.sim h1;exact ih ⟨s.env,σ⟩ e s' h2 m0 c1 w0 a0 (hg.ext l2.toExt) ⟨l1,fun t x hx=>(hs.tmp t x hx).ext l2.toExt,hs.size,hs.base,hs.marks.stp l2⟩ Q fun a w c hs1 hst=>hQ a w c hs1 (l2.trans hst)
 |@rng g ps assign body f site n htop' hf hnd hnt hn hsite=>
  intro s e s' hr m0 c0 w0 a0 hg hs Q hQ;simp only[exec]at hr;split at hr
  ·rename_i hlen;obtain⟨⟨v,σ'⟩,h1,h2⟩:=bv hr;refine SC hC hF (htop htop') hf hnd hnt (by rw[hlen,hn]) hsite h1 h2 hg hs Q hQ
  cases hr
end
end Go.AM
namespace Go.AM
variable {M:cO} {P:Program} {w:World} {c:cJ} {σ:aw}
def cJ.lent(c:cJ)(w:World):cJ:={ c with bor:=fun b=>b<w.heap.size,H:=hd [],N:=0,place:=fun _=>none }
theorem ek.lent(hs:ek M w c σ):ek M w (c.lent w) [] where
 H:=rfl
 N:=rfl
 sb:=fun b h=>hs.low b (hs.sb b h)
 low:=fun b h=>h
 plow:=fun id b h=>absurd (by rfl) h
 inj:=fun i j b h=>absurd (by rfl) h
 obj:=fun id o h=>by cases h
theorem xB(hs:ek M w c σ):adO true 0 c (c.lent w) where
 sld:=fun b h=>h
 sb:=fun b h=>hs.low b (hs.sb b h)
 bor:=fun b h=>hs.low b h
 gone:=fun id b _ h1 h2=>(hs.plow id b h1 h2).1
 N:=fun id h=>absurd h (cF _)
 keep:=fun id h=>absurd h (cF _)
theorem acz(hs:ek M w c σ){v:ap}{cv:Value}(h:R M w c v cv):R M w (c.lent w) (iC σ v) cv:=
 (O1 hs (xB hs) dp false v cv h).ext (Ext.ofStill (xB hs).sb true)
theorem Oq(hs:ek M w c σ)(hg:iR M w c):iR M w (c.lent w):=⟨fun g a h=>
 (O1 hs (xB hs) 1 false _ _ (hg.1 g a h)).ext (Ext.ofStill (xB hs).sb true),hg.2⟩
theorem Hx{em:List Tmp}{np nenv nt:Nat}{args:List ap}{cargs:Array Value}(hem:em.take np=List.range np)(hnp:np≤em.length)(hsz:cargs.size=args.length)(hr:∀i (h:i<args.length),∃x,cargs[i]?=some x∧R M w c args[i] x) :
  lc M w c (args.take np++List.replicate (nenv-np) .any) [] (t7 em) (cargs++Array.replicate (nt-cargs.size) undef):=fun t x hx=>by
 unfold t7 at hx;obtain⟨e,he,rfl⟩:=aX hx;show R M w c (lU _ e) _;rw[List.idxOf?,cD]at he;obtain⟨h1,h2,_⟩:=he;by_cases hlt:e<(args.take np).length
 ·have hlt':e<np∧e<args.length:=by rw[cz]at hlt;omega
  have e1:lU (args.take np++List.replicate (nenv-np) .any) e=args[e]'hlt'.2:=by
   unfold lU;rw[bu hlt,aq hlt];simp
  have e2:t=e:=by
   have h3:(em.take np)[e]?=some e:=by rw[hem];simp[hlt'.1]
   rw[dO,if_pos hlt'.1,aq h1]at h3;have h4:em[e]=t:=by simpa using h2
   rw[←h4];exact dz h3
  subst e2;rw[e1];obtain⟨x,x1,x2⟩:=hr t hlt'.2;rw[bA,dN (by omega),x1];exact x2
 have e1:lU (args.take np++List.replicate (nenv-np) .any) e=.any:=by
  unfold lU;rw[bY (by omega),List.getElem?_replicate];split<;>rfl
 rw[e1];exact .any
end Go.AM
