/- Part of the proof. -/
import Derived.Test.YtdfklhejofpgbaaGreatDoorAm02
import Derived.RangeFuncLeaves
import Derived.RangeFuncRecord
import Derived.Scope
set_option linter.unusedVariables false
set_option linter.unusedSimpArgs false
namespace Go.AM
variable {M:cZ} {P:Program}
variable {co:Nat→Bool} {ops:Array Oper} {ins:List cj} {em:List Tmp} {its:C8} {bef:Nat→Nat} {chk:List (Nat×Nat)} {late:Option Nat} {nt:Nat} {env ls:List ap} {s:Nat→ay} {C:gn} {w0:World} {c0:cX} {a0:Act}
def u7(em:List Tmp)(t:Tmp):Option cP:=(em.idxOf? t).map .env
def pc(e:Nat):List (Nat×cP)→Option cP
 |[]=>none
 |(k,x)::r=>if k=e then some x else pc e r
def tv(ops:List Oper)(em:List Tmp)(its:C8)(os:List (Nat×cP)):Bool:=
 (os.map (·.1)).Nodup&&em.zipIdx.all fun te=>match Oa ops te.1 with
  |none=>(pc te.2 os).isNone
  |some k=>(match pc te.2 os with
   |some x=>B0 (o6 its k) x
   |none=>false)
theorem yx{env:List ap}{k e:Nat}{v:ap}(h:k≠e):mK (env.set k v) e=mK env e:=by
 unfold mK;rw[dG h]
theorem Is{old ls:List ap}{e:Nat}:∀{os:List (Nat×cP)} {env:List ap},pc e os=none→mK (oX env old ls os) e=mK env e
 |[],_,_=>rfl
 |(k,x)::r,env,h=>by
  simp only[pc]at h;split at h
  ·cases h
  rename_i hk;simp only[oX];rw[Is h,yx hk]
theorem P3{old ls:List ap}{e:Nat}{x:cP}:∀{os:List (Nat×cP)} {env:List ap},(os.map (·.1)).Nodup→pc e os=some x→mK (oX env old ls os) e=x.eval old ls∨mK (oX env old ls os) e=.any
 |[],_,_,h=>by cases h
 |(k,y)::r,env,hn,h=>by
  simp only[pc]at h;simp only[bG,List.nodup_cons]at hn;simp only[oX];split at h
  ·rename_i hk;subst hk;cases h;have:pc k r=none:=by
    have hni:=hn.1;clear hn;induction r with
    |nil=>rfl
    |cons q r ih=>
     simp only[bG,dz,not_or]at hni;unfold pc;rw[if_neg (fun e=>hni.1 e.symm)];exact ih hni.2
   rw[Is this];unfold mK;rw[dc];split
   ·split
    ·exact .inl rfl
    exact .inr rfl
   exact absurd rfl (by assumption)
  exact P3 hn.2 h
def Ud(M:cZ)(em:List Tmp)(env ls:List ap)(os:List (Nat×cP))(c0:cX)(w0:World)(a0:Act)(σ':ay)(a:Act)(w:World):Prop:=
 ∃c,ei M w c σ'∧iD c0 w0 c w∧lr M w c (oX env env ls os) [] (u7 em) a.tmps∧a.tmps.size=a0.tmps.size∧a.defers=a0.defers
theorem Hk(hok:uE M P co ops ins em its bef chk late nt)(hT:xd C env ins ls s)(hp:sL co C)(hchk:∀(n j:Nat) (I:cj),(n,j)∈chk→ins[n]?=some I→bD C env (ls.take n) (s j) I.op=some (mK ls n,s j))
  (ht0:lr M w0 c0 env [] (u7 em) a0.tmps) {os:List (Nat×cP)} (hos:tv ops.toList em its os=true) {S:Nat→Prop} (hS:∀i,i<ops.size→S i) {a:Act} {w:World}
  (hinv:uL M co ops ins its bef chk env ls s c0 w0 a0 none S a w):Ud M em env ls os c0 w0 a0 (s ins.length) a w:=by
 obtain⟨cl,lt,c,p,hs,hst,hcut,hv,hun,hts,hdf,_⟩:=hinv;have hpl:p≤ins.length:=by
  rcases hcut.1 with rfl|⟨k,n,_,hk,_,rfl⟩
  ·exact bP _
  exact hok.bound k n hk
 have hsp:s p=s ins.length:=Al hT hp hchk hok.guards hok.onto hpl (aM _) fun k m hk hm=>by
  have hkl:k<ops.size:=by
   rw[←hok.size];unfold eA at hk;obtain⟨x,hx,_⟩:=bI hk;exact (al.1 hx).1
  exact⟨fun _=>hok.bound k m hk,fun _=>(hcut.2 k m hk hm).1 (hS k hkl)⟩
 refine⟨c,hsp▸hs,hst,fun t x hx=>?_,hts,hdf⟩;unfold u7 at hx;obtain⟨e,he,rfl⟩:=bF hx;unfold tv at hos;simp only[aq,aL,aG]at hos;obtain⟨hnd,hall⟩:=hos;have hm:(t,e)∈em.zipIdx:=by
  rw[List.idxOf?,dn]at he;obtain⟨h1,h2,_⟩:=he;rw[List.mem_zipIdx_iff_getElem?];rw[am h1];simpa using h2
 have:=hall _ hm;simp only at this;show R M w c (mK (oX env env ls os) e) _;cases hw:Oa ops.toList t with
 |none=>
  rw[hw]at this;rw[Is (by simpa using this),hun t (fun i o _ ho=>Hg hw ho) (fun _ _ e=>by cases e)];exact (ht0 t (.env e) (by unfold u7;rw[he];rfl)).ext hst.toExt
 |some k=>
  rw[hw]at this;simp only at this;split at this
  ·rename_i x hx';obtain⟨ok,hk,hkd⟩:=GL hw;have hr:=hv k ok t (hS k (bH.1 hk).1) hk hkd;rw[sJ this]at hr;rcases P3 (old:=env) (ls:=ls) (env:=env) hnd hx' with h|h
   ·rw[h];exact hr
   rw[h];exact .any
  cases this
theorem HD{w:World}(hs:ei M w c0 (s 0))(hst:iD c0 w0 c0 w){S:Nat→Prop}(hS:∀i,¬S i):uL M co ops ins its bef chk env ls s c0 w0 a0 none S a0 w:=
 ⟨fun i k h=>absurd h (hS i),fun i h=>absurd h (hS i),c0,0,hs,hst,⟨.inl rfl,fun k n _ _=>⟨fun h=>absurd h (hS k),fun h=>absurd h (bX _)⟩⟩,fun i o d h=>absurd h (hS i),fun t _ _=>rfl,rfl,rfl,fun _ _ _ e=>by cases e⟩
theorem uL.congr{x:Option (Tmp×Nat×Go.Obj)}{S S':Nat→Prop}(h:∀i,S i↔S' i){a:Act}{w:World}(hi:uL M co ops ins its bef chk env ls s c0 w0 a0 x S a w):uL M co ops ins its bef chk env ls s c0 w0 a0 x S' a w:=by
 have:S=S':=funext fun i=>propext (h i);rw[←this];exact hi
section
variable {F:Fence} {n0:Nat} {Q:Exit→Act→World→Prop} {os:List (Nat×cP)}
theorem MS(hok:uE M P co ops ins em its (fun i=>2^i-1) chk none nt)(hT:xd C env ins ls s)(hp:sL co C)(hchk:∀(n j:Nat) (I:cj),(n,j)∈chk→ins[n]?=some I→bD C env (ls.take n) (s j) I.op=some (mK ls n,s j))
  (hC:jP M P C) (hR:jE M P C) (hF:rk F) (hg:iW M w0 c0) (hs:ei M w0 c0 (s 0)) (ht0:lr M w0 c0 env [] (u7 em) a0.tmps) (hsz:nt≤a0.tmps.size) (hos:tv ops.toList em its os=true)
  (hQ:∀a w,Ud M em env ls os c0 w0 a0 (s ins.length) a w→Q .normal a w) (id:Nat):(Code.region id ops false).wpIn F n0 P Q a0 w0:=by
 apply wpIn_region;have key:∀(m i:Nat) (a:Act) (w:World),i+m=ops.size→uL M co ops ins its (fun i=>2^i-1) chk env ls s c0 w0 a0 none (fun j=>j<i) a w→wpOpsIn F n0 P ops Q (List.range' i m) a w:=by
  intro m;induction m with
  |zero=>
   intro i a w hi hinv;exact hQ a w (Hk hok hT hp hchk ht0 hos (fun j hj=>by omega) hinv)
  |succ m ih=>
   intro i a w hi hinv;rw[lU,wpOpsIn_cons];have hio:i<ops.size:=by omega
   refine wpOpIn_mono (fun a' w' h=>ih (i+1) a' w' (by omega) h) ?_
   have:=Ko (Q:=Q) (n0:=n0) hok hT hp hchk hC hR hF hg ht0 hsz (i:=i) (o:=ops[i]) (by simp[hio]) (x:=none) (fun _ _ _ e=>by cases e) (S:=fun j=>j<i) (dr i) (fun n hn hw k m hlt hk hm=>hlt) (fun k hk=>by
    rw[dX]at hk;simpa using hk) hinv
   exact wpOpIn_mono (fun a' w' h=>h.congr fun j=>by omega) this
 rw[mV];exact key ops.size 0 a0 w0 (by omega) (HD hs (.refl c0 w0) fun i=>bX i)
structure QZ (ops:Array Oper) (bef:Nat→Nat):Prop where
 low:∀(i:Nat) (o:Oper),ops[i]?=some o→∀e∈o.after,Region.binds .any e=true→e.on<i
 clos:∀(i:Nat) (o:Oper),ops[i]?=some o→∀k,(bef i).testBit k=true→∃e∈o.after,Region.binds .any e=true∧(k=e.on∨(bef e.on).testBit k=true)
theorem A5{listed:Array Bool}{i:Nat}:i∈Region.ready .any ops listed↔i<ops.size∧listed.getD i true=false∧∃o,ops[i]?=some o∧∀e∈o.after,Region.binds .any e=true→listed.getD e.on false=true:=by
 unfold Region.ready;simp only[List.mem_filter,gh,aq,cN];constructor
 ·rintro⟨h1,h2,h3⟩;refine⟨h1,h2,ops[i],by simp[h1],fun e he hb=>?_⟩;rw[de h1]at h3;simp only[dd,cJ,iC]at h3;have:=h3 e he;simpa [hb] using this
 rintro⟨h1,h2,o,ho,h3⟩;refine⟨h1,h2,?_⟩;rw[ho];simp only[dd,cJ,iC];intro e he;cases hb:Region.binds .any e with
 |false=>rfl
 |true=>simpa using h3 e he hb
theorem Tw(hok:uE M P co ops ins em its bef chk late nt)(hT:xd C env ins ls s)(hp:sL co C)(hchk:∀(n j:Nat) (I:cj),(n,j)∈chk→ins[n]?=some I→bD C env (ls.take n) (s j) I.op=some (mK ls n,s j))
  {d:Nat} {o:Oper} {t:Tmp} {n kk b:Nat} {z:ap} {v0:Value} {T:TypeId} (hd:ops[d]?=some o) (hdt:o.dst=some t) (hn:eA its d=some n) (hI:ins[n]?=some ⟨.box kk (.val z),none⟩) (hnw:jI co ins chk n=true) (hval:o6 its d=.loc n)
  (hk0:kk≠0) (hz:ms M.fm 8 v0 z=true) (hbd:bef d=0) {S:Nat→Prop} (hS:¬S d) (hall:∀k m,eA its k=some m→jI co ins chk m=true→m<n→S k) {a:Act} {w:World}
  (hinv:uL M co ops ins its bef chk env ls s c0 w0 a0 (some (t,b,.cells v0.cells T (0,0))) S a w):uL M co ops ins its bef chk env ls s c0 w0 a0 none (fun j=>S j∨j=d) a w:=by
 obtain⟨cl,lt,c,p,hs,hst,hcut,hv,hun,hts,hdf,hhid⟩:=hinv;obtain⟨y1,y2,y3,y4,y5⟩:=hhid t b _ rfl;have hnl:n<ins.length:=(al.1 hI).1;have hnl':n<ls.length:=by rw[hT.len];exact hnl
 have hpl:p≤ins.length:=by
  rcases hcut.1 with rfl|⟨k,n,_,hk,_,rfl⟩
  ·exact bP _
  exact hok.bound k n hk
 have hnp:¬n<p:=fun h=>hS ((hcut.2 d n hn hnw).2 h);have hiff:∀k m,eA its k=some m→jI co ins chk m=true→(m<p↔m<n):=fun k m hk hm=>by
  refine⟨fun h=>by omega,fun h=>(hcut.2 k m hk hm).1 (hall k m hk hm h)⟩
 have hsp:s p=s n:=Al hT hp hchk hok.guards hok.onto hpl (by omega) hiff;have hstep:bD C env (ls.take n) (s n) (.box kk (.val z))=some (ls[n],s (n+1)):=by
  have hIe:=(al.1 hI).2;rcases hT.step n hnl hnl' with⟨_,h2⟩|⟨h1,_,_⟩
  ·rw[hIe]at h2;exact h2
  rw[hIe]at h1;cases h1
 have hstep':(if aC z=kk then some (ap.ptr (s n).length 0 0 0,s n++[.arr kk 0 [z]]) else none)=some (ls[n],s (n+1)):=hstep;split at hstep'
 ·rename_i hzk;simp only[aJ,dN]at hstep';obtain⟨e1,e2⟩:=hstep';rw[hsp]at hs;obtain⟨g,hg,hgs,hgc⟩:=pk (rC (M:=M) (w:=w) (c:=c) hz) (by omega)
  obtain⟨c',a1,a2,a3,a4,a5,a6,a7⟩:=hs.adopt hst (k:=kk) (xs:=[z]) (f:=fun _ j=>g j) y2 y3 y4 y5 hk0 (by simp[hzk]) (by simp;omega)
   (fun i j hi hj=>by
    have:i=0:=by simp at hi;omega
    subst this;rw[kH,bS];exact⟨hgc j (by omega),hg.one j (by omega)⟩)
   (fun i hi j hj=>by
    have:i=0:=by simp at hi;omega
    subst this;exact hg.rel j hj)
  refine⟨fun i k hi hk=>?_,fun i hi=>?_,c',n+1,by rw[←e2];exact a5,a6,⟨.inr ⟨d,n,.inr rfl,hn,hnw,rfl⟩,fun k m hk hm=>?_⟩,fun i oi di hi hoi hdi=>?_,fun t' ht' _=>?_,hts,hdf,fun _ _ _ e=>by cases e⟩
  ·rcases hi with hi|rfl
   ·exact .inl (cl i k hi hk)
   rw[hbd]at hk;simp at hk
  ·rcases hi with hi|rfl
   ·exact lt i hi
   exact (bH.1 hd).1
  ·constructor
   ·rintro (h|rfl)
    ·have:=(hcut.2 k m hk hm).1 h;have:=(hiff k m hk hm).1 this;omega
    rw[hn]at hk;cases hk;omega
   intro h;by_cases e:m=n
   ·subst e;right;rcases eY k d with h|h|h
    ·have:=hok.mono _ _ _ _ hk hn h;omega
    ·exact h
    have:=hok.mono _ _ _ _ hn hk h;omega
   exact .inl (hall k m hk hm (by omega))
  ·by_cases e:i=d
   ·subst e;rw[hd]at hoi;cases hoi;rw[hdt]at hdi;cases hdi;rw[y1,hval];have e3:(cP.loc n).eval env ls=.ptr (s n).length 0 0 0:=by
     show mK ls n=_;rw[JE hnl',←e1]
    rw[e3];have:=R.ptr (M:=M) (w:=w) (c:=c') (id:=(s n).length) (ep:=0) (i:=0) (off:=0) (by omega) a2 a3;simpa using this
   exact (hv i oi di (hi.resolve_right e) hoi hdi).ext a7
  refine hun t' (fun i oi hi=>ht' i oi (.inl hi)) fun b' ob' e=>?_;cases e;exact ht' d o (.inr rfl) hd hdt
 cases hstep'
def Fs(M:cZ)(P:Program)(co:Nat→Bool)(ops:Array Oper)(ins:List cj)(its:C8)(bef:Nat→Nat)(chk:List (Nat×Nat))(late:Option Nat)(env ls:List ap)(s:Nat→ay)(c0:cX)(w0:World)(a0:Act)(S:Nat→Prop)(a:Act)(w:World):Prop:=
 uL M co ops ins its bef chk env ls s c0 w0 a0 none S a w ∨
 ∃d o t n kk b z v0 T,late=some d∧ops[d]?=some o∧o.dst=some t∧eA its d=some n∧ins[n]?=some ⟨.box kk (.val z),none⟩∧o6 its d=.loc n∧kk≠0∧ms M.fm 8 v0 z=true∧S d ∧
  (∃k m,eA its k=some m∧jI co ins chk m=true∧m<n∧¬S k)∧uL M co ops ins its bef chk env ls s c0 w0 a0 (some (t,b,.cells v0.cells T (0,0))) (fun j=>S j∧j≠d) a w
theorem Xc(hok:uE M P co ops ins em its bef chk late nt)(hT:xd C env ins ls s)(hp:sL co C)(hchk:∀(n j:Nat) (I:cj),(n,j)∈chk→ins[n]?=some I→bD C env (ls.take n) (s j) I.op=some (mK ls n,s j))
  (hC:jP M P C) (hR:jE M P C) (hF:rk F) (hg:iW M w0 c0) (ht0:lr M w0 c0 env [] (u7 em) a0.tmps) (hsz:nt≤a0.tmps.size)
  {i:Nat} {o:Oper} (ho:ops[i]?=some o) {S:Nat→Prop} (hi:¬S i) (hb:∀k,(bef i).testBit k=true→S k) {a:Act} {w:World}
  (hinv:Fs M P co ops ins its bef chk late env ls s c0 w0 a0 S a w):wpOpIn F n0 P ops Q i (Fs M P co ops ins its bef chk late env ls s c0 w0 a0 fun j=>S j∨j=i) a w:=by
 have hio:i<ops.size:=(bH.1 ho).1
 have ord:late≠some i→∀n,eA its i=some n→jI co ins chk n=true→∀k m,k<i→eA its k=some m→jI co ins chk m=true→(bef i).testBit k=true:=fun hl n hn hw k m hk hkm hm=>by
  rcases hok.item i o ho with⟨h1,_⟩|⟨m',I,h1,h2,h3,h4,h5,h6,h7⟩
  ·rw[h1]at hn;cases hn
  rw[h1]at hn;cases hn;exact h6 hw hl k m hk hkm hm
 rcases hinv with hinv|⟨d,od,t,n,kk,b,z,v0,T,hl,hd,hdt,hn,hI,hval,hk0,hz,hSd,⟨k0,m0,hk0',hm0,hlt0,hnS0⟩,hinv⟩
 ·by_cases hA:late=some i∧∃n k m,eA its i=some n∧eA its k=some m∧jI co ins chk m=true∧m<n∧¬S k
  ·
   obtain⟨hl,n',k',m',hn',hk',hm',hlt',hnS'⟩:=hA;obtain⟨hbd,o',T,t,n,kk,z,l1,l2,l3,l4,l5,l6,l7,l8,l9⟩:=hok.lateOk i hl;rw[ho]at l1;cases l1;rw[l5]at hn';cases hn';have hitem:=hok.item i o ho;rcases hitem with⟨h1,_⟩|⟨m,I,h1,h2,h3,h4,_⟩
   ·rw[h1]at l5;cases l5
   rw[h1]at l5;cases l5;rw[l6]at h2;cases h2;rw[l2]at h4;simp only[Ep,aq]at h4;obtain⟨z1,z2⟩:=h4;obtain⟨z3,z4⟩:=kJ z1;obtain⟨ii,v0,i1,i2,i3,i4⟩:=q8 z2;unfold wpOpIn;rw[ho];simp only;have hw:Region.wanted o (yielded ops a.tmps)=true:=by unfold Region.wanted;rw[l3]
   rw[if_pos hw];refine⟨fun f _=>hF.fn f,?_⟩;have hex:(execOp a.eval o).run P w=.ok (.value (.pointer (some ⟨w.heap.size,0,none⟩))) (kT w (.cells v0.cells T (0,0))):=by
    unfold execOp;rw[l2];simp[Instr.alloc,i3,newVar,newRow];rfl
   rw[Oper.semAt_eq _ _ _ (fun q e=>by rw[e]at l2;cases l2),hex];obtain⟨cl,lt,c,p,hs,hst,hcut,hv,hun,hts,hdf,_⟩:=hinv;obtain⟨s1,x1⟩:=hs.over (w':=kT w (.cells v0.cells T (0,0))) (fun b hb _=>gR hb) (by rw[fe];omega);have st1:iD c w c (kT w (.cells v0.cells T (0,0))):={ x1 with same:=nV,size:=by rw[fe];omega,frame:=fun b hb _=>gR hb,liv:=fun i b h1 h2 _=>⟨i,h1,h2⟩,old:=fun _ h _=>.inl h,oldb:=fun _ h _=>.inl h };have hdsz:t<a.tmps.size:=by rw[hts];exact bd (hok.dst _ _ _ ho l4) hsz
   refine .inr ⟨i,o,t,_,kk,w.heap.size,z,v0,T,hl,ho,l4,h1,l6,h3,z4,i4,.inr rfl,⟨k',m',hk',hm',hlt',fun h=>h.elim hnS' fun e=>?_⟩,fun j k hj hk=>?_,fun j hj=>?_,c,p,s1,hst.trans st1,?_,fun j oj dj hj hoj hdj=>?_,fun t' ht' hx'=>?_,?_,?_,fun t' b' ob' e=>?_⟩
   ·subst e;rw[h1]at hk';cases hk';omega
   ·have hj':S j:=hj.1.resolve_right hj.2;refine⟨.inl (cl j k hj' hk),fun e=>?_⟩;subst e;exact hi (cl j k hj' hk)
   ·exact lt j (hj.1.resolve_right hj.2)
   ·refine⟨hcut.1.imp id fun ⟨k,q,q1,q2⟩=>⟨k,q,⟨.inl q1,fun e=>hi (e▸q1)⟩,q2⟩,fun k q q1 q2=>?_⟩;rw[←hcut.2 k q q1 q2];exact⟨fun h=>h.1.resolve_right h.2,fun h=>⟨.inl h,fun e=>hi (e▸h)⟩⟩
   ·have hj':S j:=hj.1.resolve_right hj.2;have hne:¬dj=t:=fun e=>by
     subst e;exact hj.2 (hok.uniq _ _ _ _ _ hoj ho hdj l4)
    rw[l4,qD hdsz,if_neg hne];exact (hv j oj dj hj' hoj hdj).ext x1
   ·have hne:¬t'=t:=fun e=>hx' _ _ (by rw[e]);rw[l4,qD hdsz,if_neg hne];exact hun t' (fun j oj hj=>ht' j oj ⟨.inl hj,fun e=>hi (e▸hj)⟩) fun _ _ e=>by cases e
   ·rw[l4];simp[Act.put,hts]
   ·rw[l4];exact hdf
   cases e;refine⟨by rw[l4,qD hdsz,if_pos rfl],hst.size,p8,fun h=>absurd (hs.low _ h) (dr _),fun id h1 h2=>absurd (hs.plow id _ h1 h2).1 (dr _)⟩
  refine wpOpIn_mono (fun a' w' h=>.inl h) (Ko (Q:=Q) (n0:=n0) hok hT hp hchk hC hR hF hg ht0 hsz ho (x:=none) (fun _ _ _ e=>by cases e) hi (fun n hn hw k m hk hkm hm=>?_) hb hinv);by_cases hl:late=some i
  ·by_cases hS:S k
   ·exact hS
   exact absurd ⟨hl,n,k,m,hn,hkm,hm,hok.mono _ _ _ _ hkm hn hk,hS⟩ hA
  exact hb k (ord hl n hn hw k m hk hkm hm)
 obtain⟨hbd,o',T',t',n',kk',z',l1,l2,l3,l4,l5,l6,l7,l8,l9⟩:=hok.lateOk d hl;rw[hd]at l1;cases l1;rw[hdt]at l4;cases l4;rw[hn]at l5;cases l5;have hid:i≠d:=fun e=>hi (e▸hSd);have hli:late≠some i:=fun e=>by rw[hl]at e;cases e;exact hid rfl
 have hnbd:¬(bef i).testBit d=true:=fun h=>hnS0 (hb k0 (l8 i h k0 m0 hk0' hm0 hlt0));have hb':∀k,(bef i).testBit k=true→S k∧k≠d:=fun k hk=>⟨hb k hk,fun e=>by subst e;exact hnbd hk⟩;refine wpOpIn_mono (fun a' w' h=>?_) (Ko (Q:=Q) (n0:=n0) hok hT hp hchk hC hR hF hg ht0 hsz ho (x:=some (t,b,.cells v0.cells T (0,0))) (fun t1 b1 ob1 e=>?_) (fun h=>hi h.1) (fun n1 hn1 hw1 k m hk hkm hm=>hb' k (ord hli n1 hn1 hw1 k m hk hkm hm)) hb' hinv)
 ·by_cases hmore:∃k m,eA its k=some m∧jI co ins chk m=true∧m<n∧¬(S k∨k=i)
  ·refine .inr ⟨d,od,t,n,kk,b,z,v0,T,hl,hd,hdt,hn,hI,hval,hk0,hz,.inl hSd,hmore,h.congr fun j=>?_⟩;constructor
   ·rintro (⟨h1,h2⟩|rfl)
    ·exact⟨.inl h1,h2⟩
    exact⟨.inr rfl,hid⟩
   rintro⟨h1|rfl,h2⟩
   ·exact .inl ⟨h1,h2⟩
   exact .inr rfl
  have hall:∀k m,eA its k=some m→jI co ins chk m=true→m<n→(S k∧k≠d)∨k=i:=fun k m h1 h2 h3=>by
   by_cases h4:S k∨k=i
   ·rcases h4 with h4|h4
    ·refine .inl ⟨h4,fun e=>?_⟩;subst e;rw[hn]at h1;cases h1;omega
    exact .inr h4
   exact absurd ⟨k,m,h1,h2,h3,h4⟩ hmore
  have:=Tw hok hT hp hchk hd hdt hn hI l7 hval hk0 hz hbd (S:=fun j=>(S j∧j≠d)∨j=i) (fun h=>h.elim (fun h=>h.2 rfl) fun e=>hid e.symm) hall h;refine .inl (this.congr fun j=>?_);constructor
  ·rintro ((⟨h1,h2⟩|rfl)|rfl)
   ·exact .inl h1
   ·exact .inr rfl
   exact .inl hSd
  rintro (h1|rfl)
  ·by_cases e:j=d
   ·exact .inr e
   exact .inl (.inl ⟨h1,e⟩)
  exact .inl (.inr rfl)
 cases e;refine⟨?_,fun e=>hid (hok.uniq _ _ _ _ _ ho hd e hdt)⟩;cases hq:Gk ops.toList em its bef i t with
 |none=>rfl
 |some q=>exact absurd (l9 i hio hid (by rw[hq];simp)) hnbd
theorem Fs.final(hok:uE M P co ops ins em its bef chk late nt){S:Nat→Prop}(hS:∀i,i<ops.size→S i){a:Act}{w:World}(hinv:Fs M P co ops ins its bef chk late env ls s c0 w0 a0 S a w):uL M co ops ins its bef chk env ls s c0 w0 a0 none S a w:=by
 rcases hinv with h|⟨d,o,t,n,kk,b,z,v0,T,hl,hd,hdt,hn,hI,hval,hk0,hz,hSd,⟨k0,m0,hk0',hm0,hlt0,hnS0⟩,hinv⟩
 ·exact h
 have hkl:k0<ops.size:=by
  rw[←hok.size];unfold eA at hk0';obtain⟨x,hx,_⟩:=bI hk0';exact (al.1 hx).1
 exact absurd (hS k0 hkl) hnS0
theorem Fs.congr{S S':Nat→Prop}(h:∀i,S i↔S' i){a:Act}{w:World}(hi:Fs M P co ops ins its bef chk late env ls s c0 w0 a0 S a w):Fs M P co ops ins its bef chk late env ls s c0 w0 a0 S' a w:=by
 have:S=S':=funext fun i=>propext (h i);rw[←this];exact hi
theorem Fs.closed(hok:uE M P co ops ins em its bef chk late nt){S:Nat→Prop}{a:Act}{w:World}(hinv:Fs M P co ops ins its bef chk late env ls s c0 w0 a0 S a w):∀i k,S i→(bef i).testBit k=true→S k:=by
 rcases hinv with h|⟨d,o,t,n,kk,b,z,v0,T,hl,hd,hdt,hn,hI,hval,hk0,hz,hSd,_,hinv⟩
 ·exact h.1
 intro i k hi hk;by_cases e:i=d
 ·subst e;rw[(hok.lateOk i hl).1]at hk;simp at hk
 exact (hinv.1 i k ⟨hi,e⟩ hk).1
theorem EP(hm:P.follows .mixedOrders=true)(he:QZ ops bef)(hok:uE M P co ops ins em its bef chk late nt)(hT:xd C env ins ls s)(hp:sL co C)(hchk:∀(n j:Nat) (I:cj),(n,j)∈chk→ins[n]?=some I→bD C env (ls.take n) (s j) I.op=some (mK ls n,s j))
  (hC:jP M P C) (hR:jE M P C) (hF:rk F) (hg:iW M w0 c0) (hs:ei M w0 c0 (s 0)) (ht0:lr M w0 c0 env [] (u7 em) a0.tmps) (hsz:nt≤a0.tmps.size) (hos:tv ops.toList em its os=true)
  (hQ:∀a w,Ud M em env ls os c0 w0 a0 (s ins.length) a w→Q .normal a w) (id:Nat):(Code.region id ops true).wpIn F n0 P Q a0 w0:=by
 apply wpIn_region_any hm;have key:∀(iB:Nat) (listed:Array Bool) (a:Act) (w:World),listed.size=ops.size→listed.toList.countP (fun b=>!b)≤iB→Fs M P co ops ins its bef chk late env ls s c0 w0 a0 (fun j=>listed[j]?=some true) a w →
   wpAnyIn F n0 P .any ops Q iB listed a w:=by
  intro iB;have done:∀(listed:Array Bool) (a:Act) (w:World),listed.size=ops.size→(∀i,i<ops.size→listed[i]?=some true)→Fs M P co ops ins its bef chk late env ls s c0 w0 a0 (fun j=>listed[j]?=some true) a w→Q .normal a w:=fun listed a w hz hall hinv=>
   hQ a w (Hk hok hT hp hchk ht0 hos hall (hinv.final hok hall))
  have allOf:∀(listed:Array Bool),listed.size=ops.size→Region.ready .any ops listed=[]→∀i,i<ops.size→listed[i]?=some true:=fun listed hz hr i=>by
   induction i using Nat.strongRecOn with
   |_ i ih=>
    intro hi;have hi':i<listed.size:=by omega
    cases hb:listed[i] with
    |true=>rw[de hi',hb]
    |false=>
     have:i∈Region.ready .any ops listed:=A5.2 ⟨hi,by simp[Array.getD,hi',hb],ops[i],by simp[hi],fun e hee hbd=>by
      have hlt:=he.low i ops[i] (by simp[hi]) e hee hbd;have:=ih e.on hlt (by omega);simp[bJ,this]⟩
     rw[hr]at this;cases this
  induction iB with
  |zero=>
   intro listed a w hz hc hinv;have hall:∀i,i<ops.size→listed[i]?=some true:=fun i hi=>by
    have hi':i<listed.size:=by omega
    have h0:=List.countP_eq_zero.1 (Nat.le_zero.1 hc) listed[i] (by simp);rw[de hi'];simpa using h0
   refine⟨?_,done listed a w hz hall hinv⟩;rw[List.eq_nil_iff_forall_not_mem];intro i hi;obtain⟨h1,h2,_⟩:=A5.1 hi;have:=hall i h1;rw[bJ,this]at h2;cases h2
  |succ iB ih=>
   intro listed a w hz hc hinv;refine⟨fun hr=>done listed a w hz (allOf listed hz hr) hinv,fun i hi=>?_⟩;obtain⟨h1,h2,o,ho,h3⟩:=A5.1 hi;have hi':i<listed.size:=by omega
   have hfalse:listed[i]=false:=by simpa [Array.getD,hi'] using h2
   have hset:∀j,(listed.setIfInBounds i true)[j]?=some true↔(listed[j]?=some true∨j=i):=fun j=>by
    rw[dv];by_cases e:i=j
    ·subst e;simp[hi']
    have:¬j=i:=fun h=>e h.symm;simp[e,this]
   refine wpOpIn_mono (fun a' w' h=>ih (listed.setIfInBounds i true) a' w' (by simpa using hz) ?_ h) ?_
   ·rw[Array.toList_setIfInBounds,List.countP_set (by simpa using hi')];simp only[gY,hfalse,Bool.not_false,cW,nU,bC,cz];have:0<listed.toList.countP (fun b=>!b):=List.countP_pos_iff.2 ⟨false,by rw[←hfalse];simp,rfl⟩;omega
   have:=Xc (Q:=Q) (n0:=n0) hok hT hp hchk hC hR hF hg ht0 hsz ho (S:=fun j=>listed[j]?=some true) (by rw[de hi',hfalse];simp) (fun k hk=>by
    obtain⟨e,e1,e2,e3⟩:=he.clos i o ho k hk;have hl:listed[e.on]?=some true:=by
     have:=h3 e e1 e2;rw[bJ]at this;cases hq:listed[e.on]? with
     |none=>rw[hq]at this;cases this
     |some b=>rw[hq]at this;simp at this;rw[this]
    rcases e3 with rfl|e3
    ·exact hl
    exact hinv.closed hok e.on k hl e3) hinv
   exact wpOpIn_mono (fun a' w' h=>h.congr fun j=>(hset j).symm) this
 refine key ops.size _ a0 _ (by simp) ?_ ?_
 ·exact aI (List.countP_le_length) (by simp)
 refine .inl (HD (w0:=w0) (w:={ w0 with drawn:=w0.drawn+1 }) (hs.heap rfl) (iD.ofHeap rfl ⟨rfl,rfl,rfl,dJ _⟩) fun i h=>?_);rw[Array.getElem?_replicate]at h;split at h<;>cases h
end
end Go.AM
namespace Go.AM
variable {M:cZ} {w:World}
structure aai (fl:Bool) (base:Nat) (c d:cX):Prop where
 sld:∀b,c.sld b→d.sld b
 sb:∀b,d.sld b→d.bor b
 bor:∀b,c.bor b→d.bor b
 gone:∀id b,base≤id→c.H id≠.dead→c.place id=some b→if fl then d.bor b else d.sld b
 N:∀id,id<base→id<c.N→id<d.N
 keep:∀id,id<base→id<c.N→(d.H id=c.H id∧(c.H id≠.dead→d.place id=c.place id∧d.room id=c.room id∧d.loops id=c.loops id))∨d.H id=.dead
def cX.view(d:cX)(fl top:Bool):cX:=if top then d else d.still fl
theorem nv{d:cX}{fl top:Bool}:(d.view fl top).sld=d.sld:=by cases top<;>rfl
theorem wM{d:cX}{fl top:Bool}(h:fl=true∨top=true):(d.view fl top).bor=d.bor:=by cases top<;>cases fl<;>first|rfl|simp at h
theorem EA{d:cX}{top:Bool}:(d.view true top).bor=d.bor:=by cases top<;>rfl
theorem xM{d:cX}{fl top:Bool}:(d.view fl top).still fl=d.still fl:=by cases top<;>cases fl<;>rfl
theorem UV{d:cX}{fl top:Bool}(hsb:∀b,d.sld b→d.bor b):Ext (d.still fl) w (d.view fl top) w:=by
 cases top
 ·exact .refl _ _
 exact .ofStill hsb fl
theorem un{c d:cX}{b:Bool}(h1:∀x,c.sld x→d.sld x)(h2:b=true→∀x,c.bor x→d.bor x):Ext (c.still b) w (d.still b) w where
 sld:=h1
 bor:=fun x hx=>by
  cases b
  ·exact h1 x hx
  exact h2 rfl x hx
 rest:=fun _ _=>rfl
 N:=aM _
 head:=fun id hid=>absurd hid (bX _)
 place:=fun id hid=>absurd hid (bX _)
theorem UJ{fl top:Bool}{base:Nat}{σ:ay}{n:Nat}{v:ap}(h:isAgg v=false):isAgg (fz fl top base σ n v)=false:=by
 cases n with
 |zero=>rfl
 |succ n=>
  have hl:∀l l',isAgg (mb fl l l')=false:=fun l l'=>by unfold mb;split<;>rfl
  have hc':∀g x x' o,isAgg (jh g x x' o)=false:=fun g x x' o=>by unfold jh;split<;>rfl
  have hc:∀x x' o,isAgg (jh fl x x' o)=false:=fun x x' o=>hc' _ _ _ _;have ho:∀{α:Type} (o:Option α) (f:α→ap),(∀a,isAgg (f a)=false)→isAgg (o.elim .any f)=false:=fun o f hf=>by cases o<;>first|rfl|exact hf _
  cases v with
  |agg cs=>simp[isAgg]at h
  |aa b xs=>simp only[fz];split<;>rfl
  |aj=>simp only[fz];split<;>rfl
  |imap b xs=>simp only[fz];split<;>rfl
  |lst xs=>exact hl _ _
  |cptr b x o=>
   simp only[fz];cases b
   ·rfl
   cases fl
   ·cases top
    ·rfl
    exact hc' _ _ _ _
   exact hc _ _ _
  |sl id ep off len=>
   simp only[fz];split
   ·split<;>rfl
   exact ho _ _ fun l=>hl _ _
  |ptr id ep i off=>
   simp only[fz];split
   ·split<;>rfl
   exact ho _ _ fun l=>hc _ _ _
  |mp id=>
   simp only[fz];split
   ·split<;>rfl
   exact ho _ _ fun l=>rfl
  |asl id ep i off m=>simp only[fz];split<;>rfl
  |yld l s e=>simp only[fz];split<;>rfl
  |_=>rfl
section
variable {fl:Bool} {base:Nat} {σ:ay} {c d:cX}
def ZQ(M:cZ)(w:World)(fl:Bool)(base:Nat)(σ:ay)(c d:cX)(n:Nat):Prop:=∀(top:Bool) (v:ap) (cv:Value),R M w c v cv→R M w (d.view fl top) (fz fl top base σ n v) cv
theorem AS{n:Nat}{top:Bool}(ih:∀m,m≤n→ZQ M w fl base σ c d m){x:ap}{f:Nat→Value}(h:∀j (hj:j<(cellsOf x).length),R M w c (cellsOf x)[j] (f j)) :
  ∀j (hj:j<(cellsOf (fz fl top base σ n x)).length),R M w (d.view fl top) (cellsOf (fz fl top base σ n x))[j] (f j):=by
 intro j hj;cases ha:isAgg x with
 |true=>
  obtain⟨cs,rfl⟩:=oh ha;cases n with
  |zero=>
   have e:cellsOf (fz fl top base σ 0 (.agg cs))=[.any]:=rfl;simp only[e,bj,bu]at hj ⊢;have:j=0:=by omega
   subst this;exact .any
  |succ n=>
   have e:cellsOf (fz fl top base σ (n+1) (.agg cs))=cs.map (fz fl top base σ n):=rfl;simp only[e,cf,db]at hj ⊢;exact ih n (by omega) top _ _ (h j hj)
 |false=>
  have e:cellsOf (fz fl top base σ n x)=[fz fl top base σ n x]:=pO (UJ ha);have e2:cellsOf x=[x]:=pO ha;simp only[e,bj,bu]at hj ⊢;have:j=0:=by omega
  subst this;have h0:=h 0 (by rw[e2];simp);simp only[e2,cO]at h0;exact ih n (aM _) top _ _ h0
theorem Fi{n:Nat}(ih:∀m,m≤n→ZQ M w fl base σ c d m){x:ap}{f:Nat→Value}(h:∀j (hj:j<(cellsOf x).length),R M w c (cellsOf x)[j] (f j)) :
  ∀j (hj:j<(cellsOf (fz fl false base σ n x)).length),R M w (d.still fl) (cellsOf (fz fl false base σ n x))[j] (f j):=AS (top:=false) ih h
theorem xR{l l':List ap}(h:l'.map aC=l.map aC):l'.length=l.length∧∀i (h1:i<l'.length) (h2:i<l.length),aC l'[i]=aC l[i]:=by
 have hl:l'.length=l.length:=by simpa using congrArg List.length h
 refine⟨hl,fun i h1 h2=>?_⟩;have:=congrArg (fun q=>q[i]?) h;simpa [h1,h2] using this
theorem M6{n:Nat}(hd:∀b,d.sld b→d.bor b)(ih:∀m,m≤n→ZQ M w fl base σ c d m){top:Bool}{l:List ap}{a:Addr}{cap K:Nat}{f:Nat→Nat→Value}(hb:if fl then d.bor a.block else d.sld a.block)(ha:a.spot=none)(hcap:l.length≤cap)(hK:K≠0)
  (hn:∀x∈l,aC x=K) (hc:∀i j,i<l.length→j<K→w.cell? ⟨a.block,a.off+i*K+j,none⟩=some (f i j)∧(f i j).oneCell'=true)
  (hr:∀i (hi:i<l.length) j (hj:j<(cellsOf l[i]).length),R M w c (cellsOf l[i])[j] (f i j)) :
  R M w (d.view fl top) (mb fl l (l.map (fz fl false base σ n))) (.slice (some a) l.length cap):=by
 unfold mb;split
 ·rename_i hm;obtain⟨m1,m2⟩:=xR hm;have hlen:(l.map (fz fl false base σ n)).length=l.length:=by simp
  have:=R.aa (M:=M) (w:=w) (c:=d.view fl top) (b:=fl) (xs:=l.map (fz fl false base σ n)) (cap:=cap) (a:=a) K f (by
    cases fl
    ·rw[nv];exact hb
    ·rw[EA];exact hb) ha (by rw[hlen];exact hcap) hK (fun x hx=>by
    obtain⟨i,hi,rfl⟩:=dm.1 hx;rw[m2 i hi (by rw[←hlen];exact hi)];exact hn _ (aF _)) (fun i j hi hj=>hc i j (by rw[←hlen];exact hi) hj) (fun i hi j hj=>by
    rw[xM];have hi':i<l.length:=by rw[←hlen];exact hi
    simp only[db]at hj ⊢;exact Fi ih (hr i hi') j hj)
  rw[hlen]at this;exact this
 exact .any
theorem Mo{n:Nat}(hd:∀b,d.sld b→d.bor b)(ih:∀m,m≤n→ZQ M w fl base σ c d m){top:Bool}{x:ap}{off o blk:Nat}{f:Nat→Value}(hb:if fl then d.bor blk else d.sld blk)(hn:aC x≠0)
  (hc:∀j,j<aC x→w.cell? ⟨blk,o+j,none⟩=some (f j)∧(f j).oneCell'=true) (hr:∀j (hj:j<(cellsOf x).length),R M w c (cellsOf x)[j] (f j)) :
  R M w (d.view fl top) (jh fl x (fz fl false base σ n x) off) (.pointer (some ⟨blk,o+off,none⟩)):=by
 unfold jh;split
 ·rename_i hm;refine .cptr f ?_ (by omega) (fun j hj=>hc j (by omega)) fun j hj=>?_
  ·cases fl
   ·rw[nv];exact hb
   rw[EA];exact hb
  have:=Fi ih hr j hj;cases fl
  ·have e:(if false=true then d.view false top else (d.view false top).still false)=d.still false:=xM (fl:=false);rw[e];exact this
  exact this.ext (UV hd)
 exact .any
theorem ZQ.zero:ZQ M w fl base σ c d 0:=fun _ _ _ _=>.any
theorem acs{id ep k:Nat}{es:List ap}(hs:ei M w c σ)(ho:σ[id]?=some (.arr k ep es))(h:∀k e,c.H id=.arr k e→ep<e):False:=
 absurd (h k ep (by rw[hs.H,eI ho])) (dr _)
theorem IX(hs:ei M w c σ)(ht:aai fl base c d):∀n,ZQ M w fl base σ c d n:=by
 intro n;induction n using Nat.strongRecOn with
 |_ n ihs=>
 cases n with
 |zero=>exact ZQ.zero
 |succ n=>
  have ih:∀m,m≤n→ZQ M w fl base σ c d m:=fun m hm=>ihs m (by omega);have IH:∀{top:Bool} {v:ap} {cv:Value},R M w c v cv→R M w (d.view fl top) (fz fl top base σ n v) cv:=fun {top v cv} h=>ih n (aM _) top v cv h;intro top v cv h;have bsld:∀b,d.sld b→(if fl then d.bor b else d.sld b):=fun b hb=>by
   cases fl
   ·exact hb
   exact ht.sb b hb
  cases h with
  |any=>exact .any
  |int=>exact .int
  |bool=>exact .bool
  |str h=>exact .str h
  |nilp=>exact .nilp
  |nilf=>exact .nilf
  |nilm=>exact .nilm
  |@aj _ a=>
   show R M w _ (if !fl&&top then .aj else .aa false []) _;split
   ·exact .aj
   exact .imm0
  |emp h=>exact .emp h
  |@agg _ cs vs f h1 h2 h3 h4=>
   show R M w _ (.agg (cs.map (fz fl top base σ n))) _;have hr:∀i (hi:i<(cs.map (fz fl top base σ n)).length),R M w (d.view fl top) (cs.map (fz fl top base σ n))[i] (f i):=fun i hi=>by
    rw[db];exact IH (h4 i (by simpa using hi))
   exact .agg f (by simpa using h1) (fun i hi=>h2 i (by simpa using hi)) (fun i hi=>(hr i hi).small (h2 i (by simpa using hi)).2) hr
  |@tup _ cs vs f h1 h2 h3=>
   show R M w _ (.tup (cs.map (fz fl top base σ n))) _
   exact .tup f (by simpa using h1) (fun i hi=>h2 i (by simpa using hi)) fun i hi=>by
    rw[db];exact IH (h3 i (by simpa using hi))
  |@fn _ g first cap fs cs f1 f2 h1 h2 h3 h4 h5 h6=>
   show R M w _ (.fn g (first.map (fz fl top base σ n)) (cap.map (fz fl top base σ n))) _
   exact .fn f1 f2 (by simpa using h1) (by simpa using h2) (fun i hi=>h3 i (by simpa using hi)) (fun i hi=>h4 i (by simpa using hi)) (fun i hi=>by
    rw[db];exact IH (h5 i (by simpa using hi))) (fun i hi=>by rw[db];exact IH (h6 i (by simpa using hi)))
  |@aa _ b xs cap a K f h1 h2 h3 h4 h5 h6 h7=>
   show R M w _ (if b&&!fl&&!top then .any else .aa b xs) _;split
   ·exact .any
   rename_i hc;have hbf:b=true→fl=true∨top=true:=fun e=>by subst e;cases fl<;>cases top<;>simp at hc ⊢
   refine .aa K f ?_ h2 h3 h4 h5 h6 fun i hi j hj=>(h7 i hi j hj).ext (un (fun x hx=>by rw[nv];exact ht.sld x hx) fun e x hx=>?_)
   ·cases b
    ·rw[nv];exact ht.sld _ h1
    rw[if_pos rfl,wM (hbf rfl)];exact ht.bor _ h1
   rw[wM (hbf e)];exact ht.bor _ hx
  |@imm0 _ b cap a=>
   show R M w _ (if b&&!fl&&!top then .any else .aa b []) _;split
   ·exact .any
   exact .imm0
  |@lst _ xs cap a K f h1 h2 h3 h4 h5 h6 h7=>
   exact M6 ht.sb ih (bsld _ (ht.sld _ h1)) h2 h3 h4 h5 h6 h7
  |@lst0 _ cap a=>exact .imm0
  |@cptr _ b x off o blk f h1 h2 h3 h4=>
   show R M w _ (if b then (if fl then jh true x (fz fl false base σ n x) off else if top then jh true x (fz fl top base σ n x) off else .any) else .cptr false x off) _;cases b with
   |true=>
    cases fl with
    |true=>exact Mo (fl:=true) ht.sb ih (ht.bor _ h1) h2 h3 h4
    |false=>
     cases top with
     |false=>exact .any
     |true=>
      show R M w d (jh true x (fz false true base σ n x) off) _;unfold jh;split
      ·rename_i hm;exact .cptr f (ht.bor _ h1) (by omega) (fun j hj=>h3 j (by omega)) fun j hj=>AS (top:=true) ih h4 j hj
      exact .any
   |false=>
    refine .cptr f (by rw[nv];exact ht.sld _ h1) h2 h3 fun j hj=>?_;exact (h4 j hj).ext (un (fun x hx=>by rw[nv];exact ht.sld x hx) fun e=>by cases e)
  |@imap _ b es r clock en f g h1 h2 h3 h4 h5 h6=>
   show R M w _ (if b&&!fl&&!top then .any else .imap b es) _;split
   ·exact .any
   rename_i hc;have hbf:b=true→fl=true∨top=true:=fun e=>by subst e;cases fl<;>cases top<;>simp at hc ⊢
   have hx:Ext (c.still b) w ((d.view fl top).still b) w:=un (fun x hx=>by rw[nv];exact ht.sld x hx) fun e x hx=>by
    rw[wM (hbf e)];exact ht.bor _ hx
   refine .imap f g ?_ h2 h3 h4 (fun i hi=>(h5 i hi).ext hx) (fun i hi=>(h6 i hi).ext hx);cases b
   ·rw[nv];exact ht.sld _ h1
   rw[if_pos rfl,wM (hbf rfl)];exact ht.bor _ h1
  |@sl _ id ep off len cap k blk h1 h2 h3 h4 h5=>
   show R M w _ (if id<base then (if top then .sl id ep off len else .any) else (sliceAt σ id ep off len).elim .any fun l=>mb fl l (l.map (fz fl false base σ n))) _;split
   ·rename_i hb;cases top with
    |false=>exact .any
    |true=>
     rcases ht.keep id hb h1 with⟨k1,k2⟩|k1
     ·obtain⟨p1,p2,_⟩:=k2 (by rw[h2];simp);exact .sl (ht.N id hb h1) (k1.trans h2) (p1.trans h3) h4 (by show _≤d.room id;rw[p2];exact h5)
     exact .slOld rfl (ht.N id hb h1) (by show ∀k e,d.H id=_→_;rw[k1];simp) (by show d.H id≠_;rw[k1];simp) (by show d.H id≠_;rw[k1];simp)
   rename_i hb;cases hsl:sliceAt σ id ep off len with
   |none=>exact .any
   |some l=>
    obtain⟨k2,es,ho,hl,rfl⟩:=mN hsl;have hH:c.H id=.arr k2 ep:=by rw[hs.H,eI ho]
    have hkk:k=k2:=by rw[hH]at h2;cases h2;rfl
    subst hkk;obtain⟨o1,o2,o3,o4⟩:=hs.obj id _ ho;obtain⟨cs,T,F,q1,q2,q3,q4,q5⟩:=o4 blk h3;have hlen:((es.drop off).take len).length=len:=by simp;omega
    have:=M6 (M:=M) (w:=w) (fl:=fl) (base:=base) (σ:=σ) (c:=c) (d:=d) (n:=n) (top:=top) (l:=(es.drop off).take len) (a:=⟨blk,off*k,none⟩) (cap:=cap) (K:=k) (f:=fun i j=>F (off+i) j) ht.sb ih (ht.gone id blk (by omega) (by rw[h2];simp) h3) rfl (by omega) o1
     (fun x hx=>o2 x (cQ (bv hx))) (fun i j hi hj=>by
      rw[hlen]at hi;obtain⟨a1,a2⟩:=q4 (off+i) j (by omega) hj;refine⟨?_,a2⟩;simp only[World.cell?,q1];rw[show off*k+i*k+j=(off+i)*k+j by rw[du]];exact a1) (fun i hi j hj=>by
      rw[hlen]at hi;have e:((es.drop off).take len)[i]'(by rw[hlen];exact hi)=es[off+i]'(by omega):=by simp
      have hj':j<(cellsOf (es[off+i]'(by omega))).length:=by rw[←e];exact hj
      have:=q5 (off+i) (by omega) j hj';simp only[dW,dU];exact this)
    rw[hlen]at this;exact this
  |@sl0 _ id ep off k a h1 h2=>
   show R M w _ (if id<base then (if top then .sl id ep off 0 else .any) else (sliceAt σ id ep off 0).elim .any fun l=>mb fl l (l.map (fz fl false base σ n))) _;split
   ·rename_i hb;cases top with
    |false=>exact .any
    |true=>
     rcases ht.keep id hb h1 with⟨k1,k2⟩|k1
     ·exact .sl0 (ht.N id hb h1) (k1.trans h2)
     exact .slOld rfl (ht.N id hb h1) (by show ∀k e,d.H id=_→_;rw[k1];simp) (by show d.H id≠_;rw[k1];simp) (by show d.H id≠_;rw[k1];simp)
   cases hsl:sliceAt σ id ep off 0 with
   |none=>exact .any
   |some l=>
    obtain⟨k2,es,ho,hl,rfl⟩:=mN hsl;exact .imm0
  |@slOld _ id ep off len _ h0 h1 h2 h3 h4=>
   show R M w _ (if id<base then (if top then .sl id ep off len else .any) else (sliceAt σ id ep off len).elim .any fun l=>mb fl l (l.map (fz fl false base σ n))) _;split
   ·rename_i hb;cases top with
    |false=>exact .any
    |true=>
     rcases ht.keep id hb h1 with⟨k1,k2⟩|k1
     ·exact .slOld h0 (ht.N id hb h1) (by show ∀k e,d.H id=_→_;rw[k1];exact h2) (by show d.H id≠_;rw[k1];exact h3) (by show d.H id≠_;rw[k1];exact h4)
     exact .slOld h0 (ht.N id hb h1) (by show ∀k e,d.H id=_→_;rw[k1];simp) (by show d.H id≠_;rw[k1];simp) (by show d.H id≠_;rw[k1];simp)
   cases hsl:sliceAt σ id ep off len with
   |none=>exact .any
   |some l=>
    obtain⟨k2,es,ho,hl,rfl⟩:=mN hsl;exact (acs hs ho h2).elim
  |@ptr _ id ep i off k blk h1 h2 h3=>
   show R M w _ (if id<base then (if top then .ptr id ep i off else .any) else (p7 σ id ep i).elim .any fun x=>jh fl x (fz fl false base σ n x) off) _;split
   ·rename_i hb;cases top with
    |false=>exact .any
    |true=>
     rcases ht.keep id hb h1 with⟨k1,k2⟩|k1
     ·obtain⟨p1,p2,_⟩:=k2 (by rw[h2];simp);exact .ptr (ht.N id hb h1) (k1.trans h2) (p1.trans h3)
     exact .ptrOld rfl (ht.N id hb h1) (by show ∀k e,d.H id=_→_;rw[k1];simp) (by show d.H id≠_;rw[k1];simp) (by show d.H id≠_;rw[k1];simp)
   rename_i hb;cases hsl:p7 σ id ep i with
   |none=>exact .any
   |some x=>
    obtain⟨k2,es,ho,hx⟩:=yo hsl;have hH:c.H id=.arr k2 ep:=by rw[hs.H,eI ho]
    have hkk:k=k2:=by rw[hH]at h2;cases h2;rfl
    subst hkk;obtain⟨b,f,hbp,hcr,hnk,hk0,hcell⟩:=hs.elem ho hx;rw[h3]at hbp;cases hbp;exact Mo (o:=i*k) ht.sb ih (ht.gone id blk (by omega) (by rw[h2];simp) h3) (by omega) (fun j hj=>⟨hcell j (by omega),hcr.one j hj⟩) hcr.rel
  |@ptrOld _ id ep i off _ h0 h1 h2 h3 h4=>
   show R M w _ (if id<base then (if top then .ptr id ep i off else .any) else (p7 σ id ep i).elim .any fun x=>jh fl x (fz fl false base σ n x) off) _;split
   ·rename_i hb;cases top with
    |false=>exact .any
    |true=>
     rcases ht.keep id hb h1 with⟨k1,k2⟩|k1
     ·exact .ptrOld h0 (ht.N id hb h1) (by show ∀k e,d.H id=_→_;rw[k1];exact h2) (by show d.H id≠_;rw[k1];exact h3) (by show d.H id≠_;rw[k1];exact h4)
     exact .ptrOld h0 (ht.N id hb h1) (by show ∀k e,d.H id=_→_;rw[k1];simp) (by show d.H id≠_;rw[k1];simp) (by show d.H id≠_;rw[k1];simp)
   cases hsl:p7 σ id ep i with
   |none=>exact .any
   |some x=>
    obtain⟨k2,es,ho,hx⟩:=yo hsl;exact (acs hs ho h2).elim
  |@asl _ id ep i off m k blk h1 h2 h3=>
   show R M w _ (if id<base&&top then .asl id ep i off m else .any) _;split
   ·rename_i hc;simp only[aq,aL]at hc;obtain⟨hb,rfl⟩:=hc;rcases ht.keep id hb h1 with⟨k1,k2⟩|k1
    ·obtain⟨p1,p2,_⟩:=k2 (by rw[h2];simp);exact .asl (ht.N id hb h1) (k1.trans h2) (p1.trans h3)
    exact .aslOld (ht.N id hb h1) (by show ∀k e,d.H id=_→_;rw[k1];simp) (by show d.H id≠_;rw[k1];simp) (by show d.H id≠_;rw[k1];simp)
   exact .any
  |@aslOld _ id ep i off m _ h1 h2 h3 h4=>
   show R M w _ (if id<base&&top then .asl id ep i off m else .any) _;split
   ·rename_i hc;simp only[aq,aL]at hc;obtain⟨hb,rfl⟩:=hc;rcases ht.keep id hb h1 with⟨k1,k2⟩|k1
    ·exact .aslOld (ht.N id hb h1) (by show ∀k e,d.H id=_→_;rw[k1];exact h2) (by show d.H id≠_;rw[k1];exact h3) (by show d.H id≠_;rw[k1];exact h4)
    exact .aslOld (ht.N id hb h1) (by show ∀k e,d.H id=_→_;rw[k1];simp) (by show d.H id≠_;rw[k1];simp) (by show d.H id≠_;rw[k1];simp)
   exact .any
  |@mp _ id blk h1 h2 h3=>
   show R M w _ (if id<base then (if top then .mp id else .any) else (gX σ id).elim .any fun es=>.imap fl (es.map fun e=>(e.1,fz fl false base σ n e.2))) _;split
   ·rename_i hb;cases top with
    |false=>exact .any
    |true=>
     rcases ht.keep id hb h1 with⟨k1,k2⟩|k1
     ·obtain⟨p1,p2,_⟩:=k2 (by rw[h2];simp);exact .mp (ht.N id hb h1) (k1.trans h2) (p1.trans h3)
     exact .mpOld rfl (ht.N id hb h1) k1
   rename_i hb;cases he:gX σ id with
   |none=>exact .any
   |some es=>
    unfold gX at he;split at he
    ·rename_i es' ho;cases he;obtain⟨b,cl,en,f,g,q1,q2,q3,q4,q5,q6⟩:=hs.obj id _ ho;rw[q1]at h3;cases h3;have hgone:=ht.gone id _ (by omega) (by rw[h2];simp) q1;refine .imap f g ?_ q2 (by simpa using q3) (fun i hi=>?_) (fun i hi=>?_) (fun i hi=>?_)
     ·cases fl
      ·rw[nv];exact hgone
      rw[EA];exact hgone
     ·obtain⟨e,e1,e2,e3,e4⟩:=q4 i (by simpa using hi);exact⟨e,e1,e2,e3,by simpa using e4⟩
     ·obtain⟨e,e1,e2,e3,e4⟩:=q4 i (by simpa using hi);obtain⟨q,m,x1,x2⟩:=yW (q5 i (by simpa using hi)) e4;simp only[db];rw[x1,x2];exact .int
     rw[xM];simp only[db];exact IH (top:=false) (q6 i (by simpa using hi))
    cases he
  |@mpOld _ id _ h0 h1 h2=>
   show R M w _ (if id<base then (if top then .mp id else .any) else (gX σ id).elim .any fun es=>.imap fl (es.map fun e=>(e.1,fz fl false base σ n e.2))) _;split
   ·rename_i hb;cases top with
    |false=>exact .any
    |true=>
     rcases ht.keep id hb h1 with⟨k1,k2⟩|k1
     ·exact .mpOld h0 (ht.N id hb h1) (k1.trans h2)
     exact .mpOld h0 (ht.N id hb h1) k1
   cases he:gX σ id with
   |none=>exact .any
   |some es=>
    unfold gX at he;split at he
    ·rename_i es' ho;rw[hs.H,eI ho]at h2;cases h2
    cases he
  |@yld _ l site env em blk f h1 h2 h3 h4 h5 h6 h7=>
   show R M w _ (if l<base&&top then .yld l site (env.map (fz fl top base σ n)) else .any) _;split
   ·rename_i hc;simp only[aq,aL]at hc;obtain⟨hb,rfl⟩:=hc;rcases ht.keep l hb h1 with⟨k1,k2⟩|k1
    ·obtain⟨p1,p2,p3⟩:=k2 (by rw[h2];simp);refine .yld f (ht.N l hb h1) (k1.trans h2) (p1.trans h3) (by show M.site site (d.loops l) em;rw[p3];exact h4) (by simpa using h5) (fun i hi hx=>by show (d.loops l).tmps[em[i]]?=_;rw[p3];exact h6 i hi (by simpa using hx)) fun i hx=>?_;rw[db];exact IH (top:=true) (h7 i (by simpa using hx))
    exact .yldOld rfl (ht.N l hb h1) k1
   exact .any
  |@yldOld _ l site env _ h0 h1 h2=>
   show R M w _ (if l<base&&top then .yld l site (env.map (fz fl top base σ n)) else .any) _;split
   ·rename_i hc;simp only[aq,aL]at hc;obtain⟨hb,rfl⟩:=hc;rcases ht.keep l hb h1 with⟨k1,k2⟩|k1
    ·exact .yldOld h0 (ht.N l hb h1) (k1.trans h2)
    exact .yldOld h0 (ht.N l hb h1) k1
   exact .any
end
end Go.AM
namespace Go.AM
variable {M:cZ} {w:World}
def cX.sealUp(c:cX)(base:Nat)(τ:ay):cX:={ c with
 sld:=fun b=>c.sld b∨∃id,base≤id∧c.H id≠.dead∧c.place id=some b
 bor:=fun b=>c.bor b∨∃id,base≤id∧c.H id≠.dead∧c.place id=some b
 H:=hd τ
 N:=τ.length }
def ja(base:Nat)(σ:ay):ay:=(σ.take base).map (aH base σ)
variable {c:cX} {σ:ay} {base:Nat}
theorem qQ(hb:base≤σ.length):(ja base σ).length=base:=by simp[ja];omega
theorem Nl{id:Nat}{o:Obj}(h:(ja base σ)[id]?=some o):id<base∧∃o0,σ[id]?=some o0∧o=aH base σ o0:=by
 unfold ja at h;rw[dp]at h;obtain⟨o0,h1,h2⟩:=bF h;rw[df]at h1;split at h1
 ·exact⟨by assumption,o0,h1,h2.symm⟩
 cases h1
theorem TF{id:Nat}{o:Obj}(hid:id<base)(h:σ[id]?=some o):(ja base σ)[id]?=some (aH base σ o):=by
 unfold ja;rw[dp,df,if_pos hid,h];rfl
theorem pI{id:Nat}(hid:id<base)(hb:base≤σ.length):hd (ja base σ) id=hd σ id∨hd (ja base σ) id=.dead:=by
 have hlt:id<σ.length:=by omega
 obtain⟨o,ho⟩:∃o,σ[id]?=some o:=⟨_,am hlt⟩;have h1:=TF (base:=base) (σ:=σ) hid ho;unfold hd;rw[h1,ho];cases o with
 |arr k ep es=>
  simp only[aH,RH];by_cases hm:(es.map (ec base σ)).map aC=es.map aC
  ·rw[if_pos hm];exact .inl rfl
  rw[if_neg hm];exact .inr rfl
 |map es=>exact .inl rfl
 |pend b j=>exact .inl rfl
 |dead=>exact .inl rfl
theorem oD(hs:ei M w c σ)(hb:base≤σ.length):aai false base c (c.sealUp base (ja base σ)) where
 sld:=fun b h=>.inl h
 sb:=fun b h=>h.imp (hs.sb b) fun h=>h
 bor:=fun b h=>.inl h
 gone:=fun id b h1 h2 h3=>.inr ⟨id,h1,h2,h3⟩
 N:=fun id h1 _=>by show id<(ja base σ).length;rw[qQ hb];exact h1
 keep:=fun id h1 _=>by
  rcases pI (σ:=σ) h1 hb with h|h
  ·exact .inl ⟨by show hd (ja base σ) id=c.H id;rw[h,hs.H],fun _=>⟨rfl,rfl,rfl⟩⟩
  exact .inr h
theorem ei.sealUp(hs:ei M w c σ)(hb:base≤σ.length):ei M w (c.sealUp base (ja base σ)) (ja base σ):=by
 have ht:=oD hs hb;have hF:=fun n=>IX hs ht n;have live:∀id,hd (ja base σ) id≠.dead→id<base∧c.H id≠.dead:=fun id h=>by
  have hlt:=BW h;rw[qQ hb]at hlt;refine⟨hlt,?_⟩;rcases pI (σ:=σ) hlt hb with h'|h'
  ·rw[hs.H,←h'];exact h
  exact absurd h' h
 refine⟨rfl,rfl,ht.sb,fun b h=>?_,fun id b h1 h2=>?_,fun i j b hi hj hbi hbj=>hs.inj i j b (live i hi).2 (live j hj).2 hbi hbj,fun id o ho=>?_⟩
 ·rcases h with h|⟨id,_,h1,h2⟩
  ·exact hs.low b h
  exact (hs.plow id b h1 h2).1
 ·obtain⟨hlt,hl⟩:=live id h1;obtain⟨p1,p2⟩:=hs.plow id b hl h2;refine⟨p1,fun h=>h.elim p2 fun ⟨id',q1,q2,q3⟩=>?_⟩;have:=hs.inj id id' b hl q2 h2 q3;omega
 obtain⟨hlt,o0,h0,rfl⟩:=Nl ho;have hobj:=hs.obj id o0 h0;cases o0 with
 |arr k ep es=>
  simp only[aH,RH];by_cases hm:(es.map (ec base σ)).map aC=es.map aC
  ·rw[if_pos hm];obtain⟨m1,m2⟩:=xR hm;obtain⟨o1,o2,o3,o4⟩:=hobj;refine⟨o1,fun x hx=>?_,fun hn=>by rw[o3 hn];rfl,fun b hb'=>?_⟩
   ·obtain⟨i,hi,rfl⟩:=dm.1 hx;rw[m2 i hi (by omega)];exact o2 _ (aF _)
   obtain⟨cs,T,f,q1,q2,q3,q4,q5⟩:=o4 b hb';refine⟨cs,T,f,q1,by rw[m1];exact q2,q3,fun i j hi hj=>q4 i j (by omega) hj,fun i hi j hj=>?_⟩;simp only[db]at hj ⊢;exact AS (top:=true) (n:=iB) (fun m _=>hF m) (q5 i (by omega)) j hj
  rw[if_neg hm];trivial
 |map es=>
  obtain⟨b,cl,en,f,g,q1,q2,q3,q4,q5,q6⟩:=hobj;refine⟨b,cl,en,f,g,q1,q2,by simpa using q3,fun i hi=>?_,fun i hi=>?_,fun i hi=>?_⟩
  ·obtain⟨e,e1,e2,e3,e4⟩:=q4 i (by simpa using hi);exact⟨e,e1,e2,e3,by simpa using e4⟩
  ·obtain⟨e,e1,e2,e3,e4⟩:=q4 i (by simpa using hi);obtain⟨q,m,x1,x2⟩:=yW (q5 i (by simpa using hi)) e4;simp only[db];rw[x1,x2];exact .int
  simp only[db];exact hF iB true _ _ (q6 i (by simpa using hi))
 |pend bz j=>exact hobj
 |dead=>trivial
theorem iD.sealUp{c0:cX}{w0:World}(h:iD c0 w0 c w)(hs:ei M w c σ)(hN:c0.N=base)(hb:base≤σ.length):iD c0 w0 (c.sealUp base (ja base σ)) w where
 sld:=fun b hb=>.inl (h.sld b hb)
 bor:=fun b hb=>.inl (h.bor b hb)
 rest:=h.rest
 N:=by show c0.N≤(ja base σ).length;rw[qQ hb,hN];exact aM _
 head:=fun id hid=>by
  show (c0.H id).le (hd (ja base σ) id);rcases pI (σ:=σ) (show id<base by omega) hb with h'|h'
  ·rw[h',←hs.H];exact h.head id hid
  rw[h'];exact .inr (.inl rfl)
 place:=fun id hid hq hd'=>by
  refine h.place id hid ?_ hd';have hq':c0.H id=hd (ja base σ) id:=hq;rcases pI (σ:=σ) (show id<base by omega) hb with h'|h'
  ·rw[hq',h',←hs.H]
  exact absurd (hq'.trans h') hd'
 same:=h.same
 size:=h.size
 frame:=h.frame
 old:=fun b h1 hx=>by
  rcases h1 with h1|⟨id,_,h2,h3⟩
  ·exact h.old b h1 hx
  exact .inr (h.liv id b h2 h3 hx)
 oldb:=fun b h1 hx=>by
  rcases h1 with h1|⟨id,_,h2,h3⟩
  ·exact h.oldb b h1 hx
  exact .inr (h.liv id b h2 h3 hx)
 liv:=fun id b h1 h2 hx=>by
  refine h.liv id b ?_ h2 hx;have h1':hd (ja base σ) id≠.dead:=h1;have hlt:=BW h1';rw[qQ hb]at hlt;rcases pI (σ:=σ) hlt hb with h'|h'
  ·rw[hs.H,←h'];exact h1'
  exact absurd h' h1'
theorem G9{e:Nat}:∀{l:List Nat} {env:List ap},mK (clear env l) e=mK env e∨mK (clear env l) e=.any
 |[],_=>.inl rfl
 |i::r,env=>by
  simp only[clear];rcases G9 (e:=e) (l:=r) (env:=env.set i .any) with h|h
  ·rw[h];by_cases hi:i=e
   ·subst hi;unfold mK;rw[dc];simp only[cW];split
    ·exact .inr rfl
    exact .inr rfl
   exact .inl (yx hi)
  exact .inr h
theorem lr.clear{env:List ap}{em:List Tmp}{tmps:Array Value}(h:lr M w c env [] (u7 em) tmps)(l:List Nat):lr M w c (clear env l) [] (u7 em) tmps:=fun t x hx=>by
 have hr:=h t x hx;unfold u7 at hx;obtain⟨e,_,rfl⟩:=bF hx;show R M w c (mK (Go.AM.clear env l) e) _;rcases G9 (e:=e) (l:=l) (env:=env) with h'|h'
 ·rw[h'];exact hr
 rw[h'];exact .any
theorem OZ{c0:cX}{w0:World}{s:St}{em:List Tmp}{tmps:Array Value}{clr:List Nat}(hs:ei M w c s.st)(hst:iD c0 w0 c w)(hN:c0.N=base)(ht:lr M w c s.env [] (u7 em) tmps) :
  ∃c',ei M w c' (aE base clr s).st∧iD c0 w0 c' w∧lr M w c' (aE base clr s).env [] (u7 em) tmps ∧
   ∀r,¬c.bor r→(∀id,c.H id≠.dead→c.place id≠some r)→¬c'.bor r∧∀id,c'.H id≠.dead→c'.place id≠some r:=by
 have hb:base≤s.st.length:=by rw[←hN,←hs.N];exact hst.N
 unfold aE;split
 ·exact⟨c,hs,hst,ht.clear clr,fun r h1 h2=>⟨h1,h2⟩⟩
 refine⟨c.sealUp base (ja base s.st),hs.sealUp hb,hst.sealUp hs hN hb,fun t x hx=>?_,fun r h1 h2=>⟨fun h=>?_,fun id hl=>?_⟩⟩
 rotate_left
 ·rcases h with h|⟨id,_,h3,h4⟩
  ·exact h1 h
  exact h2 id h3 h4
 ·have hl':hd (ja base s.st) id≠.dead:=hl;have hlt:=BW hl';rw[qQ hb]at hlt;refine h2 id ?_;rcases pI (σ:=s.st) hlt hb with h'|h'
  ·rw[hs.H,←h'];exact hl'
  exact absurd h' hl'
 have hr:=(ht.clear clr) t x hx;unfold u7 at hx;obtain⟨e,_,rfl⟩:=bF hx;have hr':R M w c (mK (Go.AM.clear s.env clr) e) (tmps.getD t undef):=hr;show R M w _ (mK ((Go.AM.clear s.env clr).map (ec base s.st)) e) _;have e1:mK ((Go.AM.clear s.env clr).map (ec base s.st)) e=ec base s.st (mK (Go.AM.clear s.env clr) e)∨mK ((Go.AM.clear s.env clr).map (ec base s.st)) e=.any:=by
  unfold mK;rw[dp];cases (Go.AM.clear s.env clr)[e]? with
  |none=>exact .inr rfl
  |some v=>exact .inl rfl
 rcases e1 with e1|e1
 ·rw[e1];exact IX hs (oD hs hb) iB true _ _ hr'
 rw[e1];exact .any
end Go.AM
namespace Go.AM
variable {M:cZ} {P:Program} {w w':World} {c c':cX} {σ:ay}
structure Hid (n0:Nat) (w:World) (c:cX) (r:Nat):Prop where
 new:n0≤r
 at_:w.heap[r]?=some (.deferred (some []))
 bor:¬c.bor r
 place:∀id,c.H id≠.dead→c.place id≠some r
theorem Hid.lt{n0 r:Nat}(h:Hid n0 w c r):r<w.heap.size:=(bH.1 h.at_).1
theorem Hid.stp{n0 r:Nat}(h:Hid n0 w c r)(hst:iD c w c' w'):Hid n0 w' c' r where
 new:=h.new
 at_:=by rw[hst.frame r h.lt h.place];exact h.at_
 bor:=fun hb=>by
  rcases hst.oldb r hb h.lt with hb|⟨i,h1,h2⟩
  ·exact h.bor hb
  exact h.place i h1 h2
 place:=fun id h1 h2=>by
  obtain⟨i,a1,a2⟩:=hst.liv id r h1 h2 h.lt;exact h.place i a1 a2
def nR(n0:Nat)(w:World)(c:cX):List Deferred→Prop
 |[]=>True
 |d::ds=>(∃r,d.target=.collected r∧Hid n0 w c r∧∀d'∈ds,d'.target≠.collected r)∧nR n0 w c ds
theorem nR.stp{n0:Nat}(hst:iD c w c' w'):∀{ds:List Deferred},nR n0 w c ds→nR n0 w' c' ds
 |[],_=>trivial
 |_::_,⟨⟨r,h1,h2,h3⟩,h⟩=>⟨⟨r,h1,h2.stp hst,h3⟩,h.stp hst⟩
theorem nR.same{n0:Nat}(h:∀r,¬c.bor r→(∀id,c.H id≠.dead→c.place id≠some r)→¬c'.bor r∧∀id,c'.H id≠.dead→c'.place id≠some r):∀{ds:List Deferred},nR n0 w c ds→nR n0 w c' ds
 |[],_=>trivial
 |_::_,⟨⟨r,h1,h2,h3⟩,hm⟩=>⟨⟨r,h1,⟨h2.new,h2.at_,(h r h2.bor h2.place).1,(h r h2.bor h2.place).2⟩,h3⟩,hm.same h⟩
theorem nR.lt{n0:Nat}:∀{ds:List Deferred},nR n0 w c ds→∀d∈ds,∃r,d.target=.collected r∧r<w.heap.size
 |_::_,⟨⟨r,h1,h2,_⟩,h⟩,d,hd=>by
  rcases dz.1 hd with rfl|hd
  ·exact⟨r,h1,h2.lt⟩
  exact h.lt d hd
theorem iD.hid{c0:cX}{w0:World}{r:Nat}{o:Go.Obj}(h:iD c0 w0 c w)(hs:ei M w c σ)(hr:Hid w0.heap.size w c r)(hw:s6 w w' r o):ei M w' c σ∧Ext c w c w'∧iD c0 w0 c w':=by
 have hne:∀b,(c.bor b∨∃id,c.H id≠.dead∧c.place id=some b)→b≠r:=fun b hb e=>by
  subst e;rcases hb with hb|⟨i,h1,h2⟩
  ·exact hr.bor hb
  exact hr.place i h1 h2
 obtain⟨a1,a2⟩:=hs.over (w':=w') (fun b _ hb=>by rw[hw.get b hr.lt,if_neg (hne b hb)]) (by rw[hw.size];exact aM _);refine⟨a1,a2,{ Ext.trans h.toExt a2 with
  same:=h.same.trans hw.toSame
  size:=by rw[hw.size];exact h.size
  frame:=fun b hb hn=>by
   rw[hw.get b hr.lt,if_neg (by have:=hr.new;omega)];exact h.frame b hb hn
  liv:=h.liv
  old:=h.old
  oldb:=h.oldb }⟩
theorem nR.over{n0 r:Nat}{o:Go.Obj}(hlt:r<w.heap.size)(hw:s6 w w' r o):∀{ds:List Deferred},(∀d∈ds,d.target≠.collected r)→nR n0 w c ds→nR n0 w' c ds
 |[],_,_=>trivial
 |d::ds,hn,⟨⟨q,h1,h2,h3⟩,h⟩=>by
  refine⟨⟨q,h1,⟨h2.new,?_,h2.bor,h2.place⟩,h3⟩,h.over hlt hw fun d' hd'=>hn d' (aO _ hd')⟩;rw[hw.get q hlt,if_neg]
  ·exact h2.at_
  intro e;subst e;exact hn d cr h1
theorem yC{F:Fence}{n:Nat}{fn:Func}{tmps:Array Value}{c0:cX}{w0:World}{R:Ending→World→Prop}:∀(ds:List Deferred) (w:World),ei M w c σ→iD c0 w0 c w→nR w0.heap.size w c ds →
  (∀w',ei M w' c σ→Ext c w c w'→iD c0 w0 c w'→∃v,(Go.results fn tmps).run P w'=.ok v w'∧R (.returned v) w')→LeavesInM F n P fn tmps R ds .returning w
 |[],w,hs,hst,_,h=>h w hs (.refl c w) hst
 |d::ds,w,hs,hst,⟨⟨r,h1,h2,h3⟩,hm⟩,h=>by
  have hset:s6 w (w.putObj r (.deferred none)) r (.deferred none):=⟨⟨rfl,rfl,rfl,aM _⟩,rfl⟩;obtain⟨a1,a2,a3⟩:=hst.hid hs h2 hset;exact⟨by simp,.inl ⟨r,_,h1,run_takeDeferred h2.at_,yC ds _ a1 a3 (hm.over h2.lt hset h3) fun w' b1 b2 b3=>h w' b1 (a2.trans b2) b3⟩⟩
theorem ei.drop(hs:ei M w c σ){id b:Nat}{o:Go.Obj}(hl:c.H id≠.dead)(hb:c.place id=some b)(hw:s6 w w' b o) :
  ei M w' { c with H:=hd (σ.set id .dead) } (σ.set id .dead)∧iD c w { c with H:=hd (σ.set id .dead) } w':=by
 have hlt:=(hs.plow id b hl hb).1;have hh:∀i,hd (σ.set id .dead) i=if i=id then .dead else hd σ i:=fun i=>by
  by_cases e:i=id
  ·subst e;rw[if_pos rfl];unfold hd;rw[dc];simp only[cW];split<;>rename_i h<;>split at h<;>simp_all
  rw[if_neg e,iE e]
 have live:∀i,hd (σ.set id .dead) i≠.dead→c.H i≠.dead∧i≠id:=fun i h=>by
  rw[hh]at h;split at h
  ·exact absurd rfl h
  rw[hs.H];exact⟨h,by assumption⟩
 have hext:Ext c w { c with H:=hd (σ.set id .dead) } w':=⟨fun _ h=>h,fun _ h=>h,fun x hx=>by
  rw[hw.get x hlt,if_neg];rintro rfl;exact (hs.plow id x hl hb).2 (hx.elim (fun h=>h) (hs.sb x)),aM _,fun i hi=>by
  show (c.H i).le (hd (σ.set id .dead) i);rw[hh];split
  ·exact .inr (.inl rfl)
  exact .inl (by rw[hs.H]),fun i hi h hne=>⟨rfl,rfl,rfl⟩⟩
 refine⟨⟨rfl,by rw[gB];exact hs.N,hs.sb,fun x hx=>by rw[hw.size];exact hs.low x hx,fun i x h1 h2=>?_,fun i j x hi hj=>hs.inj i j x (live i hi).1 (live j hj).1,fun i o' ho=>?_⟩,{ hext with same:=hw.toSame,size:=by rw[hw.size];exact aM _,frame:=fun x hx hn=>?_,liv:=fun i x h1 h2 _=>⟨i,(live i h1).1,h2⟩,old:=fun _ h _=>.inl h,oldb:=fun _ h _=>.inl h }⟩
 ·obtain⟨p1,p2⟩:=hs.plow i x (live i h1).1 h2;exact⟨by rw[hw.size];exact p1,p2⟩
 ·by_cases e:i=id
  ·subst e;rw[dc]at ho;simp only[cW]at ho;split at ho
   ·cases ho;trivial
   cases ho
  rw[dG (fun h=>e h.symm)]at ho;refine (hs.obj i o' ho).ext hext (fun _=>⟨rfl,rfl,rfl⟩) fun hnd x hx=>?_;rw[hw.get x hlt,if_neg];rintro rfl;exact e (hs.inj i id x (by rw[hs.H];exact fun h=>hnd ((ou ho).1 h)) hl hx hb)
 rw[hw.get x hlt,if_neg (fun e=>hn id hl (by subst e;exact hb))]
theorem ei.pend(hs:ei M w c σ){id b:Nat}{bz bz':Bool}{j j':Option Ex}{o:Go.Obj}(ho:σ[id]?=some (.pend bz j))(hb:c.place id=some b)(hw:s6 w w' b o)
  (hobj:o=.loop (match bz',j' with
    |true,_=>oM (c.loops id) .busy none
    |false,none=>oM (c.loops id) .ready none
    |false,some e=>oM (c.loops id) .done (qM e))) :
  ei M w' c (σ.set id (.pend bz' j'))∧iD c w c w':=by
 have hl:c.H id≠.dead:=by rw[hs.H,eI ho];simp
 have hlt:=(hs.plow id b hl hb).1;have hext:Ext c w c w':=⟨fun _ h=>h,fun _ h=>h,fun x hx=>by
  rw[hw.get x hlt,if_neg];rintro rfl;exact (hs.plow id x hl hb).2 (hx.elim (fun h=>h) (hs.sb x)),aM _,fun i hi=>.inl rfl,fun i hi h hne=>⟨rfl,rfl,rfl⟩⟩
 have hsz:id<σ.length:=(al.1 ho).1;have hself:(σ.set id (.pend bz' j'))[id]?=some (.pend bz' j'):=by simp[hsz]
 have hH:hd (σ.set id (.pend bz' j'))=hd σ:=by
  funext i;by_cases e:i=id
  ·subst e;rw[eI hself,eI ho]
  rw[iE e]
 refine⟨⟨by rw[hH];exact hs.H,by rw[gB];exact hs.N,hs.sb,fun x hx=>by rw[hw.size];exact hs.low x hx,fun i x h1 h2=>?_,hs.inj,fun i o' ho'=>?_⟩,iD.setB hs hl hb hw hext⟩
 ·obtain⟨p1,p2⟩:=hs.plow i x h1 h2;exact⟨by rw[hw.size];exact p1,p2⟩
 by_cases e:i=id
 ·subst e;rw[hself]at ho';cases ho';exact⟨b,hb,by rw[hw.get b hlt,if_pos rfl,hobj];cases bz'<;>cases j'<;>rfl⟩
 rw[dG (fun h=>e h.symm)]at ho';refine (hs.obj i o' ho').ext hext (fun _=>⟨rfl,rfl,rfl⟩) fun hnd x hx=>?_;rw[hw.get x hlt,if_neg];rintro rfl;exact e (hs.inj i id x (by rw[hs.H];exact fun h=>hnd ((ou ho').1 h)) hl hx hb)
end Go.AM
namespace Go.AM
variable {M:cZ} {P:Program}
section
variable {F:Fence} {n:Nat} {Q:Exit→Act→World→Prop} {a:Act} {w:World}
theorem mM{b:Frame}{k:List Item}{cs:List Frame}{c:Go.Code}:Go.step P (lone (b.atR a (.code (.scope c)::k)) cs w)=.next (lone (b.atR a (.code c::.inScope c::k)) cs w):=
 step_lone_go (by simp[stepG,stepG.exec,Frame.atR])
theorem Gu{b:Frame}{k:List Item}{cs:List Frame}{c:Go.Code}:Go.step P (lone (b.atR a (.inScope c::k)) cs w)=.next (lone (b.atR a k) cs w):=
 step_lone_go (by simp[stepG,stepG.exec,Frame.atR])
theorem Pc{c:Go.Code}(h:c.wpIn F n P (Exit.noGoto Q) a w):(Go.Code.scope c).wpIn F n P Q a w:=by
 intro b k cs hro hb hr;have h0:(lone (b.atR a (.code (.scope c)::k)) cs w).fenced P F:=fenced_calm hb hr rfl;obtain⟨e,a₁,w₁,hq,harr⟩:=h b (.inScope c::k) cs hro hb hr;cases e with
 |normal=>exact⟨.normal,a₁,w₁,hq,.head h0 mM (StepsIn.trans harr (.one (fenced_calm hb hr rfl) Gu))⟩
 |exit id=>
  have hx:exitTo id (.inScope c::k)=exitTo id k:=by simp[exitTo]
  exact⟨.exit id,a₁,w₁,hq,fun k' hk=>.head h0 mM (harr.1 k' (by rw[hx];exact hk)),
   fun hr' hk=>let ⟨k₁,h1,h2⟩:=harr.2 hr' (by rw[hx];exact hk);⟨k₁,h1,.head h0 mM h2⟩⟩
 |goto l=>exact hq.elim
 |ret=>exact⟨_,a₁,w₁,hq,.of_steps (.one h0 mM) harr⟩
 |panic ch=>exact⟨_,a₁,w₁,hq,.of_steps (.one h0 mM) harr⟩
 |outgrown=>exact⟨_,a₁,w₁,hq,.of_steps (.one h0 mM) harr⟩
end
def Nz:Ex→Exit
 |.nrm=>.normal
 |.ext id=>.exit id
 |.ret=>.ret
def BJ:Go.Code→Bool
 |.skip=>true
 |.label _=>true
 |_=>false
inductive fK (M:cZ) (P:Program) (co:Nat→Bool) (em:List Tmp) (nt:Nat) (top:Bool):Go.Code→az→Prop
 |nop {c}:BJ c=true→fK M P co em nt top c .skip
 |text {id ops ins os its}:uE M P co ops ins em its (fun i=>2^i-1) [] none nt→tv ops.toList em its os=true→fK M P co em nt top (.region id ops false) (.reg ins os)
 |any {id ops ins os its bef late}:uE M P co ops ins em its bef [] late nt→QZ ops bef→tv ops.toList em its os=true→fK M P co em nt top (.region id ops true) (.reg ins os)
 |anyd {id ops ins os its bef chk late}:uE M P co ops ins em its bef chk late nt→QZ ops bef→tv ops.toList em its os=true→fK M P co em nt top (.region id ops true) (.regd ins os chk)
 |seq {a b x y}:fK M P co em nt top a x→fK M P co em nt top b y→fK M P co em nt top (.seq a b) (.seq x y)
 |left {a b x}:BJ b=true→fK M P co em nt top a x→fK M P co em nt top (.seq a b) x
 |right {a b y}:BJ a=true→fK M P co em nt top b y→fK M P co em nt top (.seq a b) y
 |cond {t a b t' x y}:lM M (u7 em) t t'=true→fK M P co em nt top a x→fK M P co em nt top b y→fK M P co em nt top (.cond t a b) (.cond t' x y)
 |blk {id a x}:fK M P co em nt top a x→fK M P co em nt top (.block id a) (.blk id x)
 |loop {clr a x}:fK M P co em nt top a x→fK M P co em nt top (.loop a) (.loop clr x)
 |exit {id}:fK M P co em nt top (.exit id) (.exit id)
 |ret:fK M P co em nt top .ret .ret
 |scope {a x}:fK M P co em nt top a x→fK M P co em nt top (.scope a) (.scope x)
 |lift {c x i off k}:fK M P co em nt top c x→fK M P co em nt top c (.lift i off k x)
 |rng {g ps assign body f site n}:top=true→lM M (u7 em) g f=true→em.Nodup→(∀t∈em,t<nt)→n=em.length →
   (∀fn tmps defers,nt≤tmps.size→M.site site ⟨fn,tmps,ps,assign,body,defers⟩ em)→fK M P co em nt top (.rangeFunc g ps assign body) (.rng n f site)
structure SR (M:cZ) (em:List Tmp) (nt m0:Nat) (c:cX) (w:World) (s:St) (a:Act):Prop where
 sim:ei M w c s.st
 tmp:lr M w c s.env [] (u7 em) a.tmps
 size:nt≤a.tmps.size
 base:m0≤w.heap.size
 marks:nR m0 w c a.defers
section
variable {co:Nat→Bool} {em:List Tmp} {nt:Nat} {top:Bool} {C:gn} {n:Nat} {F:Fence} {n0:Nat}
theorem N3{c:Go.Code}(h:BJ c=true){Q:Exit→Act→World→Prop}{a:Act}{w:World}(hq:Q .normal a w):c.wpIn F n0 P Q a w:=by
 cases c<;>simp[BJ]at h
 ·exact wpIn_skip hq
 exact wpIn_label hq
theorem yz{p:Nat→Prop}(h:∃k,p k):∃k,p k∧∀j,p j→k≤j:=by
 obtain⟨k,hk⟩:=h;induction k using Nat.strongRecOn with
 |_ k ih=>
  by_cases hl:∃j,j<k∧p j
  ·obtain⟨j,h1,h2⟩:=hl;exact ih j h1 h2
  exact⟨k,hk,fun j hj=>Nat.le_of_not_lt fun hlt=>hl ⟨j,hlt,hj⟩⟩
open Classical in
noncomputable def DF(p:Nat→Prop):Nat:=if h:∃k,p k∧∀j,p j→k≤j then Classical.choose h else 0
theorem OO{p:Nat→Prop}(h:∃k,p k):p (DF p):=by
 have h':=yz h;unfold DF;rw[dif_pos h'];exact (jB h').1
theorem Uc{p:Nat→Prop}{k:Nat}(h:p k):DF p≤k:=by
 have h':=yz ⟨k,h⟩;unfold DF;rw[dif_pos h'];exact (jB h').2 k h
def VK(M:cZ)(P:Program)(em:List Tmp)(nt:Nat)(F:Fence)(n0:Nat)(f:St→Option (Ex×St))(code:Go.Code):Prop:=
 ∀(s:St) (e:Ex) (s':St),f s=some (e,s')→∀(m0:Nat) (c0:cX) (w0:World) (a0:Act),iW M w0 c0→SR M em nt m0 c0 w0 s a0→∀Q:Exit→Act→World→Prop,
  (∀a w c,SR M em nt m0 c w s' a→iD c0 w0 c w→Q (Nz e) a w)→code.wpIn F n0 P Q a0 w0
theorem Pw{f:St→Option (Ex×St)}{code:Go.Code}(h:VK M P em nt F n0 f code)(clr:List Nat)(k0:Nat):VK M P em nt F n0 (fun s=>oL s.st.length clr f k0 ⟨clear s.env clr,s.st⟩) (.loop code):=by
 intro s e s' hr m0 c0 w0 a0 hg hs Q hQ;have hN:c0.N=s.st.length:=hs.sim.N
 let J:Nat→Act→World→Prop:=fun k a w=>∃s1 c,SR M em nt m0 c w s1 a∧iD c0 w0 c w∧oL s.st.length clr f k s1=some (e,s')
 have hJ0:J k0 a0 w0:=⟨⟨clear s.env clr,s.st⟩,c0,⟨hs.sim,hs.tmp.clear clr,hs.size,hs.base,hs.marks⟩,.refl c0 w0,hr⟩;refine wpIn_loop (fun a w=>∃k,J k a w) (fun a w=>DF fun k=>J k a w) ⟨k0,hJ0⟩ fun a w hI=>?_;have hk:J (DF fun k=>J k a w) a w:=OO (p:=fun k=>J k a w) hI;generalize hke:(DF fun k=>J k a w)=k at hk;obtain⟨s1,c,hs1,hst,hl⟩:=hk;cases k with
 |zero=>simp[oL]at hl
 |succ k=>
  simp only[oL]at hl;obtain⟨⟨e1,s2⟩,h1,h2⟩:=bI hl;refine h s1 e1 s2 h1 m0 c w a (hg.ext hst.toExt) hs1 _ fun a' w' c' hs2 hst2=>?_;cases e1 with
  |nrm=>
   obtain⟨c'',r1,r2,r3,r4⟩:=OZ (clr:=clr) hs2.sim (hst.trans hst2) hN hs2.tmp;have hJ:J k a' w':=⟨_,c'',⟨r1,r3,hs2.size,hs2.base,hs2.marks.same r4⟩,r2,h2⟩;refine⟨⟨k,hJ⟩,?_⟩;exact Nat.lt_succ_of_le (Uc (p:=fun k=>J k a' w') hJ)
  |ext id=>
   simp only[aJ,dN]at h2;obtain⟨rfl,rfl⟩:=h2;exact hQ a' w' c' hs2 (hst.trans hst2)
  |ret=>
   simp only[aJ,dN]at h2;obtain⟨rfl,rfl⟩:=h2;exact hQ a' w' c' hs2 (hst.trans hst2)
theorem Ql{w:World}{c:cX}{env:List ap}{a:Act}{x:Operand}{x':cP}(ht:lr M w c env [] (u7 em) a.tmps)(hg:iW M w c)(h:lM M (u7 em) x x'=true):R M w c (x'.eval env []) (a.eval x):=Hy ht hg h
theorem Az{α:Type}{l:List α}(h:l.Nodup){i j:Nat}(hi:i<l.length)(hj:j<l.length)(e:l[i]=l[j]):i=j:=by
 have hp:=ia.1 h;rcases eY i j with hlt|heq|hlt
 ·exact absurd e (hp i j hi hj hlt)
 ·exact heq
 exact absurd e.symm (hp j i hj hi hlt)
theorem iX.ext{w w':World}{c c':cX}{xs:List ap}{A:Array Value}(h:iX M w c xs A)(he:Ext c w c' w'):iX M w' c' xs A:=
 ⟨h.1,fun i hi=>let ⟨x,h1,h2⟩:=h.2 i hi;⟨x,h1,h2.ext he⟩⟩
theorem SH(hC:jP M P C)(hF:rk F)(hro:F.round=none){g:Operand}{ps:Array Tmp}{assign body:Go.Code}{f:cP}{site:Nat}(hf:lM M (u7 em) g f=true)(hnd:em.Nodup)(hnt:∀t∈em,t<nt){s s':St}{e:Ex}(hlen:s.env.length=em.length)
  (hsite:∀fn tmps defers,nt≤tmps.size→M.site site ⟨fn,tmps,ps,assign,body,defers⟩ em) {v:ap} {σ':ay} (h1:FR C (f.eval s.env []) [.yld s.st.length site s.env] (s.st++[.pend false none])=some (v,σ'))
  (h2:jC s.st.length s.env σ'=some (e,s')) {m0:Nat} {c0:cX} {w0:World} {a0:Act} (hg:iW M w0 c0) (hs:SR M em nt m0 c0 w0 s a0) (Q:Exit→Act→World→Prop)
  (hQ:∀a w c,SR M em nt m0 c w s' a→iD c0 w0 c w→Q (Nz e) a w):(Go.Code.rangeFunc g ps assign body).wpIn F n0 P Q a0 w0:=by
 have hfv:=Ql (env:=s.env) hs.tmp hg hf;unfold FR at h1;split at h1
 ·rename_i f0 first cap hfe
  rw[hfe]at hfv;obtain⟨fs,cs,he,hfirst,hcap⟩:=Fd hfv;apply wpIn_rangeFunc;intro fn hfn;generalize hrec:(⟨fn,a0.tmps,ps,assign,body,w0.heap.size⟩:ki)=rec;have hent:=run_enterLoop_outer (P:=P) (w:=w0) fn a0.tmps ps assign body;rw[hro]
  have hd1:∀b,b<w0.heap.size→(kT w0 (.deferred (some []))).heap[b]?=w0.heap[b]?:=fun b hb=>gR hb;obtain⟨s1,x1⟩:=hs.sim.over (w':=kT w0 (.deferred (some []))) (fun b hb _=>gR hb) (by rw[fe];omega);have st1:iD c0 w0 c0 (kT w0 (.deferred (some []))):={ x1 with same:=nV,size:=by rw[fe];omega,frame:=fun b hb _=>gR hb,liv:=fun i b h1 h2 _=>⟨i,h1,h2⟩,old:=fun _ h _=>.inl h,oldb:=fun _ h _=>.inl h };generalize hw1:kT w0 (.deferred (some []))=w1 at s1 x1 st1;have hz1:w1.heap.size=w0.heap.size+1:=by rw[←hw1,fe]
  have hgw:∀b,b<w1.heap.size→(kT w1 (.loop (oM rec .ready none))).heap[b]?=w1.heap[b]?:=fun b hb=>gR hb;have s2:ei M (kT w1 (.loop (oM rec .ready none))) (c0.grow (s.st++[.pend false none]) (some w1.heap.size) 0 rec) (s.st++[.pend false none]):=by
   refine s1.grow _ _ _ _ hgw (by rw[fe];omega) (fun b hb=>by cases hb;rw[fe];omega) ⟨w1.heap.size,by simp[cX.grow,s1.N],?_⟩;rw[p8];simp[cX.grow,s1.N]
  have st2:iD c0 w1 (c0.grow (s.st++[.pend false none]) (some w1.heap.size) 0 rec) (kT w1 (.loop (oM rec .ready none))):=
   iD.grow s1 _ _ _ _ nV hgw (by rw[fe];omega) (fun b hb=>by cases hb;exact aM _)
  have hN:c0.N=s.st.length:=hs.sim.N;have hl2:(c0.grow (s.st++[.pend false none]) (some w1.heap.size) 0 rec).loops s.st.length=rec:=by simp[cX.grow,hN]
  have hp2:(c0.grow (s.st++[.pend false none]) (some w1.heap.size) 0 rec).place s.st.length=some w1.heap.size:=by simp[cX.grow,hN]
  have hH2:(c0.grow (s.st++[.pend false none]) (some w1.heap.size) 0 rec).H s.st.length=.pend:=by
   show hd (s.st++[.pend false none]) s.st.length=_;rw[eI mj]
  have hN2:s.st.length<(c0.grow (s.st++[.pend false none]) (some w1.heap.size) 0 rec).N:=by simp[cX.grow]
  generalize hc2:c0.grow (s.st++[.pend false none]) (some w1.heap.size) 0 rec=c2 at s2 st2 hl2 hp2 hH2 hN2;generalize hw2:kT w1 (.loop (oM rec .ready none))=w2 at s2 st2;have st02:=st1.trans st2;have hyld:R M w2 c2 (.yld s.st.length site s.env) (.func (.yield w1.heap.size) #[] #[]):=by
   refine .yld (em:=em) (fun i=>a0.tmps.getD (em.getD i 0) undef) hN2 hH2 hp2 ?_ hlen.symm ?_ ?_
   ·rw[hl2,←hrec];exact hsite _ _ _ hs.size
   ·intro i hi hx;have hlt:em[i]<a0.tmps.size:=bd (hnt _ (aF hi)) hs.size;rw[hl2,←hrec];show a0.tmps[em[i]]?=_;simp[Array.getD,hi,hlt]
   intro i hi;have hi':i<em.length:=by omega
   have hr:=hs.tmp em[i] (.env i) (by
    unfold u7;rw[show em.idxOf? em[i]=some i by
     rw[List.idxOf?,dn];refine⟨hi',by simp,fun j hj=>?_⟩;simp only[aP];exact fun e=>absurd (Az hnd _ _ e) (by omega)]
    rfl)
   have e1:(cP.env i).eval s.env []=s.env[i]:=by
    show mK s.env i=_;unfold mK;rw[am hi];rfl
   rw[e1]at hr;simpa [List.getD,hi'] using hr.ext st02.toExt
  have hargs:iX M w2 c2 (first++[.yld s.st.length site s.env]++cap) (fs++#[.func (.yield w1.heap.size) #[] #[]]++cs):=
   ((iX.ext hfirst st02.toExt).append ⟨rfl,fun i hi=>by
    have:i=0:=by simpa using hi
    subst this;exact⟨_,rfl,hyld⟩⟩).append (iX.ext hcap st02.toExt)
  have hcall:=hC f0 _ _ v σ' h1 F (n0-1) w2 c2 _ hF s2 (hg.ext st02.toExt) hargs;have henter:=hcall.2 ⟨.yld s.st.length site s.env,by simp,rfl⟩ (fs++#[.func (.yield w1.heap.size) #[] #[]]++cs) w2;have hin:CallsIn F (n0-1) P (M.fm f0) (fs++#[.func (.yield w1.heap.size) #[] #[]]++cs) w2 fun e w'=>∃cv,e=.returned cv∧fU M c2 w2 σ' v cv w':=by
   rcases hcall.1 with⟨_,h⟩|⟨cv,w',h,_⟩
   ·exact h
   rw[henter]at h;cases h
  refine⟨w0.heap.size+1,[{ target:=.collected w0.heap.size,args:=#[] }],w2,{ target:=.fn (.func (M.fm f0)) cs,args:=fs++#[.func (.yield w1.heap.size) #[] #[]] },w2,M.fm f0,_,w2,?_,?_,fun f' _=>hF.fn f',?_,fun h=>absurd h (by rw[hF.depth];simp),hin.mono ?_⟩
  ·rw[hent,←hw2,←hw1,←hrec];rfl
  ·have:a0.eval g=.func (.func (M.fm f0)) fs cs:=he;simp only[rangeCall,Go.resolve,this,Deferred.ofValue,hz1];show Sem.run P (pure (⟨Target.fn (Fn.func (M.fm f0)) cs,fs++(#[Operand.const (Value.func (Fn.yield (w0.heap.size+1)) #[] #[])].map a0.eval)⟩:Deferred)) w2=_;simp[Act.eval]
  ·exact henter
  intro e' w' ⟨cv,hcv,c3,s3,st3,_⟩;subst hcv
  have hst3:∃j,σ'[s.st.length]?=some (.pend false j)∧e=(match j with|none=>.nrm|some e=>e)∧s'=⟨s.env,σ'.set s.st.length .dead⟩:=by
   unfold jC at h2;split at h2
   ·cases h2;exact⟨none,by assumption,rfl,rfl⟩
   ·cases h2;exact⟨some _,by assumption,rfl,rfl⟩
   cases h2
  obtain⟨j,hj,hej,hs'⟩:=hst3;have hH3:c3.H s.st.length=.pend:=by rw[s3.H,eI hj]
  obtain⟨p1,p2,p3⟩:=st3.place s.st.length hN2 (by rw[hH2,hH3]) (by rw[hH2];simp);obtain⟨b,b1,b2⟩:=s3.obj _ _ hj;rw[p1,hp2]at b1;cases b1;rw[p3,hl2]at b2;have hl3:c3.H s.st.length≠.dead:=by rw[hH3];simp
  have hp3:c3.place s.st.length=some w1.heap.size:=by rw[p1,hp2]
  obtain⟨r,hrr,hnb,hpend⟩:∃r:Loop,w'.heap[w1.heap.size]?=some (.loop r)∧r.state≠.busy∧r.pending=qM e:=by
   refine⟨_,b2,?_,?_⟩
   ·cases j<;>simp[oM]
   rw[hej];cases j with
   |none=>rfl
   |some e=>rfl
  have hend:=run_endLoop (P:=P) hrr hnb;have hset:s6 w' (w'.putObj w1.heap.size (.loop { r with state:=.exhausted })) w1.heap.size (.loop { r with state:=.exhausted }):=⟨⟨rfl,rfl,rfl,aM _⟩,rfl⟩;obtain⟨s4,st4⟩:=s3.drop hl3 hp3 hset;have st:=(st02.trans st3).trans st4;have hmk:nR m0 w2 c2 ({ target:=.collected w0.heap.size,args:=#[] }::a0.defers):=by
   refine⟨⟨w0.heap.size,rfl,⟨hs.base,?_,?_,?_⟩,fun d hd e=>?_⟩,hs.marks.stp st02⟩
   ·rw[←hw2,gR (by omega),←hw1,p8]
   ·rw[←hc2];exact fun h=>absurd (hs.sim.low _ h) (by omega)
   ·intro id hl hpl;obtain⟨i,i1,i2⟩:=st2.liv id _ hl hpl (by omega);exact absurd (hs.sim.plow i _ i1 i2).1 (by omega)
   obtain⟨q,q1,q2⟩:=hs.marks.lt d hd;rw[q1]at e;cases e;omega
  have hfin:SR M em nt m0 _ (w'.putObj w1.heap.size (.loop { r with state:=.exhausted })) s' { a0 with defers:=[{ target:=.collected w0.heap.size,args:=#[] }]++a0.defers }:=
   ⟨by rw[hs'];exact s4,by rw[hs'];exact fun t x hx=>(hs.tmp t x hx).ext st.toExt,hs.size,aI hs.base st.size,hmk.stp (st3.trans st4)⟩
  have hq:=hQ _ _ _ hfin st;generalize w'.putObj w1.heap.size (.loop { r with state:=.exhausted })=W at hend hq;rw[hpend,hz1]at hend;refine⟨qM e,W,hend,?_⟩;cases e with
  |nrm=>exact hq
  |ext id=>exact wpIn_exit hq
  |ret=>exact wpIn_ret hq
 cases h1
theorem ei.reval{w:World}{c:cX}{σ:ay}(hs:ei M w c σ){id k ep:Nat}{es es':List ap}(ho:σ[id]?=some (.arr k ep es))(hl:es'.length=es.length)(hn:∀x∈es',aC x=k)
  (hr:∀f:Nat→Nat→Value,(∀i (hi:i<es.length) j (hj:j<(cellsOf es[i]).length),R M w c (cellsOf es[i])[j] (f i j))→∀i (hi:i<es'.length) j (hj:j<(cellsOf es'[i]).length),R M w c (cellsOf es'[i])[j] (f i j)) :
  ei M w c (σ.set id (.arr k ep es')):=by
 have hsz:id<σ.length:=(al.1 ho).1;have hself:(σ.set id (.arr k ep es'))[id]?=some (.arr k ep es'):=by simp[hsz]
 have hH:hd (σ.set id (.arr k ep es'))=hd σ:=by
  funext i;by_cases e:i=id
  ·subst e;rw[eI hself,eI ho]
  rw[iE e]
 refine⟨by rw[hH];exact hs.H,by rw[gB];exact hs.N,hs.sb,hs.low,hs.plow,hs.inj,fun i o hoi=>?_⟩;by_cases e:i=id
 ·subst e;rw[hself]at hoi;cases hoi;obtain⟨o1,o2,o3,o4⟩:=hs.obj i _ ho;refine⟨o1,hn,fun hp=>bl (by rw[hl,o3 hp];rfl),fun b hb=>?_⟩;obtain⟨cs,T,f,q1,q2,q3,q4,q5⟩:=o4 b hb;exact⟨cs,T,f,q1,by rw[hl];exact q2,q3,fun i j hi hj=>q4 i j (by omega) hj,hr f q5⟩
 rw[dG (fun h=>e h.symm)]at hoi;exact hs.obj i o hoi
theorem FG{w:World}{c:cX}{σ σ':ay}(hs:ei M w c σ){id ep j p0 k:Nat}(h:Bn id ep j p0 k σ=some σ'):∃c',ei M w c' σ'∧iD c w c' w:=by
 unfold Bn at h;split at h
 ·rename_i k' e es ho;split at h
  ·rename_i hc;obtain⟨_,hk⟩:=hc;split at h
   ·rename_i cs hes;split at h
    ·rename_i hcs;cases h;obtain⟨hj,hej⟩:=al.1 hes;obtain⟨hq,heq⟩:=al.1 hcs;have hid:id<σ.length:=(al.1 ho).1;obtain⟨c',s1,s2,s3⟩:=Cz hs hk none;have ho':(σ++[.arr k 0 []])[id]?=some (.arr k' e es):=by rw[bB hid];exact ho
     have hH:c'.H σ.length=.arr k 0:=by rw[s1.H,eI mj]
     have hN:σ.length<c'.N:=by rw[s1.N];simp
     refine⟨c',?_,s2⟩;have:=s1.reval (es':=es.set j (.agg (cs.set p0 (.sl σ.length 0 0 0)))) ho' (by simp) (fun x hx=>?_) (fun f hf i hi q hq'=>?_)
     ·rwa [List.set_append_left _ _ hid]at this
     ·obtain⟨_,o2,_⟩:=hs.obj id _ ho;rcases fM hx with hx|rfl
      ·exact o2 x hx
      rw[←o2 es[j] (aF hj),hej];simp[aC]
     have hi':i<es.length:=by simpa using hi
     by_cases e1:i=j
     ·subst e1;have e2:(es.set i (.agg (cs.set p0 (.sl σ.length 0 0 0))))[i]=.agg (cs.set p0 (.sl σ.length 0 0 0)):=by simp
      simp only[e2]at hq' ⊢;have key:∀q (hq:q<(cs.set p0 (.sl σ.length 0 0 0)).length),R M w c' (cs.set p0 (.sl σ.length 0 0 0))[q] (f i q):=fun q hq=>by
       have hql:q<cs.length:=by simpa using hq
       have hold:R M w c' cs[q] (f i q):=by
        have:=hf i hi' q (by rw[hej];exact hql);simp only[hej]at this;exact this
       by_cases e3:q=p0
       ·subst e3;rw[fJ];rw[heq]at hold;generalize f i q=v at hold;cases hold with
        |aj=>exact .sl0 hN hH
       rw[gg (fun h=>e3 h.symm)];exact hold
      exact key q hq'
     have e2:(es.set j (.agg (cs.set p0 (.sl σ.length 0 0 0))))[i]=es[i]:=by rw[gg (fun h=>e1 h.symm)]
     simp only[e2]at hq' ⊢;exact hf i hi' q hq'
    cases h
   ·rename_i hes;split at h
    ·cases h;obtain⟨hj,hej⟩:=al.1 hes;have hid:id<σ.length:=(al.1 ho).1;obtain⟨c',s1,s2,s3⟩:=Cz hs hk none;have ho':(σ++[.arr k 0 []])[id]?=some (.arr k' e es):=by rw[bB hid];exact ho
     have hH:c'.H σ.length=.arr k 0:=by rw[s1.H,eI mj]
     have hN:σ.length<c'.N:=by rw[s1.N];simp
     refine⟨c',?_,s2⟩;have:=s1.reval (es':=es.set j (.sl σ.length 0 0 0)) ho' (by simp) (fun x hx=>?_) (fun f hf i hi q hq'=>?_)
     ·rwa [List.set_append_left _ _ hid]at this
     ·obtain⟨_,o2,_⟩:=hs.obj id _ ho;rcases fM hx with hx|rfl
      ·exact o2 x hx
      rw[←o2 es[j] (aF hj),hej];rfl
     have hi':i<es.length:=by simpa using hi
     by_cases e1:i=j
     ·subst e1;have e2:(es.set i (.sl σ.length 0 0 0))[i]=.sl σ.length 0 0 0:=by simp
      simp only[e2]at hq' ⊢;have hq0:q=0:=by simpa [cellsOf] using hq'
      subst hq0;show R M w c' (.sl σ.length 0 0 0) _;have hold:R M w c' .aj (f i 0):=by
       have:=hf i hi' 0 (by rw[hej];simp[cellsOf]);simp only[hej]at this;exact this
      generalize f i 0=v at hold;cases hold with
      |aj=>exact .sl0 hN hH
     have e2:(es.set j (.sl σ.length 0 0 0))[i]=es[i]:=by rw[gg (fun h=>e1 h.symm)]
     simp only[e2]at hq' ⊢;exact hf i hi' q hq'
    cases h
   cases h
  cases h
 cases h
theorem HI{id ep k:Nat}:∀(n:Nat) {w:World} {c:cX} {σ σ':ay},ei M w c σ→yZ id ep k n σ=some σ'→∃c',ei M w c' σ'∧iD c w c' w
 |0,w,c,σ,σ',hs,h=>by cases h;exact⟨c,hs,.refl c w⟩
 |n+1,w,c,σ,σ',hs,h=>by
  unfold yZ at h;obtain⟨σ1,h1,h2⟩:=bI h;obtain⟨c1,s1,t1⟩:=HI n hs h1;obtain⟨c2,s2,t2⟩:=FG s1 h2;exact⟨c2,s2,t1.trans t2⟩
theorem afa{w:World}{c:cX}{σ σ':ay}(hs:ei M w c σ){p:ap}{off k:Nat}(h:FE p off k σ=some σ'):∃c',ei M w c' σ'∧iD c w c' w:=by
 unfold FE at h;split at h
 ·exact FG hs h
 ·split at h
  ·split at h
   ·exact HI _ hs h
   cases h
  exact FG hs h
 cases h
theorem ud(hm:P.follows .mixedOrders=true)(hp:sL co C)(hC:jP M P C)(hR:jE M P C)(hF:rk F)(htop:top=true→F.round=none){code:Go.Code}{x:az}(h:fK M P co em nt top code x):VK M P em nt F n0 (exec C n x) code:=by
 induction h with
 |nop hc=>
  intro s e s' hr m0 c0 w0 a0 hg hs Q hQ;simp only[exec,aJ,dN]at hr;obtain⟨rfl,rfl⟩:=hr;exact N3 hc (hQ a0 w0 c0 hs (.refl c0 w0))
 |@text id ops ins os its hok hos=>
  intro s e s' hr m0 c0 w0 a0 hg hs Q hQ;simp only[exec]at hr;obtain⟨⟨ls,σ'⟩,h1,h2⟩:=bF hr;cases h2;obtain⟨st,t1,t2,t3⟩:=Le h1;refine MS hok t1 hp (fun n j I h=>by cases h) hC hR hF hg (by rw[t2];exact hs.sim) hs.tmp hs.size hos (fun a w hf=>?_) id;obtain⟨c,f1,f2,f3,f4,f5⟩:=hf;rw[t3]at f1;exact hQ a w c ⟨f1,f3,by rw[f4];exact hs.size,aI hs.base f2.size,by rw[f5];exact hs.marks.stp f2⟩ f2
 |@any id ops ins os its bef late hok he hos=>
  intro s e s' hr m0 c0 w0 a0 hg hs Q hQ;simp only[exec]at hr;obtain⟨⟨ls,σ'⟩,h1,h2⟩:=bF hr;cases h2;obtain⟨st,t1,t2,t3⟩:=Le h1;refine EP hm he hok t1 hp (fun n j I h=>by cases h) hC hR hF hg (by rw[t2];exact hs.sim) hs.tmp hs.size hos (fun a w hf=>?_) id;obtain⟨c,f1,f2,f3,f4,f5⟩:=hf;rw[t3]at f1;exact hQ a w c ⟨f1,f3,by rw[f4];exact hs.size,aI hs.base f2.size,by rw[f5];exact hs.marks.stp f2⟩ f2
 |@anyd id ops ins os its bef chk late hok he hos=>
  intro s e s' hr m0 c0 w0 a0 hg hs Q hQ;simp only[exec]at hr;obtain⟨⟨ls,ss,σ'⟩,h1,h2⟩:=bI hr;obtain⟨u,hc,h3⟩:=bF h2;cases h3;obtain⟨st,t1,t2,t3,t4⟩:=SG h1 hc;refine EP hm he hok t1 hp t4 hC hR hF hg (by rw[t2];exact hs.sim) hs.tmp hs.size hos (fun a w hf=>?_) id;obtain⟨c,f1,f2,f3,f4,f5⟩:=hf;rw[t3]at f1;exact hQ a w c ⟨f1,f3,by rw[f4];exact hs.size,aI hs.base f2.size,by rw[f5];exact hs.marks.stp f2⟩ f2
 |@seq a b x y _ _ ih1 ih2=>
  intro s e s' hr m0 c0 w0 a0 hg hs Q hQ;simp only[exec]at hr;obtain⟨⟨e1,s1⟩,h1,h2⟩:=bI hr;apply wpIn_seq;refine ih1 s e1 s1 h1 m0 c0 w0 a0 hg hs _ fun a1 w1 c1 hs1 hst1=>?_;cases e1 with
  |nrm=>
   exact ih2 s1 e s' h2 m0 c1 w1 a1 (hg.ext hst1.toExt) hs1 Q fun a2 w2 c2 hs2 hst2=>hQ a2 w2 c2 hs2 (hst1.trans hst2)
  |ext id=>
   simp only[aJ,dN]at h2;obtain⟨rfl,rfl⟩:=h2;exact hQ a1 w1 c1 hs1 hst1
  |ret=>
   simp only[aJ,dN]at h2;obtain⟨rfl,rfl⟩:=h2;exact hQ a1 w1 c1 hs1 hst1
 |@left a b x hb _ ih=>
  intro s e s' hr m0 c0 w0 a0 hg hs Q hQ;apply wpIn_seq;refine ih s e s' hr m0 c0 w0 a0 hg hs _ fun a1 w1 c1 hs1 hst1=>?_;have:=hQ a1 w1 c1 hs1 hst1;cases e with
  |nrm=>exact N3 hb this
  |ext id=>exact this
  |ret=>exact this
 |@right a b y ha _ ih=>
  intro s e s' hr m0 c0 w0 a0 hg hs Q hQ;apply wpIn_seq;exact N3 ha (ih s e s' hr m0 c0 w0 a0 hg hs Q hQ)
 |@cond t a b t' x y ht _ _ ih1 ih2=>
  intro s e s' hr m0 c0 w0 a0 hg hs Q hQ;have hc:=Ql (env:=s.env) hs.tmp hg ht;simp only[exec]at hr;split at hr
  ·rename_i he;rw[he]at hc;have hv:a0.eval t=.bool true:=by
    generalize a0.eval t=q at hc;cases hc;rfl
   exact wpIn_cond_true hv (ih1 s e s' hr m0 c0 w0 a0 hg hs Q hQ)
  ·rename_i he;rw[he]at hc;have hv:a0.eval t=.bool false:=by
    generalize a0.eval t=q at hc;cases hc;rfl
   exact wpIn_cond_false hv (ih2 s e s' hr m0 c0 w0 a0 hg hs Q hQ)
  cases hr
 |@blk id a x _ ih=>
  intro s e s' hr m0 c0 w0 a0 hg hs Q hQ;simp only[exec]at hr;obtain⟨⟨e1,s1⟩,h1,h2⟩:=bF hr;apply wpIn_block;refine ih s e1 s1 h1 m0 c0 w0 a0 hg hs _ fun a1 w1 c1 hs1 hst1=>?_;cases e1 with
  |nrm=>
   cases h2;exact hQ a1 w1 c1 hs1 hst1
  |ret=>
   cases h2;exact hQ a1 w1 c1 hs1 hst1
  |ext j=>
   simp only at h2;show if j=id then Q .normal a1 w1 else Q (.exit j) a1 w1
   split at h2
   ·rename_i hj;cases h2;rw[if_pos hj];exact hQ a1 w1 c1 hs1 hst1
   rename_i hj;cases h2;rw[if_neg hj];exact hQ a1 w1 c1 hs1 hst1
 |@loop clr a x _ ih=>exact Pw ih clr n
 |exit=>
  intro s e s' hr m0 c0 w0 a0 hg hs Q hQ;simp only[exec,aJ,dN]at hr;obtain⟨rfl,rfl⟩:=hr;exact wpIn_exit (hQ a0 w0 c0 hs (.refl c0 w0))
 |ret=>
  intro s e s' hr m0 c0 w0 a0 hg hs Q hQ;simp only[exec,aJ,dN]at hr;obtain⟨rfl,rfl⟩:=hr;exact wpIn_ret (hQ a0 w0 c0 hs (.refl c0 w0))
 |@scope a x _ ih=>
  intro s e s' hr m0 c0 w0 a0 hg hs Q hQ;apply Pc;refine ih s e s' hr m0 c0 w0 a0 hg hs _ fun a1 w1 c1 hs1 hst1=>?_;have:=hQ a1 w1 c1 hs1 hst1;cases e<;>exact this
 |@lift code x i off k _ ih=>
  intro s e s' hr m0 c0 w0 a0 hg hs Q hQ;simp only[exec]at hr;obtain⟨σ,h1,h2⟩:=bI hr;obtain⟨c1,l1,l2⟩:=afa hs.sim h1;exact ih ⟨s.env,σ⟩ e s' h2 m0 c1 w0 a0 (hg.ext l2.toExt) ⟨l1,fun t x hx=>(hs.tmp t x hx).ext l2.toExt,hs.size,hs.base,hs.marks.stp l2⟩ Q fun a w c hs1 hst=>hQ a w c hs1 (l2.trans hst)
 |@rng g ps assign body f site n htop' hf hnd hnt hn hsite=>
  intro s e s' hr m0 c0 w0 a0 hg hs Q hQ;simp only[exec]at hr;split at hr
  ·rename_i hlen;obtain⟨⟨v,σ'⟩,h1,h2⟩:=bI hr;refine SH hC hF (htop htop') hf hnd hnt (by rw[hlen,hn]) hsite h1 h2 hg hs Q hQ
  cases hr
end
end Go.AM
namespace Go.AM
variable {M:cZ} {P:Program} {w:World} {c:cX} {σ:ay}
def cX.lent(c:cX)(w:World):cX:={ c with bor:=fun b=>b<w.heap.size,H:=hd [],N:=0,place:=fun _=>none }
theorem ei.lent(hs:ei M w c σ):ei M w (c.lent w) [] where
 H:=rfl
 N:=rfl
 sb:=fun b h=>hs.low b (hs.sb b h)
 low:=fun b h=>h
 plow:=fun id b h=>absurd (by rfl) h
 inj:=fun i j b h=>absurd (by rfl) h
 obj:=fun id o h=>by cases h
theorem wv(hs:ei M w c σ):aai true 0 c (c.lent w) where
 sld:=fun b h=>h
 sb:=fun b h=>hs.low b (hs.sb b h)
 bor:=fun b h=>hs.low b h
 gone:=fun id b _ h1 h2=>(hs.plow id b h1 h2).1
 N:=fun id h=>absurd h (bX _)
 keep:=fun id h=>absurd h (bX _)
theorem aeK(hs:ei M w c σ){v:ap}{cv:Value}(h:R M w c v cv):R M w (c.lent w) (fS σ v) cv:=
 (IX hs (wv hs) iB false v cv h).ext (Ext.ofStill (wv hs).sb true)
theorem OM(hs:ei M w c σ)(hg:iW M w c):iW M w (c.lent w):=fun g a h=>
 (IX hs (wv hs) 1 false _ _ (hg g a h)).ext (Ext.ofStill (wv hs).sb true)
theorem Ha{em:List Tmp}{np nenv nt:Nat}{args:List ap}{cargs:Array Value}(hem:em.take np=List.range np)(hnp:np≤em.length)(hsz:cargs.size=args.length)(hr:∀i (h:i<args.length),∃x,cargs[i]?=some x∧R M w c args[i] x) :
  lr M w c (args.take np++List.replicate (nenv-np) .any) [] (u7 em) (cargs++Array.replicate (nt-cargs.size) undef):=fun t x hx=>by
 unfold u7 at hx;obtain⟨e,he,rfl⟩:=bF hx;show R M w c (mK _ e) _;rw[List.idxOf?,dn]at he;obtain⟨h1,h2,_⟩:=he;by_cases hlt:e<(args.take np).length
 ·have hlt':e<np∧e<args.length:=by rw[bO]at hlt;omega
  have e1:mK (args.take np++List.replicate (nenv-np) .any) e=args[e]'hlt'.2:=by
   unfold mK;rw[bB hlt,am hlt];simp
  have e2:t=e:=by
   have h3:(em.take np)[e]?=some e:=by rw[hem];simp[hlt'.1]
   rw[df,if_pos hlt'.1,am h1]at h3;have h4:em[e]=t:=by simpa using h2
   rw[←h4];exact cB h3
  subst e2;rw[e1];obtain⟨x,x1,x2⟩:=hr t hlt'.2;rw[bJ,dB (by omega),x1];exact x2
 have e1:mK (args.take np++List.replicate (nenv-np) .any) e=.any:=by
  unfold mK;rw[bQ (by omega),List.getElem?_replicate];split<;>rfl
 rw[e1];exact .any
end Go.AM
namespace Go.AM
variable {M:cZ} {P:Program} {w:World} {c:cX}
def HB(P:Program)(em:List Tmp):RI→ResultVar→Bool
 |.env i,.tmp t=>em.idxOf? t==some i
 |.cell a n i,.cell t T=>em.idxOf? t==some i&&rm P T a n
 |_,_=>false
def IZ(tmps:Array Value):ResultVar→Sem Value
 |.tmp t=>pure (tmps.getD t undef)
 |.cell a t=>do loadVar t (←asAddr (tmps.getD a undef))
theorem NQ{T:TypeId}{cp cv:Value}(h:(Instr.loadAt T cp).run P w=.ok cv w):(do loadVar T (←asAddr cp):Sem Value).run P w=.ok cv w:=by
 unfold Instr.loadAt at h;cases cp with
 |pointer a=>
  cases a with
  |some a=>exact h
  |none=>simp[Instr.sureAddr,stuck]at h
 |_=>simp[Instr.sureAddr,stuck]at h
theorem Xx{s:St}{em:List Tmp}{tmps:Array Value}(hs:ei M w c s.st)(ht:lr M w c s.env [] (u7 em) tmps){r:RI}{q:ResultVar}(hok:HB P em r q=true){v:ap}(h:Kc s r=some v) :
  ∃cv,(IZ tmps q).run P w=.ok cv w∧R M w c v cv:=by
 unfold HB at hok;split at hok
 ·rename_i i t;simp only[Kc,aJ]at h;subst h;refine⟨_,rfl,?_⟩;exact ht t (.env i) (by unfold u7;rw[show em.idxOf? t=some i by simpa using hok];rfl)
 ·rename_i a n i t T;simp only[aq,aP]at hok;have hr:=ht t (.env i) (by unfold u7;rw[hok.1];rfl);obtain⟨cv,h1,h2⟩:=XN (P:=P) hs hr hok.2 h;exact⟨cv,NQ h1,h2⟩
 cases hok
theorem Xs{s:St}{em:List Tmp}{tmps:Array Value}(hs:ei M w c s.st)(ht:lr M w c s.env [] (u7 em) tmps):∀{l:List RI} {qs:List ResultVar} {vs:List ap},l.length=qs.length→((l.zip qs).all fun p=>HB P em p.1 p.2)=true→wF s l=some vs →
  ∃cvs:List Value,(qs.mapM (IZ tmps)).run P w=.ok cvs w∧cvs.length=vs.length∧∀i (h:i<vs.length) (h':i<cvs.length),R M w c vs[i] cvs[i]
 |[],[],vs,_,_,h=>by
  simp only[wF,aJ]at h;subst h;exact⟨[],by simp,rfl,fun i h=>absurd h (by simp)⟩
 |[],_::_,_,h,_,_=>by simp at h
 |_::_,[],_,h,_,_=>by simp at h
 |r::l,q::qs,vs,hl,hok,h=>by
  simp only[gz,eL,aq]at hok;simp only[wF]at h;obtain⟨v,h1,h⟩:=bI h;obtain⟨vs',h2,rfl⟩:=bF h;obtain⟨cv,c1,c2⟩:=Xx (P:=P) hs ht hok.1 h1;obtain⟨cvs,d1,d2,d3⟩:=Xs hs ht (by simpa using hl) hok.2 h2;refine⟨cv::cvs,?_,by simp[d2],fun i hi hi'=>?_⟩
  ·rw[List.mapM_cons];simp[c1,d1]
  cases i with
  |zero=>exact c2
  |succ i=>exact d3 i (by simpa using hi) (by simpa using hi')
theorem TN{s:St}{em:List Tmp}{tmps:Array Value}(hs:ei M w c s.st)(ht:lr M w c s.env [] (u7 em) tmps){fn:Func}{l:List RI}(hl:l.length=fn.results.toList.length)(hok:((l.zip fn.results.toList).all fun p=>HB P em p.1 p.2)=true){v:ap}(h:results s l=some v) :
  ∃cv,(Go.results fn tmps).run P w=.ok cv w∧R M w c v cv:=by
 unfold results at h;obtain⟨vs,h1,h2⟩:=bF h;obtain⟨cvs,d1,d2,d3⟩:=Xs (P:=P) hs ht hl hok h1;have hm:(fn.results.mapM (IZ tmps)).run P w=.ok cvs.toArray w:=by
  rw[Array.mapM_eq_mapM_toList];simp[d1]
 have hres:(Go.results fn tmps).run P w=.ok (if h:cvs.toArray.size=1 then cvs.toArray[0] else .tuple cvs.toArray) w:=by
  have e:Go.results fn tmps=(do let vs ←fn.results.mapM (IZ tmps);pure (if h:vs.size=1 then vs[0] else .tuple vs):Sem Value):=by
   unfold Go.results;congr 1
  rw[e];simp only[Sem.run_bind,hm,Result.andThen_ok];rfl
 refine⟨_,hres,?_⟩;cases vs with
 |nil=>
  have:cvs=[]:=bl (by simpa using d2);subst this;subst h2;exact .tup (fun _=>undef) rfl (fun i h=>absurd h (by simp)) (fun i h=>absurd h (by simp))
 |cons x vs=>
  cases vs with
  |nil=>
   subst h2;obtain⟨y,rfl⟩:=lQ.1 (show cvs.length=1 by simpa using d2);exact d3 0 (by simp) (by simp)
  |cons x2 vs=>
   subst h2;have hne:¬(cvs.toArray.size=1):=by simp at d2 ⊢;omega
   rw[dif_neg hne];refine .tup (fun i=>cvs.getD i undef) (by simpa using d2) (fun i hi=>?_) (fun i hi=>?_)
   ·have hi':i<cvs.length:=by omega
    simp[hi']
   have hi':i<cvs.length:=by omega
   have:=d3 i hi hi';simpa [hi'] using this
end Go.AM
namespace Go.AM
variable {M:cZ} {P:Program} {w w':World} {c c1:cX} {σ τ:ay}
def cX.with(c d:cX):cX:={ c with sld:=fun b=>c.sld b∨d.sld b,bor:=fun b=>c.bor b∨d.sld b }
theorem A0(hs:ei M w c σ)(hst:iD (c.lent w) w c1 w')(hs1:ei M w' c1 τ) :
  ∃c2,ei M w' c2 σ∧iD c w c2 w'∧(∀v cv,R M w' c1 v cv→R M w' c2 (lz τ v) cv) ∧
   (∀x (f:Nat→Value),(∀j (hj:j<(cellsOf x).length),R M w' c1 (cellsOf x)[j] (f j))→∀j (hj:j<(cellsOf (lz τ x)).length),R M w' (c2.still false) (cellsOf (lz τ x))[j] (f j)) ∧
   (∀b,c2.bor b→c.bor b∨c1.sld b∨∃id,c1.H id≠.dead∧c1.place id=some b)∧c2.H=c.H∧c2.place=c.place:=by
 have hS:=hs1.sealUp (bP τ.length);have hT:=hst.sealUp hs1 (base:=0) rfl (bP _);generalize hd':c1.sealUp 0 (ja 0 τ)=d at hS hT;have frame:∀b,b<w.heap.size→w'.heap[b]?=w.heap[b]?:=fun b hb=>hT.frame b hb fun id h=>absurd (by rfl) h;have old:∀b,d.sld b→b<w.heap.size→c.sld b:=fun b h hb=>by
  rcases hT.old b h hb with h|⟨i,h,_⟩
  ·exact h
  exact absurd (by rfl) h
 have hext:Ext c w (c.with d) w':=⟨fun b h=>.inl h,fun b h=>.inl h,fun b h=>frame b (hs.low b (h.elim (fun h=>h) (hs.sb b))),aM _,fun _ _=>.inl rfl,fun _ _ _ _=>⟨rfl,rfl,rfl⟩⟩;refine⟨c.with d,⟨hs.H,hs.N,fun b h=>h.imp (hs.sb b) fun h=>h,fun b h=>?_,fun id b h1 h2=>?_,hs.inj,fun id o ho=>?_⟩,{ hext with same:=hT.same,size:=hT.size,frame:=fun b hb _=>frame b hb,liv:=fun id b h1 h2 _=>⟨id,h1,h2⟩,old:=fun b h hb=>h.elim .inl fun h=>.inl (old b h hb),oldb:=fun b h hb=>h.elim .inl fun h=>.inl (hs.sb b (old b h hb)) },fun v cv hv=>?_,fun x f hx j hj=>?_,fun b h=>?_,rfl,rfl⟩
 ·rcases h with h|h
  ·exact bd (hs.low b h) hT.size
  exact hS.low b (hS.sb b h)
 ·obtain⟨p1,p2⟩:=hs.plow id b h1 h2;exact⟨bd p1 hT.size,fun h=>h.elim p2 fun h=>p2 (hs.sb b (old b h p1))⟩
 ·exact (hs.obj id o ho).ext hext (fun _=>⟨rfl,rfl,rfl⟩) fun hnd b hb=>frame b (hs.plow id b (by rw[hs.H];exact fun h=>hnd ((ou ho).1 h)) hb).1
 ·have ht:=oD hs1 (bP τ.length);have:=IX hs1 ht iB false v cv hv;rw[hd']at this;refine this.ext ⟨fun b h=>.inr h,fun b h=>.inr h,fun _ _=>rfl,bP _,fun id h=>absurd h (bX _),fun id h=>absurd h (bX _)⟩
 ·have ht:=oD hs1 (bP τ.length);have:=Fi (fun m _=>IX hs1 ht m) hx j hj;rw[hd']at this;exact this.ext ⟨fun b h=>.inr h,fun b h=>.inr h,fun _ _=>rfl,aM _,fun id h=>absurd h (bX _),fun id h=>absurd h (bX _)⟩
 rcases h with h|h
 ·exact .inl h
 rw[←hd']at h;rcases h with h|⟨id,_,h1,h2⟩
 ·exact .inr (.inl h)
 exact .inr (.inr ⟨id,h1,h2⟩)
end Go.AM
namespace Go.AM
variable {M:cZ} {P:Program} {w w':World} {c c1:cX} {σ τ:ay}
theorem ei.kill(hs:ei M w c σ)(id:Nat):ei M w { c with H:=hd (σ.set id .dead) } (σ.set id .dead)∧Ext c w { c with H:=hd (σ.set id .dead) } w:=by
 have hh:∀i,hd (σ.set id .dead) i=if i=id then .dead else hd σ i:=fun i=>by
  by_cases e:i=id
  ·subst e;rw[if_pos rfl];unfold hd;rw[dc];simp only[cW];split<;>rename_i h<;>split at h<;>simp_all
  rw[if_neg e,iE e]
 have live:∀i,hd (σ.set id .dead) i≠.dead→c.H i≠.dead:=fun i h=>by
  rw[hh]at h;split at h
  ·exact absurd rfl h
  rw[hs.H];exact h
 have hext:Ext c w { c with H:=hd (σ.set id .dead) } w:=⟨fun _ h=>h,fun _ h=>h,fun _ _=>rfl,aM _,fun i hi=>by
  show (c.H i).le (hd (σ.set id .dead) i);rw[hh];split
  ·exact .inr (.inl rfl)
  exact .inl (by rw[hs.H]),fun i hi h hne=>⟨rfl,rfl,rfl⟩⟩
 refine⟨⟨rfl,by rw[gB];exact hs.N,hs.sb,hs.low,fun i b h1 h2=>hs.plow i b (live i h1) h2,fun i j b hi hj=>hs.inj i j b (live i hi) (live j hj),fun i o ho=>?_⟩,hext⟩;by_cases e:i=id
 ·subst e;rw[dc]at ho;simp only[cW]at ho;split at ho
  ·cases ho;trivial
  cases ho
 rw[dG (fun h=>e h.symm)]at ho;exact (hs.obj i o ho).ext hext (fun _=>⟨rfl,rfl,rfl⟩) fun _ _ _=>rfl
theorem iD.kill{c0:cX}{w0:World}(h:iD c0 w0 c w)(hs:ei M w c σ)(id:Nat):iD c0 w0 { c with H:=hd (σ.set id .dead) } w:=
 { Ext.trans h.toExt (hs.kill id).2 with
  same:=h.same
  size:=h.size
  frame:=h.frame
  old:=h.old
  oldb:=h.oldb
  liv:=fun i b h1 h2 hb=>by
   refine h.liv i b ?_ h2 hb;intro hd0;have h1':hd (σ.set id .dead) i≠.dead:=h1;by_cases e:i=id
   ·subst e;apply h1';unfold hd;rw[dc];simp only[cW];split<;>rename_i h<;>split at h<;>simp_all
   rw[iE e,←hs.H]at h1';exact h1' hd0 }
theorem ET(hs:ei M w c σ)(hst:iD (c.lent w) w c1 w')(hs1:ei M w' c1 τ){k:Nat}(hk:k≠0){x:ap}{cx:Value}(hx:R M w' c1 x cx) :
  ∃c2,ei M w' c2 σ∧iD c w c2 w'∧(kB k τ x=.any∨∃xs,kB k τ x=.frs k xs∧afD M w.heap.size w' c2 k xs cx)∧∀v cv,R M w' c1 v cv→R M w' c2 (lz (ym τ x) v) cv:=by
 by_cases hsl:∃id ep off len,x=.sl id ep off len
 ·obtain⟨id,ep,off,len,rfl⟩:=hsl;obtain⟨hk1,hk2⟩:=hs1.kill id;have hstk:=hst.kill hs1 id;obtain⟨c2,b1,b2,b3,b4,b5,b6,b7⟩:=A0 hs hstk hk1;refine⟨c2,b1,b2,?_,fun v cv hv=>b3 v cv (hv.ext hk2)⟩;unfold kB;dsimp only;split
  ·rename_i k' e es ho;split
   ·rename_i hc;obtain⟨rfl,rfl,rfl,hlen⟩:=hc;unfold Hf;split
    ·rename_i hm;refine .inr ⟨_,rfl,hk,fun y hy=>?_,?_⟩
     ·obtain⟨m1,m2⟩:=xR hm;obtain⟨i,hi,rfl⟩:=dm.1 hy;rw[m2 i hi (by omega)];exact (hs1.obj id _ ho).2.1 _ (bv (aF _))
     have hlen':((es.take len).map (lz (τ.set id .dead))).length=len:=by simp;omega
     have hH:c1.H id=.arr k' e:=by rw[hs1.H,eI ho]
     cases hx with
     |@sl _ _ _ _ _ cap k2 blk h1 h2 h3 h4 h5=>
      rw[hH]at h2;cases h2;obtain⟨o1,o2,o3,o4⟩:=hs1.obj id _ ho;obtain⟨cs,T,f,q1,q2,q3,q4,q5⟩:=o4 blk h3;have hnew:w.heap.size≤blk:=Nat.le_of_not_lt fun hlt=>by
       obtain⟨i,i1,_⟩:=hst.liv id blk (by rw[hH];simp) h3 hlt;exact i1 rfl
      refine .inr ⟨blk,cap,cs,T,f,by rw[hlen'];simp,hnew,q1,fun hb=>?_,fun i hi hp=>?_,by rw[hlen'];exact h4,by simpa [q3] using h5,fun i j hi hj=>q4 i j (by omega) hj,fun i hi j hj=>?_⟩
      ·rcases b5 blk hb with hb|hb|⟨i,i1,i2⟩
       ·exact absurd (hs.low _ hb) (by omega)
       ·exact (hs1.plow id blk (by rw[hH];simp) h3).2 (hs1.sb _ hb)
       have i1':hd (τ.set id .dead) i≠.dead:=i1;have hne:i≠id:=fun e=>by
        subst e;apply i1';rw[eI (o:=.dead) (by rw[dc];simp[(al.1 ho).1])]
       rw[iE hne,←hs1.H]at i1';exact hne (hs1.inj i id blk i1' (by rw[hH];simp) i2 h3)
      ·rw[b6]at hi;rw[b7]at hp;exact absurd (hs.plow i blk hi hp).1 (by omega)
      simp only[db,dW]at hj ⊢;exact b4 _ (f i) (fun j hj=>(q5 i (by omega) j hj).ext hk2) j hj
     |@sl0 _ _ _ _ _ a=>exact .inl ⟨by simp,a,rfl⟩
     |slOld h0 h1 h2=>exact absurd (h2 _ _ hH) (dr _)
    exact .inl rfl
   exact .inl rfl
  exact .inl rfl
 obtain⟨c2,b1,b2,b3,b4,b5,b6,b7⟩:=A0 hs hst hs1;refine⟨c2,b1,b2,?_,fun v cv hv=>?_⟩
 ·unfold kB;split
  ·cases hx with|@aj _ a=>exact .inr ⟨[],rfl,hk,by simp,.inl ⟨rfl,a,rfl⟩⟩
  ·exact absurd ⟨_,_,_,_,rfl⟩ hsl
  exact .inl rfl
 have:ym τ x=τ:=by
  unfold ym;split
  ·exact absurd ⟨_,_,_,_,rfl⟩ hsl
  rfl
 rw[this];exact b3 v cv hv
end Go.AM
namespace Go.AM
variable {M:cZ} {P:Program} {w w':World} {c c1:cX} {σ τ:ay}
def Af.lends:Af→Bool
 |.pure|.fresh _=>true
 |_=>false
def Af.ok:Af→Bool
 |.fresh k=>k != 0
 |_=>true
theorem Nd(hs:ei M w c σ)(hst:iD (c.lent w) w c1 w'){s:St}(hs1:ei M w' c1 s.st){m:Af}(hm:m.lends=true)(hk:m.ok=true){v:ap}{cv:Value}(hv:R M w' c1 v cv) :
  fU M c w (iq m σ s v).2 (iq m σ s v).1 cv w':=by
 cases m with
 |pure=>
  obtain⟨c2,b1,b2,b3,_⟩:=A0 hs hst hs1;exact⟨c2,b1,b2,.r (b3 v cv hv)⟩
 |fresh k=>
  have hk':k≠0:=by simpa [Af.ok] using hk
  by_cases ht:∃x vs,v=.tup (x::vs)
  ·obtain⟨x,vs,rfl⟩:=ht;show fU M c w σ (.tup (kB k s.st x::vs.map (lz (ym s.st x)))) cv w';cases hv with
   |@tup _ _ cvs f h1 h2 h3=>
    have hx0:R M w' c1 x (f 0):=h3 0 (by simp);obtain⟨c2,b1,b2,b3,b4⟩:=ET hs hst hs1 hk' hx0;refine⟨c2,b1,b2,?_⟩;have hrest:∀i (hi:i<(vs.map (lz (ym s.st x))).length),R M w' c2 (vs.map (lz (ym s.st x)))[i] (f (i+1)):=fun i hi=>by
     rw[db];exact b4 _ _ (h3 (i+1) (by simpa using hi))
    have h0:=h2 0 (by simp);rcases b3 with b3|⟨xs,b3,b5⟩
    ·rw[b3];refine .r (.tup f (by simpa using h1) (fun i hi=>h2 i (by simpa using hi)) fun i hi=>?_);cases i with
     |zero=>exact .any
     |succ i=>exact hrest i (by simpa using hi)
    rw[b3];exact .tup (fun i=>f (i+1)) b5 (by simpa using h1) h0 (fun i hi=>h2 (i+1) (by simpa using hi)) hrest
  have e:iq (.fresh k) σ s v=(kB k s.st v,σ):=by
   unfold iq;dsimp only;split
   ·exact absurd ⟨_,_,rfl⟩ ht
   rfl
  rw[e];obtain⟨c2,b1,b2,b3,_⟩:=ET hs hst hs1 hk' hv;refine⟨c2,b1,b2,?_⟩;rcases b3 with b3|⟨xs,b3,b5⟩
  ·rw[b3];exact .r .any
  rw[b3];exact .frs b5
 |keep=>cases hm
 |trunc=>cases hm
theorem Ol(hs:ei M w c σ)(hst:iD c w c1 w'){s:St}(hs1:ei M w' c1 s.st){m:Af}(hm:m.lends=false){v:ap}{cv:Value}(hv:R M w' c1 v cv) :
  fU M c w (iq m σ s v).2 (iq m σ s v).1 cv w':=by
 cases m with
 |pure=>cases hm
 |fresh k=>cases hm
 |keep=>exact⟨c1,hs1,hst,.r hv⟩
 |trunc=>
  unfold iq;dsimp only;split
  ·exact⟨c1,hs1,hst,.r hv⟩
  have hb:σ.length≤s.st.length:=by rw[←hs.N,←hs1.N];exact hst.N
  exact⟨_,hs1.sealUp hb,hst.sealUp hs1 hs.N hb,.r (IX hs1 (oD hs1 hb) iB true _ _ hv)⟩
def Zn(M:cZ)(P:Program)(co:Nat→Bool)(f:Nat)(g:aS):Prop:=
 ∃ fn code em,P.funcs[M.fm f]?=some fn∧(fn.name == "runtime.NumGoroutine")=false∧fn.body=some code∧fK M P co em fn.ntmps true code g.body∧em.take g.np=List.range g.np∧g.np≤em.length ∧
  g.res.length=fn.results.toList.length∧((g.res.zip fn.results.toList).all fun p=>HB P em p.1 p.2)=true∧g.mode.ok=true
theorem lm{fn:Func}{f:FuncId}{code:Go.Code}{args:Array Value}(h1:P.funcs[f]?=some fn)(h2:(fn.name == "runtime.NumGoroutine")=false)(h3:fn.body=some code):(callFunc f args).run P w=.ok (.enter f args) w:=by
 unfold callFunc;have h2':¬fn.name = "runtime.NumGoroutine":=by simpa using h2
 simp[h1,h2',h3]
theorem iX.take{args:List ap}{cargs:Array Value}(h:iX M w c args cargs)(hs:ei M w c σ):iX M w (c.lent w) (args.map (fS σ)) cargs:=
 ⟨by rw[h.1];simp,fun i hi=>by
  obtain⟨x,h1,h2⟩:=h.2 i (by simpa using hi);exact⟨x,h1,by rw[db];exact aeK hs h2⟩⟩
theorem RL{co:Nat→Bool}{C:gn}{k:Nat}(hm:P.follows .mixedOrders=true)(hp:sL co C)(hC:jP M P C)(hR:jE M P C){f:Nat}{g:aS}(hok:Zn M P co f g){args:List ap}{v:ap}{σ':ay}
  (hr:(exec C k g.body (enter g args σ)).bind (kF g σ)=some (v,σ')) {F:Fence} {n:Nat} {cargs:Array Value} (hF:rk F) (hs:ei M w c σ) (hg:iW M w c) (ha:iX M w c args cargs) :
  oo F n P (M.fm f) cargs w (fU M c w σ' v):=by
 obtain⟨fn,code,em,h1,h2,h3,h4,h5,h6,h7,h8,h9⟩:=hok;obtain⟨⟨e,s'⟩,r1,r2⟩:=bI hr;refine .inl ⟨lm h1 h2 h3,?_⟩
 have key:∀F:Fence,rk F→F.round=none→CallsIn F n P (M.fm f) cargs w fun e w'=>∃cv,e=.returned cv∧fU M c w σ' v cv w':=fun F hF hro=>by
  refine callsIn_of_wp_marks h1 h3 (hF.fn _) ?_ hro;unfold kF at r2;have hres:∃v0,results s' g.res=some v0∧iq g.mode σ s' v0=(v,σ')∧(e=.nrm∨e=.ret):=by
   cases e with
   |ext id=>cases r2
   |nrm=>obtain⟨v0,q1,q2⟩:=bF r2;exact⟨v0,q1,q2,.inl rfl⟩
   |ret=>obtain⟨v0,q1,q2⟩:=bF r2;exact⟨v0,q1,q2,.inr rfl⟩
  obtain⟨v0,q1,q2,q3⟩:=hres;have post:∀c0,((c0=c.lent w∧g.mode.lends=true)∨(c0=c∧g.mode.lends=false))→∀a w' c1,SR M em fn.ntmps w.heap.size c1 w' s' a→iD c0 w c1 w'→bodyPostM F n P fn (fun e w'=>∃cv,e=.returned cv∧fU M c w σ' v cv w') (Nz e) a w':=fun c0 hc0 a w' c1 hs1 hst=>by
   have hb:LeavesInM F n P fn a.tmps (fun e w'=>∃cv,e=.returned cv∧fU M c w σ' v cv w') a.defers .returning w':=by
    refine yC _ _ hs1.sim hst hs1.marks fun w' hs1' he1 hst=>?_;obtain⟨cv,x1,x2⟩:=TN (P:=P) hs1' (fun t x hx=>(hs1.tmp t x hx).ext he1) h7 h8 q1;refine⟨cv,x1,cv,rfl,?_⟩;have e1:σ'=(iq g.mode σ s' v0).2:=by rw[q2]
    have e2:v=(iq g.mode σ s' v0).1:=by rw[q2]
    rw[e1,e2];rcases hc0 with⟨rfl,hl⟩|⟨rfl,hl⟩
    ·exact Nd hs hst hs1' hl h9 x2
    exact Ol hs hst hs1' hl x2
   rcases q3 with rfl|rfl
   ·exact hb
   exact hb
  have hsize:fn.ntmps≤(cargs++Array.replicate (fn.ntmps-cargs.size) undef).size:=by simp;omega
  by_cases hl:g.mode.lends=true
  ·have hent:enter g args σ=⟨(args.map (fS σ)).take g.np++List.replicate (g.nenv-g.np) .any,[]⟩:=by
    unfold enter;cases hmo:g.mode<;>rw[hmo]at hl<;>first|(cases hl;done)|simp[d6]
   rw[hent]at r1;have ha':=ha.take hs;refine ud hm hp hC hR hF (fun _=>hro) h4 _ e s' r1 w.heap.size (c.lent w) w _ (OM hs hg) ⟨hs.lent,Ha h5 h6 ha'.1 ha'.2,hsize,aM _,show nR _ _ _ [] from trivial⟩ _ fun a w' c1 hs1 hst=>post _ (.inl ⟨rfl,hl⟩) a w' c1 hs1 hst
  have hl':g.mode.lends=false:=by simpa using hl
  have hent:enter g args σ=⟨args.take g.np++List.replicate (g.nenv-g.np) .any,σ⟩:=by
   unfold enter;cases hmo:g.mode<;>rw[hmo]at hl'<;>first|(cases hl';done)|rfl
  rw[hent]at r1;refine ud hm hp hC hR hF (fun _=>hro) h4 _ e s' r1 w.heap.size c w _ hg ⟨hs,Ha h5 h6 ha.1 ha.2,hsize,aM _,show nR _ _ _ [] from trivial⟩ _ fun a w' c1 hs1 hst=>post _ (.inr ⟨rfl,hl'⟩) a w' c1 hs1 hst
 have hwide:rk { F with round:=none }:=⟨hF.fn,hF.depth,hF.alive⟩;exact key { F with round:=none } hwide rfl
end Go.AM
