/- Part of the proof. -/
import Derived.Test.YtegkopkbogoajaaGreatDoorAm01
import Derived.RangeFuncLeaves
import Derived.RangeFuncRecord
import Derived.Scope
import Derived.Shelf.SlSortCmp.Kit1
import Derived.Shelf.Sort.Plain
import Derived.Laws.Externs
import Derived.Lib.Bytealg
set_option linter.unusedVariables false
set_option linter.unusedSimpArgs false
namespace Go.AM
variable {M:bw} {P:Program}
variable {bh:Nat→Bool} {ops:Array Oper} {ins:List aU} {em:List Tmp} {its:EI} {bef:Nat→Nat} {chk:List (Nat×Nat)} {late:Option Nat} {nt:Nat} {env ls:List aa} {s:Nat→ah} {C:ec} {w0:World} {c0:bv} {a0:Act}
def uM(em:List Tmp)(t:Tmp):Option bp:=(em.idxOf? t).map .env
def oC(e:Nat):List (Nat×bp)→Option bp
 |[]=>none
 |(k,x)::r=>if k=e then some x else oC e r
def t8(ops:List Oper)(em:List Tmp)(its:EI)(os:List (Nat×bp)):Bool:=
 (os.map (·.1)).Nodup&&em.zipIdx.all fun te=>match TU ops te.1 with
  |none=>(oC te.2 os).isNone
  |some k=>(match oC te.2 os with
   |some x=>DL (nZ its k) x
   |none=>false)
theorem zJ{env:List aa}{k e:Nat}{v:aa}(h:k≠e):kr (env.set k v) e=kr env e:=by
 unfold kr;rw[atz h]
theorem MQ{old ls:List aa}{e:Nat}:∀{os:List (Nat×bp)} {env:List aa},oC e os=none→kr (nQ env old ls os) e=kr env e
 |[],_,_=>rfl
 |(k,x)::r,env,h=>by
  simp only[oC]at h;split at h
  ·cases h
  rename_i hk;simp only[nQ];rw[MQ h,zJ hk]
theorem WI{old ls:List aa}{e:Nat}{x:bp}:∀{os:List (Nat×bp)} {env:List aa},(os.map (·.1)).Nodup→oC e os=some x→kr (nQ env old ls os) e=x.eval old ls∨kr (nQ env old ls os) e=.any
 |[],_,_,h=>by cases h
 |(k,y)::r,env,hn,h=>by
  simp only[oC]at h;simp only[af6,List.nodup_cons]at hn;simp only[nQ];split at h
  ·rename_i hk;subst hk;cases h;have:oC k r=none:=by
    have hni:=hn.1;clear hn;induction r with
    |nil=>rfl
    |cons q r ih=>
     simp only[af6,arm,not_or]at hni;unfold oC;rw[if_neg (fun e=>hni.1 e.symm)];exact ih hni.2
   rw[MQ this];unfold kr;rw[atk];split
   ·split
    ·exact .inl rfl
    exact .inr rfl
   exact absurd rfl (by assumption)
  exact WI hn.2 h
def ZZ(M:bw)(em:List Tmp)(env ls:List aa)(os:List (Nat×bp))(c0:bv)(w0:World)(a0:Act)(σ':ah)(a:Act)(w:World):Prop:=
 ∃c,cO M w c σ'∧fK c0 w0 c w∧iL M w c (nQ env env ls os) [] (uM em) a.tmps∧a.tmps.size=a0.tmps.size∧a.defers=a0.defers
theorem KD(hok:uu M P bh ops ins em its bef chk late nt)(hT:yr C env ins ls s)(hp:sP bh C)(hchk:∀(n j:Nat) (I:aU),(n,j)∈chk→ins[n]?=some I→aN C env (ls.take n) (s j) I.op=some (kr ls n,s j))
  (ht0:iL M w0 c0 env [] (uM em) a0.tmps) {os:List (Nat×bp)} (hos:t8 ops.toList em its os=true) {S:Nat→Prop} (hS:∀i,i<ops.size→S i) {a:Act} {w:World}
  (hinv:qZ M bh ops ins its bef chk env ls s c0 w0 a0 none S a w):ZZ M em env ls os c0 w0 a0 (s ins.length) a w:=by
 obtain⟨cl,lt,c,p,hs,hst,hcut,hv,hun,hts,hdf,_⟩:=hinv;have hpl:p≤ins.length:=by
  rcases hcut.1 with rfl|⟨k,n,_,hk,_,rfl⟩
  ·exact amn _
  exact hok.bound k n hk
 have hsp:s p=s ins.length:=Ao hT hp hchk hok.guards hok.onto hpl (aes _) fun k m hk hm=>by
  have hkl:k<ops.size:=by
   rw[←hok.size];unfold cR at hk;obtain⟨x,hx,_⟩:=aS hk;exact (aaN.1 hx).1
  exact⟨fun _=>hok.bound k m hk,fun _=>(hcut.2 k m hk hm).1 (hS k hkl)⟩
 refine⟨c,hsp▸hs,hst,fun t x hx=>?_,hts,hdf⟩;unfold uM at hx;obtain⟨e,he,rfl⟩:=aQ hx;unfold t8 at hos;simp only[acz,ad7,afz]at hos;obtain⟨hnd,hall⟩:=hos;have hm:(t,e)∈em.zipIdx:=by
  rw[List.idxOf?,atm]at he;obtain⟨h1,h2,_⟩:=he;rw[auz];rw[ad3 h1];simpa using h2
 have:=hall _ hm;simp only at this;show R M w c (kr (nQ env env ls os) e) _;cases hw:TU ops.toList t with
 |none=>
  rw[hw]at this;rw[MQ (by simpa using this),hun t (fun i o _ ho=>KP hw ho) (fun _ _ e=>by cases e)];exact (ht0 t (.env e) (by unfold uM;rw[he];rfl)).ext hst.toExt
 |some k=>
  rw[hw]at this;simp only at this;split at this
  ·rename_i x hx';obtain⟨ok,hk,hkd⟩:=Ko hw;have hr:=hv k ok t (hS k (ak4.1 hk).1) hk hkd;rw[sR this]at hr;rcases WI (old:=env) (ls:=ls) (env:=env) hnd hx' with h|h
   ·rw[h];exact hr
   rw[h];exact .any
  cases this
theorem KN{w:World}(hs:cO M w c0 (s 0))(hst:fK c0 w0 c0 w){S:Nat→Prop}(hS:∀i,¬S i):qZ M bh ops ins its bef chk env ls s c0 w0 a0 none S a0 w:=
 ⟨fun i k h=>absurd h (hS i),fun i h=>absurd h (hS i),c0,0,hs,hst,⟨.inl rfl,fun k n _ _=>⟨fun h=>absurd h (hS k),fun h=>absurd h (art _)⟩⟩,fun i o d h=>absurd h (hS i),fun t _ _=>rfl,rfl,rfl,fun _ _ _ e=>by cases e⟩
theorem qZ.congr{x:Option (Tmp×Nat×Go.Obj)}{S S':Nat→Prop}(h:∀i,S i↔S' i){a:Act}{w:World}(hi:qZ M bh ops ins its bef chk env ls s c0 w0 a0 x S a w):qZ M bh ops ins its bef chk env ls s c0 w0 a0 x S' a w:=by
 have:S=S':=funext fun i=>propext (h i);rw[←this];exact hi
section
variable {F:Fence} {n0:Nat} {Q:Exit→Act→World→Prop} {os:List (Nat×bp)}
theorem QF(hok:uu M P bh ops ins em its (fun i=>2^i-1) chk none nt)(hT:yr C env ins ls s)(hp:sP bh C)(hchk:∀(n j:Nat) (I:aU),(n,j)∈chk→ins[n]?=some I→aN C env (ls.take n) (s j) I.op=some (kr ls n,s j))
  (hC:gK M P C) (hR:gw M P C) (hF:pZ F) (hg:fT M w0 c0) (hs:cO M w0 c0 (s 0)) (ht0:iL M w0 c0 env [] (uM em) a0.tmps) (hsz:nt≤a0.tmps.size) (hos:t8 ops.toList em its os=true)
  (hQ:∀a w,ZZ M em env ls os c0 w0 a0 (s ins.length) a w→Q .normal a w) (id:Nat):(Code.region id ops false).wpIn F n0 P Q a0 w0:=by
 apply wpIn_region;have key:∀(m i:Nat) (a:Act) (w:World),i+m=ops.size→qZ M bh ops ins its (fun i=>2^i-1) chk env ls s c0 w0 a0 none (fun j=>j<i) a w→wpOpsIn F n0 P ops Q (List.range' i m) a w:=by
  intro m;induction m with
  |zero=>
   intro i a w hi hinv;exact hQ a w (KD hok hT hp hchk ht0 hos (fun j hj=>by omega) hinv)
  |succ m ih=>
   intro i a w hi hinv;rw[avR,wpOpsIn_cons];have hio:i<ops.size:=by omega
   refine wpOpIn_mono (fun a' w' h=>ih (i+1) a' w' (by omega) h) ?_
   have:=Lf (Q:=Q) (n0:=n0) hok hT hp hchk hC hR hF hg ht0 hsz (i:=i) (o:=ops[i]) (by simp[hio]) (x:=none) (fun _ _ _ e=>by cases e) (S:=fun j=>j<i) (ato i) (fun n hn hw k m hlt hk hm=>hlt) (fun k hk=>by
    rw[atQ]at hk;simpa using hk) hinv
   exact wpOpIn_mono (fun a' w' h=>h.congr fun j=>by omega) this
 rw[avY];exact key ops.size 0 a0 w0 (by omega) (KN hs (.refl c0 w0) fun i=>art i)
structure Wl (ops:Array Oper) (bef:Nat→Nat):Prop where
 low:∀(i:Nat) (o:Oper),ops[i]?=some o→∀e∈o.after,Region.binds .any e=true→e.on<i
 clos:∀(i:Nat) (o:Oper),ops[i]?=some o→∀k,(bef i).testBit k=true→∃e∈o.after,Region.binds .any e=true∧(k=e.on∨(bef e.on).testBit k=true)
theorem BX{listed:Array Bool}{i:Nat}:i∈Region.ready .any ops listed↔i<ops.size∧listed.getD i true=false∧∃o,ops[i]?=some o∧∀e∈o.after,Region.binds .any e=true→listed.getD e.on false=true:=by
 unfold Region.ready;simp only[atX,aut,acz,as9];constructor
 ·rintro⟨h1,h2,h3⟩;refine⟨h1,h2,ops[i],by simp[h1],fun e he hb=>?_⟩;rw[atl h1]at h3;simp only[atH,ary,auX]at h3;have:=h3 e he;simpa [hb] using this
 rintro⟨h1,h2,o,ho,h3⟩;refine⟨h1,h2,?_⟩;rw[ho];simp only[atH,ary,auX];intro e he;cases hb:Region.binds .any e with
 |false=>rfl
 |true=>simpa using h3 e he hb
theorem YN(hok:uu M P bh ops ins em its bef chk late nt)(hT:yr C env ins ls s)(hp:sP bh C)(hchk:∀(n j:Nat) (I:aU),(n,j)∈chk→ins[n]?=some I→aN C env (ls.take n) (s j) I.op=some (kr ls n,s j))
  {d:Nat} {o:Oper} {t:Tmp} {n kk b:Nat} {z:aa} {v0:Value} {T:TypeId} (hd:ops[d]?=some o) (hdt:o.dst=some t) (hn:cR its d=some n) (hI:ins[n]?=some ⟨.box kk (.val z),none⟩) (hnw:gA bh ins chk n=true) (hval:nZ its d=.loc n)
  (hk0:kk≠0) (hz:kh M.fm 8 v0 z=true) (hbd:bef d=0) {S:Nat→Prop} (hS:¬S d) (hall:∀k m,cR its k=some m→gA bh ins chk m=true→m<n→S k) {a:Act} {w:World}
  (hinv:qZ M bh ops ins its bef chk env ls s c0 w0 a0 (some (t,b,.cells v0.cells T (0,0))) S a w):qZ M bh ops ins its bef chk env ls s c0 w0 a0 none (fun j=>S j∨j=d) a w:=by
 obtain⟨cl,lt,c,p,hs,hst,hcut,hv,hun,hts,hdf,hhid⟩:=hinv;obtain⟨y1,y2,y3,y4,y5⟩:=hhid t b _ rfl;have hnl:n<ins.length:=(aaN.1 hI).1;have hnl':n<ls.length:=by rw[hT.len];exact hnl
 have hpl:p≤ins.length:=by
  rcases hcut.1 with rfl|⟨k,n,_,hk,_,rfl⟩
  ·exact amn _
  exact hok.bound k n hk
 have hnp:¬n<p:=fun h=>hS ((hcut.2 d n hn hnw).2 h);have hiff:∀k m,cR its k=some m→gA bh ins chk m=true→(m<p↔m<n):=fun k m hk hm=>by
  refine⟨fun h=>by omega,fun h=>(hcut.2 k m hk hm).1 (hall k m hk hm h)⟩
 have hsp:s p=s n:=Ao hT hp hchk hok.guards hok.onto hpl (by omega) hiff;have hstep:aN C env (ls.take n) (s n) (.box kk (.val z))=some (ls[n],s (n+1)):=by
  have hIe:=(aaN.1 hI).2;rcases hT.step n hnl hnl' with⟨_,h2⟩|⟨h1,_,_⟩
  ·rw[hIe]at h2;exact h2
  rw[hIe]at h1;cases h1
 have hstep':(if aw z=kk then some (aa.ptr (s n).length 0 0 0,s n++[.arr kk 0 [z]]) else none)=some (ls[n],s (n+1)):=hstep;split at hstep'
 ·rename_i hzk;simp only[afV,atP]at hstep';obtain⟨e1,e2⟩:=hstep';rw[hsp]at hs;obtain⟨g,hg,hgs,hgc⟩:=oo (rt (M:=M) (w:=w) (c:=c) hz) (by omega)
  obtain⟨c',a1,a2,a3,a4,a5,a6,a7⟩:=hs.adopt hst (k:=kk) (xs:=[z]) (f:=fun _ j=>g j) y2 y3 y4 y5 hk0 (by simp[hzk]) (by simp;omega)
   (fun i j hi hj=>by
    have:i=0:=by simp at hi;omega
    subst this;rw[avv,apx];exact⟨hgc j (by omega),hg.one j (by omega)⟩)
   (fun i hi j hj=>by
    have:i=0:=by simp at hi;omega
    subst this;exact hg.rel j hj)
  refine⟨fun i k hi hk=>?_,fun i hi=>?_,c',n+1,by rw[←e2];exact a5,a6,⟨.inr ⟨d,n,.inr rfl,hn,hnw,rfl⟩,fun k m hk hm=>?_⟩,fun i oi di hi hoi hdi=>?_,fun t' ht' _=>?_,hts,hdf,fun _ _ _ e=>by cases e⟩
  ·rcases hi with hi|rfl
   ·exact .inl (cl i k hi hk)
   rw[hbd]at hk;simp at hk
  ·rcases hi with hi|rfl
   ·exact lt i hi
   exact (ak4.1 hd).1
  ·constructor
   ·rintro (h|rfl)
    ·have:=(hcut.2 k m hk hm).1 h;have:=(hiff k m hk hm).1 this;omega
    rw[hn]at hk;cases hk;omega
   intro h;by_cases e:m=n
   ·subst e;right;rcases aue k d with h|h|h
    ·have:=hok.mono _ _ _ _ hk hn h;omega
    ·exact h
    have:=hok.mono _ _ _ _ hn hk h;omega
   exact .inl (hall k m hk hm (by omega))
  ·by_cases e:i=d
   ·subst e;rw[hd]at hoi;cases hoi;rw[hdt]at hdi;cases hdi;rw[y1,hval];have e3:(bp.loc n).eval env ls=.ptr (s n).length 0 0 0:=by
     show kr ls n=_;rw[MY hnl',←e1]
    rw[e3];have:=R.ptr (M:=M) (w:=w) (c:=c') (id:=(s n).length) (ep:=0) (i:=0) (off:=0) (by omega) a2 a3;simpa using this
   exact (hv i oi di (hi.resolve_right e) hoi hdi).ext a7
  refine hun t' (fun i oi hi=>ht' i oi (.inl hi)) fun b' ob' e=>?_;cases e;exact ht' d o (.inr rfl) hd hdt
 cases hstep'
def GX(M:bw)(P:Program)(bh:Nat→Bool)(ops:Array Oper)(ins:List aU)(its:EI)(bef:Nat→Nat)(chk:List (Nat×Nat))(late:Option Nat)(env ls:List aa)(s:Nat→ah)(c0:bv)(w0:World)(a0:Act)(S:Nat→Prop)(a:Act)(w:World):Prop:=
 qZ M bh ops ins its bef chk env ls s c0 w0 a0 none S a w ∨
 ∃d o t n kk b z v0 T,late=some d∧ops[d]?=some o∧o.dst=some t∧cR its d=some n∧ins[n]?=some ⟨.box kk (.val z),none⟩∧nZ its d=.loc n∧kk≠0∧kh M.fm 8 v0 z=true∧S d ∧
  (∃k m,cR its k=some m∧gA bh ins chk m=true∧m<n∧¬S k)∧qZ M bh ops ins its bef chk env ls s c0 w0 a0 (some (t,b,.cells v0.cells T (0,0))) (fun j=>S j∧j≠d) a w
theorem Z7(hok:uu M P bh ops ins em its bef chk late nt)(hT:yr C env ins ls s)(hp:sP bh C)(hchk:∀(n j:Nat) (I:aU),(n,j)∈chk→ins[n]?=some I→aN C env (ls.take n) (s j) I.op=some (kr ls n,s j))
  (hC:gK M P C) (hR:gw M P C) (hF:pZ F) (hg:fT M w0 c0) (ht0:iL M w0 c0 env [] (uM em) a0.tmps) (hsz:nt≤a0.tmps.size)
  {i:Nat} {o:Oper} (ho:ops[i]?=some o) {S:Nat→Prop} (hi:¬S i) (hb:∀k,(bef i).testBit k=true→S k) {a:Act} {w:World}
  (hinv:GX M P bh ops ins its bef chk late env ls s c0 w0 a0 S a w):wpOpIn F n0 P ops Q i (GX M P bh ops ins its bef chk late env ls s c0 w0 a0 fun j=>S j∨j=i) a w:=by
 have hio:i<ops.size:=(ak4.1 ho).1
 have ord:late≠some i→∀n,cR its i=some n→gA bh ins chk n=true→∀k m,k<i→cR its k=some m→gA bh ins chk m=true→(bef i).testBit k=true:=fun hl n hn hw k m hk hkm hm=>by
  rcases hok.item i o ho with⟨h1,_⟩|⟨m',I,h1,h2,h3,h4,h5,h6,h7⟩
  ·rw[h1]at hn;cases hn
  rw[h1]at hn;cases hn;exact h6 hw hl k m hk hkm hm
 rcases hinv with hinv|⟨d,od,t,n,kk,b,z,v0,T,hl,hd,hdt,hn,hI,hval,hk0,hz,hSd,⟨k0,m0,hk0',hm0,hlt0,hnS0⟩,hinv⟩
 ·by_cases hA:late=some i∧∃n k m,cR its i=some n∧cR its k=some m∧gA bh ins chk m=true∧m<n∧¬S k
  ·
   obtain⟨hl,n',k',m',hn',hk',hm',hlt',hnS'⟩:=hA;obtain⟨hbd,o',T,t,n,kk,z,l1,l2,l3,l4,l5,l6,l7,l8,l9⟩:=hok.lateOk i hl;rw[ho]at l1;cases l1;rw[l5]at hn';cases hn';have hitem:=hok.item i o ho;rcases hitem with⟨h1,_⟩|⟨m,I,h1,h2,h3,h4,_⟩
   ·rw[h1]at l5;cases l5
   rw[h1]at l5;cases l5;rw[l6]at h2;cases h2;rw[l2]at h4;simp only[Ge,acz]at h4;obtain⟨z1,z2⟩:=h4;obtain⟨z3,z4⟩:=iy z1;obtain⟨ii,v0,i1,i2,i3,i4⟩:=pG z2;unfold wpOpIn;rw[ho];simp only;have hw:Region.wanted o (yielded ops a.tmps)=true:=by unfold Region.wanted;rw[l3]
   rw[if_pos hw];refine⟨fun f _=>hF.fn f,?_⟩;have hex:(execOp a.eval o).run P w=.ok (.value (.pointer (some ⟨w.heap.size,0,none⟩))) (iH w (.cells v0.cells T (0,0))):=by
    unfold execOp;rw[l2];simp[Instr.alloc,i3,newVar,newRow];rfl
   rw[Oper.semAt_eq _ _ _ (fun q e=>by rw[e]at l2;cases l2),hex];obtain⟨cl,lt,c,p,hs,hst,hcut,hv,hun,hts,hdf,_⟩:=hinv;obtain⟨s1,x1⟩:=hs.over (w':=iH w (.cells v0.cells T (0,0))) (fun b hb _=>eT hb) (by rw[dq];omega);have st1:fK c w c (iH w (.cells v0.cells T (0,0))):={ x1 with same:=lV,size:=by rw[dq];omega,frame:=fun b hb _=>eT hb,liv:=fun i b h1 h2 _=>⟨i,h1,h2⟩,old:=fun _ h _=>.inl h,oldb:=fun _ h _=>.inl h };have hdsz:t<a.tmps.size:=by rw[hts];exact aju (hok.dst _ _ _ ho l4) hsz
   refine .inr ⟨i,o,t,_,kk,w.heap.size,z,v0,T,hl,ho,l4,h1,l6,h3,z4,i4,.inr rfl,⟨k',m',hk',hm',hlt',fun h=>h.elim hnS' fun e=>?_⟩,fun j k hj hk=>?_,fun j hj=>?_,c,p,s1,hst.trans st1,?_,fun j oj dj hj hoj hdj=>?_,fun t' ht' hx'=>?_,?_,?_,fun t' b' ob' e=>?_⟩
   ·subst e;rw[h1]at hk';cases hk';omega
   ·have hj':S j:=hj.1.resolve_right hj.2;refine⟨.inl (cl j k hj' hk),fun e=>?_⟩;subst e;exact hi (cl j k hj' hk)
   ·exact lt j (hj.1.resolve_right hj.2)
   ·refine⟨hcut.1.imp id fun ⟨k,q,q1,q2⟩=>⟨k,q,⟨.inl q1,fun e=>hi (e▸q1)⟩,q2⟩,fun k q q1 q2=>?_⟩;rw[←hcut.2 k q q1 q2];exact⟨fun h=>h.1.resolve_right h.2,fun h=>⟨.inl h,fun e=>hi (e▸h)⟩⟩
   ·have hj':S j:=hj.1.resolve_right hj.2;have hne:¬dj=t:=fun e=>by
     subst e;exact hj.2 (hok.uniq _ _ _ _ _ hoj ho hdj l4)
    rw[l4,o9 hdsz,if_neg hne];exact (hv j oj dj hj' hoj hdj).ext x1
   ·have hne:¬t'=t:=fun e=>hx' _ _ (by rw[e]);rw[l4,o9 hdsz,if_neg hne];exact hun t' (fun j oj hj=>ht' j oj ⟨.inl hj,fun e=>hi (e▸hj)⟩) fun _ _ e=>by cases e
   ·rw[l4];simp[Act.put,hts]
   ·rw[l4];exact hdf
   cases e;refine⟨by rw[l4,o9 hdsz,if_pos rfl],hst.size,pL,fun h=>absurd (hs.low _ h) (ato _),fun id h1 h2=>absurd (hs.plow id _ h1 h2).1 (ato _)⟩
  refine wpOpIn_mono (fun a' w' h=>.inl h) (Lf (Q:=Q) (n0:=n0) hok hT hp hchk hC hR hF hg ht0 hsz ho (x:=none) (fun _ _ _ e=>by cases e) hi (fun n hn hw k m hk hkm hm=>?_) hb hinv);by_cases hl:late=some i
  ·by_cases hS:S k
   ·exact hS
   exact absurd ⟨hl,n,k,m,hn,hkm,hm,hok.mono _ _ _ _ hkm hn hk,hS⟩ hA
  exact hb k (ord hl n hn hw k m hk hkm hm)
 obtain⟨hbd,o',T',t',n',kk',z',l1,l2,l3,l4,l5,l6,l7,l8,l9⟩:=hok.lateOk d hl;rw[hd]at l1;cases l1;rw[hdt]at l4;cases l4;rw[hn]at l5;cases l5;have hid:i≠d:=fun e=>hi (e▸hSd);have hli:late≠some i:=fun e=>by rw[hl]at e;cases e;exact hid rfl
 have hnbd:¬(bef i).testBit d=true:=fun h=>hnS0 (hb k0 (l8 i h k0 m0 hk0' hm0 hlt0));have hb':∀k,(bef i).testBit k=true→S k∧k≠d:=fun k hk=>⟨hb k hk,fun e=>by subst e;exact hnbd hk⟩;refine wpOpIn_mono (fun a' w' h=>?_) (Lf (Q:=Q) (n0:=n0) hok hT hp hchk hC hR hF hg ht0 hsz ho (x:=some (t,b,.cells v0.cells T (0,0))) (fun t1 b1 ob1 e=>?_) (fun h=>hi h.1) (fun n1 hn1 hw1 k m hk hkm hm=>hb' k (ord hli n1 hn1 hw1 k m hk hkm hm)) hb' hinv)
 ·by_cases hmore:∃k m,cR its k=some m∧gA bh ins chk m=true∧m<n∧¬(S k∨k=i)
  ·refine .inr ⟨d,od,t,n,kk,b,z,v0,T,hl,hd,hdt,hn,hI,hval,hk0,hz,.inl hSd,hmore,h.congr fun j=>?_⟩;constructor
   ·rintro (⟨h1,h2⟩|rfl)
    ·exact⟨.inl h1,h2⟩
    exact⟨.inr rfl,hid⟩
   rintro⟨h1|rfl,h2⟩
   ·exact .inl ⟨h1,h2⟩
   exact .inr rfl
  have hall:∀k m,cR its k=some m→gA bh ins chk m=true→m<n→(S k∧k≠d)∨k=i:=fun k m h1 h2 h3=>by
   by_cases h4:S k∨k=i
   ·rcases h4 with h4|h4
    ·refine .inl ⟨h4,fun e=>?_⟩;subst e;rw[hn]at h1;cases h1;omega
    exact .inr h4
   exact absurd ⟨k,m,h1,h2,h3,h4⟩ hmore
  have:=YN hok hT hp hchk hd hdt hn hI l7 hval hk0 hz hbd (S:=fun j=>(S j∧j≠d)∨j=i) (fun h=>h.elim (fun h=>h.2 rfl) fun e=>hid e.symm) hall h;refine .inl (this.congr fun j=>?_);constructor
  ·rintro ((⟨h1,h2⟩|rfl)|rfl)
   ·exact .inl h1
   ·exact .inr rfl
   exact .inl hSd
  rintro (h1|rfl)
  ·by_cases e:j=d
   ·exact .inr e
   exact .inl (.inl ⟨h1,e⟩)
  exact .inl (.inr rfl)
 cases e;refine⟨?_,fun e=>hid (hok.uniq _ _ _ _ _ ho hd e hdt)⟩;cases hq:I5 ops.toList em its bef i t with
 |none=>rfl
 |some q=>exact absurd (l9 i hio hid (by rw[hq];simp)) hnbd
theorem GX.final(hok:uu M P bh ops ins em its bef chk late nt){S:Nat→Prop}(hS:∀i,i<ops.size→S i){a:Act}{w:World}(hinv:GX M P bh ops ins its bef chk late env ls s c0 w0 a0 S a w):qZ M bh ops ins its bef chk env ls s c0 w0 a0 none S a w:=by
 rcases hinv with h|⟨d,o,t,n,kk,b,z,v0,T,hl,hd,hdt,hn,hI,hval,hk0,hz,hSd,⟨k0,m0,hk0',hm0,hlt0,hnS0⟩,hinv⟩
 ·exact h
 have hkl:k0<ops.size:=by
  rw[←hok.size];unfold cR at hk0';obtain⟨x,hx,_⟩:=aS hk0';exact (aaN.1 hx).1
 exact absurd (hS k0 hkl) hnS0
theorem GX.congr{S S':Nat→Prop}(h:∀i,S i↔S' i){a:Act}{w:World}(hi:GX M P bh ops ins its bef chk late env ls s c0 w0 a0 S a w):GX M P bh ops ins its bef chk late env ls s c0 w0 a0 S' a w:=by
 have:S=S':=funext fun i=>propext (h i);rw[←this];exact hi
theorem GX.closed(hok:uu M P bh ops ins em its bef chk late nt){S:Nat→Prop}{a:Act}{w:World}(hinv:GX M P bh ops ins its bef chk late env ls s c0 w0 a0 S a w):∀i k,S i→(bef i).testBit k=true→S k:=by
 rcases hinv with h|⟨d,o,t,n,kk,b,z,v0,T,hl,hd,hdt,hn,hI,hval,hk0,hz,hSd,_,hinv⟩
 ·exact h.1
 intro i k hi hk;by_cases e:i=d
 ·subst e;rw[(hok.lateOk i hl).1]at hk;simp at hk
 exact (hinv.1 i k ⟨hi,e⟩ hk).1
theorem Ii(hm:P.follows .mixedOrders=true)(he:Wl ops bef)(hok:uu M P bh ops ins em its bef chk late nt)(hT:yr C env ins ls s)(hp:sP bh C)(hchk:∀(n j:Nat) (I:aU),(n,j)∈chk→ins[n]?=some I→aN C env (ls.take n) (s j) I.op=some (kr ls n,s j))
  (hC:gK M P C) (hR:gw M P C) (hF:pZ F) (hg:fT M w0 c0) (hs:cO M w0 c0 (s 0)) (ht0:iL M w0 c0 env [] (uM em) a0.tmps) (hsz:nt≤a0.tmps.size) (hos:t8 ops.toList em its os=true)
  (hQ:∀a w,ZZ M em env ls os c0 w0 a0 (s ins.length) a w→Q .normal a w) (id:Nat):(Code.region id ops true).wpIn F n0 P Q a0 w0:=by
 apply wpIn_region_any hm;have key:∀(bQ:Nat) (listed:Array Bool) (a:Act) (w:World),listed.size=ops.size→listed.toList.countP (fun b=>!b)≤bQ→GX M P bh ops ins its bef chk late env ls s c0 w0 a0 (fun j=>listed[j]?=some true) a w →
   wpAnyIn F n0 P .any ops Q bQ listed a w:=by
  intro bQ;have done:∀(listed:Array Bool) (a:Act) (w:World),listed.size=ops.size→(∀i,i<ops.size→listed[i]?=some true)→GX M P bh ops ins its bef chk late env ls s c0 w0 a0 (fun j=>listed[j]?=some true) a w→Q .normal a w:=fun listed a w hz hall hinv=>
   hQ a w (KD hok hT hp hchk ht0 hos hall (hinv.final hok hall))
  have allOf:∀(listed:Array Bool),listed.size=ops.size→Region.ready .any ops listed=[]→∀i,i<ops.size→listed[i]?=some true:=fun listed hz hr i=>by
   induction i using Nat.strongRecOn with
   |_ i ih=>
    intro hi;have hi':i<listed.size:=by omega
    cases hb:listed[i] with
    |true=>rw[atl hi',hb]
    |false=>
     have:i∈Region.ready .any ops listed:=BX.2 ⟨hi,by simp[Array.getD,hi',hb],ops[i],by simp[hi],fun e hee hbd=>by
      have hlt:=he.low i ops[i] (by simp[hi]) e hee hbd;have:=ih e.on hlt (by omega);simp[ala,this]⟩
     rw[hr]at this;cases this
  induction bQ with
  |zero=>
   intro listed a w hz hc hinv;have hall:∀i,i<ops.size→listed[i]?=some true:=fun i hi=>by
    have hi':i<listed.size:=by omega
    have h0:=List.countP_eq_zero.1 (Nat.le_zero.1 hc) listed[i] (by simp);rw[atl hi'];simpa using h0
   refine⟨?_,done listed a w hz hall hinv⟩;rw[List.eq_nil_iff_forall_not_mem];intro i hi;obtain⟨h1,h2,_⟩:=BX.1 hi;have:=hall i h1;rw[ala,this]at h2;cases h2
  |succ bQ ih=>
   intro listed a w hz hc hinv;refine⟨fun hr=>done listed a w hz (allOf listed hz hr) hinv,fun i hi=>?_⟩;obtain⟨h1,h2,o,ho,h3⟩:=BX.1 hi;have hi':i<listed.size:=by omega
   have hfalse:listed[i]=false:=by simpa [Array.getD,hi'] using h2
   have hset:∀j,(listed.setIfInBounds i true)[j]?=some true↔(listed[j]?=some true∨j=i):=fun j=>by
    rw[atr];by_cases e:i=j
    ·subst e;simp[hi']
    have:¬j=i:=fun h=>e h.symm;simp[e,this]
   refine wpOpIn_mono (fun a' w' h=>ih (listed.setIfInBounds i true) a' w' (by simpa using hz) ?_ h) ?_
   ·rw[Array.toList_setIfInBounds,List.countP_set (by simpa using hi')];simp only[auN,hfalse,Bool.not_false,aml,avL,ai1,ali];have:0<listed.toList.countP (fun b=>!b):=List.countP_pos_iff.2 ⟨false,by rw[←hfalse];simp,rfl⟩;omega
   have:=Z7 (Q:=Q) (n0:=n0) hok hT hp hchk hC hR hF hg ht0 hsz ho (S:=fun j=>listed[j]?=some true) (by rw[atl hi',hfalse];simp) (fun k hk=>by
    obtain⟨e,e1,e2,e3⟩:=he.clos i o ho k hk;have hl:listed[e.on]?=some true:=by
     have:=h3 e e1 e2;rw[ala]at this;cases hq:listed[e.on]? with
     |none=>rw[hq]at this;cases this
     |some b=>rw[hq]at this;simp at this;rw[this]
    rcases e3 with rfl|e3
    ·exact hl
    exact hinv.closed hok e.on k hl e3) hinv
   exact wpOpIn_mono (fun a' w' h=>h.congr fun j=>(hset j).symm) this
 refine key ops.size _ a0 _ (by simp) ?_ ?_
 ·exact als (List.countP_le_length) (by simp)
 refine .inl (KN (w0:=w0) (w:={ w0 with drawn:=w0.drawn+1 }) (hs.heap rfl) (fK.ofHeap rfl ⟨rfl,rfl,rfl,atB _⟩) fun i h=>?_);rw[Array.getElem?_replicate]at h;split at h<;>cases h
end
end Go.AM
namespace Go.AM
variable {M:bw} {w:World}
structure aei (fl:Bool) (base:Nat) (c d:bv):Prop where
 sld:∀b,c.sld b→d.sld b
 sb:∀b,d.sld b→d.bor b
 bor:∀b,c.bor b→d.bor b
 gone:∀id b,base≤id→c.H id≠.dead→c.place id=some b→if fl then d.bor b else d.sld b
 N:∀id,id<base→id<c.N→id<d.N
 keep:∀id,id<base→id<c.N→(d.H id=c.H id∧(c.H id≠.dead→d.place id=c.place id∧d.room id=c.room id∧d.loops id=c.loops id))∨d.H id=.dead
def bv.view(d:bv)(fl top:Bool):bv:=if top then d else d.still fl
theorem lc{d:bv}{fl top:Bool}:(d.view fl top).sld=d.sld:=by cases top<;>rfl
theorem xl{d:bv}{fl top:Bool}(h:fl=true∨top=true):(d.view fl top).bor=d.bor:=by cases top<;>cases fl<;>first|rfl|simp at h
theorem FN{d:bv}{top:Bool}:(d.view true top).bor=d.bor:=by cases top<;>rfl
theorem zt{d:bv}{fl top:Bool}:(d.view fl top).still fl=d.still fl:=by cases top<;>cases fl<;>rfl
theorem abL{d:bv}{fl top:Bool}(hsb:∀b,d.sld b→d.bor b):Ext (d.still fl) w (d.view fl top) w:=by
 cases top
 ·exact .refl _ _
 exact .ofStill hsb fl
theorem tz{c d:bv}{b:Bool}(h1:∀x,c.sld x→d.sld x)(h2:b=true→∀x,c.bor x→d.bor x):Ext (c.still b) w (d.still b) w where
 sld:=h1
 bor:=fun x hx=>by
  cases b
  ·exact h1 x hx
  exact h2 rfl x hx
 rest:=fun _ _=>rfl
 N:=aes _
 head:=fun id hid=>absurd hid (art _)
 place:=fun id hid=>absurd hid (art _)
theorem abo{fl top:Bool}{base:Nat}{σ:ah}{n:Nat}{v:aa}(h:isAgg v=false):isAgg (fz fl top base σ n v)=false:=by
 cases n with
 |zero=>rfl
 |succ n=>
  have hl:∀l l',isAgg (jH fl l l')=false:=fun l l'=>by unfold jH;split<;>rfl
  have hc':∀g x x' o,isAgg (gd g x x' o)=false:=fun g x x' o=>by unfold gd;split<;>rfl
  have hc:∀x x' o,isAgg (gd fl x x' o)=false:=fun x x' o=>hc' _ _ _ _;have ho:∀{α:Type} (o:Option α) (f:α→aa),(∀a,isAgg (f a)=false)→isAgg (o.elim .any f)=false:=fun o f hf=>by cases o<;>first|rfl|exact hf _
  cases v with
  |agg cs=>simp[isAgg]at h
  |wh b xs=>simp only[fz];split<;>rfl
  |yz=>simp only[fz];split<;>rfl
  |imap b xs=>simp only[fz];split<;>rfl
  |lst xs=>exact hl _ _
  |cptr b x o=>
   simp only[fz];cases b
   ·rfl
   cases fl
   ·cases top
    ·rfl
    exact hc' _ _ _ _
   exact hc _ _ _
  |sl id ep off len=>
   simp only[fz];split
   ·split<;>rfl
   exact ho _ _ fun l=>hl _ _
  |ptr id ep i off=>
   simp only[fz];split
   ·split<;>rfl
   exact ho _ _ fun l=>hc _ _ _
  |mp id=>
   simp only[fz];split
   ·split<;>rfl
   exact ho _ _ fun l=>rfl
  |asl id ep i off m=>simp only[fz];split<;>rfl
  |yld l s e=>simp only[fz];split<;>rfl
  |_=>rfl
section
variable {fl:Bool} {base:Nat} {σ:ah} {c d:bv}
def dc(M:bw)(w:World)(fl:Bool)(base:Nat)(σ:ah)(c d:bv)(n:Nat):Prop:=∀(top:Bool) (v:aa) (cv:Value),R M w c v cv→R M w (d.view fl top) (fz fl top base σ n v) cv
theorem B7{n:Nat}{top:Bool}(ih:∀m,m≤n→dc M w fl base σ c d m){x:aa}{f:Nat→Value}(h:∀j (hj:j<(cellsOf x).length),R M w c (cellsOf x)[j] (f j)) :
  ∀j (hj:j<(cellsOf (fz fl top base σ n x)).length),R M w (d.view fl top) (cellsOf (fz fl top base σ n x))[j] (f j):=by
 intro j hj;cases ha:isAgg x with
 |true=>
  obtain⟨cs,rfl⟩:=mh ha;cases n with
  |zero=>
   have e:cellsOf (fz fl top base σ 0 (.agg cs))=[.any]:=rfl;simp only[e,aiG,ak3]at hj ⊢;have:j=0:=by omega
   subst this;exact .any
  |succ n=>
   have e:cellsOf (fz fl top base σ (n+1) (.agg cs))=cs.map (fz fl top base σ n):=rfl;simp only[e,ajk,atf]at hj ⊢;exact ih n (by omega) top _ _ (h j hj)
 |false=>
  have e:cellsOf (fz fl top base σ n x)=[fz fl top base σ n x]:=oN (abo ha);have e2:cellsOf x=[x]:=oN ha;simp only[e,aiG,ak3]at hj ⊢;have:j=0:=by omega
  subst this;have h0:=h 0 (by rw[e2];simp);simp only[e2,ata]at h0;exact ih n (aes _) top _ _ h0
theorem GV{n:Nat}(ih:∀m,m≤n→dc M w fl base σ c d m){x:aa}{f:Nat→Value}(h:∀j (hj:j<(cellsOf x).length),R M w c (cellsOf x)[j] (f j)) :
  ∀j (hj:j<(cellsOf (fz fl false base σ n x)).length),R M w (d.still fl) (cellsOf (fz fl false base σ n x))[j] (f j):=B7 (top:=false) ih h
theorem zx{l l':List aa}(h:l'.map aw=l.map aw):l'.length=l.length∧∀i (h1:i<l'.length) (h2:i<l.length),aw l'[i]=aw l[i]:=by
 have hl:l'.length=l.length:=by simpa using congrArg List.length h
 refine⟨hl,fun i h1 h2=>?_⟩;have:=congrArg (fun q=>q[i]?) h;simpa [h1,h2] using this
theorem Ps{n:Nat}(hd:∀b,d.sld b→d.bor b)(ih:∀m,m≤n→dc M w fl base σ c d m){top:Bool}{l:List aa}{a:Addr}{cap K:Nat}{f:Nat→Nat→Value}(hb:if fl then d.bor a.block else d.sld a.block)(ha:a.spot=none)(hcap:l.length≤cap)(hK:K≠0)
  (hn:∀x∈l,aw x=K) (hc:∀i j,i<l.length→j<K→w.cell? ⟨a.block,a.off+i*K+j,none⟩=some (f i j)∧(f i j).oneCell'=true)
  (hr:∀i (hi:i<l.length) j (hj:j<(cellsOf l[i]).length),R M w c (cellsOf l[i])[j] (f i j)) :
  R M w (d.view fl top) (jH fl l (l.map (fz fl false base σ n))) (.slice (some a) l.length cap):=by
 unfold jH;split
 ·rename_i hm;obtain⟨m1,m2⟩:=zx hm;have hlen:(l.map (fz fl false base σ n)).length=l.length:=by simp
  have:=R.wh (M:=M) (w:=w) (c:=d.view fl top) (b:=fl) (xs:=l.map (fz fl false base σ n)) (cap:=cap) (a:=a) K f (by
    cases fl
    ·rw[lc];exact hb
    ·rw[FN];exact hb) ha (by rw[hlen];exact hcap) hK (fun x hx=>by
    obtain⟨i,hi,rfl⟩:=ati.1 hx;rw[m2 i hi (by rw[←hlen];exact hi)];exact hn _ (agL _)) (fun i j hi hj=>hc i j (by rw[←hlen];exact hi) hj) (fun i hi j hj=>by
    rw[zt];have hi':i<l.length:=by rw[←hlen];exact hi
    simp only[atf]at hj ⊢;exact GV ih (hr i hi') j hj)
  rw[hlen]at this;exact this
 exact .any
theorem PX{n:Nat}(hd:∀b,d.sld b→d.bor b)(ih:∀m,m≤n→dc M w fl base σ c d m){top:Bool}{x:aa}{off o blk:Nat}{f:Nat→Value}(hb:if fl then d.bor blk else d.sld blk)(hn:aw x≠0)
  (hc:∀j,j<aw x→w.cell? ⟨blk,o+j,none⟩=some (f j)∧(f j).oneCell'=true) (hr:∀j (hj:j<(cellsOf x).length),R M w c (cellsOf x)[j] (f j)) :
  R M w (d.view fl top) (gd fl x (fz fl false base σ n x) off) (.pointer (some ⟨blk,o+off,none⟩)):=by
 unfold gd;split
 ·rename_i hm;refine .cptr f ?_ (by omega) (fun j hj=>hc j (by omega)) fun j hj=>?_
  ·cases fl
   ·rw[lc];exact hb
   rw[FN];exact hb
  have:=GV ih hr j hj;cases fl
  ·have e:(if false=true then d.view false top else (d.view false top).still false)=d.still false:=zt (fl:=false);rw[e];exact this
  exact this.ext (abL hd)
 exact .any
theorem dc.zero:dc M w fl base σ c d 0:=fun _ _ _ _=>.any
theorem ahi{id ep k:Nat}{es:List aa}(hs:cO M w c σ)(ho:σ[id]?=some (.arr k ep es))(h:∀k e,c.H id=.arr k e→ep<e):False:=
 absurd (h k ep (by rw[hs.H,cU ho])) (ato _)
theorem Li(hs:cO M w c σ)(ht:aei fl base c d):∀n,dc M w fl base σ c d n:=by
 intro n;induction n using Nat.strongRecOn with
 |_ n ihs=>
 cases n with
 |zero=>exact dc.zero
 |succ n=>
  have ih:∀m,m≤n→dc M w fl base σ c d m:=fun m hm=>ihs m (by omega);have IH:∀{top:Bool} {v:aa} {cv:Value},R M w c v cv→R M w (d.view fl top) (fz fl top base σ n v) cv:=fun {top v cv} h=>ih n (aes _) top v cv h;intro top v cv h;have bsld:∀b,d.sld b→(if fl then d.bor b else d.sld b):=fun b hb=>by
   cases fl
   ·exact hb
   exact ht.sb b hb
  cases h with
  |any=>exact .any
  |int=>exact .int
  |bool=>exact .bool
  |str h=>exact .str h
  |nilp=>exact .nilp
  |nilf=>exact .nilf
  |nilm=>exact .nilm
  |@yz _ a=>
   show R M w _ (if !fl&&top then .yz else .wh false []) _;split
   ·exact .yz
   exact .imm0
  |emp h=>exact .emp h
  |@agg _ cs vs f h1 h2 h3 h4=>
   show R M w _ (.agg (cs.map (fz fl top base σ n))) _;have hr:∀i (hi:i<(cs.map (fz fl top base σ n)).length),R M w (d.view fl top) (cs.map (fz fl top base σ n))[i] (f i):=fun i hi=>by
    rw[atf];exact IH (h4 i (by simpa using hi))
   exact .agg f (by simpa using h1) (fun i hi=>h2 i (by simpa using hi)) (fun i hi=>(hr i hi).small (h2 i (by simpa using hi)).2) hr
  |@tup _ cs vs f h1 h2 h3=>
   show R M w _ (.tup (cs.map (fz fl top base σ n))) _
   exact .tup f (by simpa using h1) (fun i hi=>h2 i (by simpa using hi)) fun i hi=>by
    rw[atf];exact IH (h3 i (by simpa using hi))
  |@fn _ g first cap fs cs f1 f2 h1 h2 h3 h4 h5 h6=>
   show R M w _ (.fn g (first.map (fz fl top base σ n)) (cap.map (fz fl top base σ n))) _
   exact .fn f1 f2 (by simpa using h1) (by simpa using h2) (fun i hi=>h3 i (by simpa using hi)) (fun i hi=>h4 i (by simpa using hi)) (fun i hi=>by
    rw[atf];exact IH (h5 i (by simpa using hi))) (fun i hi=>by rw[atf];exact IH (h6 i (by simpa using hi)))
  |@wh _ b xs cap a K f h1 h2 h3 h4 h5 h6 h7=>
   show R M w _ (if b&&!fl&&!top then .any else .wh b xs) _;split
   ·exact .any
   rename_i hc;have hbf:b=true→fl=true∨top=true:=fun e=>by subst e;cases fl<;>cases top<;>simp at hc ⊢
   refine .wh K f ?_ h2 h3 h4 h5 h6 fun i hi j hj=>(h7 i hi j hj).ext (tz (fun x hx=>by rw[lc];exact ht.sld x hx) fun e x hx=>?_)
   ·cases b
    ·rw[lc];exact ht.sld _ h1
    rw[if_pos rfl,xl (hbf rfl)];exact ht.bor _ h1
   rw[xl (hbf e)];exact ht.bor _ hx
  |@imm0 _ b cap a=>
   show R M w _ (if b&&!fl&&!top then .any else .wh b []) _;split
   ·exact .any
   exact .imm0
  |@lst _ xs cap a K f h1 h2 h3 h4 h5 h6 h7=>
   exact Ps ht.sb ih (bsld _ (ht.sld _ h1)) h2 h3 h4 h5 h6 h7
  |@lst0 _ cap a=>exact .imm0
  |@cptr _ b x off o blk f h1 h2 h3 h4=>
   show R M w _ (if b then (if fl then gd true x (fz fl false base σ n x) off else if top then gd true x (fz fl top base σ n x) off else .any) else .cptr false x off) _;cases b with
   |true=>
    cases fl with
    |true=>exact PX (fl:=true) ht.sb ih (ht.bor _ h1) h2 h3 h4
    |false=>
     cases top with
     |false=>exact .any
     |true=>
      show R M w d (gd true x (fz false true base σ n x) off) _;unfold gd;split
      ·rename_i hm;exact .cptr f (ht.bor _ h1) (by omega) (fun j hj=>h3 j (by omega)) fun j hj=>B7 (top:=true) ih h4 j hj
      exact .any
   |false=>
    refine .cptr f (by rw[lc];exact ht.sld _ h1) h2 h3 fun j hj=>?_;exact (h4 j hj).ext (tz (fun x hx=>by rw[lc];exact ht.sld x hx) fun e=>by cases e)
  |@imap _ b es r clock en f g h1 h2 h3 h4 h5 h6=>
   show R M w _ (if b&&!fl&&!top then .any else .imap b es) _;split
   ·exact .any
   rename_i hc;have hbf:b=true→fl=true∨top=true:=fun e=>by subst e;cases fl<;>cases top<;>simp at hc ⊢
   have hx:Ext (c.still b) w ((d.view fl top).still b) w:=tz (fun x hx=>by rw[lc];exact ht.sld x hx) fun e x hx=>by
    rw[xl (hbf e)];exact ht.bor _ hx
   refine .imap f g ?_ h2 h3 h4 (fun i hi=>(h5 i hi).ext hx) (fun i hi=>(h6 i hi).ext hx);cases b
   ·rw[lc];exact ht.sld _ h1
   rw[if_pos rfl,xl (hbf rfl)];exact ht.bor _ h1
  |@sl _ id ep off len cap k blk h1 h2 h3 h4 h5=>
   show R M w _ (if id<base then (if top then .sl id ep off len else .any) else (sliceAt σ id ep off len).elim .any fun l=>jH fl l (l.map (fz fl false base σ n))) _;split
   ·rename_i hb;cases top with
    |false=>exact .any
    |true=>
     rcases ht.keep id hb h1 with⟨k1,k2⟩|k1
     ·obtain⟨p1,p2,_⟩:=k2 (by rw[h2];simp);exact .sl (ht.N id hb h1) (k1.trans h2) (p1.trans h3) h4 (by show _≤d.room id;rw[p2];exact h5)
     exact .slOld rfl (ht.N id hb h1) (by show ∀k e,d.H id=_→_;rw[k1];simp) (by show d.H id≠_;rw[k1];simp) (by show d.H id≠_;rw[k1];simp)
   rename_i hb;cases hsl:sliceAt σ id ep off len with
   |none=>exact .any
   |some l=>
    obtain⟨k2,es,ho,hl,rfl⟩:=kK hsl;have hH:c.H id=.arr k2 ep:=by rw[hs.H,cU ho]
    have hkk:k=k2:=by rw[hH]at h2;cases h2;rfl
    subst hkk;obtain⟨o1,o2,o3,o4⟩:=hs.obj id _ ho;obtain⟨cs,T,F,q1,q2,q3,q4,q5⟩:=o4 blk h3;have hlen:((es.drop off).take len).length=len:=by simp;omega
    have:=Ps (M:=M) (w:=w) (fl:=fl) (base:=base) (σ:=σ) (c:=c) (d:=d) (n:=n) (top:=top) (l:=(es.drop off).take len) (a:=⟨blk,off*k,none⟩) (cap:=cap) (K:=k) (f:=fun i j=>F (off+i) j) ht.sb ih (ht.gone id blk (by omega) (by rw[h2];simp) h3) rfl (by omega) o1
     (fun x hx=>o2 x (asW (akt hx))) (fun i j hi hj=>by
      rw[hlen]at hi;obtain⟨a1,a2⟩:=q4 (off+i) j (by omega) hj;refine⟨?_,a2⟩;simp only[World.cell?,q1];rw[show off*k+i*k+j=(off+i)*k+j by rw[atx]];exact a1) (fun i hi j hj=>by
      rw[hlen]at hi;have e:((es.drop off).take len)[i]'(by rw[hlen];exact hi)=es[off+i]'(by omega):=by simp
      have hj':j<(cellsOf (es[off+i]'(by omega))).length:=by rw[←e];exact hj
      have:=q5 (off+i) (by omega) j hj';simp only[atK,atM];exact this)
    rw[hlen]at this;exact this
  |@sl0 _ id ep off k a h1 h2=>
   show R M w _ (if id<base then (if top then .sl id ep off 0 else .any) else (sliceAt σ id ep off 0).elim .any fun l=>jH fl l (l.map (fz fl false base σ n))) _;split
   ·rename_i hb;cases top with
    |false=>exact .any
    |true=>
     rcases ht.keep id hb h1 with⟨k1,k2⟩|k1
     ·exact .sl0 (ht.N id hb h1) (k1.trans h2)
     exact .slOld rfl (ht.N id hb h1) (by show ∀k e,d.H id=_→_;rw[k1];simp) (by show d.H id≠_;rw[k1];simp) (by show d.H id≠_;rw[k1];simp)
   cases hsl:sliceAt σ id ep off 0 with
   |none=>exact .any
   |some l=>
    obtain⟨k2,es,ho,hl,rfl⟩:=kK hsl;exact .imm0
  |@slOld _ id ep off len _ h0 h1 h2 h3 h4=>
   show R M w _ (if id<base then (if top then .sl id ep off len else .any) else (sliceAt σ id ep off len).elim .any fun l=>jH fl l (l.map (fz fl false base σ n))) _;split
   ·rename_i hb;cases top with
    |false=>exact .any
    |true=>
     rcases ht.keep id hb h1 with⟨k1,k2⟩|k1
     ·exact .slOld h0 (ht.N id hb h1) (by show ∀k e,d.H id=_→_;rw[k1];exact h2) (by show d.H id≠_;rw[k1];exact h3) (by show d.H id≠_;rw[k1];exact h4)
     exact .slOld h0 (ht.N id hb h1) (by show ∀k e,d.H id=_→_;rw[k1];simp) (by show d.H id≠_;rw[k1];simp) (by show d.H id≠_;rw[k1];simp)
   cases hsl:sliceAt σ id ep off len with
   |none=>exact .any
   |some l=>
    obtain⟨k2,es,ho,hl,rfl⟩:=kK hsl;exact (ahi hs ho h2).elim
  |@ptr _ id ep i off k blk h1 h2 h3=>
   show R M w _ (if id<base then (if top then .ptr id ep i off else .any) else (oX σ id ep i).elim .any fun x=>gd fl x (fz fl false base σ n x) off) _;split
   ·rename_i hb;cases top with
    |false=>exact .any
    |true=>
     rcases ht.keep id hb h1 with⟨k1,k2⟩|k1
     ·obtain⟨p1,p2,_⟩:=k2 (by rw[h2];simp);exact .ptr (ht.N id hb h1) (k1.trans h2) (p1.trans h3)
     exact .ptrOld rfl (ht.N id hb h1) (by show ∀k e,d.H id=_→_;rw[k1];simp) (by show d.H id≠_;rw[k1];simp) (by show d.H id≠_;rw[k1];simp)
   rename_i hb;cases hsl:oX σ id ep i with
   |none=>exact .any
   |some x=>
    obtain⟨k2,es,ho,hx⟩:=zF hsl;have hH:c.H id=.arr k2 ep:=by rw[hs.H,cU ho]
    have hkk:k=k2:=by rw[hH]at h2;cases h2;rfl
    subst hkk;obtain⟨b,f,hbp,hcr,hnk,hk0,hcell⟩:=hs.elem ho hx;rw[h3]at hbp;cases hbp;exact PX (o:=i*k) ht.sb ih (ht.gone id blk (by omega) (by rw[h2];simp) h3) (by omega) (fun j hj=>⟨hcell j (by omega),hcr.one j hj⟩) hcr.rel
  |@ptrOld _ id ep i off _ h0 h1 h2 h3 h4=>
   show R M w _ (if id<base then (if top then .ptr id ep i off else .any) else (oX σ id ep i).elim .any fun x=>gd fl x (fz fl false base σ n x) off) _;split
   ·rename_i hb;cases top with
    |false=>exact .any
    |true=>
     rcases ht.keep id hb h1 with⟨k1,k2⟩|k1
     ·exact .ptrOld h0 (ht.N id hb h1) (by show ∀k e,d.H id=_→_;rw[k1];exact h2) (by show d.H id≠_;rw[k1];exact h3) (by show d.H id≠_;rw[k1];exact h4)
     exact .ptrOld h0 (ht.N id hb h1) (by show ∀k e,d.H id=_→_;rw[k1];simp) (by show d.H id≠_;rw[k1];simp) (by show d.H id≠_;rw[k1];simp)
   cases hsl:oX σ id ep i with
   |none=>exact .any
   |some x=>
    obtain⟨k2,es,ho,hx⟩:=zF hsl;exact (ahi hs ho h2).elim
  |@asl _ id ep i off m k blk h1 h2 h3=>
   show R M w _ (if id<base&&top then .asl id ep i off m else .any) _;split
   ·rename_i hc;simp only[acz,ad7]at hc;obtain⟨hb,rfl⟩:=hc;rcases ht.keep id hb h1 with⟨k1,k2⟩|k1
    ·obtain⟨p1,p2,_⟩:=k2 (by rw[h2];simp);exact .asl (ht.N id hb h1) (k1.trans h2) (p1.trans h3)
    exact .aslOld (ht.N id hb h1) (by show ∀k e,d.H id=_→_;rw[k1];simp) (by show d.H id≠_;rw[k1];simp) (by show d.H id≠_;rw[k1];simp)
   exact .any
  |@aslOld _ id ep i off m _ h1 h2 h3 h4=>
   show R M w _ (if id<base&&top then .asl id ep i off m else .any) _;split
   ·rename_i hc;simp only[acz,ad7]at hc;obtain⟨hb,rfl⟩:=hc;rcases ht.keep id hb h1 with⟨k1,k2⟩|k1
    ·exact .aslOld (ht.N id hb h1) (by show ∀k e,d.H id=_→_;rw[k1];exact h2) (by show d.H id≠_;rw[k1];exact h3) (by show d.H id≠_;rw[k1];exact h4)
    exact .aslOld (ht.N id hb h1) (by show ∀k e,d.H id=_→_;rw[k1];simp) (by show d.H id≠_;rw[k1];simp) (by show d.H id≠_;rw[k1];simp)
   exact .any
  |@mp _ id blk h1 h2 h3=>
   show R M w _ (if id<base then (if top then .mp id else .any) else (ff σ id).elim .any fun es=>.imap fl (es.map fun e=>(e.1,fz fl false base σ n e.2))) _;split
   ·rename_i hb;cases top with
    |false=>exact .any
    |true=>
     rcases ht.keep id hb h1 with⟨k1,k2⟩|k1
     ·obtain⟨p1,p2,_⟩:=k2 (by rw[h2];simp);exact .mp (ht.N id hb h1) (k1.trans h2) (p1.trans h3)
     exact .mpOld rfl (ht.N id hb h1) k1
   rename_i hb;cases he:ff σ id with
   |none=>exact .any
   |some es=>
    unfold ff at he;split at he
    ·rename_i es' ho;cases he;obtain⟨b,cl,en,f,g,q1,q2,q3,q4,q5,q6⟩:=hs.obj id _ ho;rw[q1]at h3;cases h3;have hgone:=ht.gone id _ (by omega) (by rw[h2];simp) q1;refine .imap f g ?_ q2 (by simpa using q3) (fun i hi=>?_) (fun i hi=>?_) (fun i hi=>?_)
     ·cases fl
      ·rw[lc];exact hgone
      rw[FN];exact hgone
     ·obtain⟨e,e1,e2,e3,e4⟩:=q4 i (by simpa using hi);exact⟨e,e1,e2,e3,by simpa using e4⟩
     ·obtain⟨e,e1,e2,e3,e4⟩:=q4 i (by simpa using hi);obtain⟨q,m,x1,x2⟩:=zU (q5 i (by simpa using hi)) e4;simp only[atf];rw[x1,x2];exact .int
     rw[zt];simp only[atf];exact IH (top:=false) (q6 i (by simpa using hi))
    cases he
  |@mpOld _ id _ h0 h1 h2=>
   show R M w _ (if id<base then (if top then .mp id else .any) else (ff σ id).elim .any fun es=>.imap fl (es.map fun e=>(e.1,fz fl false base σ n e.2))) _;split
   ·rename_i hb;cases top with
    |false=>exact .any
    |true=>
     rcases ht.keep id hb h1 with⟨k1,k2⟩|k1
     ·exact .mpOld h0 (ht.N id hb h1) (k1.trans h2)
     exact .mpOld h0 (ht.N id hb h1) k1
   cases he:ff σ id with
   |none=>exact .any
   |some es=>
    unfold ff at he;split at he
    ·rename_i es' ho;rw[hs.H,cU ho]at h2;cases h2
    cases he
  |@yld _ l site env em blk f h1 h2 h3 h4 h5 h6 h7=>
   show R M w _ (if l<base&&top then .yld l site (env.map (fz fl top base σ n)) else .any) _;split
   ·rename_i hc;simp only[acz,ad7]at hc;obtain⟨hb,rfl⟩:=hc;rcases ht.keep l hb h1 with⟨k1,k2⟩|k1
    ·obtain⟨p1,p2,p3⟩:=k2 (by rw[h2];simp);refine .yld f (ht.N l hb h1) (k1.trans h2) (p1.trans h3) (by show M.site site (d.loops l) em;rw[p3];exact h4) (by simpa using h5) (fun i hi hx=>by show (d.loops l).tmps[em[i]]?=_;rw[p3];exact h6 i hi (by simpa using hx)) fun i hx=>?_;rw[atf];exact IH (top:=true) (h7 i (by simpa using hx))
    exact .yldOld rfl (ht.N l hb h1) k1
   exact .any
  |@yldOld _ l site env _ h0 h1 h2=>
   show R M w _ (if l<base&&top then .yld l site (env.map (fz fl top base σ n)) else .any) _;split
   ·rename_i hc;simp only[acz,ad7]at hc;obtain⟨hb,rfl⟩:=hc;rcases ht.keep l hb h1 with⟨k1,k2⟩|k1
    ·exact .yldOld h0 (ht.N l hb h1) (k1.trans h2)
    exact .yldOld h0 (ht.N l hb h1) k1
   exact .any
end
end Go.AM
namespace Go.AM
variable {M:bw} {w:World}
def bv.sealUp(c:bv)(base:Nat)(τ:ah):bv:={ c with
 sld:=fun b=>c.sld b∨∃id,base≤id∧c.H id≠.dead∧c.place id=some b
 bor:=fun b=>c.bor b∨∃id,base≤id∧c.H id≠.dead∧c.place id=some b
 H:=hd τ
 N:=τ.length }
def gc(base:Nat)(σ:ah):ah:=(σ.take base).map (ap base σ)
variable {c:bv} {σ:ah} {base:Nat}
theorem o5(hb:base≤σ.length):(gc base σ).length=base:=by simp[gc];omega
theorem TK{id:Nat}{o:Obj}(h:(gc base σ)[id]?=some o):id<base∧∃o0,σ[id]?=some o0∧o=ap base σ o0:=by
 unfold gc at h;rw[ate]at h;obtain⟨o0,h1,h2⟩:=aQ h;rw[auj]at h1;split at h1
 ·exact⟨by assumption,o0,h1,h2.symm⟩
 cases h1
theorem XZ{id:Nat}{o:Obj}(hid:id<base)(h:σ[id]?=some o):(gc base σ)[id]?=some (ap base σ o):=by
 unfold gc;rw[ate,auj,if_pos hid,h];rfl
theorem oK{id:Nat}(hid:id<base)(hb:base≤σ.length):hd (gc base σ) id=hd σ id∨hd (gc base σ) id=.dead:=by
 have hlt:id<σ.length:=by omega
 obtain⟨o,ho⟩:∃o,σ[id]?=some o:=⟨_,ad3 hlt⟩;have h1:=XZ (base:=base) (σ:=σ) hid ho;unfold hd;rw[h1,ho];cases o with
 |arr k ep es=>
  simp only[ap,Xn];by_cases hm:(es.map (aZ base σ)).map aw=es.map aw
  ·rw[if_pos hm];exact .inl rfl
  rw[if_neg hm];exact .inr rfl
 |map es=>exact .inl rfl
 |pend b j=>exact .inl rfl
 |dead=>exact .inl rfl
theorem mL(hs:cO M w c σ)(hb:base≤σ.length):aei false base c (c.sealUp base (gc base σ)) where
 sld:=fun b h=>.inl h
 sb:=fun b h=>h.imp (hs.sb b) fun h=>h
 bor:=fun b h=>.inl h
 gone:=fun id b h1 h2 h3=>.inr ⟨id,h1,h2,h3⟩
 N:=fun id h1 _=>by show id<(gc base σ).length;rw[o5 hb];exact h1
 keep:=fun id h1 _=>by
  rcases oK (σ:=σ) h1 hb with h|h
  ·exact .inl ⟨by show hd (gc base σ) id=c.H id;rw[h,hs.H],fun _=>⟨rfl,rfl,rfl⟩⟩
  exact .inr h
theorem cO.sealUp(hs:cO M w c σ)(hb:base≤σ.length):cO M w (c.sealUp base (gc base σ)) (gc base σ):=by
 have ht:=mL hs hb;have hF:=fun n=>Li hs ht n;have live:∀id,hd (gc base σ) id≠.dead→id<base∧c.H id≠.dead:=fun id h=>by
  have hlt:=DH h;rw[o5 hb]at hlt;refine⟨hlt,?_⟩;rcases oK (σ:=σ) hlt hb with h'|h'
  ·rw[hs.H,←h'];exact h
  exact absurd h' h
 refine⟨rfl,rfl,ht.sb,fun b h=>?_,fun id b h1 h2=>?_,fun i j b hi hj hbi hbj=>hs.inj i j b (live i hi).2 (live j hj).2 hbi hbj,fun id o ho=>?_⟩
 ·rcases h with h|⟨id,_,h1,h2⟩
  ·exact hs.low b h
  exact (hs.plow id b h1 h2).1
 ·obtain⟨hlt,hl⟩:=live id h1;obtain⟨p1,p2⟩:=hs.plow id b hl h2;refine⟨p1,fun h=>h.elim p2 fun ⟨id',q1,q2,q3⟩=>?_⟩;have:=hs.inj id id' b hl q2 h2 q3;omega
 obtain⟨hlt,o0,h0,rfl⟩:=TK ho;have hobj:=hs.obj id o0 h0;cases o0 with
 |arr k ep es=>
  simp only[ap,Xn];by_cases hm:(es.map (aZ base σ)).map aw=es.map aw
  ·rw[if_pos hm];obtain⟨m1,m2⟩:=zx hm;obtain⟨o1,o2,o3,o4⟩:=hobj;refine⟨o1,fun x hx=>?_,fun hn=>by rw[o3 hn];rfl,fun b hb'=>?_⟩
   ·obtain⟨i,hi,rfl⟩:=ati.1 hx;rw[m2 i hi (by omega)];exact o2 _ (agL _)
   obtain⟨cs,T,f,q1,q2,q3,q4,q5⟩:=o4 b hb';refine⟨cs,T,f,q1,by rw[m1];exact q2,q3,fun i j hi hj=>q4 i j (by omega) hj,fun i hi j hj=>?_⟩;simp only[atf]at hj ⊢;exact B7 (top:=true) (n:=bQ) (fun m _=>hF m) (q5 i (by omega)) j hj
  rw[if_neg hm];trivial
 |map es=>
  obtain⟨b,cl,en,f,g,q1,q2,q3,q4,q5,q6⟩:=hobj;refine⟨b,cl,en,f,g,q1,q2,by simpa using q3,fun i hi=>?_,fun i hi=>?_,fun i hi=>?_⟩
  ·obtain⟨e,e1,e2,e3,e4⟩:=q4 i (by simpa using hi);exact⟨e,e1,e2,e3,by simpa using e4⟩
  ·obtain⟨e,e1,e2,e3,e4⟩:=q4 i (by simpa using hi);obtain⟨q,m,x1,x2⟩:=zU (q5 i (by simpa using hi)) e4;simp only[atf];rw[x1,x2];exact .int
  simp only[atf];exact hF bQ true _ _ (q6 i (by simpa using hi))
 |pend bz j=>exact hobj
 |dead=>trivial
theorem fK.sealUp{c0:bv}{w0:World}(h:fK c0 w0 c w)(hs:cO M w c σ)(hN:c0.N=base)(hb:base≤σ.length):fK c0 w0 (c.sealUp base (gc base σ)) w where
 sld:=fun b hb=>.inl (h.sld b hb)
 bor:=fun b hb=>.inl (h.bor b hb)
 rest:=h.rest
 N:=by show c0.N≤(gc base σ).length;rw[o5 hb,hN];exact aes _
 head:=fun id hid=>by
  show (c0.H id).le (hd (gc base σ) id);rcases oK (σ:=σ) (show id<base by omega) hb with h'|h'
  ·rw[h',←hs.H];exact h.head id hid
  rw[h'];exact .inr (.inl rfl)
 place:=fun id hid hq hd'=>by
  refine h.place id hid ?_ hd';have hq':c0.H id=hd (gc base σ) id:=hq;rcases oK (σ:=σ) (show id<base by omega) hb with h'|h'
  ·rw[hq',h',←hs.H]
  exact absurd (hq'.trans h') hd'
 same:=h.same
 size:=h.size
 frame:=h.frame
 old:=fun b h1 hx=>by
  rcases h1 with h1|⟨id,_,h2,h3⟩
  ·exact h.old b h1 hx
  exact .inr (h.liv id b h2 h3 hx)
 oldb:=fun b h1 hx=>by
  rcases h1 with h1|⟨id,_,h2,h3⟩
  ·exact h.oldb b h1 hx
  exact .inr (h.liv id b h2 h3 hx)
 liv:=fun id b h1 h2 hx=>by
  refine h.liv id b ?_ h2 hx;have h1':hd (gc base σ) id≠.dead:=h1;have hlt:=DH h1';rw[o5 hb]at hlt;rcases oK (σ:=σ) hlt hb with h'|h'
  ·rw[hs.H,←h'];exact h1'
  exact absurd h' h1'
theorem Ki{e:Nat}:∀{l:List Nat} {env:List aa},kr (clear env l) e=kr env e∨kr (clear env l) e=.any
 |[],_=>.inl rfl
 |i::r,env=>by
  simp only[clear];rcases Ki (e:=e) (l:=r) (env:=env.set i .any) with h|h
  ·rw[h];by_cases hi:i=e
   ·subst hi;unfold kr;rw[atk];simp only[aml];split
    ·exact .inr rfl
    exact .inr rfl
   exact .inl (zJ hi)
  exact .inr h
theorem iL.clear{env:List aa}{em:List Tmp}{tmps:Array Value}(h:iL M w c env [] (uM em) tmps)(l:List Nat):iL M w c (clear env l) [] (uM em) tmps:=fun t x hx=>by
 have hr:=h t x hx;unfold uM at hx;obtain⟨e,_,rfl⟩:=aQ hx;show R M w c (kr (Go.AM.clear env l) e) _;rcases Ki (e:=e) (l:=l) (env:=env) with h'|h'
 ·rw[h'];exact hr
 rw[h'];exact .any
theorem Un{c0:bv}{w0:World}{s:St}{em:List Tmp}{tmps:Array Value}{clr:List Nat}(hs:cO M w c s.st)(hst:fK c0 w0 c w)(hN:c0.N=base)(ht:iL M w c s.env [] (uM em) tmps) :
  ∃c',cO M w c' (ar base clr s).st∧fK c0 w0 c' w∧iL M w c' (ar base clr s).env [] (uM em) tmps ∧
   ∀r,¬c.bor r→(∀id,c.H id≠.dead→c.place id≠some r)→¬c'.bor r∧∀id,c'.H id≠.dead→c'.place id≠some r:=by
 have hb:base≤s.st.length:=by rw[←hN,←hs.N];exact hst.N
 unfold ar;split
 ·exact⟨c,hs,hst,ht.clear clr,fun r h1 h2=>⟨h1,h2⟩⟩
 refine⟨c.sealUp base (gc base s.st),hs.sealUp hb,hst.sealUp hs hN hb,fun t x hx=>?_,fun r h1 h2=>⟨fun h=>?_,fun id hl=>?_⟩⟩
 rotate_left
 ·rcases h with h|⟨id,_,h3,h4⟩
  ·exact h1 h
  exact h2 id h3 h4
 ·have hl':hd (gc base s.st) id≠.dead:=hl;have hlt:=DH hl';rw[o5 hb]at hlt;refine h2 id ?_;rcases oK (σ:=s.st) hlt hb with h'|h'
  ·rw[hs.H,←h'];exact hl'
  exact absurd h' hl'
 have hr:=(ht.clear clr) t x hx;unfold uM at hx;obtain⟨e,_,rfl⟩:=aQ hx;have hr':R M w c (kr (Go.AM.clear s.env clr) e) (tmps.getD t undef):=hr;show R M w _ (kr ((Go.AM.clear s.env clr).map (aZ base s.st)) e) _;have e1:kr ((Go.AM.clear s.env clr).map (aZ base s.st)) e=aZ base s.st (kr (Go.AM.clear s.env clr) e)∨kr ((Go.AM.clear s.env clr).map (aZ base s.st)) e=.any:=by
  unfold kr;rw[ate];cases (Go.AM.clear s.env clr)[e]? with
  |none=>exact .inr rfl
  |some v=>exact .inl rfl
 rcases e1 with e1|e1
 ·rw[e1];exact Li hs (mL hs hb) bQ true _ _ hr'
 rw[e1];exact .any
end Go.AM
namespace Go.AM
variable {M:bw} {P:Program} {w w':World} {c c':bv} {σ:ah}
structure gk (n0:Nat) (w:World) (c:bv) (r:Nat):Prop where
 new:n0≤r
 at_:w.heap[r]?=some (.deferred (some []))
 bor:¬c.bor r
 place:∀id,c.H id≠.dead→c.place id≠some r
theorem gk.lt{n0 r:Nat}(h:gk n0 w c r):r<w.heap.size:=(ak4.1 h.at_).1
theorem gk.stp{n0 r:Nat}(h:gk n0 w c r)(hst:fK c w c' w'):gk n0 w' c' r where
 new:=h.new
 at_:=by rw[hst.frame r h.lt h.place];exact h.at_
 bor:=fun hb=>by
  rcases hst.oldb r hb h.lt with hb|⟨i,h1,h2⟩
  ·exact h.bor hb
  exact h.place i h1 h2
 place:=fun id h1 h2=>by
  obtain⟨i,a1,a2⟩:=hst.liv id r h1 h2 h.lt;exact h.place i a1 a2
def lQ(n0:Nat)(w:World)(c:bv):List Deferred→Prop
 |[]=>True
 |d::ds=>(∃r,d.target=.collected r∧gk n0 w c r∧∀d'∈ds,d'.target≠.collected r)∧lQ n0 w c ds
theorem lQ.stp{n0:Nat}(hst:fK c w c' w'):∀{ds:List Deferred},lQ n0 w c ds→lQ n0 w' c' ds
 |[],_=>trivial
 |_::_,⟨⟨r,h1,h2,h3⟩,h⟩=>⟨⟨r,h1,h2.stp hst,h3⟩,h.stp hst⟩
theorem lQ.same{n0:Nat}(h:∀r,¬c.bor r→(∀id,c.H id≠.dead→c.place id≠some r)→¬c'.bor r∧∀id,c'.H id≠.dead→c'.place id≠some r):∀{ds:List Deferred},lQ n0 w c ds→lQ n0 w c' ds
 |[],_=>trivial
 |_::_,⟨⟨r,h1,h2,h3⟩,hm⟩=>⟨⟨r,h1,⟨h2.new,h2.at_,(h r h2.bor h2.place).1,(h r h2.bor h2.place).2⟩,h3⟩,hm.same h⟩
theorem lQ.lt{n0:Nat}:∀{ds:List Deferred},lQ n0 w c ds→∀d∈ds,∃r,d.target=.collected r∧r<w.heap.size
 |_::_,⟨⟨r,h1,h2,_⟩,h⟩,d,hd=>by
  rcases arm.1 hd with rfl|hd
  ·exact⟨r,h1,h2.lt⟩
  exact h.lt d hd
theorem fK.hid{c0:bv}{w0:World}{r:Nat}{o:Go.Obj}(h:fK c0 w0 c w)(hs:cO M w c σ)(hr:gk w0.heap.size w c r)(hw:sJ w w' r o):cO M w' c σ∧Ext c w c w'∧fK c0 w0 c w':=by
 have hne:∀b,(c.bor b∨∃id,c.H id≠.dead∧c.place id=some b)→b≠r:=fun b hb e=>by
  subst e;rcases hb with hb|⟨i,h1,h2⟩
  ·exact hr.bor hb
  exact hr.place i h1 h2
 obtain⟨a1,a2⟩:=hs.over (w':=w') (fun b _ hb=>by rw[hw.get b hr.lt,if_neg (hne b hb)]) (by rw[hw.size];exact aes _);refine⟨a1,a2,{ Ext.trans h.toExt a2 with
  same:=h.same.trans hw.toSame
  size:=by rw[hw.size];exact h.size
  frame:=fun b hb hn=>by
   rw[hw.get b hr.lt,if_neg (by have:=hr.new;omega)];exact h.frame b hb hn
  liv:=h.liv
  old:=h.old
  oldb:=h.oldb }⟩
theorem lQ.over{n0 r:Nat}{o:Go.Obj}(hlt:r<w.heap.size)(hw:sJ w w' r o):∀{ds:List Deferred},(∀d∈ds,d.target≠.collected r)→lQ n0 w c ds→lQ n0 w' c ds
 |[],_,_=>trivial
 |d::ds,hn,⟨⟨q,h1,h2,h3⟩,h⟩=>by
  refine⟨⟨q,h1,⟨h2.new,?_,h2.bor,h2.place⟩,h3⟩,h.over hlt hw fun d' hd'=>hn d' (aer _ hd')⟩;rw[hw.get q hlt,if_neg]
  ·exact h2.at_
  intro e;subst e;exact hn d aoQ h1
theorem Bc{F:Fence}{n:Nat}{fn:Func}{tmps:Array Value}{c0:bv}{w0:World}{R:Ending→World→Prop}:∀(ds:List Deferred) (w:World),cO M w c σ→fK c0 w0 c w→lQ w0.heap.size w c ds →
  (∀w',cO M w' c σ→Ext c w c w'→fK c0 w0 c w'→∃v,(Go.results fn tmps).run P w'=.ok v w'∧R (.returned v) w')→LeavesInM F n P fn tmps R ds .returning w
 |[],w,hs,hst,_,h=>h w hs (.refl c w) hst
 |d::ds,w,hs,hst,⟨⟨r,h1,h2,h3⟩,hm⟩,h=>by
  have hset:sJ w (w.putObj r (.deferred none)) r (.deferred none):=⟨⟨rfl,rfl,rfl,aes _⟩,rfl⟩;obtain⟨a1,a2,a3⟩:=hst.hid hs h2 hset;exact⟨by simp,.inl ⟨r,_,h1,run_takeDeferred h2.at_,Bc ds _ a1 a3 (hm.over h2.lt hset h3) fun w' b1 b2 b3=>h w' b1 (a2.trans b2) b3⟩⟩
theorem cO.drop(hs:cO M w c σ){id b:Nat}{o:Go.Obj}(hl:c.H id≠.dead)(hb:c.place id=some b)(hw:sJ w w' b o) :
  cO M w' { c with H:=hd (σ.set id .dead) } (σ.set id .dead)∧fK c w { c with H:=hd (σ.set id .dead) } w':=by
 have hlt:=(hs.plow id b hl hb).1;have hh:∀i,hd (σ.set id .dead) i=if i=id then .dead else hd σ i:=fun i=>by
  by_cases e:i=id
  ·subst e;rw[if_pos rfl];unfold hd;rw[atk];simp only[aml];split<;>rename_i h<;>split at h<;>simp_all
  rw[if_neg e,fL e]
 have live:∀i,hd (σ.set id .dead) i≠.dead→c.H i≠.dead∧i≠id:=fun i h=>by
  rw[hh]at h;split at h
  ·exact absurd rfl h
  rw[hs.H];exact⟨h,by assumption⟩
 have hext:Ext c w { c with H:=hd (σ.set id .dead) } w':=⟨fun _ h=>h,fun _ h=>h,fun x hx=>by
  rw[hw.get x hlt,if_neg];rintro rfl;exact (hs.plow id x hl hb).2 (hx.elim (fun h=>h) (hs.sb x)),aes _,fun i hi=>by
  show (c.H i).le (hd (σ.set id .dead) i);rw[hh];split
  ·exact .inr (.inl rfl)
  exact .inl (by rw[hs.H]),fun i hi h hne=>⟨rfl,rfl,rfl⟩⟩
 refine⟨⟨rfl,by rw[auF];exact hs.N,hs.sb,fun x hx=>by rw[hw.size];exact hs.low x hx,fun i x h1 h2=>?_,fun i j x hi hj=>hs.inj i j x (live i hi).1 (live j hj).1,fun i o' ho=>?_⟩,{ hext with same:=hw.toSame,size:=by rw[hw.size];exact aes _,frame:=fun x hx hn=>?_,liv:=fun i x h1 h2 _=>⟨i,(live i h1).1,h2⟩,old:=fun _ h _=>.inl h,oldb:=fun _ h _=>.inl h }⟩
 ·obtain⟨p1,p2⟩:=hs.plow i x (live i h1).1 h2;exact⟨by rw[hw.size];exact p1,p2⟩
 ·by_cases e:i=id
  ·subst e;rw[atk]at ho;simp only[aml]at ho;split at ho
   ·cases ho;trivial
   cases ho
  rw[atz (fun h=>e h.symm)]at ho;refine (hs.obj i o' ho).ext hext (fun _=>⟨rfl,rfl,rfl⟩) fun hnd x hx=>?_;rw[hw.get x hlt,if_neg];rintro rfl;exact e (hs.inj i id x (by rw[hs.H];exact fun h=>hnd ((mI ho).1 h)) hl hx hb)
 rw[hw.get x hlt,if_neg (fun e=>hn id hl (by subst e;exact hb))]
theorem cO.pend(hs:cO M w c σ){id b:Nat}{bz bz':Bool}{j j':Option Ex}{o:Go.Obj}(ho:σ[id]?=some (.pend bz j))(hb:c.place id=some b)(hw:sJ w w' b o)
  (hobj:o=.loop (match bz',j' with
    |true,_=>mQ (c.loops id) .busy none
    |false,none=>mQ (c.loops id) .ready none
    |false,some e=>mQ (c.loops id) .done (pM e))) :
  cO M w' c (σ.set id (.pend bz' j'))∧fK c w c w':=by
 have hl:c.H id≠.dead:=by rw[hs.H,cU ho];simp
 have hlt:=(hs.plow id b hl hb).1;have hext:Ext c w c w':=⟨fun _ h=>h,fun _ h=>h,fun x hx=>by
  rw[hw.get x hlt,if_neg];rintro rfl;exact (hs.plow id x hl hb).2 (hx.elim (fun h=>h) (hs.sb x)),aes _,fun i hi=>.inl rfl,fun i hi h hne=>⟨rfl,rfl,rfl⟩⟩
 have hsz:id<σ.length:=(aaN.1 ho).1;have hself:(σ.set id (.pend bz' j'))[id]?=some (.pend bz' j'):=by simp[hsz]
 have hH:hd (σ.set id (.pend bz' j'))=hd σ:=by
  funext i;by_cases e:i=id
  ·subst e;rw[cU hself,cU ho]
  rw[fL e]
 refine⟨⟨by rw[hH];exact hs.H,by rw[auF];exact hs.N,hs.sb,fun x hx=>by rw[hw.size];exact hs.low x hx,fun i x h1 h2=>?_,hs.inj,fun i o' ho'=>?_⟩,fK.setB hs hl hb hw hext⟩
 ·obtain⟨p1,p2⟩:=hs.plow i x h1 h2;exact⟨by rw[hw.size];exact p1,p2⟩
 by_cases e:i=id
 ·subst e;rw[hself]at ho';cases ho';exact⟨b,hb,by rw[hw.get b hlt,if_pos rfl,hobj];cases bz'<;>cases j'<;>rfl⟩
 rw[atz (fun h=>e h.symm)]at ho';refine (hs.obj i o' ho').ext hext (fun _=>⟨rfl,rfl,rfl⟩) fun hnd x hx=>?_;rw[hw.get x hlt,if_neg];rintro rfl;exact e (hs.inj i id x (by rw[hs.H];exact fun h=>hnd ((mI ho').1 h)) hl hx hb)
end Go.AM
namespace Go.AM
variable {M:bw} {P:Program}
section
variable {F:Fence} {n:Nat} {Q:Exit→Act→World→Prop} {a:Act} {w:World}
theorem kE{b:Frame}{k:List Item}{cs:List Frame}{c:Go.Code}:Go.step P (lone (b.atR a (.code (.scope c)::k)) cs w)=.next (lone (b.atR a (.code c::.inScope c::k)) cs w):=
 step_lone_go (by simp[stepG,stepG.exec,Frame.atR])
theorem IX{b:Frame}{k:List Item}{cs:List Frame}{c:Go.Code}:Go.step P (lone (b.atR a (.inScope c::k)) cs w)=.next (lone (b.atR a k) cs w):=
 step_lone_go (by simp[stepG,stepG.exec,Frame.atR])
theorem SS{c:Go.Code}(h:c.wpIn F n P (Exit.noGoto Q) a w):(Go.Code.scope c).wpIn F n P Q a w:=by
 intro b k cs hro hb hr;have h0:(lone (b.atR a (.code (.scope c)::k)) cs w).fenced P F:=fenced_calm hb hr rfl;obtain⟨e,a₁,w₁,hq,harr⟩:=h b (.inScope c::k) cs hro hb hr;cases e with
 |normal=>exact⟨.normal,a₁,w₁,hq,.head h0 kE (StepsIn.trans harr (.one (fenced_calm hb hr rfl) IX))⟩
 |exit id=>
  have hx:exitTo id (.inScope c::k)=exitTo id k:=by simp[exitTo]
  exact⟨.exit id,a₁,w₁,hq,fun k' hk=>.head h0 kE (harr.1 k' (by rw[hx];exact hk)),
   fun hr' hk=>let ⟨k₁,h1,h2⟩:=harr.2 hr' (by rw[hx];exact hk);⟨k₁,h1,.head h0 kE h2⟩⟩
 |goto l=>exact hq.elim
 |ret=>exact⟨_,a₁,w₁,hq,.of_steps (.one h0 kE) harr⟩
 |panic ch=>exact⟨_,a₁,w₁,hq,.of_steps (.one h0 kE) harr⟩
 |outgrown=>exact⟨_,a₁,w₁,hq,.of_steps (.one h0 kE) harr⟩
end
def TD:Ex→Exit
 |.nrm=>.normal
 |.ext id=>.exit id
 |.ret=>.ret
def DD:Go.Code→Bool
 |.skip=>true
 |.label _=>true
 |_=>false
inductive dA (M:bw) (P:Program) (bh:Nat→Bool) (em:List Tmp) (nt:Nat) (top:Bool):Go.Code→ai→Prop
 |nop {c}:DD c=true→dA M P bh em nt top c .skip
 |text {id ops ins os its}:uu M P bh ops ins em its (fun i=>2^i-1) [] none nt→t8 ops.toList em its os=true→dA M P bh em nt top (.region id ops false) (.reg ins os)
 |any {id ops ins os its bef late}:uu M P bh ops ins em its bef [] late nt→Wl ops bef→t8 ops.toList em its os=true→dA M P bh em nt top (.region id ops true) (.reg ins os)
 |anyd {id ops ins os its bef chk late}:uu M P bh ops ins em its bef chk late nt→Wl ops bef→t8 ops.toList em its os=true→dA M P bh em nt top (.region id ops true) (.regd ins os chk)
 |seq {a b x y}:dA M P bh em nt top a x→dA M P bh em nt top b y→dA M P bh em nt top (.seq a b) (.seq x y)
 |left {a b x}:DD b=true→dA M P bh em nt top a x→dA M P bh em nt top (.seq a b) x
 |right {a b y}:DD a=true→dA M P bh em nt top b y→dA M P bh em nt top (.seq a b) y
 |cond {t a b t' x y}:jo M (uM em) t t'=true→dA M P bh em nt top a x→dA M P bh em nt top b y→dA M P bh em nt top (.cond t a b) (.cond t' x y)
 |blk {id a x}:dA M P bh em nt top a x→dA M P bh em nt top (.block id a) (.blk id x)
 |loop {clr a x}:dA M P bh em nt top a x→dA M P bh em nt top (.loop a) (.loop clr x)
 |exit {id}:dA M P bh em nt top (.exit id) (.exit id)
 |ret:dA M P bh em nt top .ret .ret
 |scope {a x}:dA M P bh em nt top a x→dA M P bh em nt top (.scope a) (.scope x)
 |lift {c x i off k}:dA M P bh em nt top c x→dA M P bh em nt top c (.lift i off k x)
 |rng {g ps assign body f site n}:top=true→jo M (uM em) g f=true→em.Nodup→(∀t∈em,t<nt)→n=em.length →
   (∀fn tmps defers,nt≤tmps.size→M.site site ⟨fn,tmps,ps,assign,body,defers⟩ em)→dA M P bh em nt top (.rangeFunc g ps assign body) (.rng n f site)
structure SR (M:bw) (em:List Tmp) (nt m0:Nat) (c:bv) (w:World) (s:St) (a:Act):Prop where
 sim:cO M w c s.st
 tmp:iL M w c s.env [] (uM em) a.tmps
 size:nt≤a.tmps.size
 base:m0≤w.heap.size
 marks:lQ m0 w c a.defers
section
variable {bh:Nat→Bool} {em:List Tmp} {nt:Nat} {top:Bool} {C:ec} {n:Nat} {F:Fence} {n0:Nat}
theorem Td{c:Go.Code}(h:DD c=true){Q:Exit→Act→World→Prop}{a:Act}{w:World}(hq:Q .normal a w):c.wpIn F n0 P Q a w:=by
 cases c<;>simp[DD]at h
 ·exact wpIn_skip hq
 exact wpIn_label hq
theorem Aq{p:Nat→Prop}(h:∃k,p k):∃k,p k∧∀j,p j→k≤j:=by
 obtain⟨k,hk⟩:=h;induction k using Nat.strongRecOn with
 |_ k ih=>
  by_cases hl:∃j,j<k∧p j
  ·obtain⟨j,h1,h2⟩:=hl;exact ih j h1 h2
  exact⟨k,hk,fun j hj=>Nat.le_of_not_lt fun hlt=>hl ⟨j,hlt,hj⟩⟩
open Classical in
noncomputable def HG(p:Nat→Prop):Nat:=if h:∃k,p k∧∀j,p j→k≤j then Classical.choose h else 0
theorem TS{p:Nat→Prop}(h:∃k,p k):p (HG p):=by
 have h':=Aq h;unfold HG;rw[dif_pos h'];exact (avd h').1
theorem acX{p:Nat→Prop}{k:Nat}(h:p k):HG p≤k:=by
 have h':=Aq ⟨k,h⟩;unfold HG;rw[dif_pos h'];exact (avd h').2 k h
def abx(M:bw)(P:Program)(em:List Tmp)(nt:Nat)(F:Fence)(n0:Nat)(f:St→Option (Ex×St))(code:Go.Code):Prop:=
 ∀(s:St) (e:Ex) (s':St),f s=some (e,s')→∀(m0:Nat) (c0:bv) (w0:World) (a0:Act),fT M w0 c0→SR M em nt m0 c0 w0 s a0→∀Q:Exit→Act→World→Prop,
  (∀a w c,SR M em nt m0 c w s' a→fK c0 w0 c w→Q (TD e) a w)→code.wpIn F n0 P Q a0 w0
theorem Uh{f:St→Option (Ex×St)}{code:Go.Code}(h:abx M P em nt F n0 f code)(clr:List Nat)(k0:Nat):abx M P em nt F n0 (fun s=>mN s.st.length clr f k0 ⟨clear s.env clr,s.st⟩) (.loop code):=by
 intro s e s' hr m0 c0 w0 a0 hg hs Q hQ;have hN:c0.N=s.st.length:=hs.sim.N
 let J:Nat→Act→World→Prop:=fun k a w=>∃s1 c,SR M em nt m0 c w s1 a∧fK c0 w0 c w∧mN s.st.length clr f k s1=some (e,s')
 have hJ0:J k0 a0 w0:=⟨⟨clear s.env clr,s.st⟩,c0,⟨hs.sim,hs.tmp.clear clr,hs.size,hs.base,hs.marks⟩,.refl c0 w0,hr⟩;refine wpIn_loop (fun a w=>∃k,J k a w) (fun a w=>HG fun k=>J k a w) ⟨k0,hJ0⟩ fun a w hI=>?_;have hk:J (HG fun k=>J k a w) a w:=TS (p:=fun k=>J k a w) hI;generalize hke:(HG fun k=>J k a w)=k at hk;obtain⟨s1,c,hs1,hst,hl⟩:=hk;cases k with
 |zero=>simp[mN]at hl
 |succ k=>
  simp only[mN]at hl;obtain⟨⟨e1,s2⟩,h1,h2⟩:=aS hl;refine h s1 e1 s2 h1 m0 c w a (hg.ext hst.toExt) hs1 _ fun a' w' c' hs2 hst2=>?_;cases e1 with
  |nrm=>
   obtain⟨c'',r1,r2,r3,r4⟩:=Un (clr:=clr) hs2.sim (hst.trans hst2) hN hs2.tmp;have hJ:J k a' w':=⟨_,c'',⟨r1,r3,hs2.size,hs2.base,hs2.marks.same r4⟩,r2,h2⟩;refine⟨⟨k,hJ⟩,?_⟩;exact Nat.lt_succ_of_le (acX (p:=fun k=>J k a' w') hJ)
  |ext id=>
   simp only[afV,atP]at h2;obtain⟨rfl,rfl⟩:=h2;exact hQ a' w' c' hs2 (hst.trans hst2)
  |ret=>
   simp only[afV,atP]at h2;obtain⟨rfl,rfl⟩:=h2;exact hQ a' w' c' hs2 (hst.trans hst2)
theorem WG{w:World}{c:bv}{env:List aa}{a:Act}{x:Operand}{x':bp}(ht:iL M w c env [] (uM em) a.tmps)(hg:fT M w c)(h:jo M (uM em) x x'=true):R M w c (x'.eval env []) (a.eval x):=Jt ht hg h
theorem Cp{α:Type}{l:List α}(h:l.Nodup){i j:Nat}(hi:i<l.length)(hj:j<l.length)(e:l[i]=l[j]):i=j:=by
 have hp:=auQ.1 h;rcases aue i j with hlt|heq|hlt
 ·exact absurd e (hp i j hi hj hlt)
 ·exact heq
 exact absurd e.symm (hp j i hj hi hlt)
theorem fU.ext{w w':World}{c c':bv}{xs:List aa}{A:Array Value}(h:fU M w c xs A)(he:Ext c w c' w'):fU M w' c' xs A:=
 ⟨h.1,fun i hi=>let ⟨x,h1,h2⟩:=h.2 i hi;⟨x,h1,h2.ext he⟩⟩
theorem XE(hC:gK M P C)(hF:pZ F)(hro:F.round=none){g:Operand}{ps:Array Tmp}{assign body:Go.Code}{f:bp}{site:Nat}(hf:jo M (uM em) g f=true)(hnd:em.Nodup)(hnt:∀t∈em,t<nt){s s':St}{e:Ex}(hlen:s.env.length=em.length)
  (hsite:∀fn tmps defers,nt≤tmps.size→M.site site ⟨fn,tmps,ps,assign,body,defers⟩ em) {v:aa} {σ':ah} (h1:IA C (f.eval s.env []) [.yld s.st.length site s.env] (s.st++[.pend false none])=some (v,σ'))
  (h2:tM s.st.length s.env σ'=some (e,s')) {m0:Nat} {c0:bv} {w0:World} {a0:Act} (hg:fT M w0 c0) (hs:SR M em nt m0 c0 w0 s a0) (Q:Exit→Act→World→Prop)
  (hQ:∀a w c,SR M em nt m0 c w s' a→fK c0 w0 c w→Q (TD e) a w):(Go.Code.rangeFunc g ps assign body).wpIn F n0 P Q a0 w0:=by
 have hfv:=WG (env:=s.env) hs.tmp hg hf;unfold IA at h1;split at h1
 ·rename_i f0 first cap hfe
  rw[hfe]at hfv;obtain⟨fs,cs,he,hfirst,hcap⟩:=Gv hfv;apply wpIn_rangeFunc;intro fn hfn;generalize hrec:(⟨fn,a0.tmps,ps,assign,body,w0.heap.size⟩:ia)=rec;have hent:=run_enterLoop_outer (P:=P) (w:=w0) fn a0.tmps ps assign body;rw[hro]
  have hd1:∀b,b<w0.heap.size→(iH w0 (.deferred (some []))).heap[b]?=w0.heap[b]?:=fun b hb=>eT hb;obtain⟨s1,x1⟩:=hs.sim.over (w':=iH w0 (.deferred (some []))) (fun b hb _=>eT hb) (by rw[dq];omega);have st1:fK c0 w0 c0 (iH w0 (.deferred (some []))):={ x1 with same:=lV,size:=by rw[dq];omega,frame:=fun b hb _=>eT hb,liv:=fun i b h1 h2 _=>⟨i,h1,h2⟩,old:=fun _ h _=>.inl h,oldb:=fun _ h _=>.inl h };generalize hw1:iH w0 (.deferred (some []))=w1 at s1 x1 st1;have hz1:w1.heap.size=w0.heap.size+1:=by rw[←hw1,dq]
  have hgw:∀b,b<w1.heap.size→(iH w1 (.loop (mQ rec .ready none))).heap[b]?=w1.heap[b]?:=fun b hb=>eT hb;have s2:cO M (iH w1 (.loop (mQ rec .ready none))) (c0.grow (s.st++[.pend false none]) (some w1.heap.size) 0 rec) (s.st++[.pend false none]):=by
   refine s1.grow _ _ _ _ hgw (by rw[dq];omega) (fun b hb=>by cases hb;rw[dq];omega) ⟨w1.heap.size,by simp[bv.grow,s1.N],?_⟩;rw[pL];simp[bv.grow,s1.N]
  have st2:fK c0 w1 (c0.grow (s.st++[.pend false none]) (some w1.heap.size) 0 rec) (iH w1 (.loop (mQ rec .ready none))):=
   fK.grow s1 _ _ _ _ lV hgw (by rw[dq];omega) (fun b hb=>by cases hb;exact aes _)
  have hN:c0.N=s.st.length:=hs.sim.N;have hl2:(c0.grow (s.st++[.pend false none]) (some w1.heap.size) 0 rec).loops s.st.length=rec:=by simp[bv.grow,hN]
  have hp2:(c0.grow (s.st++[.pend false none]) (some w1.heap.size) 0 rec).place s.st.length=some w1.heap.size:=by simp[bv.grow,hN]
  have hH2:(c0.grow (s.st++[.pend false none]) (some w1.heap.size) 0 rec).H s.st.length=.pend:=by
   show hd (s.st++[.pend false none]) s.st.length=_;rw[cU kc]
  have hN2:s.st.length<(c0.grow (s.st++[.pend false none]) (some w1.heap.size) 0 rec).N:=by simp[bv.grow]
  generalize hc2:c0.grow (s.st++[.pend false none]) (some w1.heap.size) 0 rec=c2 at s2 st2 hl2 hp2 hH2 hN2;generalize hw2:iH w1 (.loop (mQ rec .ready none))=w2 at s2 st2;have st02:=st1.trans st2;have hyld:R M w2 c2 (.yld s.st.length site s.env) (.func (.yield w1.heap.size) #[] #[]):=by
   refine .yld (em:=em) (fun i=>a0.tmps.getD (em.getD i 0) undef) hN2 hH2 hp2 ?_ hlen.symm ?_ ?_
   ·rw[hl2,←hrec];exact hsite _ _ _ hs.size
   ·intro i hi hx;have hlt:em[i]<a0.tmps.size:=aju (hnt _ (agL hi)) hs.size;rw[hl2,←hrec];show a0.tmps[em[i]]?=_;simp[Array.getD,hi,hlt]
   intro i hi;have hi':i<em.length:=by omega
   have hr:=hs.tmp em[i] (.env i) (by
    unfold uM;rw[show em.idxOf? em[i]=some i by
     rw[List.idxOf?,atm];refine⟨hi',by simp,fun j hj=>?_⟩;simp only[afE];exact fun e=>absurd (Cp hnd _ _ e) (by omega)]
    rfl)
   have e1:(bp.env i).eval s.env []=s.env[i]:=by
    show kr s.env i=_;unfold kr;rw[ad3 hi];rfl
   rw[e1]at hr;simpa [List.getD,hi'] using hr.ext st02.toExt
  have hargs:fU M w2 c2 (first++[.yld s.st.length site s.env]++cap) (fs++#[.func (.yield w1.heap.size) #[] #[]]++cs):=
   ((fU.ext hfirst st02.toExt).append ⟨rfl,fun i hi=>by
    have:i=0:=by simpa using hi
    subst this;exact⟨_,rfl,hyld⟩⟩).append (fU.ext hcap st02.toExt)
  have hcall:=hC f0 _ _ v σ' h1 F (n0-1) w2 c2 _ hF s2 (hg.ext st02.toExt) hargs;have henter:=hcall.2 ⟨.yld s.st.length site s.env,by simp,rfl⟩ (fs++#[.func (.yield w1.heap.size) #[] #[]]++cs) w2;have hin:CallsIn F (n0-1) P (M.fm f0) (fs++#[.func (.yield w1.heap.size) #[] #[]]++cs) w2 fun e w'=>∃cv,e=.returned cv∧dR M c2 w2 σ' v cv w':=by
   rcases hcall.1 with⟨_,h⟩|⟨cv,w',h,_⟩
   ·exact h
   rw[henter]at h;cases h
  refine⟨w0.heap.size+1,[{ target:=.collected w0.heap.size,args:=#[] }],w2,{ target:=.fn (.func (M.fm f0)) cs,args:=fs++#[.func (.yield w1.heap.size) #[] #[]] },w2,M.fm f0,_,w2,?_,?_,fun f' _=>hF.fn f',?_,fun h=>absurd h (by rw[hF.depth];simp),hin.mono ?_⟩
  ·rw[hent,←hw2,←hw1,←hrec];rfl
  ·have:a0.eval g=.func (.func (M.fm f0)) fs cs:=he;simp only[rangeCall,Go.resolve,this,Deferred.ofValue,hz1];show Sem.run P (pure (⟨Target.fn (Fn.func (M.fm f0)) cs,fs++(#[Operand.const (Value.func (Fn.yield (w0.heap.size+1)) #[] #[])].map a0.eval)⟩:Deferred)) w2=_;simp[Act.eval]
  ·exact henter
  intro e' w' ⟨cv,hcv,c3,s3,st3,_⟩;subst hcv
  have hst3:∃j,σ'[s.st.length]?=some (.pend false j)∧e=(match j with|none=>.nrm|some e=>e)∧s'=⟨s.env,σ'.set s.st.length .dead⟩:=by
   unfold tM at h2;split at h2
   ·cases h2;exact⟨none,by assumption,rfl,rfl⟩
   ·cases h2;exact⟨some _,by assumption,rfl,rfl⟩
   cases h2
  obtain⟨j,hj,hej,hs'⟩:=hst3;have hH3:c3.H s.st.length=.pend:=by rw[s3.H,cU hj]
  obtain⟨p1,p2,p3⟩:=st3.place s.st.length hN2 (by rw[hH2,hH3]) (by rw[hH2];simp);obtain⟨b,b1,b2⟩:=s3.obj _ _ hj;rw[p1,hp2]at b1;cases b1;rw[p3,hl2]at b2;have hl3:c3.H s.st.length≠.dead:=by rw[hH3];simp
  have hp3:c3.place s.st.length=some w1.heap.size:=by rw[p1,hp2]
  obtain⟨r,hrr,hnb,hpend⟩:∃r:Loop,w'.heap[w1.heap.size]?=some (.loop r)∧r.state≠.busy∧r.pending=pM e:=by
   refine⟨_,b2,?_,?_⟩
   ·cases j<;>simp[mQ]
   rw[hej];cases j with
   |none=>rfl
   |some e=>rfl
  have hend:=run_endLoop (P:=P) hrr hnb;have hset:sJ w' (w'.putObj w1.heap.size (.loop { r with state:=.exhausted })) w1.heap.size (.loop { r with state:=.exhausted }):=⟨⟨rfl,rfl,rfl,aes _⟩,rfl⟩;obtain⟨s4,st4⟩:=s3.drop hl3 hp3 hset;have st:=(st02.trans st3).trans st4;have hmk:lQ m0 w2 c2 ({ target:=.collected w0.heap.size,args:=#[] }::a0.defers):=by
   refine⟨⟨w0.heap.size,rfl,⟨hs.base,?_,?_,?_⟩,fun d hd e=>?_⟩,hs.marks.stp st02⟩
   ·rw[←hw2,eT (by omega),←hw1,pL]
   ·rw[←hc2];exact fun h=>absurd (hs.sim.low _ h) (by omega)
   ·intro id hl hpl;obtain⟨i,i1,i2⟩:=st2.liv id _ hl hpl (by omega);exact absurd (hs.sim.plow i _ i1 i2).1 (by omega)
   obtain⟨q,q1,q2⟩:=hs.marks.lt d hd;rw[q1]at e;cases e;omega
  have hfin:SR M em nt m0 _ (w'.putObj w1.heap.size (.loop { r with state:=.exhausted })) s' { a0 with defers:=[{ target:=.collected w0.heap.size,args:=#[] }]++a0.defers }:=
   ⟨by rw[hs'];exact s4,by rw[hs'];exact fun t x hx=>(hs.tmp t x hx).ext st.toExt,hs.size,als hs.base st.size,hmk.stp (st3.trans st4)⟩
  have hq:=hQ _ _ _ hfin st;generalize w'.putObj w1.heap.size (.loop { r with state:=.exhausted })=W at hend hq;rw[hpend,hz1]at hend;refine⟨pM e,W,hend,?_⟩;cases e with
  |nrm=>exact hq
  |ext id=>exact wpIn_exit hq
  |ret=>exact wpIn_ret hq
 cases h1
theorem cO.reval{w:World}{c:bv}{σ:ah}(hs:cO M w c σ){id k ep:Nat}{es es':List aa}(ho:σ[id]?=some (.arr k ep es))(hl:es'.length=es.length)(hn:∀x∈es',aw x=k)
  (hr:∀f:Nat→Nat→Value,(∀i (hi:i<es.length) j (hj:j<(cellsOf es[i]).length),R M w c (cellsOf es[i])[j] (f i j))→∀i (hi:i<es'.length) j (hj:j<(cellsOf es'[i]).length),R M w c (cellsOf es'[i])[j] (f i j)) :
  cO M w c (σ.set id (.arr k ep es')):=by
 have hsz:id<σ.length:=(aaN.1 ho).1;have hself:(σ.set id (.arr k ep es'))[id]?=some (.arr k ep es'):=by simp[hsz]
 have hH:hd (σ.set id (.arr k ep es'))=hd σ:=by
  funext i;by_cases e:i=id
  ·subst e;rw[cU hself,cU ho]
  rw[fL e]
 refine⟨by rw[hH];exact hs.H,by rw[auF];exact hs.N,hs.sb,hs.low,hs.plow,hs.inj,fun i o hoi=>?_⟩;by_cases e:i=id
 ·subst e;rw[hself]at hoi;cases hoi;obtain⟨o1,o2,o3,o4⟩:=hs.obj i _ ho;refine⟨o1,hn,fun hp=>ahc (by rw[hl,o3 hp];rfl),fun b hb=>?_⟩;obtain⟨cs,T,f,q1,q2,q3,q4,q5⟩:=o4 b hb;exact⟨cs,T,f,q1,by rw[hl];exact q2,q3,fun i j hi hj=>q4 i j (by omega) hj,hr f q5⟩
 rw[atz (fun h=>e h.symm)]at hoi;exact hs.obj i o hoi
theorem HA{w:World}{c:bv}{σ σ':ah}(hs:cO M w c σ){id ep j p0 k:Nat}(h:Dm id ep j p0 k σ=some σ'):∃c',cO M w c' σ'∧fK c w c' w:=by
 unfold Dm at h;split at h
 ·rename_i k' e es ho;split at h
  ·rename_i hc;obtain⟨_,hk⟩:=hc;split at h
   ·rename_i cs hes;split at h
    ·rename_i hcs;cases h;obtain⟨hj,hej⟩:=aaN.1 hes;obtain⟨hq,heq⟩:=aaN.1 hcs;have hid:id<σ.length:=(aaN.1 ho).1;obtain⟨c',s1,s2,s3⟩:=Fh hs hk none;have ho':(σ++[.arr k 0 []])[id]?=some (.arr k' e es):=by rw[arw hid];exact ho
     have hH:c'.H σ.length=.arr k 0:=by rw[s1.H,cU kc]
     have hN:σ.length<c'.N:=by rw[s1.N];simp
     refine⟨c',?_,s2⟩;have:=s1.reval (es':=es.set j (.agg (cs.set p0 (.sl σ.length 0 0 0)))) ho' (by simp) (fun x hx=>?_) (fun f hf i hi q hq'=>?_)
     ·rwa [List.set_append_left _ _ hid]at this
     ·obtain⟨_,o2,_⟩:=hs.obj id _ ho;rcases aua hx with hx|rfl
      ·exact o2 x hx
      rw[←o2 es[j] (agL hj),hej];simp[aw]
     have hi':i<es.length:=by simpa using hi
     by_cases e1:i=j
     ·subst e1;have e2:(es.set i (.agg (cs.set p0 (.sl σ.length 0 0 0))))[i]=.agg (cs.set p0 (.sl σ.length 0 0 0)):=by simp
      simp only[e2]at hq' ⊢;have key:∀q (hq:q<(cs.set p0 (.sl σ.length 0 0 0)).length),R M w c' (cs.set p0 (.sl σ.length 0 0 0))[q] (f i q):=fun q hq=>by
       have hql:q<cs.length:=by simpa using hq
       have hold:R M w c' cs[q] (f i q):=by
        have:=hf i hi' q (by rw[hej];exact hql);simp only[hej]at this;exact this
       by_cases e3:q=p0
       ·subst e3;rw[auJ];rw[heq]at hold;generalize f i q=v at hold;cases hold with
        |yz=>exact .sl0 hN hH
       rw[auv (fun h=>e3 h.symm)];exact hold
      exact key q hq'
     have e2:(es.set j (.agg (cs.set p0 (.sl σ.length 0 0 0))))[i]=es[i]:=by rw[auv (fun h=>e1 h.symm)]
     simp only[e2]at hq' ⊢;exact hf i hi' q hq'
    cases h
   ·rename_i hes;split at h
    ·cases h;obtain⟨hj,hej⟩:=aaN.1 hes;have hid:id<σ.length:=(aaN.1 ho).1;obtain⟨c',s1,s2,s3⟩:=Fh hs hk none;have ho':(σ++[.arr k 0 []])[id]?=some (.arr k' e es):=by rw[arw hid];exact ho
     have hH:c'.H σ.length=.arr k 0:=by rw[s1.H,cU kc]
     have hN:σ.length<c'.N:=by rw[s1.N];simp
     refine⟨c',?_,s2⟩;have:=s1.reval (es':=es.set j (.sl σ.length 0 0 0)) ho' (by simp) (fun x hx=>?_) (fun f hf i hi q hq'=>?_)
     ·rwa [List.set_append_left _ _ hid]at this
     ·obtain⟨_,o2,_⟩:=hs.obj id _ ho;rcases aua hx with hx|rfl
      ·exact o2 x hx
      rw[←o2 es[j] (agL hj),hej];rfl
     have hi':i<es.length:=by simpa using hi
     by_cases e1:i=j
     ·subst e1;have e2:(es.set i (.sl σ.length 0 0 0))[i]=.sl σ.length 0 0 0:=by simp
      simp only[e2]at hq' ⊢;have hq0:q=0:=by simpa [cellsOf] using hq'
      subst hq0;show R M w c' (.sl σ.length 0 0 0) _;have hold:R M w c' .yz (f i 0):=by
       have:=hf i hi' 0 (by rw[hej];simp[cellsOf]);simp only[hej]at this;exact this
      generalize f i 0=v at hold;cases hold with
      |yz=>exact .sl0 hN hH
     have e2:(es.set j (.sl σ.length 0 0 0))[i]=es[i]:=by rw[auv (fun h=>e1 h.symm)]
     simp only[e2]at hq' ⊢;exact hf i hi' q hq'
    cases h
   cases h
  cases h
 cases h
theorem J7{id ep k:Nat}:∀(n:Nat) {w:World} {c:bv} {σ σ':ah},cO M w c σ→AI id ep k n σ=some σ'→∃c',cO M w c' σ'∧fK c w c' w
 |0,w,c,σ,σ',hs,h=>by cases h;exact⟨c,hs,.refl c w⟩
 |n+1,w,c,σ,σ',hs,h=>by
  unfold AI at h;obtain⟨σ1,h1,h2⟩:=aS h;obtain⟨c1,s1,t1⟩:=J7 n hs h1;obtain⟨c2,s2,t2⟩:=HA s1 h2;exact⟨c2,s2,t1.trans t2⟩
theorem alj{w:World}{c:bv}{σ σ':ah}(hs:cO M w c σ){p:aa}{off k:Nat}(h:Io p off k σ=some σ'):∃c',cO M w c' σ'∧fK c w c' w:=by
 unfold Io at h;split at h
 ·exact HA hs h
 ·split at h
  ·split at h
   ·exact J7 _ hs h
   cases h
  exact HA hs h
 cases h
theorem tL(hm:P.follows .mixedOrders=true)(hp:sP bh C)(hC:gK M P C)(hR:gw M P C)(hF:pZ F)(htop:top=true→F.round=none){code:Go.Code}{x:ai}(h:dA M P bh em nt top code x):abx M P em nt F n0 (exec C n x) code:=by
 induction h with
 |nop hc=>
  intro s e s' hr m0 c0 w0 a0 hg hs Q hQ;simp only[exec,afV,atP]at hr;obtain⟨rfl,rfl⟩:=hr;exact Td hc (hQ a0 w0 c0 hs (.refl c0 w0))
 |@text id ops ins os its hok hos=>
  intro s e s' hr m0 c0 w0 a0 hg hs Q hQ;simp only[exec]at hr;obtain⟨⟨ls,σ'⟩,h1,h2⟩:=aQ hr;cases h2;obtain⟨st,t1,t2,t3⟩:=Pz h1;refine QF hok t1 hp (fun n j I h=>by cases h) hC hR hF hg (by rw[t2];exact hs.sim) hs.tmp hs.size hos (fun a w hf=>?_) id;obtain⟨c,f1,f2,f3,f4,f5⟩:=hf;rw[t3]at f1;exact hQ a w c ⟨f1,f3,by rw[f4];exact hs.size,als hs.base f2.size,by rw[f5];exact hs.marks.stp f2⟩ f2
 |@any id ops ins os its bef late hok he hos=>
  intro s e s' hr m0 c0 w0 a0 hg hs Q hQ;simp only[exec]at hr;obtain⟨⟨ls,σ'⟩,h1,h2⟩:=aQ hr;cases h2;obtain⟨st,t1,t2,t3⟩:=Pz h1;refine Ii hm he hok t1 hp (fun n j I h=>by cases h) hC hR hF hg (by rw[t2];exact hs.sim) hs.tmp hs.size hos (fun a w hf=>?_) id;obtain⟨c,f1,f2,f3,f4,f5⟩:=hf;rw[t3]at f1;exact hQ a w c ⟨f1,f3,by rw[f4];exact hs.size,als hs.base f2.size,by rw[f5];exact hs.marks.stp f2⟩ f2
 |@anyd id ops ins os its bef chk late hok he hos=>
  intro s e s' hr m0 c0 w0 a0 hg hs Q hQ;simp only[exec]at hr;obtain⟨⟨ls,ss,σ'⟩,h1,h2⟩:=aS hr;obtain⟨u,hc,h3⟩:=aQ h2;cases h3;obtain⟨st,t1,t2,t3,t4⟩:=Yw h1 hc;refine Ii hm he hok t1 hp t4 hC hR hF hg (by rw[t2];exact hs.sim) hs.tmp hs.size hos (fun a w hf=>?_) id;obtain⟨c,f1,f2,f3,f4,f5⟩:=hf;rw[t3]at f1;exact hQ a w c ⟨f1,f3,by rw[f4];exact hs.size,als hs.base f2.size,by rw[f5];exact hs.marks.stp f2⟩ f2
 |@seq a b x y _ _ ih1 ih2=>
  intro s e s' hr m0 c0 w0 a0 hg hs Q hQ;simp only[exec]at hr;obtain⟨⟨e1,s1⟩,h1,h2⟩:=aS hr;apply wpIn_seq;refine ih1 s e1 s1 h1 m0 c0 w0 a0 hg hs _ fun a1 w1 c1 hs1 hst1=>?_;cases e1 with
  |nrm=>
   exact ih2 s1 e s' h2 m0 c1 w1 a1 (hg.ext hst1.toExt) hs1 Q fun a2 w2 c2 hs2 hst2=>hQ a2 w2 c2 hs2 (hst1.trans hst2)
  |ext id=>
   simp only[afV,atP]at h2;obtain⟨rfl,rfl⟩:=h2;exact hQ a1 w1 c1 hs1 hst1
  |ret=>
   simp only[afV,atP]at h2;obtain⟨rfl,rfl⟩:=h2;exact hQ a1 w1 c1 hs1 hst1
 |@left a b x hb _ ih=>
  intro s e s' hr m0 c0 w0 a0 hg hs Q hQ;apply wpIn_seq;refine ih s e s' hr m0 c0 w0 a0 hg hs _ fun a1 w1 c1 hs1 hst1=>?_;have:=hQ a1 w1 c1 hs1 hst1;cases e with
  |nrm=>exact Td hb this
  |ext id=>exact this
  |ret=>exact this
 |@right a b y ha _ ih=>
  intro s e s' hr m0 c0 w0 a0 hg hs Q hQ;apply wpIn_seq;exact Td ha (ih s e s' hr m0 c0 w0 a0 hg hs Q hQ)
 |@cond t a b t' x y ht _ _ ih1 ih2=>
  intro s e s' hr m0 c0 w0 a0 hg hs Q hQ;have hc:=WG (env:=s.env) hs.tmp hg ht;simp only[exec]at hr;split at hr
  ·rename_i he;rw[he]at hc;have hv:a0.eval t=.bool true:=by
    generalize a0.eval t=q at hc;cases hc;rfl
   exact wpIn_cond_true hv (ih1 s e s' hr m0 c0 w0 a0 hg hs Q hQ)
  ·rename_i he;rw[he]at hc;have hv:a0.eval t=.bool false:=by
    generalize a0.eval t=q at hc;cases hc;rfl
   exact wpIn_cond_false hv (ih2 s e s' hr m0 c0 w0 a0 hg hs Q hQ)
  cases hr
 |@blk id a x _ ih=>
  intro s e s' hr m0 c0 w0 a0 hg hs Q hQ;simp only[exec]at hr;obtain⟨⟨e1,s1⟩,h1,h2⟩:=aQ hr;apply wpIn_block;refine ih s e1 s1 h1 m0 c0 w0 a0 hg hs _ fun a1 w1 c1 hs1 hst1=>?_;cases e1 with
  |nrm=>
   cases h2;exact hQ a1 w1 c1 hs1 hst1
  |ret=>
   cases h2;exact hQ a1 w1 c1 hs1 hst1
  |ext j=>
   simp only at h2;show if j=id then Q .normal a1 w1 else Q (.exit j) a1 w1
   split at h2
   ·rename_i hj;cases h2;rw[if_pos hj];exact hQ a1 w1 c1 hs1 hst1
   rename_i hj;cases h2;rw[if_neg hj];exact hQ a1 w1 c1 hs1 hst1
 |@loop clr a x _ ih=>exact Uh ih clr n
 |exit=>
  intro s e s' hr m0 c0 w0 a0 hg hs Q hQ;simp only[exec,afV,atP]at hr;obtain⟨rfl,rfl⟩:=hr;exact wpIn_exit (hQ a0 w0 c0 hs (.refl c0 w0))
 |ret=>
  intro s e s' hr m0 c0 w0 a0 hg hs Q hQ;simp only[exec,afV,atP]at hr;obtain⟨rfl,rfl⟩:=hr;exact wpIn_ret (hQ a0 w0 c0 hs (.refl c0 w0))
 |@scope a x _ ih=>
  intro s e s' hr m0 c0 w0 a0 hg hs Q hQ;apply SS;refine ih s e s' hr m0 c0 w0 a0 hg hs _ fun a1 w1 c1 hs1 hst1=>?_;have:=hQ a1 w1 c1 hs1 hst1;cases e<;>exact this
 |@lift code x i off k _ ih=>
  intro s e s' hr m0 c0 w0 a0 hg hs Q hQ;simp only[exec]at hr;obtain⟨σ,h1,h2⟩:=aS hr;obtain⟨c1,l1,l2⟩:=alj hs.sim h1;exact ih ⟨s.env,σ⟩ e s' h2 m0 c1 w0 a0 (hg.ext l2.toExt) ⟨l1,fun t x hx=>(hs.tmp t x hx).ext l2.toExt,hs.size,hs.base,hs.marks.stp l2⟩ Q fun a w c hs1 hst=>hQ a w c hs1 (l2.trans hst)
 |@rng g ps assign body f site n htop' hf hnd hnt hn hsite=>
  intro s e s' hr m0 c0 w0 a0 hg hs Q hQ;simp only[exec]at hr;split at hr
  ·rename_i hlen;obtain⟨⟨v,σ'⟩,h1,h2⟩:=aS hr;refine XE hC hF (htop htop') hf hnd hnt (by rw[hlen,hn]) hsite h1 h2 hg hs Q hQ
  cases hr
end
end Go.AM
namespace Go.AM
variable {M:bw} {P:Program} {w:World} {c:bv} {σ:ah}
def bv.lent(c:bv)(w:World):bv:={ c with bor:=fun b=>b<w.heap.size,H:=hd [],N:=0,place:=fun _=>none }
theorem cO.lent(hs:cO M w c σ):cO M w (c.lent w) [] where
 H:=rfl
 N:=rfl
 sb:=fun b h=>hs.low b (hs.sb b h)
 low:=fun b h=>h
 plow:=fun id b h=>absurd (by rfl) h
 inj:=fun i j b h=>absurd (by rfl) h
 obj:=fun id o h=>by cases h
theorem xK(hs:cO M w c σ):aei true 0 c (c.lent w) where
 sld:=fun b h=>h
 sb:=fun b h=>hs.low b (hs.sb b h)
 bor:=fun b h=>hs.low b h
 gone:=fun id b _ h1 h2=>(hs.plow id b h1 h2).1
 N:=fun id h=>absurd h (art _)
 keep:=fun id h=>absurd h (art _)
theorem alL(hs:cO M w c σ){v:aa}{cv:Value}(h:R M w c v cv):R M w (c.lent w) (dW σ v) cv:=
 (Li hs (xK hs) bQ false v cv h).ext (Ext.ofStill (xK hs).sb true)
theorem TP(hs:cO M w c σ)(hg:fT M w c):fT M w (c.lent w):=fun g a h=>
 (Li hs (xK hs) 1 false _ _ (hg g a h)).ext (Ext.ofStill (xK hs).sb true)
theorem J8{em:List Tmp}{np nenv nt:Nat}{args:List aa}{cargs:Array Value}(hem:em.take np=List.range np)(hnp:np≤em.length)(hsz:cargs.size=args.length)(hr:∀i (h:i<args.length),∃x,cargs[i]?=some x∧R M w c args[i] x) :
  iL M w c (args.take np++List.replicate (nenv-np) .any) [] (uM em) (cargs++Array.replicate (nt-cargs.size) undef):=fun t x hx=>by
 unfold uM at hx;obtain⟨e,he,rfl⟩:=aQ hx;show R M w c (kr _ e) _;rw[List.idxOf?,atm]at he;obtain⟨h1,h2,_⟩:=he;by_cases hlt:e<(args.take np).length
 ·have hlt':e<np∧e<args.length:=by rw[al4]at hlt;omega
  have e1:kr (args.take np++List.replicate (nenv-np) .any) e=args[e]'hlt'.2:=by
   unfold kr;rw[arw hlt,ad3 hlt];simp
  have e2:t=e:=by
   have h3:(em.take np)[e]?=some e:=by rw[hem];simp[hlt'.1]
   rw[auj,if_pos hlt'.1,ad3 h1]at h3;have h4:em[e]=t:=by simpa using h2
   rw[←h4];exact as7 h3
  subst e2;rw[e1];obtain⟨x,x1,x2⟩:=hr t hlt'.2;rw[ala,atu (by omega),x1];exact x2
 have e1:kr (args.take np++List.replicate (nenv-np) .any) e=.any:=by
  unfold kr;rw[arD (by omega),List.getElem?_replicate];split<;>rfl
 rw[e1];exact .any
end Go.AM
namespace Go.AM
variable {M:bw} {P:Program} {w:World} {c:bv}
def JV(P:Program)(em:List Tmp):Q2→ResultVar→Bool
 |.env i,.tmp t=>em.idxOf? t==some i
 |.cell a n i,.cell t T=>em.idxOf? t==some i&&p9 P T a n
 |_,_=>false
def Od(tmps:Array Value):ResultVar→Sem Value
 |.tmp t=>pure (tmps.getD t undef)
 |.cell a t=>do loadVar t (←asAddr (tmps.getD a undef))
theorem TC{T:TypeId}{cp cv:Value}(h:(Instr.loadAt T cp).run P w=.ok cv w):(do loadVar T (←asAddr cp):Sem Value).run P w=.ok cv w:=by
 unfold Instr.loadAt at h;cases cp with
 |pointer a=>
  cases a with
  |some a=>exact h
  |none=>simp[Instr.sureAddr,stuck]at h
 |_=>simp[Instr.sureAddr,stuck]at h
theorem adw{s:St}{em:List Tmp}{tmps:Array Value}(hs:cO M w c s.st)(ht:iL M w c s.env [] (uM em) tmps){r:Q2}{q:ResultVar}(hok:JV P em r q=true){v:aa}(h:MB s r=some v) :
  ∃cv,(Od tmps q).run P w=.ok cv w∧R M w c v cv:=by
 unfold JV at hok;split at hok
 ·rename_i i t;simp only[MB,afV]at h;subst h;refine⟨_,rfl,?_⟩;exact ht t (.env i) (by unfold uM;rw[show em.idxOf? t=some i by simpa using hok];rfl)
 ·rename_i a n i t T;simp only[acz,afE]at hok;have hr:=ht t (.env i) (by unfold uM;rw[hok.1];rfl);obtain⟨cv,h1,h2⟩:=aaz (P:=P) hs hr hok.2 h;exact⟨cv,TC h1,h2⟩
 cases hok
theorem aaR{s:St}{em:List Tmp}{tmps:Array Value}(hs:cO M w c s.st)(ht:iL M w c s.env [] (uM em) tmps):∀{l:List Q2} {qs:List ResultVar} {vs:List aa},l.length=qs.length→((l.zip qs).all fun p=>JV P em p.1 p.2)=true→xz s l=some vs →
  ∃cvs:List Value,(qs.mapM (Od tmps)).run P w=.ok cvs w∧cvs.length=vs.length∧∀i (h:i<vs.length) (h':i<cvs.length),R M w c vs[i] cvs[i]
 |[],[],vs,_,_,h=>by
  simp only[xz,afV]at h;subst h;exact⟨[],by simp,rfl,fun i h=>absurd h (by simp)⟩
 |[],_::_,_,h,_,_=>by simp at h
 |_::_,[],_,h,_,_=>by simp at h
 |r::l,q::qs,vs,hl,hok,h=>by
  simp only[auB,aty,acz]at hok;simp only[xz]at h;obtain⟨v,h1,h⟩:=aS h;obtain⟨vs',h2,rfl⟩:=aQ h;obtain⟨cv,c1,c2⟩:=adw (P:=P) hs ht hok.1 h1;obtain⟨cvs,d1,d2,d3⟩:=aaR hs ht (by simpa using hl) hok.2 h2;refine⟨cv::cvs,?_,by simp[d2],fun i hi hi'=>?_⟩
  ·rw[List.mapM_cons];simp[c1,d1]
  cases i with
  |zero=>exact c2
  |succ i=>exact d3 i (by simpa using hi) (by simpa using hi')
theorem XH{s:St}{em:List Tmp}{tmps:Array Value}(hs:cO M w c s.st)(ht:iL M w c s.env [] (uM em) tmps){fn:Func}{l:List Q2}(hl:l.length=fn.results.toList.length)(hok:((l.zip fn.results.toList).all fun p=>JV P em p.1 p.2)=true){v:aa}(h:results s l=some v) :
  ∃cv,(Go.results fn tmps).run P w=.ok cv w∧R M w c v cv:=by
 unfold results at h;obtain⟨vs,h1,h2⟩:=aQ h;obtain⟨cvs,d1,d2,d3⟩:=aaR (P:=P) hs ht hl hok h1;have hm:(fn.results.mapM (Od tmps)).run P w=.ok cvs.toArray w:=by
  rw[Array.mapM_eq_mapM_toList];simp[d1]
 have hres:(Go.results fn tmps).run P w=.ok (if h:cvs.toArray.size=1 then cvs.toArray[0] else .tuple cvs.toArray) w:=by
  have e:Go.results fn tmps=(do let vs ←fn.results.mapM (Od tmps);pure (if h:vs.size=1 then vs[0] else .tuple vs):Sem Value):=by
   unfold Go.results;congr 1
  rw[e];simp only[Sem.run_bind,hm,Result.andThen_ok];rfl
 refine⟨_,hres,?_⟩;cases vs with
 |nil=>
  have:cvs=[]:=ahc (by simpa using d2);subst this;subst h2;exact .tup (fun _=>undef) rfl (fun i h=>absurd h (by simp)) (fun i h=>absurd h (by simp))
 |cons x vs=>
  cases vs with
  |nil=>
   subst h2;obtain⟨y,rfl⟩:=avN.1 (show cvs.length=1 by simpa using d2);exact d3 0 (by simp) (by simp)
  |cons x2 vs=>
   subst h2;have hne:¬(cvs.toArray.size=1):=by simp at d2 ⊢;omega
   rw[dif_neg hne];refine .tup (fun i=>cvs.getD i undef) (by simpa using d2) (fun i hi=>?_) (fun i hi=>?_)
   ·have hi':i<cvs.length:=by omega
    simp[hi']
   have hi':i<cvs.length:=by omega
   have:=d3 i hi hi';simpa [hi'] using this
end Go.AM
namespace Go.AM
variable {M:bw} {P:Program} {w w':World} {c c1:bv} {σ τ:ah}
def bv.with(c d:bv):bv:={ c with sld:=fun b=>c.sld b∨d.sld b,bor:=fun b=>c.bor b∨d.sld b }
theorem Dc(hs:cO M w c σ)(hst:fK (c.lent w) w c1 w')(hs1:cO M w' c1 τ) :
  ∃c2,cO M w' c2 σ∧fK c w c2 w'∧(∀v cv,R M w' c1 v cv→R M w' c2 (jj τ v) cv) ∧
   (∀x (f:Nat→Value),(∀j (hj:j<(cellsOf x).length),R M w' c1 (cellsOf x)[j] (f j))→∀j (hj:j<(cellsOf (jj τ x)).length),R M w' (c2.still false) (cellsOf (jj τ x))[j] (f j)) ∧
   (∀b,c2.bor b→c.bor b∨c1.sld b∨∃id,c1.H id≠.dead∧c1.place id=some b)∧c2.H=c.H∧c2.place=c.place:=by
 have hS:=hs1.sealUp (amn τ.length);have hT:=hst.sealUp hs1 (base:=0) rfl (amn _);generalize hd':c1.sealUp 0 (gc 0 τ)=d at hS hT;have frame:∀b,b<w.heap.size→w'.heap[b]?=w.heap[b]?:=fun b hb=>hT.frame b hb fun id h=>absurd (by rfl) h;have old:∀b,d.sld b→b<w.heap.size→c.sld b:=fun b h hb=>by
  rcases hT.old b h hb with h|⟨i,h,_⟩
  ·exact h
  exact absurd (by rfl) h
 have hext:Ext c w (c.with d) w':=⟨fun b h=>.inl h,fun b h=>.inl h,fun b h=>frame b (hs.low b (h.elim (fun h=>h) (hs.sb b))),aes _,fun _ _=>.inl rfl,fun _ _ _ _=>⟨rfl,rfl,rfl⟩⟩;refine⟨c.with d,⟨hs.H,hs.N,fun b h=>h.imp (hs.sb b) fun h=>h,fun b h=>?_,fun id b h1 h2=>?_,hs.inj,fun id o ho=>?_⟩,{ hext with same:=hT.same,size:=hT.size,frame:=fun b hb _=>frame b hb,liv:=fun id b h1 h2 _=>⟨id,h1,h2⟩,old:=fun b h hb=>h.elim .inl fun h=>.inl (old b h hb),oldb:=fun b h hb=>h.elim .inl fun h=>.inl (hs.sb b (old b h hb)) },fun v cv hv=>?_,fun x f hx j hj=>?_,fun b h=>?_,rfl,rfl⟩
 ·rcases h with h|h
  ·exact aju (hs.low b h) hT.size
  exact hS.low b (hS.sb b h)
 ·obtain⟨p1,p2⟩:=hs.plow id b h1 h2;exact⟨aju p1 hT.size,fun h=>h.elim p2 fun h=>p2 (hs.sb b (old b h p1))⟩
 ·exact (hs.obj id o ho).ext hext (fun _=>⟨rfl,rfl,rfl⟩) fun hnd b hb=>frame b (hs.plow id b (by rw[hs.H];exact fun h=>hnd ((mI ho).1 h)) hb).1
 ·have ht:=mL hs1 (amn τ.length);have:=Li hs1 ht bQ false v cv hv;rw[hd']at this;refine this.ext ⟨fun b h=>.inr h,fun b h=>.inr h,fun _ _=>rfl,amn _,fun id h=>absurd h (art _),fun id h=>absurd h (art _)⟩
 ·have ht:=mL hs1 (amn τ.length);have:=GV (fun m _=>Li hs1 ht m) hx j hj;rw[hd']at this;exact this.ext ⟨fun b h=>.inr h,fun b h=>.inr h,fun _ _=>rfl,aes _,fun id h=>absurd h (art _),fun id h=>absurd h (art _)⟩
 rcases h with h|h
 ·exact .inl h
 rw[←hd']at h;rcases h with h|⟨id,_,h1,h2⟩
 ·exact .inr (.inl h)
 exact .inr (.inr ⟨id,h1,h2⟩)
end Go.AM
namespace Go.AM
variable {M:bw} {P:Program} {w w':World} {c c1:bv} {σ τ:ah}
theorem cO.kill(hs:cO M w c σ)(id:Nat):cO M w { c with H:=hd (σ.set id .dead) } (σ.set id .dead)∧Ext c w { c with H:=hd (σ.set id .dead) } w:=by
 have hh:∀i,hd (σ.set id .dead) i=if i=id then .dead else hd σ i:=fun i=>by
  by_cases e:i=id
  ·subst e;rw[if_pos rfl];unfold hd;rw[atk];simp only[aml];split<;>rename_i h<;>split at h<;>simp_all
  rw[if_neg e,fL e]
 have live:∀i,hd (σ.set id .dead) i≠.dead→c.H i≠.dead:=fun i h=>by
  rw[hh]at h;split at h
  ·exact absurd rfl h
  rw[hs.H];exact h
 have hext:Ext c w { c with H:=hd (σ.set id .dead) } w:=⟨fun _ h=>h,fun _ h=>h,fun _ _=>rfl,aes _,fun i hi=>by
  show (c.H i).le (hd (σ.set id .dead) i);rw[hh];split
  ·exact .inr (.inl rfl)
  exact .inl (by rw[hs.H]),fun i hi h hne=>⟨rfl,rfl,rfl⟩⟩
 refine⟨⟨rfl,by rw[auF];exact hs.N,hs.sb,hs.low,fun i b h1 h2=>hs.plow i b (live i h1) h2,fun i j b hi hj=>hs.inj i j b (live i hi) (live j hj),fun i o ho=>?_⟩,hext⟩;by_cases e:i=id
 ·subst e;rw[atk]at ho;simp only[aml]at ho;split at ho
  ·cases ho;trivial
  cases ho
 rw[atz (fun h=>e h.symm)]at ho;exact (hs.obj i o ho).ext hext (fun _=>⟨rfl,rfl,rfl⟩) fun _ _ _=>rfl
theorem fK.kill{c0:bv}{w0:World}(h:fK c0 w0 c w)(hs:cO M w c σ)(id:Nat):fK c0 w0 { c with H:=hd (σ.set id .dead) } w:=
 { Ext.trans h.toExt (hs.kill id).2 with
  same:=h.same
  size:=h.size
  frame:=h.frame
  old:=h.old
  oldb:=h.oldb
  liv:=fun i b h1 h2 hb=>by
   refine h.liv i b ?_ h2 hb;intro hd0;have h1':hd (σ.set id .dead) i≠.dead:=h1;by_cases e:i=id
   ·subst e;apply h1';unfold hd;rw[atk];simp only[aml];split<;>rename_i h<;>split at h<;>simp_all
   rw[fL e,←hs.H]at h1';exact h1' hd0 }
theorem HH(hs:cO M w c σ)(hst:fK (c.lent w) w c1 w')(hs1:cO M w' c1 τ){k:Nat}(hk:k≠0){x:aa}{cx:Value}(hx:R M w' c1 x cx) :
  ∃c2,cO M w' c2 σ∧fK c w c2 w'∧(ig k τ x=.any∨∃xs,ig k τ x=.frs k xs∧alA M w.heap.size w' c2 k xs cx)∧∀v cv,R M w' c1 v cv→R M w' c2 (jj (yU τ x) v) cv:=by
 by_cases hsl:∃id ep off len,x=.sl id ep off len
 ·obtain⟨id,ep,off,len,rfl⟩:=hsl;obtain⟨hk1,hk2⟩:=hs1.kill id;have hstk:=hst.kill hs1 id;obtain⟨c2,b1,b2,b3,b4,b5,b6,b7⟩:=Dc hs hstk hk1;refine⟨c2,b1,b2,?_,fun v cv hv=>b3 v cv (hv.ext hk2)⟩;unfold ig;dsimp only;split
  ·rename_i k' e es ho;split
   ·rename_i hc;obtain⟨rfl,rfl,rfl,hlen⟩:=hc;unfold JF;split
    ·rename_i hm;refine .inr ⟨_,rfl,hk,fun y hy=>?_,?_⟩
     ·obtain⟨m1,m2⟩:=zx hm;obtain⟨i,hi,rfl⟩:=ati.1 hy;rw[m2 i hi (by omega)];exact (hs1.obj id _ ho).2.1 _ (akt (agL _))
     have hlen':((es.take len).map (jj (τ.set id .dead))).length=len:=by simp;omega
     have hH:c1.H id=.arr k' e:=by rw[hs1.H,cU ho]
     cases hx with
     |@sl _ _ _ _ _ cap k2 blk h1 h2 h3 h4 h5=>
      rw[hH]at h2;cases h2;obtain⟨o1,o2,o3,o4⟩:=hs1.obj id _ ho;obtain⟨cs,T,f,q1,q2,q3,q4,q5⟩:=o4 blk h3;have hnew:w.heap.size≤blk:=Nat.le_of_not_lt fun hlt=>by
       obtain⟨i,i1,_⟩:=hst.liv id blk (by rw[hH];simp) h3 hlt;exact i1 rfl
      refine .inr ⟨blk,cap,cs,T,f,by rw[hlen'];simp,hnew,q1,fun hb=>?_,fun i hi hp=>?_,by rw[hlen'];exact h4,by simpa [q3] using h5,fun i j hi hj=>q4 i j (by omega) hj,fun i hi j hj=>?_⟩
      ·rcases b5 blk hb with hb|hb|⟨i,i1,i2⟩
       ·exact absurd (hs.low _ hb) (by omega)
       ·exact (hs1.plow id blk (by rw[hH];simp) h3).2 (hs1.sb _ hb)
       have i1':hd (τ.set id .dead) i≠.dead:=i1;have hne:i≠id:=fun e=>by
        subst e;apply i1';rw[cU (o:=.dead) (by rw[atk];simp[(aaN.1 ho).1])]
       rw[fL hne,←hs1.H]at i1';exact hne (hs1.inj i id blk i1' (by rw[hH];simp) i2 h3)
      ·rw[b6]at hi;rw[b7]at hp;exact absurd (hs.plow i blk hi hp).1 (by omega)
      simp only[atf,atK]at hj ⊢;exact b4 _ (f i) (fun j hj=>(q5 i (by omega) j hj).ext hk2) j hj
     |@sl0 _ _ _ _ _ a=>exact .inl ⟨by simp,a,rfl⟩
     |slOld h0 h1 h2=>exact absurd (h2 _ _ hH) (ato _)
    exact .inl rfl
   exact .inl rfl
  exact .inl rfl
 obtain⟨c2,b1,b2,b3,b4,b5,b6,b7⟩:=Dc hs hst hs1;refine⟨c2,b1,b2,?_,fun v cv hv=>?_⟩
 ·unfold ig;split
  ·cases hx with|@yz _ a=>exact .inr ⟨[],rfl,hk,by simp,.inl ⟨rfl,a,rfl⟩⟩
  ·exact absurd ⟨_,_,_,_,rfl⟩ hsl
  exact .inl rfl
 have:yU τ x=τ:=by
  unfold yU;split
  ·exact absurd ⟨_,_,_,_,rfl⟩ hsl
  rfl
 rw[this];exact b3 v cv hv
end Go.AM
namespace Go.AM
variable {M:bw} {P:Program} {w w':World} {c c1:bv} {σ τ:ah}
def Bq.lends:Bq→Bool
 |.pure|.fresh _=>true
 |_=>false
def Bq.ok:Bq→Bool
 |.fresh k=>k != 0
 |_=>true
theorem Qu(hs:cO M w c σ)(hst:fK (c.lent w) w c1 w'){s:St}(hs1:cO M w' c1 s.st){m:Bq}(hm:m.lends=true)(hk:m.ok=true){v:aa}{cv:Value}(hv:R M w' c1 v cv) :
  dR M c w (fo m σ s v).2 (fo m σ s v).1 cv w':=by
 cases m with
 |pure=>
  obtain⟨c2,b1,b2,b3,_⟩:=Dc hs hst hs1;exact⟨c2,b1,b2,.r (b3 v cv hv)⟩
 |fresh k=>
  have hk':k≠0:=by simpa [Bq.ok] using hk
  by_cases ht:∃x vs,v=.tup (x::vs)
  ·obtain⟨x,vs,rfl⟩:=ht;show dR M c w σ (.tup (ig k s.st x::vs.map (jj (yU s.st x)))) cv w';cases hv with
   |@tup _ _ cvs f h1 h2 h3=>
    have hx0:R M w' c1 x (f 0):=h3 0 (by simp);obtain⟨c2,b1,b2,b3,b4⟩:=HH hs hst hs1 hk' hx0;refine⟨c2,b1,b2,?_⟩;have hrest:∀i (hi:i<(vs.map (jj (yU s.st x))).length),R M w' c2 (vs.map (jj (yU s.st x)))[i] (f (i+1)):=fun i hi=>by
     rw[atf];exact b4 _ _ (h3 (i+1) (by simpa using hi))
    have h0:=h2 0 (by simp);rcases b3 with b3|⟨xs,b3,b5⟩
    ·rw[b3];refine .r (.tup f (by simpa using h1) (fun i hi=>h2 i (by simpa using hi)) fun i hi=>?_);cases i with
     |zero=>exact .any
     |succ i=>exact hrest i (by simpa using hi)
    rw[b3];exact .tup (fun i=>f (i+1)) b5 (by simpa using h1) h0 (fun i hi=>h2 (i+1) (by simpa using hi)) hrest
  have e:fo (.fresh k) σ s v=(ig k s.st v,σ):=by
   unfold fo;dsimp only;split
   ·exact absurd ⟨_,_,rfl⟩ ht
   rfl
  rw[e];obtain⟨c2,b1,b2,b3,_⟩:=HH hs hst hs1 hk' hv;refine⟨c2,b1,b2,?_⟩;rcases b3 with b3|⟨xs,b3,b5⟩
  ·rw[b3];exact .r .any
  rw[b3];exact .frs b5
 |keep=>cases hm
 |trunc=>cases hm
theorem S9(hs:cO M w c σ)(hst:fK c w c1 w'){s:St}(hs1:cO M w' c1 s.st){m:Bq}(hm:m.lends=false){v:aa}{cv:Value}(hv:R M w' c1 v cv) :
  dR M c w (fo m σ s v).2 (fo m σ s v).1 cv w':=by
 cases m with
 |pure=>cases hm
 |fresh k=>cases hm
 |keep=>exact⟨c1,hs1,hst,.r hv⟩
 |trunc=>
  unfold fo;dsimp only;split
  ·exact⟨c1,hs1,hst,.r hv⟩
  have hb:σ.length≤s.st.length:=by rw[←hs.N,←hs1.N];exact hst.N
  exact⟨_,hs1.sealUp hb,hst.sealUp hs1 hs.N hb,.r (Li hs1 (mL hs1 hb) bQ true _ _ hv)⟩
def agN(M:bw)(P:Program)(bh:Nat→Bool)(f:Nat)(g:aD):Prop:=
 ∃ fn code em,P.funcs[M.fm f]?=some fn∧(fn.name == "runtime.NumGoroutine")=false∧fn.body=some code∧dA M P bh em fn.ntmps true code g.body∧em.take g.np=List.range g.np∧g.np≤em.length ∧
  g.res.length=fn.results.toList.length∧((g.res.zip fn.results.toList).all fun p=>JV P em p.1 p.2)=true∧g.mode.ok=true
theorem iT{fn:Func}{f:FuncId}{code:Go.Code}{args:Array Value}(h1:P.funcs[f]?=some fn)(h2:(fn.name == "runtime.NumGoroutine")=false)(h3:fn.body=some code):(callFunc f args).run P w=.ok (.enter f args) w:=by
 unfold callFunc;have h2':¬fn.name = "runtime.NumGoroutine":=by simpa using h2
 simp[h1,h2',h3]
theorem fU.take{args:List aa}{cargs:Array Value}(h:fU M w c args cargs)(hs:cO M w c σ):fU M w (c.lent w) (args.map (dW σ)) cargs:=
 ⟨by rw[h.1];simp,fun i hi=>by
  obtain⟨x,h1,h2⟩:=h.2 i (by simpa using hi);exact⟨x,h1,by rw[atf];exact alL hs h2⟩⟩
theorem Wr{bh:Nat→Bool}{C:ec}{k:Nat}(hm:P.follows .mixedOrders=true)(hp:sP bh C)(hC:gK M P C)(hR:gw M P C){f:Nat}{g:aD}(hok:agN M P bh f g){args:List aa}{v:aa}{σ':ah}
  (hr:(exec C k g.body (enter g args σ)).bind (lP g σ)=some (v,σ')) {F:Fence} {n:Nat} {cargs:Array Value} (hF:pZ F) (hs:cO M w c σ) (hg:fT M w c) (ha:fU M w c args cargs) :
  mH F n P (M.fm f) cargs w (dR M c w σ' v):=by
 obtain⟨fn,code,em,h1,h2,h3,h4,h5,h6,h7,h8,h9⟩:=hok;obtain⟨⟨e,s'⟩,r1,r2⟩:=aS hr;refine .inl ⟨iT h1 h2 h3,?_⟩
 have key:∀F:Fence,pZ F→F.round=none→CallsIn F n P (M.fm f) cargs w fun e w'=>∃cv,e=.returned cv∧dR M c w σ' v cv w':=fun F hF hro=>by
  refine callsIn_of_wp_marks h1 h3 (hF.fn _) ?_ hro;unfold lP at r2;have hres:∃v0,results s' g.res=some v0∧fo g.mode σ s' v0=(v,σ')∧(e=.nrm∨e=.ret):=by
   cases e with
   |ext id=>cases r2
   |nrm=>obtain⟨v0,q1,q2⟩:=aQ r2;exact⟨v0,q1,q2,.inl rfl⟩
   |ret=>obtain⟨v0,q1,q2⟩:=aQ r2;exact⟨v0,q1,q2,.inr rfl⟩
  obtain⟨v0,q1,q2,q3⟩:=hres;have post:∀c0,((c0=c.lent w∧g.mode.lends=true)∨(c0=c∧g.mode.lends=false))→∀a w' c1,SR M em fn.ntmps w.heap.size c1 w' s' a→fK c0 w c1 w'→bodyPostM F n P fn (fun e w'=>∃cv,e=.returned cv∧dR M c w σ' v cv w') (TD e) a w':=fun c0 hc0 a w' c1 hs1 hst=>by
   have hb:LeavesInM F n P fn a.tmps (fun e w'=>∃cv,e=.returned cv∧dR M c w σ' v cv w') a.defers .returning w':=by
    refine Bc _ _ hs1.sim hst hs1.marks fun w' hs1' he1 hst=>?_;obtain⟨cv,x1,x2⟩:=XH (P:=P) hs1' (fun t x hx=>(hs1.tmp t x hx).ext he1) h7 h8 q1;refine⟨cv,x1,cv,rfl,?_⟩;have e1:σ'=(fo g.mode σ s' v0).2:=by rw[q2]
    have e2:v=(fo g.mode σ s' v0).1:=by rw[q2]
    rw[e1,e2];rcases hc0 with⟨rfl,hl⟩|⟨rfl,hl⟩
    ·exact Qu hs hst hs1' hl h9 x2
    exact S9 hs hst hs1' hl x2
   rcases q3 with rfl|rfl
   ·exact hb
   exact hb
  have hsize:fn.ntmps≤(cargs++Array.replicate (fn.ntmps-cargs.size) undef).size:=by simp;omega
  by_cases hl:g.mode.lends=true
  ·have hent:enter g args σ=⟨(args.map (dW σ)).take g.np++List.replicate (g.nenv-g.np) .any,[]⟩:=by
    unfold enter;cases hmo:g.mode<;>rw[hmo]at hl<;>first|(cases hl;done)|simp[auc]
   rw[hent]at r1;have ha':=ha.take hs;refine tL hm hp hC hR hF (fun _=>hro) h4 _ e s' r1 w.heap.size (c.lent w) w _ (TP hs hg) ⟨hs.lent,J8 h5 h6 ha'.1 ha'.2,hsize,aes _,show lQ _ _ _ [] from trivial⟩ _ fun a w' c1 hs1 hst=>post _ (.inl ⟨rfl,hl⟩) a w' c1 hs1 hst
  have hl':g.mode.lends=false:=by simpa using hl
  have hent:enter g args σ=⟨args.take g.np++List.replicate (g.nenv-g.np) .any,σ⟩:=by
   unfold enter;cases hmo:g.mode<;>rw[hmo]at hl'<;>first|(cases hl';done)|rfl
  rw[hent]at r1;refine tL hm hp hC hR hF (fun _=>hro) h4 _ e s' r1 w.heap.size c w _ hg ⟨hs,J8 h5 h6 ha.1 ha.2,hsize,aes _,show lQ _ _ _ [] from trivial⟩ _ fun a w' c1 hs1 hst=>post _ (.inr ⟨rfl,hl'⟩) a w' c1 hs1 hst
 have hwide:pZ { F with round:=none }:=⟨hF.fn,hF.depth,hF.alive⟩;exact key { F with round:=none } hwide rfl
end Go.AM
namespace Go.AM
variable {M:bw} {P:Program} {w w':World} {c c1:bv} {σ τ:ah}
def AS(M:bw)(P:Program)(bh:Nat→Bool)(g:vH)(rec:ia)(em:List Tmp):Prop:=
 ∃nt,g.nenv=em.length∧nt≤rec.tmps.size∧dA M P bh em nt false rec.assign g.pre∧g.params.map (em[·]?)=rec.params.toList.map some∧em.Nodup∧dA M P bh em nt false rec.body g.body
def ag3(M:bw)(P:Program)(bh:Nat→Bool)(code:Code):Prop:=
 ∀site rec em,M.site site rec em→∃g,code.fns site=.round g∧AS M P bh g rec em
def yP(M:bw)(P:Program)(f:Nat)(p:akI):Prop:=
 ∀(C:ec),gK M P C→gw M P C→∀args σ v σ',p C args σ=some (v,σ')→∀(F:Fence) (n:Nat) (w:World) (c:bv) (cargs:Array Value),pZ F→cO M w c σ→fT M w c→fU M w c args cargs →
  mH F n P (M.fm f) cargs w (dR M c w σ' v)∧((∃a∈args,iw a=false)→∀(cargs':Array Value) (w':World),(callFunc (M.fm f) cargs').run P w'=.ok (.enter (M.fm f) cargs') w')
structure vy (M:bw) (P:Program) (bh:Nat→Bool) (code:Code):Prop where
 mixed:P.follows .mixedOrders=true
 fns:∀f g,code.fns f=.fn g→agN M P bh f g
 nilfns:∀f g,code.fns f=.nilfn g→agN M P bh f g
 prims:∀f k,code.fns f=.prim k→yP M P f (code.prims k)
 sites:ag3 M P bh code
 keeps:∀f,bh f=true→(∃g,(code.fns f=.fn g∨code.fns f=.nilfn g)∧g.mode.lends=true)∨∃k,code.fns f=.prim k∧∀C args σ v σ',code.prims k C args σ=some (v,σ')→σ'=σ
theorem Su{a:Option Addr}{n cap:Nat}(h:n=0):∃b k,Value.slice a n cap=.slice b 0 k:=by subst h;exact⟨_,_,rfl⟩
theorem adp(hs:cO M w c σ){x:aa}{cx:Value}(hx:R M w c x cx)(h:eZ σ x=true):∃a cap,cx=.slice a 0 cap:=by
 unfold eZ at h;split at h
 ·cases h
 rename_i hns;split at h
 ·rename_i hrd;cases hx<;>first|(simp[rd]at hrd;done)|skip
  case str=>exact absurd rfl (hns _)
  case wh xs _ _ _ _ _ _ _ _ _ _ _=>simp only[rd,afV]at hrd;subst hrd;exact⟨_,_,rfl⟩
  case imm0=>exact⟨_,_,rfl⟩
  case lst=>simp only[rd,afV]at hrd;subst hrd;exact⟨_,_,rfl⟩
  case lst0=>exact⟨_,_,rfl⟩
  case yz=>exact⟨_,_,rfl⟩
  case emp=>exact⟨_,_,rfl⟩
  case sl=>
   simp only[rd]at hrd;unfold sliceAt at hrd;split at hrd
   ·split at hrd
    ·rename_i hc;simp only[afV]at hrd;have:=congrArg List.length hrd;simp at this;exact Su (by omega)
    cases hrd
   cases hrd
  case sl0=>exact⟨_,_,rfl⟩
  case slOld=>
   rename_i h2 _ _ _;simp only[rd]at hrd;unfold sliceAt at hrd;split at hrd
   ·rename_i k e es ho;split at hrd
    ·rename_i hc;have:=h2 k e (by rw[hs.H,cU ho]);omega
    cases hrd
   cases hrd
 cases h
theorem YA{l:Nat}{xs args:List aa}{cargs:Array Value}(h:fU M w c (.frs l xs::args) cargs):False:=by
 obtain⟨x,_,h⟩:=h.2 0 (by simp);cases h
theorem IK{em:List Tmp}(hnd:em.Nodup):∀{ps:List Nat} {ts:List Tmp} {args:List aa} {cargs:List Value} {env:List aa} {tmps:Array Value},
  ps.map (em[·]?)=ts.map some→args.length=ps.length→cargs.length=args.length→(∀i (h:i<args.length) (h':i<cargs.length),R M w c args[i] cargs[i])→env.length=em.length→(∀t∈em,t<tmps.size)→iL M w c env [] (uM em) tmps →
  iL M w c (rY env ps args) [] (uM em) ((ts.zip cargs).foldl (fun tmps (t,a)=>tmps.setIfInBounds t a) tmps)
 |[],[],args,cargs,env,tmps,_,h1,h2,_,_,_,ht=>by
  cases args with
  |nil=>exact ht
  |cons _ _=>simp at h1
 |[],_::_,_,_,_,_,h,_,_,_,_,_,_=>by simp at h
 |_::_,[],_,_,_,_,h,_,_,_,_,_,_=>by simp at h
 |p::ps,t::ts,[],_,_,_,_,h1,_,_,_,_,_=>by simp at h1
 |p::ps,t::ts,x::args,[],_,_,_,_,h2,_,_,_,_=>by simp at h2
 |p::ps,t::ts,x::args,y::cargs,env,tmps,h,h1,h2,hr,he,hb,ht=>by
  simp only[af6,au4]at h;obtain⟨hp,h⟩:=h;have hpl:p<em.length:=(aaN.1 hp).1;have hpe:em[p]=t:=(aaN.1 hp).2;simp only[rY,auB,ahw];refine IK hnd h (by simpa using h1) (by simpa using h2) (fun i hi hi'=>hr (i+1) (by simpa using hi) (by simpa using hi')) (by simpa using he) (fun t ht=>by simpa using hb t ht) ?_;intro q o hq;unfold uM at hq;obtain⟨k,hk,rfl⟩:=aQ hq;show R M w c (kr (env.set p x) k) _;rw[List.idxOf?,atm]at hk;obtain⟨k1,k2,_⟩:=hk;have k2':em[k]=q:=by simpa using k2
  have htl:t<tmps.size:=hb t (by rw[←hpe];exact agL _);by_cases hkp:k=p
  ·subst hkp;have:kr (env.set k x) k=x:=by
    unfold kr;rw[atk];simp[he,k1]
   rw[this];have hqt:q=t:=by rw[←k2',hpe]
   subst hqt;have:=hr 0 (by simp) (by simp);simpa [Array.getD,htl] using this
  rw[zJ (fun e=>hkp e.symm)];have hqt:q≠t:=fun e=>hkp (Cp hnd _ _ (by rw[k2',hpe,e]))
  have:=ht q (.env k) (by unfold uM;rw[show em.idxOf? q=some k by
   rw[List.idxOf?,atm];exact⟨k1,k2,fun j hj=>by
    simp only[afE];exact fun e=>absurd (Cp hnd _ _ (e.trans k2'.symm)) (by omega)⟩];rfl)
  have e:(tmps.setIfInBounds t y).getD q undef=tmps.getD q undef:=by
   rw[ala,ala,Array.getElem?_setIfInBounds_ne (fun e=>hqt e.symm)]
  rw[e];exact this
theorem Kr{ts:Array Tmp}{xs:Array Value}{tmps:Array Value}:(ts.zip xs).foldl (fun tmps (t,a)=>tmps.setIfInBounds t a) tmps=(ts.toList.zip xs.toList).foldl (fun tmps (t,a)=>tmps.setIfInBounds t a) tmps:=by
 rw[←Array.foldl_toList,Array.toList_zip]
theorem GH:∀(l:List (Tmp×Value)) (tmps:Array Value),(l.foldl (fun tmps (t,a)=>tmps.setIfInBounds t a) tmps).size=tmps.size
 |[],_=>rfl
 |_::l,tmps=>by simp only[ahw];rw[GH l];simp
def anP:Ex→Option Ex
 |.nrm=>none
 |e=>some e
theorem Jl{l:Nat}{e:Ex}{s:St}{v:aa}(h:iz l (e,s)=some (v,σ)) :
  ∃j,s.st[l]?=some (.pend true none)∧j=anP e∧v=.bool (pM e).isNone∧σ=s.st.set l (.pend false j):=by
 unfold iz at h;dsimp only at h;generalize s.st[l]?=q at h
 match q,h with
 |some (.pend true none),h=>
  cases e with
  |nrm=>cases h;exact⟨none,rfl,rfl,rfl,rfl⟩
  |ret=>cases h;exact⟨some .ret,rfl,rfl,rfl,rfl⟩
  |ext i=>cases h;exact⟨some (.ext i),rfl,rfl,rfl,rfl⟩
theorem Qj{bh:Nat→Bool}{C:ec}{k:Nat}(hm:P.follows .mixedOrders=true)(hp:sP bh C)(hC:gK M P C)(hR:gw M P C){site l:Nat}{g:vH}{env args:List aa}{v:aa}{σ':ah}
  (hl:σ[l]?=some (.pend false none)) (hlen:((env++args).drop g.nenv).length=g.params.length)
  (hr:(exec C k g.pre ⟨rY ((env++args).take g.nenv) g.params ((env++args).drop g.nenv),σ⟩).bind (lC C k l g.body)=some (v,σ'))
  (hok:∀rec em,M.site site rec em→AS M P bh g rec em)
  {F:Fence} {n:Nat} {cargs:Array Value} {x:Value} (hF:pZ F) (hs:cO M w c σ) (hg:fT M w c) (ha:fU M w c args cargs) (hx:R M w c (.yld l site env) x) :
  ∃b tmps w1,x=.func (.yield b) #[] #[]∧(Instr.yield b cargs).run P w=.ok (.round b (c.loops l).fn tmps (c.loops l).assign (c.loops l).body) w1 ∧
   RoundIn F n P b (c.loops l).fn tmps (c.loops l).assign (c.loops l).body w1 fun e w'=>∃cv,e=.returned cv∧dR M c w σ' v cv w':=by
 have hH:c.H l=.pend:=by rw[hs.H,cU hl]
 have hlive:c.H l≠.dead:=by rw[hH];simp
 cases hx with
 |yldOld h0 h1 h2=>rw[hH]at h2;cases h2
 |@yld _ _ _ _ em blk f h1 h2 h3 h4 h5 h6 h7=>
  obtain⟨nt,g1,g2,g3,g4,g5,g6⟩:=hok _ _ h4;have henv:env.length=g.nenv:=by rw[g1,h5]
  have hdrop:(env++args).drop g.nenv=args:=by rw[←henv];simp
  have htake:(env++args).take g.nenv=env:=by rw[←henv];simp
  rw[hdrop]at hlen;rw[hdrop,htake]at hr;obtain⟨b,b1,b2⟩:=hs.obj _ _ hl;rw[h3]at b1;cases b1;replace b2:w.heap[blk]?=some (.loop (mQ (c.loops l) .ready none)):=b2;have hpar:(c.loops l).params.size=g.params.length:=by
   have:=congrArg List.length g4;simpa using this.symm
  have hy:=run_yield (P:=P) (args:=cargs) b2 (by rw[ha.1,hlen];exact hpar.symm);refine⟨blk,_,w,rfl,hy,?_⟩;apply roundIn_of_wpIn (hF.fn _);obtain⟨⟨e0,s0⟩,r0,r00⟩:=aS hr;have hsz:(((c.loops l).params.zip cargs).foldl (fun tmps (t,a)=>tmps.setIfInBounds t a) (c.loops l).tmps).size=(c.loops l).tmps.size:=by rw[Kr,GH]
  have htb:∀t∈em,t<(c.loops l).tmps.size:=fun t ht=>by
   obtain⟨i,hi,rfl⟩:=ati.1 ht;exact (ak4.1 (h6 i hi (by omega))).1
  have ht0:iL M w c env [] (uM em) (c.loops l).tmps:=fun t o ho=>by
   unfold uM at ho;obtain⟨i,hi,rfl⟩:=aQ ho;show R M w c (kr env i) _;rw[List.idxOf?,atm]at hi;obtain⟨i1,i2,_⟩:=hi;have i2':em[i]=t:=by simpa using i2
   have i3:i<env.length:=by omega
   have e1:kr env i=env[i]:=by
    unfold kr;rw[ad3 i3];rfl
   rw[e1,ala,←i2',h6 i i1 i3];exact h7 i i3
  have ht1:iL M w c (rY env g.params args) [] (uM em) (((c.loops l).params.zip cargs).foldl (fun tmps (t,a)=>tmps.setIfInBounds t a) (c.loops l).tmps):=by
   rw[Kr];refine IK g5 g4 hlen (by simp[ha.1]) (fun i hi hi'=>?_) (by omega) htb ht0;obtain⟨y,y1,y2⟩:=ha.2 i hi;have:cargs.toList[i]=y:=by
    have:=(ak4.1 y1).2;simpa using this
   rw[this];exact y2
  refine tL hm hp hC hR (hF.inRound blk) (fun h=>by cases h) g3 _ e0 s0 r0 0 c _ _ hg ⟨hs,ht1,als g2 (Nat.le_of_eq hsz.symm),amn _,show lQ _ _ _ [] from trivial⟩ _ fun a1 w1 c1 hs1 hst1=>?_;have hgo:e0=.nrm∧s0.st[l]?=some (.pend false none)∧(exec C k g.body ⟨s0.env,s0.st.set l (.pend true none)⟩).bind (iz l)=some (v,σ'):=by
   unfold lC at r00;split at r00
   ·rename_i h1 h2;exact⟨h1,h2,r00⟩
   cases r00
  obtain⟨rfl,hl1,hr1⟩:=hgo;have hH1:c1.H l=.pend:=by rw[hs1.sim.H,cU hl1]
  obtain⟨q1,q2,q3⟩:=hst1.place l h1 (by rw[hH,hH1]) hlive;obtain⟨b,b1,b3⟩:=hs1.sim.obj _ _ hl1;have h31:c1.place l=some blk:=by rw[q1,h3]
  rw[h31]at b1;cases b1;replace b3:w1.heap[blk]?=some (.loop (mQ (c1.loops l) .ready none)):=b3;have hbr:=run_beginRound (P:=P) b3 rfl;refine⟨_,hbr,?_⟩;have hset:sJ w1 (w1.putObj blk (.loop { mQ (c1.loops l) .ready none with state:=.busy })) blk (.loop { mQ (c1.loops l) .ready none with state:=.busy }):=⟨⟨rfl,rfl,rfl,aes _⟩,rfl⟩;obtain⟨s1,st1⟩:=hs1.sim.pend (bz':=true) (j':=none) hl1 h31 hset rfl;obtain⟨⟨e,s'⟩,r1,r2⟩:=aS hr1;refine tL hm hp hC hR (hF.inRound blk) (fun h=>by cases h) g6 _ e s' r1 0 c1 _ _ (hg.ext (hst1.trans st1).toExt) ⟨s1,fun t o ho=>(hs1.tmp t o ho).ext st1.toExt,hs1.size,amn _,hs1.marks.stp st1⟩ _ fun a w2 c2 hs2 hst2=>?_
  have hpe:=Jl r2;obtain⟨j,p1,p2,p3,p4⟩:=hpe;have hst:=(hst1.trans st1).trans hst2;have hH2:c2.H l=.pend:=by rw[hs2.sim.H,cU p1]
  obtain⟨q1,q2,q3⟩:=hst.place l h1 (by rw[hH,hH2]) hlive;obtain⟨b,b1,b3⟩:=hs2.sim.obj _ _ p1;rw[q1,h3]at b1;cases b1;have hend:=run_endRound (P:=P) (pM e) b3;have hset2:sJ w2 (w2.putObj blk (.loop { mQ (c2.loops l) .busy none with state:=if (pM e).isNone then .ready else .done,pending:=pM e })) blk (.loop { mQ (c2.loops l) .busy none with state:=if (pM e).isNone then .ready else .done,pending:=pM e }):=⟨⟨rfl,rfl,rfl,aes _⟩,rfl⟩
  obtain⟨s3,st3⟩:=hs2.sim.pend (bz':=false) (j':=j) p1 (by rw[q1,h3]) hset2 (by
   rw[p2];cases e<;>rfl)
  have hpost:dR M c w σ' v (.bool (pM e).isNone) _:=⟨c2,by rw[p4];exact s3,hst.trans st3,by rw[p3];exact .r .bool⟩;cases e with
  |nrm=>exact⟨_,_,hend,_,rfl,hpost⟩
  |ret=>exact⟨_,_,hend,_,rfl,hpost⟩
  |ext i=>exact⟨_,_,hend,_,rfl,hpost⟩
theorem Dp{bh:Nat→Bool}{code:Code}(hc:vy M P bh code):∀n,gK M P (bJ code n)∧gw M P (bJ code n)∧sP bh (bJ code n)
 |0=>by
  refine⟨?_,?_,?_⟩
  ·intro f args σ v σ' h;cases h
  ·intro site l env args σ v σ' h;cases h
  intro f args σ v σ' _ h;cases h
 |k+1=>by
  obtain⟨ihC,ihR,ihK⟩:=Dp hc k;refine⟨fun f args σ v σ' h F n w c cargs hF hs hg ha=>?_,fun site l env args σ v σ' h F n w c cargs x hF hs hg ha hpd hx=>?_,fun f args σ v σ' hp h=>?_⟩
  ·simp only[bJ]at h;split at h
   ·cases h
   ·rename_i q hq;exact hc.prims f q hq _ ihC ihR args σ v σ' h F n w c cargs hF hs hg ha
   ·rename_i g hq;refine⟨Wr hc.mixed ihK ihC ihR (hc.fns f g hq) h hF hs hg ha,fun _ cargs' w'=>?_⟩;obtain⟨fn,code,em,h1,h2,h3,_⟩:=hc.fns f g hq;exact iT h1 h2 h3
   ·rename_i g hq;refine⟨?_,fun _ cargs' w'=>?_⟩
    ·have hcall:∀args v σ',pP (bJ code k) k g args σ=some (v,σ')→fU M w c args cargs→mH F n P (M.fm f) cargs w (dR M c w σ' v):=fun args v σ' h ha=>
      Wr hc.mixed ihK ihC ihR (hc.nilfns f g hq) h hF hs hg ha
     split at h
     ·rename_i x rest;split at h
      ·rename_i he;obtain⟨r,h1,h⟩:=aS h;obtain⟨q,h2,h⟩:=aS h;split at h
       ·rename_i hsame;cases h;simp only[acz]at hsame;obtain⟨q1,q2⟩:=q;have e1:=rh hsame.1;have e2:=Hf hsame.2;dsimp only at e1 e2;subst e1 e2;obtain⟨cx,hcx,hx⟩:=ha.2 0 (by simp);obtain⟨a,cap,rfl⟩:=adp hs hx he;have ha':∀b,a.isNone=b→fU M w c (.emp b::rest) cargs:=fun b hb=>by
         refine⟨ha.1,fun i hi=>?_⟩;cases i with
         |zero=>exact⟨_,hcx,.emp hb⟩
         |succ i=>exact ha.2 (i+1) hi
        cases hb:a.isNone with
        |true=>exact hcall _ _ _ h1 (ha' _ hb)
        |false=>exact hcall _ _ _ h2 (ha' _ hb)
       cases h
      exact hcall _ _ _ h ha
     cases h
    obtain⟨fn,code,em,h1,h2,h3,_⟩:=hc.nilfns f g hq;exact iT h1 h2 h3
   split at h
   ·exact (YA ha).elim
   cases h
  ·have hpl:σ[l]?=some (.pend false none):=by
    unfold sT at hpd;split at hpd
    ·assumption
    cases hpd
   have hsite:∃g,code.fns site=.round g∧∀rec em,M.site site rec em→AS M P bh g rec em:=by
    cases hx with
    |@yld _ _ _ _ em blk f h1 h2 h3 h4 h5 h6 h7=>
     obtain⟨g,g1,g2⟩:=hc.sites _ _ _ h4;refine⟨g,g1,fun rec em hm=>?_⟩;obtain⟨g',g1',g2'⟩:=hc.sites _ _ _ hm;rw[g1]at g1';cases g1';exact g2'
    |yldOld h0 h1 h2=>rw[hs.H,cU hpl]at h2;cases h2
   obtain⟨g,g1,g2⟩:=hsite;simp only[bJ,g1,an7]at h;split at h
   ·rename_i hl;split at h
    ·rename_i hlen;exact Qj hc.mixed ihK ihC ihR hl hlen h g2 hF hs hg ha hx
    cases h
   cases h
  simp only[bJ]at h;rcases hc.keeps f hp with⟨g,hq,hl⟩|⟨q,hq,hk⟩
  ·have keep:∀args v σ',pP (bJ code k) k g args σ=some (v,σ')→σ'=σ:=fun args v σ' h=>by
    unfold pP at h;obtain⟨⟨e,s⟩,_,h2⟩:=aS h;unfold lP at h2;have fin:∀v0,fo g.mode σ s v0=(v,σ')→σ'=σ:=fun v0 hfin=>by
     cases hmo:g.mode<;>rw[hmo]at hl hfin<;>first|(cases hl;done)|skip
     ·cases hfin;rfl
     simp only[fo]at hfin;cases hfin;rfl
    cases e with
    |ext i=>cases h2
    |nrm=>obtain⟨v0,_,h3⟩:=aQ h2;exact fin v0 h3
    |ret=>obtain⟨v0,_,h3⟩:=aQ h2;exact fin v0 h3
   rcases hq with hq|hq
   ·rw[hq]at h;exact keep _ _ _ h
   rw[hq]at h;dsimp only at h;split at h
   ·split at h
    ·obtain⟨⟨r1,r2⟩,h1,h⟩:=aS h;obtain⟨q,h2,h⟩:=aS h;split at h
     ·cases h;exact keep _ _ _ h1
     cases h
    exact keep _ _ _ h
   cases h
  rw[hq]at h;exact hk _ _ _ _ _ h
end Go.AM
namespace Go.AM
def er(le:aa→aa→Bool)(x:aa):List aa→List aa
 |[]=>[x]
 |y::r=>if le x y then x::y::r else y::er le x r
def dt(le:aa→aa→Bool):List aa→List aa
 |[]=>[]
 |x::r=>er le x (dt le r)
theorem wm{le le':aa→aa→Bool}{x:aa}:∀{l:List aa},(∀y∈l,le x y=le' x y)→er le x l=er le' x l
 |[],_=>rfl
 |y::r,h=>by
  simp only[er,h y (aoQ ..)];split
  ·rfl
  rw[wm fun z hz=>h z (aer _ hz)]
theorem tN{le:aa→aa→Bool}{x z:aa}:∀{l:List aa},z∈er le x l↔z=x∨z∈l
 |[]=>by simp[er]
 |y::r=>by
  simp only[er];split
  ·simp
  simp only[arm,tN (l:=r)];constructor
  ·rintro (h|h|h)<;>simp[h]
  rintro (h|h|h)<;>simp[h]
theorem jk{le:aa→aa→Bool}{z:aa}:∀{l:List aa},z∈dt le l↔z∈l
 |[]=>by simp[dt]
 |x::r=>by simp[dt,tN,jk (l:=r)]
theorem As{le le':aa→aa→Bool}:∀{l:List aa},(∀x∈l,∀y∈l,le x y=le' x y)→dt le l=dt le' l
 |[],_=>rfl
 |x::r,h=>by
  have hr:dt le r=dt le' r:=As fun a ha b hb=>h a (aer _ ha) b (aer _ hb);simp only[dt,hr];exact wm fun y hy=>h x (aoQ ..) y (aer _ (jk.1 hy))
def gD(C:ec)(f x y:aa):Option Int:=
 match qK C f [x,y] [] with
 |some (.int .i64 n,[])=>some n
 |_=>none
def oh(cmp:aa→aa→Option Int)(l:List aa):Prop:=
 (∀x∈l,∀y∈l,∃n,cmp x y=some n∧-9223372036854775808≤n∧n<9223372036854775808) ∧
 (∀x∈l,∀y∈l,∀n m,cmp x y=some n→cmp y x=some m→(n<0↔0<m)) ∧
 (∀x∈l,∀y∈l,cmp x y=some 0→x=y)∧(∀x∈l,cmp x x=some 0) ∧
 (∀x∈l,∀y∈l,∀z∈l,∀n m k,cmp x y=some n→cmp y z=some m→cmp x z=some k→n<0→m<0→k<0)
def kS(cmp:aa→aa→Option Int)(x y:aa):Bool:=match cmp x y with
 |some n=>decide (n≤0)
 |none=>false
def vw(cmp:aa→aa→Option Int)(l:List aa):Bool:=
 (l.all fun x=>l.all fun y=>match cmp x y,cmp y x with
  |some n,some m=>decide (-9223372036854775808≤n)&&decide (n<9223372036854775808)&&(decide (n<0)==decide (0<m))&&(n != 0 ||same x y)
  |_,_=>false) &&
 (l.all fun x=>cmp x x==some 0) &&
 l.all fun x=>l.all fun y=>l.all fun z=>match cmp x y,cmp y z,cmp x z with
  |some n,some m,some k=>!decide (n<0) || !decide (m<0) ||decide (k<0)
  |_,_,_=>false
theorem lq{cmp:aa→aa→Option Int}{l:List aa}:vw cmp l=true↔oh cmp l:=by
 unfold vw oh;simp only[acz,afz];constructor
 ·rintro⟨⟨h1,h2⟩,h3⟩;have key:∀x∈l,∀y∈l,∃n m,cmp x y=some n∧cmp y x=some m∧(-9223372036854775808≤n∧n<9223372036854775808)∧(n<0↔0<m)∧(n=0→x=y):=fun x hx y hy=>by
   have:=h1 x hx y hy;split at this
   ·rename_i n m e1 e2;simp only[acz,ad7,afE,avQ,arX,atU]at this;obtain⟨⟨⟨a1,a2⟩,a3⟩,a4⟩:=this;exact⟨n,m,e1,e2,⟨a1,a2⟩,a3,fun e=>a4.elim (fun h=>absurd e h) rh⟩
   cases this
  refine⟨fun x hx y hy=>?_,fun x hx y hy n m e1 e2=>?_,fun x hx y hy e=>?_,fun x hx=>by simpa using h2 x hx,fun x hx y hy z hz n m k e1 e2 e3 hn hm=>?_⟩
  ·obtain⟨n,m,e1,_,e2,_⟩:=key x hx y hy;exact⟨n,e1,e2⟩
  ·obtain⟨n',m',f1,f2,_,f3,_⟩:=key x hx y hy;rw[f1]at e1;rw[f2]at e2;cases e1;cases e2;exact f3
  ·obtain⟨n',m',f1,f2,_,_,f3⟩:=key x hx y hy;rw[f1]at e;cases e;exact f3 rfl
  have:=h3 x hx y hy z hz;rw[e1,e2,e3]at this;simpa [hn,hm] using this
 rintro⟨h1,h2,h3,h4,h5⟩;refine⟨⟨fun x hx y hy=>?_,fun x hx=>by simpa using h4 x hx⟩,fun x hx y hy z hz=>?_⟩
 ·obtain⟨n,e1,a1,a2⟩:=h1 x hx y hy;obtain⟨m,e2,_⟩:=h1 y hy x hx;rw[e1,e2];have:=h2 x hx y hy n m e1 e2;simp only[acz,ad7,afE,avQ,arX,atU];refine⟨⟨⟨a1,a2⟩,this⟩,?_⟩;by_cases hn:n=0
  ·subst hn;right;rw[h3 x hx y hy e1];exact oP y
  exact .inl hn
 obtain⟨n,e1,_⟩:=h1 x hx y hy;obtain⟨m,e2,_⟩:=h1 y hy z hz;obtain⟨k,e3,_⟩:=h1 x hx z hz;rw[e1,e2,e3];by_cases hn:n<0
 ·by_cases hm:m<0
  ·have:=h5 x hx y hy z hz n m k e1 e2 e3 hn hm;simp[this]
  simp[hm]
 simp[hn]
def W5:aa→Bool
 |.fn _ [] _=>true
 |_=>false
def nl(C:ec)(args:List aa)(σ:ah):Option (aa×ah):=
 match args with
 |[.yz,_]=>some (.any,σ)
 |[.sl id ep off n,f]=>match σ[id]? with
  |some (.arr k e es)=>
   let dE:=(es.drop off).take n
   let σ1:=σ.set id .dead
   let cmp:=gD C (dW σ1 f)
   if e=ep∧off+n≤es.length∧n≤most∧(dE.all fun x=>same (dW σ1 x) x&&aw x==1&&!isAgg x&&!iw x)=true∧vw cmp dE=true∧W5 (dW σ1 f)=true then
    some (.any,σ.set id (.arr k e (es.take off++dt (kS cmp) dE++es.drop (off+n))))
   else none
  |_=>none
 |_=>none
def Oz:List aa→Option (List Int)
 |[]=>some []
 |.int .i64 n::r=>(Oz r).map (n::·)
 |_=>none
def mT:aa→aa→Bool
 |.int _ a,.int _ b=>decide (a≤b)
 |_,_=>true
def vN(args:List aa)(σ:ah):Option (aa×ah):=
 match args with
 |[.yz]=>some (.any,σ)
 |[.sl id ep off n]=>match σ[id]? with
  |some (.arr k e es)=>
   if e=ep∧off+n≤es.length∧n≤most∧(Oz ((es.drop off).take n)).isSome then
    some (.any,σ.set id (.arr k e (es.take off++dt mT ((es.drop off).take n)++es.drop (off+n))))
   else none
  |_=>none
 |_=>none
def Ib(args:List aa)(σ:ah):Option (aa×ah):=
 match args with
 |[.int .u64 x,.int .u64 y,.int .u64 c]=>
  if 0≤x∧x<18446744073709551616∧0≤y∧y<18446744073709551616∧0≤c∧c≤1 then
   some (.tup [.int .u64 ((x+y+c)%18446744073709551616),.int .u64 ((x+y+c)/18446744073709551616)],σ)
  else none
 |_=>none
def ms(args:List aa)(σ:ah):Option (aa×ah):=
 match args with
 |[.str a,.str b]=>some (.int .i64 (if Op.bytesLess a b then -1 else if a==b then 0 else 1),σ)
 |_=>none
def prims:Nat→akI
 |0=>fun _=>Ib
 |1=>nl
 |2=>fun _=>vN
 |3=>fun _=>ms
 |_=>fun _ _ _=>none
theorem ads{C D:ec}(h:Zf C D){f:aa}{args:List aa}{σ:ah}{r:aa×ah}(hr:qK C f args σ=some r):qK D f args σ=some r:=by
 unfold qK at hr ⊢;split at hr
 ·exact h _ _ _ _ hr
 ·split at hr
  ·rename_i hp;rw[if_pos hp];exact h _ _ _ _ hr
  cases hr
 cases hr
theorem abP{C D:ec}(h:Zf C D){f x y:aa}{n:Int}(hr:gD C f x y=some n):gD D f x y=some n:=by
 unfold gD at hr ⊢;cases hc:qK C f [x,y] [] with
 |none=>rw[hc]at hr;cases hr
 |some q=>rw[hc]at hr;rw[ads h hc];exact hr
theorem RG(k:Nat)(C D:ec)(args:List aa)(σ:ah)(r:aa×ah)(h:Zf C D)(hr:prims k C args σ=some r):prims k D args σ=some r:=by
 unfold prims at hr ⊢;split at hr
 ·exact hr
 ·unfold nl at hr ⊢;split at hr
  ·exact hr
  ·rename_i id ep off n f;split at hr
   ·rename_i k e es he;dsimp only at hr ⊢;split at hr
    ·rename_i hc;obtain⟨h1,h2,h0,h3,h4',h5⟩:=hc;have h4:=lq.1 h4';have heq:∀x∈(es.drop off).take n,∀y∈(es.drop off).take n,gD D (dW (σ.set id .dead) f) x y=gD C (dW (σ.set id .dead) f) x y:=fun x hx y hy=>by
      obtain⟨n,hn,_⟩:=h4.1 x hx y hy;rw[hn];exact abP h hn
     have hO:oh (gD D (dW (σ.set id .dead) f)) ((es.drop off).take n):=by
      refine⟨fun x hx y hy=>by rw[heq x hx y hy];exact h4.1 x hx y hy,fun x hx y hy n m=>by rw[heq x hx y hy,heq y hy x hx];exact h4.2.1 x hx y hy n m,fun x hx y hy=>by rw[heq x hx y hy];exact h4.2.2.1 x hx y hy,fun x hx=>by rw[heq x hx x hx];exact h4.2.2.2.1 x hx,fun x hx y hy z hz n m k=>by rw[heq x hx y hy,heq y hy z hz,heq x hx z hz];exact h4.2.2.2.2 x hx y hy z hz n m k⟩
     rw[if_pos ⟨h1,h2,h0,h3,lq.2 hO,h5⟩,←hr,As (le:=kS (gD D (dW (σ.set id .dead) f))) (le':=kS (gD C (dW (σ.set id .dead) f)))];intro x hx y hy;unfold kS;rw[heq x hx y hy]
    cases hr
   cases hr
  cases hr
 ·exact hr
 ·exact hr
 cases hr
end Go.AM
namespace Go.AM
open Go.Proofs Go.Sort Go.Shelf
variable {M:bw} {P:Program} {w w':World} {c c1:bv} {σ τ:ah}
theorem aeJ{F:Fence}(h:pZ F):∃r,F={ Fence.wide with round:=r }:=by
 obtain⟨fn,depth,alive,round⟩:=F;obtain⟨h1,h2,h3⟩:=h;dsimp only at h1 h2 h3;subst h2 h3;have:fn=fun _=>True:=funext fun f=>propext ⟨fun _=>trivial,fun _=>h1 f⟩;subst this;exact⟨round,rfl⟩
theorem un{F:Fence}(h:pZ F){n:Nat}{f:FuncId}{args:Array Value}{R:Ending→World→Prop}:CallsIn F n P f args w R↔Calls P f args w R:=by
 obtain⟨r,rfl⟩:=aeJ h;exact callsIn_wide (n:=n)
theorem xw:pZ Fence.wide:=⟨fun _=>trivial,rfl,rfl⟩
def bv.side(c:bv)(w:World)(blk:Nat):bv:={ c with bor:=fun b=>b<w.heap.size∧b≠blk,H:=hd [],N:=0,place:=fun _=>none }
theorem sA(hs:cO M w c σ){id blk:Nat}(hl:c.H id≠.dead)(hb:c.place id=some blk):aei true 0 { c with H:=hd (σ.set id .dead) } (c.side w blk) where
 sld:=fun b h=>h
 sb:=fun b h=>⟨hs.low b (hs.sb b h),fun e=>(hs.plow id blk hl hb).2 (hs.sb blk (e▸h))⟩
 bor:=fun b h=>⟨hs.low b h,fun e=>(hs.plow id blk hl hb).2 (e▸h)⟩
 gone:=fun i b _ h1 h2=>by
  have h1':hd (σ.set id .dead) i≠.dead:=h1;have hne:i≠id:=fun e=>by
   subst e;apply h1';have hlt:i<σ.length:=by
    have:hd σ i≠.dead:=by rw[←hs.H];exact hl
    exact DH this
   rw[cU (o:=.dead) (by rw[atk];simp[hlt])]
  rw[fL hne,←hs.H]at h1';exact⟨(hs.plow i b h1' h2).1,fun e=>hne (hs.inj i id b h1' hl h2 (e▸hb))⟩
 N:=fun id h=>absurd h (art _)
 keep:=fun id h=>absurd h (art _)
theorem adr{blk:Nat}{W:World}(hs:cO M w c σ){id:Nat}(hl:c.H id≠.dead)(hb:c.place id=some blk)(hz:w.heap.size≤W.heap.size)(hW:∀b,b<w.heap.size→b≠blk→W.heap[b]?=w.heap[b]?) :
  cO M W (c.side w blk) []∧Ext (c.side w blk) w (c.side w blk) W:=by
 have h0:cO M w (c.side w blk) []:=⟨rfl,rfl,(sA hs hl hb).sb,fun b h=>h.1,fun id b h=>absurd (by rfl) h,fun i j b h=>absurd (by rfl) h,fun id o h=>by cases h⟩;refine⟨⟨rfl,rfl,h0.sb,fun b h=>aju h.1 hz,fun id b h=>absurd (by rfl) h,fun i j b h=>absurd (by rfl) h,fun id o h=>by cases h⟩,⟨fun _ h=>h,fun _ h=>h,fun b hb=>?_,aes _,fun _ _=>.inl rfl,fun _ _ _ _=>⟨rfl,rfl,rfl⟩⟩⟩;have:b<w.heap.size∧b≠blk:=hb.elim (fun h=>h) (h0.sb b);exact hW b this.1 this.2
theorem afR{W W':World}(h:Same W W')(hz:W.heap.size≤W'.heap.size)(hf:∀b,b<W.heap.size→W'.heap[b]?=W.heap[b]?):∃q os,W'=grow (W.drewN q) os:=by
 refine⟨W'.drawn-W.drawn,W'.heap.extract W.heap.size W'.heap.size,?_⟩;obtain⟨heap,tape,drawn,os,output⟩:=W;obtain⟨heap',tape',drawn',os',output'⟩:=W';obtain⟨h1,h2,h3,h4⟩:=h;dsimp only at h1 h2 h3 h4 hz hf;subst h1 h2 h3;simp only[grow,World.drewN,World.mk.injEq,true_and,and_true];refine⟨?_,by omega⟩;apply atY;intro i;by_cases hi:i<heap.size
 ·rw[hf i hi,atu hi]
 rw[auD (by omega),au6];by_cases hi2:i<heap'.size
 ·rw[if_pos (by omega)];congr 1;omega
 rw[if_neg (by omega),atA (by omega)]
theorem yg{le:aa→aa→Bool}{x:aa}:∀{l:List aa},(er le x l).Perm (x::l)
 |[]=>.refl _
 |y::r=>by
  simp only[er];split
  ·exact .refl _
  exact (List.Perm.cons y yg).trans (List.Perm.swap x y r)
theorem wt{le:aa→aa→Bool}:∀{l:List aa},(dt le l).Perm l
 |[]=>.refl _
 |x::r=>yg.trans (List.Perm.cons x wt)
theorem uB{le:aa→aa→Bool}{x:aa}:∀{l:List aa},(∀y∈l,le x y=true∨le y x=true)→(∀y∈l,∀z∈l,le x y=true→le y z=true→le x z=true)→l.Pairwise (fun a b=>le a b=true)→(er le x l).Pairwise (fun a b=>le a b=true)
 |[],_,_,_=>by simp[er]
 |y::r,ht,htr,hp=>by
  simp only[er];obtain⟨h1,h2⟩:=asS.1 hp;split
  ·rename_i hxy;refine asS.2 ⟨fun z hz=>?_,hp⟩;rcases arm.1 hz with rfl|hz
   ·exact hxy
   exact htr y aoQ z (aer _ hz) hxy (h1 z hz)
  rename_i hxy;refine asS.2 ⟨fun z hz=>?_,uB (fun z hz=>ht z (aer _ hz)) (fun a ha b hb=>htr a (aer _ ha) b (aer _ hb)) h2⟩;rcases tN.1 hz with rfl|hz
  ·exact (ht y aoQ).resolve_left hxy
  exact h1 z hz
theorem rW{le:aa→aa→Bool}:∀{l:List aa},(∀x∈l,∀y∈l,le x y=true∨le y x=true)→(∀x∈l,∀y∈l,∀z∈l,le x y=true→le y z=true→le x z=true)→(dt le l).Pairwise (fun a b=>le a b=true)
 |[],_,_=>List.Pairwise.nil
 |x::r,ht,htr=>by
  refine uB (fun y hy=>ht x aoQ y (aer _ (jk.1 hy))) (fun y hy z hz=>htr x aoQ y (aer _ (jk.1 hy)) z (aer _ (jk.1 hz))) ?_;exact rW (fun a ha b hb=>ht a (aer _ ha) b (aer _ hb)) fun a ha b hb c hc=>htr a (aer _ ha) b (aer _ hb) c (aer _ hc)
section order
variable {cmp:aa→aa→Option Int} {l:List aa}
theorem rx(h:oh cmp l){x y:aa}(hx:x∈l)(hy:y∈l):kS cmp x y=true↔∃n,cmp x y=some n∧n≤0:=by
 unfold kS;obtain⟨n,h1,_⟩:=h.1 x hx y hy;rw[h1];simp
theorem De(h:oh cmp l){x y:aa}(hx:x∈l)(hy:y∈l):kS cmp x y=true∨kS cmp y x=true:=by
 rw[rx h hx hy,rx h hy hx];obtain⟨n,h1,_⟩:=h.1 x hx y hy;obtain⟨m,h2,_⟩:=h.1 y hy x hx;have:=h.2.1 y hy x hx m n h2 h1;by_cases hn:n≤0
 ·exact .inl ⟨n,h1,hn⟩
 exact .inr ⟨m,h2,by have:=this.2 (by omega);omega⟩
theorem ac6(h:oh cmp l){x y:aa}(hx:x∈l)(hy:y∈l)(h1:kS cmp x y=true)(h2:kS cmp y x=true):x=y:=by
 rw[rx h hx hy]at h1;rw[rx h hy hx]at h2;obtain⟨n,e1,n0⟩:=h1;obtain⟨m,e2,m0⟩:=h2;have:=h.2.1 x hx y hy n m e1 e2;have hn:n=0:=by
  by_cases hlt:n<0
  ·have:=this.1 hlt;omega
  omega
 subst hn;exact h.2.2.1 x hx y hy e1
theorem BU(h:oh cmp l){x y z:aa}(hx:x∈l)(hy:y∈l)(hz:z∈l)(h1:kS cmp x y=true)(h2:kS cmp y z=true):kS cmp x z=true:=by
 rw[rx h hx hy]at h1;rw[rx h hy hz]at h2;obtain⟨n,e1,n0⟩:=h1;obtain⟨m,e2,m0⟩:=h2;by_cases hn:n=0
 ·subst hn;rw[h.2.2.1 x hx y hy e1];rw[rx h hy hz];exact⟨m,e2,m0⟩
 by_cases hm:m=0
 ·subst hm;rw[←h.2.2.1 y hy z hz e2,rx h hx hy];exact⟨n,e1,n0⟩
 obtain⟨k,e3,_⟩:=h.1 x hx z hz;have:=h.2.2.2.2 x hx y hy z hz n m k e1 e2 e3 (by omega) (by omega);rw[rx h hx hz];exact⟨k,e3,by omega⟩
end order
def BP(cmp:aa→aa→Option Int)(dE:List aa)(i j:Fin dE.length):Int:=(cmp dE[i] dE[j]).getD 0
theorem ak6{cmp:aa→aa→Option Int}{dE:List aa}(h:oh cmp dE):SWO (ltOf (BP cmp dE)):=by
 have hm:∀i:Fin dE.length,dE[i]∈dE:=fun i=>agL _;have hlt:∀i j:Fin dE.length,ltOf (BP cmp dE) i j=true↔kS cmp dE[j] dE[i]=false:=fun i j=>by
  unfold ltOf BP kS;obtain⟨n,h1,_⟩:=h.1 _ (hm i) _ (hm j);obtain⟨m,h2,_⟩:=h.1 _ (hm j) _ (hm i);rw[h1,h2];have:=h.2.1 _ (hm i) _ (hm j) n m h1 h2;simp only[ary,ad7,atb];omega
 have hle:∀i j:Fin dE.length,ltOf (BP cmp dE) i j=false↔kS cmp dE[j] dE[i]=true:=fun i j=>by
  have:=hlt i j;cases h1:ltOf (BP cmp dE) i j<;>cases h2:kS cmp dE[j] dE[i]<;>simp_all
 refine⟨fun i=>?_,fun i j k h1 h2=>?_,fun i j k h1 h2=>?_⟩
 ·rw[hle];exact (De h (hm i) (hm i)).elim (fun h=>h) fun h=>h
 ·rw[hlt]at h1 h2 ⊢;cases h3:kS cmp dE[k] dE[i] with
  |false=>rfl
  |true=>
   have hij:kS cmp dE[i] dE[j]=true:=(De h (hm i) (hm j)).resolve_right (by rw[h1];simp);have:=BU h (hm k) (hm i) (hm j) h3 hij;rw[h2]at this;cases this
 rw[hle]at h1 h2 ⊢;exact BU h (hm k) (hm j) (hm i) h2 h1
theorem SQ{cmp:aa→aa→Option Int}{dE:List aa}(h:oh cmp dE){ds:List (Fin dE.length)}(hp:ds.Perm (List.finRange dE.length))(hs:ds.Pairwise fun i j=>ltOf (BP cmp dE) j i=false) :
  ds.map (fun i=>dE[i])=dt (kS cmp) dE:=by
 have hm:∀i:Fin dE.length,dE[i]∈dE:=fun i=>agL _;have hall:(List.finRange dE.length).map (fun i=>dE[i])=dE:=by
  apply avj
  ·simp
  intro i h1 h2;simp
 have hp1:(ds.map fun i=>dE[i]).Perm dE:=by
  have:=hp.map (fun i:Fin dE.length=>dE[i])
  rwa [hall]at this
 have hmem:∀x∈ds.map (fun i=>dE[i]),x∈dE:=fun x hx=>hp1.mem_iff.1 hx;refine avC (le:=fun x y=>kS cmp x y=true) ?_ ?_ (rW (fun x hx y hy=>De h hx hy) fun x hx y hy z hz=>BU h hx hy hz) (hp1.trans wt.symm)
 ·intro a b ha hb h1 h2;exact ac6 h (hmem a ha) (jk.1 hb) h1 h2
 rw[avJ];refine hs.imp fun {i j} hij=>?_;have:ltOf (BP cmp dE) j i=false:=hij;unfold ltOf BP at this;obtain⟨n,h1,_⟩:=h.1 _ (hm i) _ (hm j);obtain⟨m,h2,_⟩:=h.1 _ (hm j) _ (hm i);rw[h2]at this;simp only[ary,atb]at this;rw[rx h (hm i) (hm j)];have hx:=h.2.1 _ (hm i) _ (hm j) n m h1 h2;have hy:=h.2.1 _ (hm j) _ (hm i) m n h2 h1;refine⟨n,h1,?_⟩;by_cases hn:n≤0
 ·exact hn
 have:=hy.2 (by omega);omega
theorem Pa(hs:cO M w c σ){id e blk off n:Nat}{es mid':List aa}(ho:σ[id]?=some (.arr 1 e es))(hb:c.place id=some blk){cs cs':Array Value}{T:TypeId}{Fv:Nat→Nat→Value}(hcs:w.heap[blk]?=some (.cells cs T (0,0)))
  (hz0:es.length*1≤cs.size) (hroom:c.room id=cs.size) (hF:∀i j,i<es.length→j<1→cs[i*1+j]?=some (Fv i j)∧(Fv i j).oneCell'=true) (hR:∀i (hi:i<es.length) j (hj:j<(cellsOf es[i]).length),R M w c (cellsOf es[i])[j] (Fv i j))
  (hall:∀x∈es,aw x=1) (hfit:off+n≤es.length) (hn:mid'.length=n) (hall':∀x∈mid',aw x=1∧isAgg x=false) (g:Nat→Value) (hg:∀i,i<n→(g i).oneCell'=true) (hgR:∀i (h:i<mid'.length),R M w c mid'[i] (g i))
  (hw:w'.heap[blk]?=some (.cells cs' T (0,0))) (hcz:cs'.size=cs.size) (hc':∀k,cs'[k]?=if off≤k∧k<off+n then some (g (k-off)) else cs[k]?) (hrest:∀b,b<w.heap.size→b≠blk→w'.heap[b]?=w.heap[b]?) (hsz:w.heap.size≤w'.heap.size) (hsame:Same w w') :
  cO M w' c (σ.set id (.arr 1 e (es.take off++mid'++es.drop (off+n))))∧fK c w c w':=by
 have hlive:c.H id≠.dead:=by rw[hs.H,cU ho];simp
 have hbl:blk<w.heap.size:=(ak4.1 hcs).1;have hset:sJ w { w with heap:=w.heap.setIfInBounds blk (.cells cs' T (0,0)) } blk (.cells cs' T (0,0)):=⟨⟨rfl,rfl,rfl,aes _⟩,rfl⟩;have hlen:(es.take off++mid'++es.drop (off+n)).length=es.length:=by simp[hn];omega
 have at_:∀i (hi:i<(es.take off++mid'++es.drop (off+n)).length),(off≤i∧i<off+n∧∃h:i-off<mid'.length,(es.take off++mid'++es.drop (off+n))[i]=mid'[i-off]) ∨
   (¬(off≤i∧i<off+n)∧∃h:i<es.length,(es.take off++mid'++es.drop (off+n))[i]=es[i]):=fun i hi=>by
  by_cases h1:i<off
  ·right;refine⟨by omega,by omega,?_⟩;rw[amd (by simp[hn];omega),amd (by simp;omega)];simp
  by_cases h2:i<off+n
  ·left;refine⟨by omega,h2,by omega,?_⟩;rw[amd (by simp[hn];omega),arK (by simp;omega)];congr 1;simp;omega
  right;refine⟨by omega,by omega,?_⟩;rw[arK (by simp[hn];omega)];simp only[atM];congr 1;simp[hn];omega
 obtain⟨s1,st1⟩:=hs.setRow (es':=es.take off++mid'++es.drop (off+n)) ho hb hcs hset hcz hroom (by simp) (fun x hx=>by
   rcases aoS.1 hx with hx|hx
   ·rcases aoS.1 hx with hx|hx
    ·exact hall x (akt hx)
    exact (hall' x hx).1
   exact hall x (asW hx)) (by rw[hlen];exact hz0) (fun i j=>if off≤i∧i<off+n then g (i-off) else Fv i j)
  (fun i j hi hj=>by
   have hj0:j=0:=by omega
   subst hj0;rw[hc'];rw[hlen]at hi;simp only[au2,at9];split
   ·exact⟨rfl,hg _ (by omega)⟩
   have:=hF i 0 hi (by omega);simpa using this)
  (fun i hi j hj=>by
   rcases at_ i hi with⟨h1,h2,h3,h4⟩|⟨h1,h2,h3⟩
   ·simp only[h4]at hj ⊢;rw[if_pos ⟨h1,h2⟩];have hna:=(hall' _ (agL h3)).2;have hcell:cellsOf mid'[i-off]=[mid'[i-off]]:=by
     cases hm:mid'[i-off]<;>first|rfl|(rw[hm]at hna;cases hna)
    simp only[hcell]at hj ⊢;have hj0:j=0:=by simpa using hj
    subst hj0;exact hgR _ h3
   simp only[h3]at hj ⊢;rw[if_neg h1];exact hR i h2 j hj)
 obtain⟨s2,x2⟩:=s1.over (w':=w') (fun b hbz hbb=>by
   rw[hset.get b hbl];split
   ·rename_i e1;rw[e1];exact hw
   rename_i hne;rw[hset.size]at hbz;exact hrest b hbz hne) (by rw[hset.size];exact hsz)
 refine⟨s2,{ Ext.trans st1.toExt x2 with same:=hsame,size:=hsz,frame:=fun b hbz hbn=>hrest b hbz (fun e=>hbn id hlive (e▸hb)),liv:=fun i b h1 h2 _=>⟨i,h1,h2⟩,old:=fun _ h _=>.inl h,oldb:=fun _ h _=>.inl h }⟩
theorem pz{α:Type}[Inhabited α]{enc:α→Value}{blk off m:Nat}{d:Array α}{os:Array Go.Obj}{cs:Array Value}{T:TypeId}(hcs:w.heap[blk]?=some (.cells cs T (0,0))) :
  (grow (putRow enc (Sort.ahead w m) blk off d) os).heap[blk]?=some (.cells (putCells enc off d cs) T (0,0))∧(∀b,b<w.heap.size→b≠blk→(grow (putRow enc (Sort.ahead w m) blk off d) os).heap[b]?=w.heap[b]?) ∧
   w.heap.size≤(grow (putRow enc (Sort.ahead w m) blk off d) os).heap.size∧Same w (grow (putRow enc (Sort.ahead w m) blk off d) os):=by
 have hbl:blk<w.heap.size:=(ak4.1 hcs).1;have hh:(grow (putRow enc (Sort.ahead w m) blk off d) os).heap=w.heap.modify blk (onCells (putCells enc off d))++os:=rfl;refine⟨?_,fun b hb hne=>?_,?_,⟨rfl,rfl,rfl,Nat.le_add_right _ _⟩⟩
 ·rw[hh,atu (by simpa using hbl),auG,if_pos rfl,hcs];rfl
 ·rw[hh,atu (by simpa using hb),auG,if_neg (fun e=>hne e.symm)]
 rw[hh];simp
theorem Bk{α:Type}[Inhabited α]{enc:α→Value}{off k:Nat}{d:Array α}{cs:Array Value}(hfit:off+d.size≤cs.size):(putCells enc off d cs)[k]?=if off≤k∧k<off+d.size then some (enc d[k-off]!) else cs[k]?:=by
 unfold putCells;rw[Array.getElem?_mapIdx];by_cases h:off≤k∧k<off+d.size
 ·rw[if_pos h,atl (by omega)];simp[h]
 rw[if_neg h];cases cs[k]? with
 |none=>rfl
 |some x=>simp[h]
theorem O1{id:Nat}{o:Obj}(h:σ[id]?=some o):σ.set id o=σ:=by
 apply aup;intro i;rw[atk];split
 ·rename_i e;subst e;rw[if_pos (aaN.1 h).1,h]
 rfl
end Go.AM
namespace Go.AM
open Go.Proofs Go.Sort Go.Shelf
variable {M:bw} {P:Program} {w w':World} {c c1:bv} {σ τ:ah}
theorem QO{ρ:Ren}(L:SlLaysF.n6 P ρ)(L0:SlLaysF0.n6 P ρ){f:Nat}(hf:M.fm f=ρ.f 6)(he:∀args w,(callFunc (ρ.f 6) args).run P w=.ok (.enter (ρ.f 6) args) w):yP M P f nl:=by
 intro C hC hR args σ v σ' h F n0 w c cargs hF hs hg ha;refine⟨.inl ⟨by rw[hf];exact he _ _,?_⟩,fun _ cargs' w'=>by rw[hf];exact he cargs' w'⟩;rw[un hF,hf];have two:∀{a b:aa},fU M w c [a,b] cargs→∃x0 x1,cargs=#[x0,x1]∧R M w c a x0∧R M w c b x1:=fun {a b} ha=>by
  obtain⟨x0,e0,r0⟩:=ha.2 0 (by simp);obtain⟨x1,e1,r1⟩:=ha.2 1 (by simp);refine⟨x0,x1,?_,r0,r1⟩;apply atY;intro i;have hz:cargs.size=2:=ha.1
  match i with
  |0=>rw[e0];rfl
  |1=>rw[e1];rfl
  |i+2=>rw[atA (by omega),atA (by simp)]
 have nothing:∀{a:Option Addr} {cap:Nat} {x1:Value},Calls P (ρ.f 6) #[.slice a 0 cap,x1] w fun e w'=>∃cv,e=.returned cv∧dR M c w σ .any cv w':=fun {a cap x1}=>
  (AnyF.slices_SortFunc_none L0 a cap x1 w).mono fun e w' hx=>by
   obtain⟨rfl,rfl⟩:=hx;exact⟨_,rfl,c,hs,.refl c w',.r .any⟩
 unfold nl at h;split at h
 ·cases h;obtain⟨x0,x1,rfl,r0,r1⟩:=two ha;cases r0 with
  |@yz _ a=>exact nothing
 ·rename_i id ep off n fv;split at h
  ·rename_i k e es ho;dsimp only at h;split at h
   ·rename_i hc;obtain⟨hep,hfit,hmost,hfix,hord0,hpf⟩:=hc;have hord:=lq.1 hord0;cases h;obtain⟨x0,x1,rfl,r0,r1⟩:=two ha;have hH:c.H id=.arr k e:=by rw[hs.H,cU ho]
    have hlive:c.H id≠.dead:=by rw[hH];simp
    have hlen:((es.drop off).take n).length=n:=by simp;omega
    by_cases hn0:n=0
    ·subst hn0;have hσ:σ.set id (.arr k e (es.take off++dt (kS (gD C (dW (σ.set id .dead) fv))) ((es.drop off).take 0)++es.drop (off+0)))=σ:=by
      have:es.take off++dt (kS (gD C (dW (σ.set id .dead) fv))) ((es.drop off).take 0)++es.drop (off+0)=es:=by simp[dt]
      rw[this];exact O1 ho
     rw[hσ];cases r0 with
     |sl=>exact nothing
     |sl0=>exact nothing
     |slOld h0 h1 h2=>exact absurd (h2 k e hH) (by omega)
    obtain⟨o1,o2,o3,o4⟩:=hs.obj id _ ho;generalize hmid:(es.drop off).take n=dE at *;have hfix':∀x∈dE,dW (σ.set id .dead) x=x∧aw x=1∧isAgg x=false∧iw x=false:=fun x hx=>by
     have:=afz.1 hfix x hx;simp only[acz,afE,as9]at this;obtain⟨⟨⟨a1,a2⟩,a3⟩,a4⟩:=this;exact⟨rh a1,a2,a3,a4⟩
    have hmem:∀i:Fin dE.length,dE[i]∈dE:=fun i=>agL _;have hin:∀(i:Nat) (h:i<dE.length),∃h':off+i<es.length,dE[i]=es[off+i]:=fun i hi=>by
     refine⟨by omega,?_⟩;subst hmid;simp
    have hk1:k=1:=by
     obtain⟨h1,h2⟩:=hin 0 (by omega);have a:=(hfix' dE[0] (agL (by omega))).2.1;rw[h2,o2 _ (agL h1)]at a;exact a
    subst hk1;cases r0 with
    |sl0=>exact absurd rfl hn0
    |slOld h0 h1 h2=>exact absurd (h2 1 e hH) (by omega)
    |@sl _ _ _ _ _ cap k2 blk h1 h2 h3 h4 h5=>
     have hk2:k2=1:=by rw[hH]at h2;cases h2;rfl
     subst hk2;obtain⟨cs,T,Fv,q1,q2,q3,q4,q5⟩:=o4 blk h3;have hblk:=(hs.plow id blk hlive h3).1
     haveI:Inhabited (Fin dE.length):=⟨⟨0,by omega⟩⟩
     have hview:∀{x:aa} {cx:Value},R M w c x cx→R M w (c.side w blk) (dW (σ.set id .dead) x) cx:=fun hx=>
      (Li (hs.kill id).1 (sA hs hlive h3) bQ false _ _ (hx.ext (hs.kill id).2)).ext (Ext.ofStill (sA hs hlive h3).sb true)
     have hglob:fT M w (c.side w blk):=fun g a hga=>
      (Li (hs.kill id).1 (sA hs hlive h3) 1 false _ _ ((hg g a hga).ext (hs.kill id).2)).ext (Ext.ofStill (sA hs hlive h3).sb true)
     have helem:∀i:Fin dE.length,R M w c dE[i] (Fv (off+i) 0):=fun i=>by
      obtain⟨a1,a2⟩:=hin i.1 i.2;have hna:=(hfix' _ (hmem i)).2.2.1;have hcell:cellsOf dE[i]=[dE[i]]:=by
       cases hm:dE[i]<;>first|rfl|(rw[hm]at hna;cases hna)
      have hj:0<(cellsOf es[off+i.1]).length:=by
       have:cellsOf es[off+i.1]=[dE[i]]:=by rw[←hcell];exact congrArg cellsOf a2.symm
       rw[this];simp
      have:=q5 (off+i.1) a1 0 hj;have e1:(cellsOf es[off+i.1])[0]=dE[i]:=by
       have:cellsOf es[off+i.1]=[dE[i]]:=by rw[←hcell];exact congrArg cellsOf a2.symm
       simp[this]
      rw[e1]at this;exact this
     have hside:∀i:Fin dE.length,R M w (c.side w blk) dE[i] (Fv (off+i) 0):=fun i=>by
      have:=hview (helem i)
      rwa [(hfix' _ (hmem i)).1]at this
     have hfv:=hview r1;generalize hfe:dW (σ.set id .dead) fv=fv' at *;unfold W5 at hpf;split at hpf
     ·rename_i g0 cap0;obtain⟨fs,cb,rfl,hfs,hcb⟩:=Gv hfv;have hfs0:fs=#[]:=aur hfs.1;subst hfs0
      have hat:∀(W:World),(∀b,b<w.heap.size→b≠blk→W.heap[b]?=w.heap[b]?)→w.heap.size≤W.heap.size→∀i j:Fin dE.length,
        (Calls P (M.fm g0) (#[Fv (off+i) 0,Fv (off+j) 0]++cb) W fun e w'=>e=.returned (.int .i64 (BP (gD C (.fn g0 [] cap0)) dE i j))∧∃q os,w'=grow (W.drewN q) os)∧∀args w,(callFunc (M.fm g0) args).run P w=.ok (.enter (M.fm g0) args) w:=fun W hfr hz i j=>by
       obtain⟨sW,xW⟩:=adr (W:=W) hs hlive h3 hz hfr;obtain⟨r,hr,_⟩:=hord.1 _ (hmem i) _ (hmem j);have hcf:BP (gD C (.fn g0 [] cap0)) dE i j=r:=by unfold BP;rw[hr];rfl
       rw[hcf];unfold gD at hr;split at hr
       ·rename_i m hq;cases hr;have hq':C g0 ([dE[i],dE[j]]++cap0) []=some (.int .i64 r,[]):=hq;have hcall:=hC g0 _ [] _ [] hq' Fence.wide 0 W (c.side w blk) (#[Fv (off+i) 0,Fv (off+j) 0]++cb) xw sW (hglob.ext xW) (fU.append ⟨rfl,fun t ht=>by
         match t,ht with
         |0,_=>exact⟨_,rfl,(hside i).ext xW⟩
         |1,_=>exact⟨_,rfl,(hside j).ext xW⟩
         |t+2,ht=>exact absurd ht (by simp)⟩ (fU.ext hcb xW))
        have henter:=hcall.2 ⟨dE[i],by simp,(hfix' _ (hmem i)).2.2.2⟩;refine⟨?_,henter⟩;rcases hcall.1 with⟨_,hin⟩|⟨cv,w',hv,_⟩
        ·rw[un xw]at hin;refine hin.mono fun e w' hx=>?_;obtain⟨cv,rfl,c',s',st',rf⟩:=hx;have hcv:cv=.int .i64 r:=by
          cases rf with
          |r h=>cases h;rfl
         subst hcv;exact⟨rfl,afR st'.same st'.size fun b hb=>st'.frame b hb fun id h=>absurd (by rfl) h⟩
        rw[henter]at hv;cases hv
       cases hr
      have hds:(List.finRange dE.length).toArray.size=dE.length:=by simp
      have hget:∀j,(hj:j<dE.length)→(List.finRange dE.length).toArray[j]! = ⟨j,hj⟩:=fun j hj=>by
       rw[getElem!_pos _ j (by simpa using hj)];simp
      have hHold:Holds (fun i:Fin dE.length=>Fv (off+i) 0) w blk off (List.finRange dE.length).toArray:=fun j hj=>by
       rw[hds]at hj;rw[hget j hj];have:=(q4 (off+j) 0 (by omega) (by omega)).1;simp only[World.cell?,World.frozen?,q1];refine⟨by simpa using this,by simp⟩
      have hone:OneCell (fun i:Fin dE.length=>Fv (off+i) 0):=fun i=>(q4 (off+i) 0 (by have:=i.2;omega) (by omega)).2;have hcmp:CmpLays1 P (M.fm g0) cb (fun i:Fin dE.length=>Fv (off+i) 0) (BP (gD C (.fn g0 [] cap0)) dE) blk off (List.finRange dE.length).toArray.size w:=fun m os dk _ i j=>by
       obtain⟨_,f2,f3,_⟩:=pz (w:=w) (enc:=fun i:Fin dE.length=>Fv (off+i) 0) (off:=off) (m:=m) (d:=dk) (os:=os) q1;exact (hat _ f2 f3 i j).1
      have hmain:=Any.slices_SortFunc L (fun i:Fin dE.length=>Fv (off+i) 0) hone (BP (gD C (.fn g0 [] cap0)) dE) (ak6 hord) (M.fm g0) cb blk off cap (List.finRange dE.length).toArray w
       (hat w (fun _ _ _=>rfl) (aes _) ⟨0,by omega⟩ ⟨0,by omega⟩).2 hcmp hHold hblk (by rw[hds,hlen];unfold most at hmost;omega)
      have e1:(⟨blk,off*1,none⟩:Addr)=⟨blk,off,none⟩:=by rw[au2]
      have e2:(List.finRange dE.length).toArray.size=n:=by rw[hds,hlen]
      rw[e2]at hmain;rw[e1];refine hmain.mono fun e' w' hx=>?_;obtain⟨rfl,d',m,os,⟨p1,p2,p3⟩,hso,rfl⟩:=hx;have hd'z:d'.size=dE.length:=by rw[p1,hds]
      have hx1:d'.extract 0 n=d':=by rw[show n=d'.size by omega];exact Array.extract_size
      have hx2:(List.finRange dE.length).toArray.extract 0 n=(List.finRange dE.length).toArray:=by rw[←e2];exact Array.extract_size
      rw[hx1,hx2]at p3
      have hsorted:=SQ hord (ds:=d'.toList) (by simpa using p3) (by
       rw[auQ];intro i j hi hj hij;have:=hso i j (amn _) hij (by simp at hj;omega);rw[getElem!_pos d' i (by simpa using hi),getElem!_pos d' j (by simpa using hj)]at this;simpa using this)
      obtain⟨f1,f2,f3,f4⟩:=pz (w:=w) (enc:=fun i:Fin dE.length=>Fv (off+i) 0) (off:=off) (m:=m) (d:=d') (os:=os) q1;have hfit':off+d'.size≤cs.size:=by omega
      have:=Pa (w':=sortWorld (fun i:Fin dE.length=>Fv (off+i) 0) w blk off m d' os) hs (mid':=dt (kS (gD C (.fn g0 [] cap0))) dE) (off:=off) (n:=n) (cs':=putCells (fun i:Fin dE.length=>Fv (off+i) 0) off d' cs) ho h3 q1 q2 q3 q4 q5 o2 hfit (by rw[←hsorted];simp;omega)
       (fun x hx=>by
        have:=hfix' x (jk.1 hx);exact⟨this.2.1,this.2.2.1⟩) (fun i=>Fv (off+(d'[i]!).1) 0) (fun i hi=>(q4 (off+(d'[i]!).1) 0 (by have:=(d'[i]!).2;omega) (by omega)).2)
       (fun i hi=>by
        have hi':i<d'.size:=by rw[←hsorted]at hi;simpa using hi
        have e3:(dt (kS (gD C (.fn g0 [] cap0))) dE)[i]=dE[d'[i]]:=by
         have:(dt (kS (gD C (.fn g0 [] cap0))) dE)[i]?=some dE[d'[i]]:=by
          rw[←hsorted];simp[hi']
         exact (aaN.1 this).2
        rw[e3,getElem!_pos d' i hi'];exact helem d'[i])
       f1 (by simp[putCells]) (fun k=>by
        rw[Bk hfit',show d'.size=n by omega]) f2 f3 f4
      exact⟨_,rfl,c,this.1,this.2,.r .any⟩
     cases hpf
   cases h
  cases h
 cases h
end Go.AM
namespace Go.AM
open Go.Proofs Go.Sort Go.Shelf
variable {M:bw} {P:Program} {w w':World} {c c1:bv} {σ τ:ah}
theorem Gc:∀{l:List aa} {zs:List Int},Oz l=some zs↔l=zs.map (.int .i64)
 |[],zs=>by
  simp only[Oz,afV];cases zs<;>simp
 |x::r,zs=>by
  cases x with
  |int k n=>
   by_cases hk:k=.i64
   ·subst hk;simp only[Oz,aiu];constructor
    ·rintro⟨ys,h,rfl⟩;rw[Gc.1 h];rfl
    intro h;cases zs with
    |nil=>cases h
    |cons z zs=>
     simp only[af6,au4,aa.int.injEq,true_and]at h;obtain⟨rfl,h⟩:=h;exact⟨zs,Gc.2 h,rfl⟩
   have:Oz (.int k n::r)=none:=by
    cases k<;>first|rfl|exact absurd rfl hk
   rw[this];constructor
   ·intro h;cases h
   intro h;cases zs with
   |nil=>cases h
   |cons z zs=>simp only[af6,au4,aa.int.injEq]at h;exact absurd h.1.1 hk
  |_=>
   constructor
   ·intro h;cases h
   intro h;cases zs<;>simp at h
theorem O8{zs:List Int}:dt mT (zs.map (.int .i64))=(zs.mergeSort fun x y=>decide (x≤y)).map (.int .i64):=by
 have hm:∀x∈zs.map (aa.int .i64),∃n,x=.int .i64 n:=fun x hx=>by
  obtain⟨n,_,rfl⟩:=afJ.1 hx;exact⟨n,rfl⟩
 refine avC (le:=fun x y=>mT x y=true) ?_ (rW (fun x hx y hy=>?_) fun x hx y hy z hz h1 h2=>?_) ?_ (wt.trans ((List.mergeSort_perm zs _).map _).symm)
 ·intro a b ha hb h1 h2;obtain⟨n,rfl⟩:=hm a (jk.1 ha);obtain⟨m,_,rfl⟩:=afJ.1 hb;simp only[mT,ad7]at h1 h2;rw[Int.le_antisymm h1 h2]
 ·obtain⟨n,rfl⟩:=hm x hx;obtain⟨m,rfl⟩:=hm y hy;simp only[mT,ad7];omega
 ·obtain⟨n,rfl⟩:=hm x hx;obtain⟨m,rfl⟩:=hm y hy;obtain⟨k,rfl⟩:=hm z hz;simp only[mT,ad7]at h1 h2 ⊢;omega
 rw[avJ];have:=List.pairwise_mergeSort (le:=fun x y:Int=>decide (x≤y)) (fun a b c h1 h2=>by simp at h1 h2 ⊢;omega) (fun a b=>by simp;omega) zs;refine this.imp fun {a b} h=>?_;simpa [mT] using h
theorem PQ{ρ:Ren}(L:Lays.n189 P ρ){f:Nat}(hf:M.fm f=ρ.f 189)(he:∀args w,(callFunc (ρ.f 189) args).run P w=.ok (.enter (ρ.f 189) args) w):yP M P f fun _=>vN:=by
 intro C hC hR args σ v σ' h F n0 w c cargs hF hs hg ha;refine⟨.inl ⟨by rw[hf];exact he _ _,?_⟩,fun _ cargs' w'=>by rw[hf];exact he cargs' w'⟩;rw[un hF,hf];have one:∀{a:aa},fU M w c [a] cargs→∃x0,cargs=#[x0]∧R M w c a x0:=fun {a} ha=>by
  obtain⟨x0,e0,r0⟩:=ha.2 0 (by simp);refine⟨x0,?_,r0⟩;apply atY;intro i;have hz:cargs.size=1:=ha.1
  match i with
  |0=>rw[e0];rfl
  |i+1=>rw[atA (by omega),atA (by simp)]
 have nothing:∀{a:Option Addr} {cap:Nat},Calls P (ρ.f 189) #[.slice a 0 cap] w fun e w'=>∃cv,e=.returned cv∧dR M c w σ .any cv w':=fun {a cap}=>
  (Any.slices_Sort_int_none L a cap w).mono fun e w' hx=>by
   obtain⟨rfl,rfl⟩:=hx;exact⟨_,rfl,c,hs,.refl c w',.r .any⟩
 replace h:vN args σ=some (v,σ'):=h;unfold vN at h;split at h
 ·cases h;obtain⟨x0,rfl,r0⟩:=one ha;cases r0 with
  |@yz _ a=>exact nothing
 ·rename_i id ep off n;split at h
  ·rename_i k e es ho;split at h
   ·rename_i hc;obtain⟨hep,hfit,hmost,hints⟩:=hc;cases h;obtain⟨x0,rfl,r0⟩:=one ha;have hH:c.H id=.arr k e:=by rw[hs.H,cU ho]
    have hlive:c.H id≠.dead:=by rw[hH];simp
    have hlen:((es.drop off).take n).length=n:=by simp;omega
    obtain⟨zs,hzs⟩:=atJ.1 hints;have hmz:=Gc.1 hzs;have hzl:zs.length=n:=by rw[←hlen,hmz];simp
    by_cases hn0:n=0
    ·subst hn0;have hσ:σ.set id (.arr k e (es.take off++dt mT ((es.drop off).take 0)++es.drop (off+0)))=σ:=by
      have:es.take off++dt mT ((es.drop off).take 0)++es.drop (off+0)=es:=by simp[dt]
      rw[this];exact O1 ho
     rw[hσ];cases r0 with
     |sl=>exact nothing
     |sl0=>exact nothing
     |slOld h0 h1 h2=>exact absurd (h2 k e hH) (by omega)
    obtain⟨o1,o2,o3,o4⟩:=hs.obj id _ ho
    have hin:∀(i:Nat) (h:i<n),es[off+i]'(by omega)=.int .i64 (zs[i]'(by omega)):=fun i hi=>by
     have h1:((es.drop off).take n)[i]'(by omega)=es[off+i]'(by omega):=by simp
     have h2:((es.drop off).take n)[i]?=(zs.map (aa.int .i64))[i]?:=by rw[hmz]
     rw[ad3 (by omega),h1]at h2;simpa [show i<zs.length by omega] using h2
    have hk1:k=1:=by
     have:=o2 _ (agL (show off+0<es.length by omega));rw[hin 0 (by omega)]at this;exact this.symm
    subst hk1;cases r0 with
    |sl0=>exact absurd rfl hn0
    |slOld h0 h1 h2=>exact absurd (h2 1 e hH) (by omega)
    |@sl _ _ _ _ _ cap k2 blk h1 h2 h3 h4 h5=>
     have hk2:k2=1:=by rw[hH]at h2;cases h2;rfl
     subst hk2;obtain⟨cs,T,Fv,q1,q2,q3,q4,q5⟩:=o4 blk h3;have hblk:=(hs.plow id blk hlive h3).1
     have hval:∀(i:Nat) (h:i<n),Fv (off+i) 0=.int .i64 (zs[i]'(by omega)):=fun i hi=>by
      have hj:0<(cellsOf (es[off+i]'(by omega))).length:=by rw[hin i hi];simp[cellsOf]
      have:=q5 (off+i) (by omega) 0 hj;simp only[hin i hi]at this;have h':R M w c (.int .i64 (zs[i]'(by omega))) (Fv (off+i) 0):=this;generalize Fv (off+i) 0=q at h';cases h';rfl
     have hHold:Holds (Value.int .i64) w blk off zs.toArray:=fun j hj=>by
      have hj':j<n:=by simpa [hzl] using hj
      have:=(q4 (off+j) 0 (by omega) (by omega)).1;rw[hval j hj']at this;rw[getElem!_pos _ j hj];simp only[World.cell?,World.frozen?,q1];refine⟨by simpa using this,by simp⟩
     have hmain:=Any.slices_Sort_int L blk off cap zs w hHold hblk (by rw[hzl];unfold most at hmost;omega);have e1:(⟨blk,off*1,none⟩:Addr)=⟨blk,off,none⟩:=by rw[au2]
     rw[hzl]at hmain;rw[e1];refine hmain.mono fun e' w' hx=>?_;obtain⟨rfl,m,os,rfl⟩:=hx;generalize hss:(zs.mergeSort fun x y=>decide (x≤y))=ss at *;have hsl:ss.length=n:=by rw[←hss,List.length_mergeSort,hzl]
     have hsorted:dt mT ((es.drop off).take n)=ss.map (.int .i64):=by rw[hmz,O8,hss]
     obtain⟨f1,f2,f3,f4⟩:=pz (w:=w) (enc:=Value.int .i64) (off:=off) (m:=m) (d:=ss.toArray) (os:=os) q1;have hfit':off+ss.toArray.size≤cs.size:=by simp;omega
     have:=Pa (w':=grow (putRow (Value.int .i64) (Sort.ahead w m) blk off ss.toArray) os) hs (mid':=dt mT ((es.drop off).take n)) (off:=off) (n:=n) (cs':=putCells (Value.int .i64) off ss.toArray cs) ho h3 q1 q2 q3 q4 q5 o2 hfit (by rw[hsorted];simp[hsl])
      (fun x hx=>by
       rw[hsorted]at hx;obtain⟨z,_,rfl⟩:=afJ.1 hx;exact⟨rfl,rfl⟩) (fun i=>.int .i64 (ss.toArray[i]!)) (fun i hi=>rfl)
      (fun i hi=>by
       have hi':i<ss.length:=by rw[hsorted]at hi;simpa using hi
       have e3:(dt mT ((es.drop off).take n))[i]=.int .i64 ss[i]:=by
        have:(dt mT ((es.drop off).take n))[i]?=some (.int .i64 ss[i]):=by
         rw[hsorted];simp[hi']
        exact (aaN.1 this).2
       rw[e3,getElem!_pos ss.toArray i (by simpa using hi')];exact .int)
      f1 (by simp[putCells]) (fun k=>by
       rw[Bk hfit'];simp only[List.size_toArray,hsl]) f2 f3 f4
     exact⟨_,rfl,c,this.1,this.2,.r .any⟩
   cases h
  cases h
 cases h
end Go.AM
namespace Go.AM
variable {M:bw} {P:Program} {w w':World} {c c1:bv} {σ τ:ah}
theorem uC:∀(a b:List UInt8),Lib.compareBytes a b=if Op.bytesLess a b then -1 else if a==b then 0 else 1
 |[],[]=>rfl
 |[],_::_=>rfl
 |_::_,[]=>rfl
 |a::x,b::y=>by
  simp only[Lib.compareBytes,Op.bytesLess];by_cases h1:a<b
  ·simp[h1]
  by_cases h2:b<a
  ·have hne:¬a=b:=fun e=>by subst e;exact h1 h2
   simp[h1,h2,hne]
  have he:a=b:=UInt8.le_antisymm (UInt8.not_lt.1 h2) (UInt8.not_lt.1 h1);subst he;rw[if_neg h1,if_neg h1,uC x y];simp[h1]
theorem NI{f:Nat}{fn:Func}(hf:P.funcs[M.fm f]?=some fn)(h1:(fn.name == "runtime.NumGoroutine")=false)(h2:fn.body.isNone=true)(h3:Extern.findNext fn=none)(h4:Extern.find fn=some Extern.BytealgCompare.compare):yP M P f fun _=>ms:=by
 intro C hC hR args σ v σ' h F n w c cargs hF hs hg ha;replace h:ms args σ=some (v,σ'):=h;unfold ms at h;split at h
 ·rename_i a b;cases h;obtain⟨x0,e0,r0⟩:=ha.2 0 (by simp);obtain⟨x1,e1,r1⟩:=ha.2 1 (by simp);have hc:cargs=#[x0,x1]:=by
   apply atY;intro i;have hz:cargs.size=2:=ha.1
   match i with
   |0=>rw[e0];rfl
   |1=>rw[e1];rfl
   |i+2=>rw[atA (by omega),atA (by simp)]
  subst hc;cases r0 with|@str _ s t ht=>cases r1 with|@str _ s' t' ht'=>
  refine⟨.inr ⟨.int .i64 (if Op.bytesLess a b then -1 else if a==b then 0 else 1),w,?_,c,hs,.refl c w,.r .int⟩,fun hx=>?_⟩
  ·rw[run_callFunc_extern hf h1 h2 h3 h4,Lib.run_compareString,uC,ht,ht'];rfl
  exfalso;obtain⟨y,hy,hp⟩:=hx;simp at hy;rcases hy with rfl|rfl<;>simp[iw]at hp
 cases h
theorem aaP{f:Nat}{fn:Func}(hf:P.funcs[M.fm f]?=some fn)(h1:(fn.name == "runtime.NumGoroutine")=false)(h2:fn.body.isNone=true)(h3:Extern.findNext fn=none)(h4:Extern.find fn=some add64Entry):yP M P f fun _=>Ib:=by
 intro C hC hR args σ v σ' h F n w c cargs hF hs hg ha;replace h:Ib args σ=some (v,σ'):=h;unfold Ib at h;split at h
 ·rename_i x y cc;split at h
  ·rename_i hb;obtain⟨b1,b2,b3,b4,b5,b6⟩:=hb;cases h;obtain⟨x0,e0,r0⟩:=ha.2 0 (by simp);obtain⟨x1,e1,r1⟩:=ha.2 1 (by simp);obtain⟨x2,e2,r2⟩:=ha.2 2 (by simp);have hc:cargs=#[x0,x1,x2]:=by
    apply atY;intro i;have hz:cargs.size=3:=ha.1
    match i with
    |0=>rw[e0];rfl
    |1=>rw[e1];rfl
    |2=>rw[e2];rfl
    |i+3=>rw[atA (by omega),atA (by simp)]
   subst hc;cases r0;cases r1;cases r2;refine⟨.inr ⟨.tuple #[.int .u64 ((x+y+cc)%18446744073709551616),.int .u64 ((x+y+cc)/18446744073709551616)],w,?_,c,hs,.refl c w,.r (.tup (fun i=>if i=0 then .int .u64 ((x+y+cc)%18446744073709551616) else .int .u64 ((x+y+cc)/18446744073709551616)) rfl (fun i hi=>?_) (fun i hi=>?_))⟩,fun hx=>?_⟩
   ·rw[run_callFunc_extern hf h1 h2 h3 h4,run_add64 x y cc b1 b3 b5 b6];rfl
   ·match i,hi with
    |0,_=>rfl
    |1,_=>rfl
    |i+2,hi=>exact absurd hi (by simp)
   ·match i,hi with
    |0,_=>exact .int
    |1,_=>exact .int
    |i+2,hi=>exact absurd hi (by simp)
   exfalso;obtain⟨z,hz,hp⟩:=hx;simp at hz;rcases hz with rfl|rfl|rfl<;>simp[iw]at hp
  cases h
 cases h
end Go.AM
