/- Part of the proof. -/
import Derived.Test.YtmpmbfpkpannjaaGreatDoorCm04
import Derived.RangeFuncLeaves
import Derived.RangeFuncRecord
import Derived.Scope
set_option linter.unusedVariables false
set_option linter.unusedSimpArgs false
set_option linter.unusedSectionVars false
namespace Go.AM
variable {M:dm} {P:Program} {w w':World} {c c':dk} {σ:aw}
theorem fd.over(a:fd M w c σ)(h:∀b,b<w.heap.size→(c.bor b∨∃id,c.H id≠.dead∧c.place id=some b)→w'.heap[b]?=w.heap[b]?)(i:w.heap.size≤w'.heap.size):fd M w' c σ∧Ext c w c w':=by
 have d:Ext c w c w':=⟨fun _ h=>h,fun _ h=>h,fun b e=>h b (a.low b (e.elim (fun h=>h) (a.sb b))) (.inl (e.elim (fun h=>h) (a.sb b))),aF _,fun _ _=>.inl rfl,fun _ _ _ _=>⟨rfl,rfl,rfl⟩⟩;refine⟨⟨a.H,a.N,a.sb,fun b e=>bu (a.low b e) i,fun id b j k=>?_,a.inj,fun id o g=>?_⟩,d⟩
 ·obtain⟨l,m⟩:=a.plow id b j k;exact⟨bu l i,m⟩
 refine (a.obj id o g).ext d (fun _=>⟨rfl,rfl,rfl⟩) fun f b e=>?_;have hd:c.H id≠.dead:=by rw[a.H];exact fun h=>f ((rH g).1 h)
 exact h b (a.plow id b hd e).1 (.inr ⟨id,hd,e⟩)
end Go.AM
namespace Go.AM
variable {M:dm} {P:Program}
variable {cA:Nat→Bool} {ops:Array Oper} {ins:List cr} {em:List Tmp} {its:GC} {bef:Nat→Nat} {chk:List (Nat×Nat)} {late:Option Nat} {nt:Nat} {env ls:List aq} {s:Nat→aw} {C:ip} {w0:World} {c0:dk} {a0:Act}
def yv(em:List Tmp)(t:Tmp):Option dd:=(em.idxOf? t).map .env
def tE(e:Nat):List (Nat×dd)→Option dd
 |[]=>none
 |(k,x)::r=>if k=e then some x else tE e r
def xo(ops:List Oper)(em:List Tmp)(its:GC)(os:List (Nat×dd)):Bool:=
 (os.map (·.1)).Nodup&&em.zipIdx.all fun te=>match PU ops te.1 with
  |none=>(tE te.2 os).isNone
  |some k=>(match tE te.2 os with
   |some x=>FH (sS its k) x
   |none=>false)
theorem Bg{env:List aq}{k e:Nat}{v:aq}(h:k≠e):pr (env.set k v) e=pr env e:=by
 unfold pr;rw[aD h]
theorem Li{old ls:List aq}{e:Nat}:∀{os:List (Nat×dd)} {env:List aq},tE e os=none→pr (sL env old ls os) e=pr env e
 |[],_,_=>rfl
 |(k,x)::r,env,h=>by
  simp only[tE]at h;split at h
  ·cases h
  rename_i a;simp only[sL];rw[Li h,Bg a]
theorem UR{old ls:List aq}{e:Nat}{x:dd}:∀{os:List (Nat×dd)} {env:List aq},(os.map (·.1)).Nodup→tE e os=some x→pr (sL env old ls os) e=x.eval old ls∨pr (sL env old ls os) e=.any
 |[],_,_,h=>by cases h
 |(k,y)::r,env,b,h=>by
  simp only[tE]at h;simp only[aV,List.nodup_cons]at b;simp only[sL];split at h
  ·rename_i c;subst c;cases h;have:tE k r=none:=by
    have a:=b.1;clear b;induction r with
    |nil=>rfl
    |cons q r d=>
     simp only[aV,dX,not_or]at a;unfold tE;rw[if_neg (fun e=>a.1 e.symm)];exact d a.2
   rw[Li this];unfold pr;rw[dx];split
   ·split
    ·exact .inl rfl
    exact .inr rfl
   exact absurd rfl (by assumption)
  exact UR b.2 h
def ZB(M:dm)(em:List Tmp)(env ls:List aq)(os:List (Nat×dd))(c0:dk)(w0:World)(a0:Act)(σ':aw)(a:Act)(w:World):Prop:=
 ∃c,fd M w c σ'∧iW c0 w0 c w∧nI M w c (sL env env ls os) [] (yv em) a.tmps∧a.tmps.size=a0.tmps.size∧a.defers=a0.defers
theorem KX(b:xP M P cA ops ins em its bef chk late nt)(U:A3 C env ins ls s)(W:wH cA C)(q:∀(n j:Nat) (I:cr),(n,j)∈chk→ins[n]?=some I→bJ C env (ls.take n) (s j) I.op=some (pr ls n,s j))
  (H:nI M w0 c0 env [] (yv em) a0.tmps) {os:List (Nat×dd)} (g:xo ops.toList em its os=true) {S:Nat→Prop} (N:∀i,i<ops.size→S i) {a:Act} {w:World}
  (r:yh M cA ops ins its bef chk env ls s c0 w0 a0 none S a w):ZB M em env ls os c0 w0 a0 (s ins.length) a w:=by
 obtain⟨Z,lt,c,p,X,u,f,Y,K,J,y,_⟩:=r;have F:p≤ins.length:=by
  rcases f.1 with rfl|⟨k,n,_,d,_,rfl⟩
  ·exact cI _
  exact b.bound k n d
 have G:s p=s ins.length:=C3 U W q b.guards b.onto F (aF _) fun k m d D=>by
  have B:k<ops.size:=by
   rw[←b.size];unfold fJ at d;obtain⟨x,v,_⟩:=bR d;exact (ak.1 v).1
  exact⟨fun _=>b.bound k m d,fun _=>(f.2 k m d D).1 (N k B)⟩
 refine⟨c,G▸X,u,fun t x v=>?_,J,y⟩;unfold yv at v;obtain⟨e,z,rfl⟩:=bK v;unfold xo at g;simp only[ax,bZ,bd]at g;obtain⟨E,l⟩:=g;have D:(t,e)∈em.zipIdx:=by
  rw[List.idxOf?,dD]at z;obtain⟨Q,T,_⟩:=z;rw[List.mem_zipIdx_iff_getElem?];rw[au Q];simpa using T
 have:=l _ D;simp only at this;show R M w c (pr (sL env env ls os) e) _;cases hw:PU ops.toList t with
 |none=>
  rw[hw]at this;rw[Li (by simpa using this),K t (fun i o _ V=>Kz hw V) (fun _ _ e=>by cases e)];exact (H t (.env e) (by unfold yv;rw[z];rfl)).ext u.toExt
 |some k=>
  rw[hw]at this;simp only at this;split at this
  ·rename_i x L;obtain⟨ok,d,A⟩:=KQ hw;have O:=Y k ok t (N k (bF.1 d).1) d A;rw[wo this]at O;rcases UR (old:=env) (ls:=ls) (env:=env) E L with h|h
   ·rw[h];exact O
   rw[h];exact .any
  cases this
theorem Kl{w:World}(c:fd M w c0 (s 0))(b:iW c0 w0 c0 w){S:Nat→Prop}(a:∀i,¬S i):yh M cA ops ins its bef chk env ls s c0 w0 a0 none S a0 w:=
 ⟨fun i k h=>absurd h (a i),fun i h=>absurd h (a i),c0,0,c,b,⟨.inl rfl,fun k n _ _=>⟨fun h=>absurd h (a k),fun h=>absurd h (da _)⟩⟩,fun i o d h=>absurd h (a i),fun t _ _=>rfl,rfl,rfl,fun _ _ _ e=>by cases e⟩
theorem yh.congr{x:Option (Tmp×Nat×Go.Obj)}{S S':Nat→Prop}(h:∀i,S i↔S' i){a:Act}{w:World}(hi:yh M cA ops ins its bef chk env ls s c0 w0 a0 x S a w):yh M cA ops ins its bef chk env ls s c0 w0 a0 x S' a w:=by
 have:S=S':=funext fun i=>propext (h i);rw[←this];exact hi
section
variable {F:Fence} {n0:Nat} {Q:Exit→Act→World→Prop} {os:List (Nat×dd)}
theorem OD(d:xP M P cA ops ins em its (fun i=>2^i-1) chk none nt)(u:A3 C env ins ls s)(v:wH cA C)(c:∀(n j:Nat) (I:cr),(n,j)∈chk→ins[n]?=some I→bJ C env (ls.take n) (s j) I.op=some (pr ls n,s j))
  (y:lN M P C) (B:kX M P C) (z:vc F) (D:kK M w0 c0) (E:fd M w0 c0 (s 0)) (f:nI M w0 c0 env [] (yv em) a0.tmps) (r:nt≤a0.tmps.size) (q:xo ops.toList em its os=true)
  (A:∀a w,ZB M em env ls os c0 w0 a0 (s ins.length) a w→Q .normal a w) (id:Nat):(Code.region id ops false).wpIn F n0 P Q a0 w0:=by
 apply wpIn_region;have key:∀(m i:Nat) (a:Act) (w:World),i+m=ops.size→yh M cA ops ins its (fun i=>2^i-1) chk env ls s c0 w0 a0 none (fun j=>j<i) a w→wpOpsIn F n0 P ops Q (List.range' i m) a w:=by
  intro m;induction m with
  |zero=>
   intro i a w hi b;exact A a w (KX d u v c f q (fun j H=>by omega) b)
  |succ m G=>
   intro i a w hi b;rw[oV,wpOpsIn_cons];have g:i<ops.size:=by omega
   refine wpOpIn_mono (fun t w' h=>G (i+1) t w' (by omega) h) ?_
   have:=M0 (Q:=Q) (n0:=n0) d u v c y B z D f r (i:=i) (o:=ops[i]) (by simp[g]) (x:=none) (fun _ _ _ e=>by cases e) (S:=fun j=>j<i) (dG i) (fun n K L k m p l J=>p) (fun k l=>by
    rw[eI]at l;simpa using l) b
   exact wpOpIn_mono (fun t w' h=>h.congr fun j=>by omega) this
 rw[pH];exact key ops.size 0 a0 w0 (by omega) (Kl E (.refl c0 w0) fun i=>da i)
structure UN (ops:Array Oper) (bef:Nat→Nat):Prop where
 low:∀(i:Nat) (o:Oper),ops[i]?=some o→∀e∈o.after,Region.binds .any e=true→e.on<i
 clos:∀(i:Nat) (o:Oper),ops[i]?=some o→∀k,(bef i).testBit k=true→∃e∈o.after,Region.binds .any e=true∧(k=e.on∨(bef e.on).testBit k=true)
theorem Eg{a:Array Bool}{i:Nat}:i∈Region.ready .any ops a↔i<ops.size∧a.getD i true=false∧∃o,ops[i]?=some o∧∀e∈o.after,Region.binds .any e=true→a.getD e.on false=true:=by
 unfold Region.ready;simp only[List.mem_filter,gm,ax,gM];constructor
 ·rintro⟨b,d,c⟩;refine⟨b,d,ops[i],by simp[b],fun e g f=>?_⟩;rw[cQ b]at c;simp only[dJ,cT,jE]at c;have:=c e g;simpa [f] using this
 rintro⟨b,d,o,h,c⟩;refine⟨b,d,?_⟩;rw[h];simp only[dJ,cT,jE];intro e g;cases f:Region.binds .any e with
 |false=>rfl
 |true=>simpa using c e g f
theorem WD(u:xP M P cA ops ins em its bef chk late nt)(W:A3 C env ins ls s)(hp:wH cA C)(H:∀(n j:Nat) (I:cr),(n,j)∈chk→ins[n]?=some I→bJ C env (ls.take n) (s j) I.op=some (pr ls n,s j))
  {d:Nat} {o:Oper} {t:Tmp} {n F b:Nat} {z:aq} {v0:Value} {T:TypeId} (hd:ops[d]?=some o) (J:o.dst=some t) (N:fJ its d=some n) (hI:ins[n]?=some ⟨.box F (.val z),none⟩) (Q:li cA ins chk n=true) (V:sS its d=.loc n)
  (ab:F≠0) (hz:pm M.fm 8 v0 z=true) (X:bef d=0) {S:Nat→Prop} (hS:¬S d) (v:∀k m,fJ its k=some m→li cA ins chk m=true→m<n→S k) {a:Act} {w:World}
  (L:yh M cA ops ins its bef chk env ls s c0 w0 a0 (some (t,b,.cells v0.cells T (0,0))) S a w):yh M cA ops ins its bef chk env ls s c0 w0 a0 none (fun j=>S j∨j=d) a w:=by
 obtain⟨cl,lt,c,p,hs,af,r,hv,ah,ag,Y,K⟩:=L;obtain⟨y1,y2,y3,y4,y5⟩:=K t b _ rfl;have O:n<ins.length:=(ak.1 hI).1;have y:n<ls.length:=by rw[W.len];exact O
 have ad:p≤ins.length:=by
  rcases r.1 with rfl|⟨k,n,_,q,_,rfl⟩
  ·exact cI _
  exact u.bound k n q
 have an:¬n<p:=fun h=>hS ((r.2 d n N Q).2 h);have x:∀k m,fJ its k=some m→li cA ins chk m=true→(m<p↔m<n):=fun k m q E=>by
  refine⟨fun h=>by omega,fun h=>(r.2 k m q E).1 (v k m q E h)⟩
 have ae:s p=s n:=C3 W hp H u.guards u.onto ad (by omega) x;have D:bJ C env (ls.take n) (s n) (.box F (.val z))=some (ls[n],s (n+1)):=by
  have G:=(ak.1 hI).2;rcases W.step n O y with⟨_,h2⟩|⟨h1,_,_⟩
  ·rw[G]at h2;exact h2
  rw[G]at h1;cases h1
 have l:(if aM z=F then some (aq.ptr (s n).length 0 0 0,s n++[.arr F 0 [z]]) else none)=some (ls[n],s (n+1)):=D;split at l
 ·rename_i aj;simp only[aK,dY]at l;obtain⟨e1,e2⟩:=l;rw[ae]at hs;obtain⟨g,hg,al,Z⟩:=tR (tt (M:=M) (w:=w) (c:=c) hz) (by omega)
  obtain⟨c',a1,a2,a3,a4,a5,a6,a7⟩:=hs.adopt af (k:=F) (xs:=[z]) (f:=fun _ j=>g j) y2 y3 y4 y5 ab (by simp[aj]) (by simp;omega)
   (fun i j hi hj=>by
    have:i=0:=by simp at hi;omega
    subst this;rw[mH,cE];exact⟨Z j (by omega),hg.one j (by omega)⟩)
   (fun i hi j hj=>by
    have:i=0:=by simp at hi;omega
    subst this;exact hg.rel j hj)
  refine⟨fun i k hi q=>?_,fun i hi=>?_,c',n+1,by rw[←e2];exact a5,a6,⟨.inr ⟨d,n,.inr rfl,N,Q,rfl⟩,fun k m q E=>?_⟩,fun i oi di hi B A=>?_,fun t' U _=>?_,ag,Y,fun _ _ _ e=>by cases e⟩
  ·rcases hi with hi|rfl
   ·exact .inl (cl i k hi q)
   rw[X]at q;simp at q
  ·rcases hi with hi|rfl
   ·exact lt i hi
   exact (bF.1 hd).1
  ·constructor
   ·rintro (h|rfl)
    ·have:=(r.2 k m q E).1 h;have:=(x k m q E).1 this;omega
    rw[N]at q;cases q;omega
   intro h;by_cases e:m=n
   ·subst e;right;rcases gd k d with h|h|h
    ·have:=u.mono _ _ _ _ q N h;omega
    ·exact h
    have:=u.mono _ _ _ _ N q h;omega
   exact .inl (v k m q E (by omega))
  ·by_cases e:i=d
   ·subst e;rw[hd]at B;cases B;rw[J]at A;cases A;rw[y1,V];have e3:(dd.loc n).eval env ls=.ptr (s n).length 0 0 0:=by
     show pr ls n=_;rw[My y,←e1]
    rw[e3];have:=R.ptr (M:=M) (w:=w) (c:=c') (id:=(s n).length) (ep:=0) (i:=0) (off:=0) (by omega) a2 a3;simpa using this
   exact (hv i oi di (hi.resolve_right e) B A).ext a7
  refine ah t' (fun i oi hi=>U i oi (.inl hi)) fun b' ao e=>?_;cases e;exact U d o (.inr rfl) hd J
 cases l
def IK(M:dm)(P:Program)(cA:Nat→Bool)(ops:Array Oper)(ins:List cr)(its:GC)(bef:Nat→Nat)(chk:List (Nat×Nat))(late:Option Nat)(env ls:List aq)(s:Nat→aw)(c0:dk)(w0:World)(a0:Act)(S:Nat→Prop)(a:Act)(w:World):Prop:=
 yh M cA ops ins its bef chk env ls s c0 w0 a0 none S a w ∨
 ∃d o t n kk b z v0 T,late=some d∧ops[d]?=some o∧o.dst=some t∧fJ its d=some n∧ins[n]?=some ⟨.box kk (.val z),none⟩∧sS its d=.loc n∧kk≠0∧pm M.fm 8 v0 z=true∧S d ∧
  (∃k m,fJ its k=some m∧li cA ins chk m=true∧m<n∧¬S k)∧yh M cA ops ins its bef chk env ls s c0 w0 a0 (some (t,b,.cells v0.cells T (0,0))) (fun j=>S j∧j≠d) a w
theorem Za(l:xP M P cA ops ins em its bef chk late nt)(hT:A3 C env ins ls s)(hp:wH cA C)(E:∀(n j:Nat) (I:cr),(n,j)∈chk→ins[n]?=some I→bJ C env (ls.take n) (s j) I.op=some (pr ls n,s j))
  (hC:lN M P C) (hR:kX M P C) (hF:vc F) (hg:kK M w0 c0) (a5:nI M w0 c0 env [] (yv em) a0.tmps) (ae:nt≤a0.tmps.size)
  {i:Nat} {o:Oper} (K:ops[i]?=some o) {S:Nat→Prop} (hi:¬S i) (R:∀k,(bef i).testBit k=true→S k) {a:Act} {w:World}
  (r:IK M P cA ops ins its bef chk late env ls s c0 w0 a0 S a w):wpOpIn F n0 P ops Q i (IK M P cA ops ins its bef chk late env ls s c0 w0 a0 fun j=>S j∨j=i) a w:=by
 have bb:i<ops.size:=(bF.1 K).1
 have a7:late≠some i→∀n,fJ its i=some n→li cA ins chk n=true→∀k m,k<i→fJ its k=some m→li cA ins chk m=true→(bef i).testBit k=true:=fun H n y hw k m B u hm=>by
  rcases l.item i o K with⟨g,_⟩|⟨m',I,g,v,h3,D,h5,h6,h7⟩
  ·rw[g]at y;cases y
  rw[g]at y;cases y;exact h6 hw H k m B u hm
 rcases r with r|⟨d,od,t,n,kk,b,z,v0,T,H,hd,N,y,hI,W,al,hz,Y,⟨k0,m0,an,bg,ar,a2⟩,r⟩
 ·by_cases hA:late=some i∧∃n k m,fJ its i=some n∧fJ its k=some m∧li cA ins chk m=true∧m<n∧¬S k
  ·
   obtain⟨H,n',k',m',av,ab,bf,ao,a1⟩:=hA;obtain⟨ah,o',T,t,n,kk,z,l1,l2,l3,L,X,l6,l7,l8,l9⟩:=l.lateOk i H;rw[K]at l1;cases l1;rw[X]at av;cases av;have Z:=l.item i o K;rcases Z with⟨g,_⟩|⟨m,I,g,v,h3,D,_⟩
   ·rw[g]at X;cases X
   rw[g]at X;cases X;rw[l6]at v;cases v;rw[l2]at D;simp only[G3,ax]at D;obtain⟨z1,z2⟩:=D;obtain⟨z3,z4⟩:=lH z1;obtain⟨ii,v0,i1,i2,i3,i4⟩:=so z2;unfold wpOpIn;rw[K];simp only;have hw:Region.wanted o (yielded ops a.tmps)=true:=by unfold Region.wanted;rw[l3]
   rw[if_pos hw];refine⟨fun f _=>hF.fn f,?_⟩;have a9:(execOp a.eval o).run P w=.ok (.value (.pointer (some ⟨w.heap.size,0,none⟩))) (lg w (.cells v0.cells T (0,0))):=by
    unfold execOp;rw[l2];simp[Instr.alloc,i3,newVar,newRow];rfl
   rw[Oper.semAt_eq _ _ _ (fun q e=>by rw[e]at l2;cases l2),a9];obtain⟨cl,lt,c,p,hs,a4,U,hv,bk,a6,a8,_⟩:=r;obtain⟨s1,x1⟩:=hs.over (w':=lg w (.cells v0.cells T (0,0))) (fun b R _=>gI R) (by rw[fL];omega);have bo:iW c w c (lg w (.cells v0.cells T (0,0))):={ x1 with same:=pI,size:=by rw[fL];omega,frame:=fun b R _=>gI R,liv:=fun i b g v _=>⟨i,g,v⟩,old:=fun _ h _=>.inl h,oldb:=fun _ h _=>.inl h };have G:t<a.tmps.size:=by rw[a6];exact bu (l.dst _ _ _ K L) ae
   refine .inr ⟨i,o,t,_,kk,w.heap.size,z,v0,T,H,K,L,g,l6,h3,z4,i4,.inr rfl,⟨k',m',ab,bf,ao,fun h=>h.elim a1 fun e=>?_⟩,fun j k A B=>?_,fun j A=>?_,c,p,s1,a4.trans bo,?_,fun j oj dj A a3 aj=>?_,fun t' bi bn=>?_,?_,?_,fun t' b' bs e=>?_⟩
   ·subst e;rw[g]at ab;cases ab;omega
   ·have O:S j:=A.1.resolve_right A.2;refine⟨.inl (cl j k O B),fun e=>?_⟩;subst e;exact hi (cl j k O B)
   ·exact lt j (A.1.resolve_right A.2)
   ·refine⟨U.1.imp id fun ⟨k,q,q1,q2⟩=>⟨k,q,⟨.inl q1,fun e=>hi (e▸q1)⟩,q2⟩,fun k q q1 q2=>?_⟩;rw[←U.2 k q q1 q2];exact⟨fun h=>h.1.resolve_right h.2,fun h=>⟨.inl h,fun e=>hi (e▸h)⟩⟩
   ·have O:S j:=A.1.resolve_right A.2;have ad:¬dj=t:=fun e=>by
     subst e;exact A.2 (l.uniq _ _ _ _ _ a3 K aj L)
    rw[L,uM G,if_neg ad];exact (hv j oj dj O a3 aj).ext x1
   ·have ad:¬t'=t:=fun e=>bn _ _ (by rw[e]);rw[L,uM G,if_neg ad];exact bk t' (fun j oj A=>bi j oj ⟨.inl A,fun e=>hi (e▸A)⟩) fun _ _ e=>by cases e
   ·rw[L];simp[Act.put,a6]
   ·rw[L];exact a8
   cases e;refine⟨by rw[L,uM G,if_pos rfl],a4.size,sf,fun h=>absurd (hs.low _ h) (dG _),fun id g v=>absurd (hs.plow id _ g v).1 (dG _)⟩
  refine wpOpIn_mono (fun a' w' h=>.inl h) (M0 (Q:=Q) (n0:=n0) l hT hp E hC hR hF hg a5 ae K (x:=none) (fun _ _ _ e=>by cases e) hi (fun n y hw k m B u hm=>?_) R r);by_cases H:late=some i
  ·by_cases hS:S k
   ·exact hS
   exact absurd ⟨H,n,k,m,y,u,hm,l.mono _ _ _ _ u y B,hS⟩ hA
  exact R k (a7 H n y hw k m B u hm)
 obtain⟨ah,o',T',t',n',bp,z',l1,l2,l3,L,X,l6,l7,l8,l9⟩:=l.lateOk d H;rw[hd]at l1;cases l1;rw[N]at L;cases L;rw[y]at X;cases X;have hid:i≠d:=fun e=>hi (e▸Y);have bc:late≠some i:=fun e=>by rw[H]at e;cases e;exact hid rfl
 have V:¬(bef i).testBit d=true:=fun h=>a2 (R k0 (l8 i h k0 m0 an bg ar));have ag:∀k,(bef i).testBit k=true→S k∧k≠d:=fun k B=>⟨R k B,fun e=>by subst e;exact V B⟩;refine wpOpIn_mono (fun a' w' h=>?_) (M0 (Q:=Q) (n0:=n0) l hT hp E hC hR hF hg a5 ae K (x:=some (t,b,.cells v0.cells T (0,0))) (fun t1 b1 bt e=>?_) (fun h=>hi h.1) (fun n1 bh bl k m B u hm=>ag k (a7 bc n1 bh bl k m B u hm)) ag r)
 ·by_cases J:∃k m,fJ its k=some m∧li cA ins chk m=true∧m<n∧¬(S k∨k=i)
  ·refine .inr ⟨d,od,t,n,kk,b,z,v0,T,H,hd,N,y,hI,W,al,hz,.inl Y,J,h.congr fun j=>?_⟩;constructor
   ·rintro (⟨g,v⟩|rfl)
    ·exact⟨.inl g,v⟩
    exact⟨.inr rfl,hid⟩
   rintro⟨g|rfl,v⟩
   ·exact .inl ⟨g,v⟩
   exact .inr rfl
  have af:∀k m,fJ its k=some m→li cA ins chk m=true→m<n→(S k∧k≠d)∨k=i:=fun k m g v h3=>by
   by_cases D:S k∨k=i
   ·rcases D with D|D
    ·refine .inl ⟨D,fun e=>?_⟩;subst e;rw[y]at g;cases g;omega
    exact .inr D
   exact absurd ⟨k,m,g,v,h3,D⟩ J
  have:=WD l hT hp E hd N y hI l7 W al hz ah (S:=fun j=>(S j∧j≠d)∨j=i) (fun h=>h.elim (fun h=>h.2 rfl) fun e=>hid e.symm) af h;refine .inl (this.congr fun j=>?_);constructor
  ·rintro ((⟨g,v⟩|rfl)|rfl)
   ·exact .inl g
   ·exact .inr rfl
   exact .inl Y
  rintro (g|rfl)
  ·by_cases e:j=d
   ·exact .inr e
   exact .inl (.inl ⟨g,e⟩)
  exact .inl (.inr rfl)
 cases e;refine⟨?_,fun e=>hid (l.uniq _ _ _ _ _ K hd e N)⟩;cases hq:Jw ops.toList em its bef i t with
 |none=>rfl
 |some q=>exact absurd (l9 i bb hid (by rw[hq];simp)) V
theorem IK.final(j:xP M P cA ops ins em its bef chk late nt){S:Nat→Prop}(p:∀i,i<ops.size→S i){a:Act}{w:World}(c:IK M P cA ops ins its bef chk late env ls s c0 w0 a0 S a w):yh M cA ops ins its bef chk env ls s c0 w0 a0 none S a w:=by
 rcases c with h|⟨d,o,t,n,E,b,z,G,T,B,hd,r,C,A,l,u,D,q,⟨m,F,e,v,k,f⟩,c⟩
 ·exact h
 have g:m<ops.size:=by
  rw[←j.size];unfold fJ at e;obtain⟨x,y,_⟩:=bR e;exact (ak.1 y).1
 exact absurd (p m g) f
theorem IK.congr{S S':Nat→Prop}(h:∀i,S i↔S' i){a:Act}{w:World}(hi:IK M P cA ops ins its bef chk late env ls s c0 w0 a0 S a w):IK M P cA ops ins its bef chk late env ls s c0 w0 a0 S' a w:=by
 have:S=S':=funext fun i=>propext (h i);rw[←this];exact hi
theorem IK.closed(g:xP M P cA ops ins em its bef chk late nt){S:Nat→Prop}{a:Act}{w:World}(c:IK M P cA ops ins its bef chk late env ls s c0 w0 a0 S a w):∀i k,S i→(bef i).testBit k=true→S k:=by
 rcases c with h|⟨d,o,t,n,x,b,z,y,T,q,hd,m,u,r,j,p,v,l,_,c⟩
 ·exact h.1
 intro i k hi f;by_cases e:i=d
 ·subst e;rw[(g.lateOk i q).1]at f;simp at f
 exact (c.1 i k ⟨hi,e⟩ f).1
theorem I6(hm:P.follows .mixedOrders=true)(N:UN ops bef)(m:xP M P cA ops ins em its bef chk late nt)(K:A3 C env ins ls s)(T:wH cA C)(p:∀(n j:Nat) (I:cr),(n,j)∈chk→ins[n]?=some I→bJ C env (ls.take n) (s j) I.op=some (pr ls n,s j))
  (Y:lN M P C) (hR:kX M P C) (Z:vc F) (hg:kK M w0 c0) (hs:fd M w0 c0 (s 0)) (u:nI M w0 c0 env [] (yv em) a0.tmps) (E:nt≤a0.tmps.size) (B:xo ops.toList em its os=true)
  (hQ:∀a w,ZB M em env ls os c0 w0 a0 (s ins.length) a w→Q .normal a w) (id:Nat):(Code.region id ops true).wpIn F n0 P Q a0 w0:=by
 apply wpIn_region_any hm;have key:∀(dF:Nat) (c:Array Bool) (a:Act) (w:World),c.size=ops.size→c.toList.countP (fun b=>!b)≤dF→IK M P cA ops ins its bef chk late env ls s c0 w0 a0 (fun j=>c[j]?=some true) a w →
   wpAnyIn F n0 P .any ops Q dF c a w:=by
  intro dF;have done:∀(c:Array Bool) (a:Act) (w:World),c.size=ops.size→(∀i,i<ops.size→c[i]?=some true)→IK M P cA ops ins its bef chk late env ls s c0 w0 a0 (fun j=>c[j]?=some true) a w→Q .normal a w:=fun c a w r l d=>
   hQ a w (KX m K T p u B l (d.final m l))
  have q:∀(c:Array Bool),c.size=ops.size→Region.ready .any ops c=[]→∀i,i<ops.size→c[i]?=some true:=fun c r D i=>by
   induction i using Nat.strongRecOn with
   |_ i G=>
    intro hi;have g:i<c.size:=by omega
    cases hb:c[i] with
    |true=>rw[cQ g,hb]
    |false=>
     have:i∈Region.ready .any ops c:=Eg.2 ⟨hi,by simp[Array.getD,g,hb],ops[i],by simp[hi],fun e z y=>by
      have A:=N.low i ops[i] (by simp[hi]) e z y;have:=G e.on A (by omega);simp[bV,this]⟩
     rw[D]at this;cases this
  induction dF with
  |zero=>
   intro c a w r L d;have l:∀i,i<ops.size→c[i]?=some true:=fun i hi=>by
    have g:i<c.size:=by omega
    have W:=List.countP_eq_zero.1 (Nat.le_zero.1 L) c[i] (by simp);rw[cQ g];simpa using W
   refine⟨?_,done c a w r l d⟩;rw[List.eq_nil_iff_forall_not_mem];intro i hi;obtain⟨J,v,_⟩:=Eg.1 hi;have:=l i J;rw[bV,this]at v;cases v
  |succ dF G=>
   intro c a w r L d;refine⟨fun D=>done c a w r (q c r D) d,fun i hi=>?_⟩;obtain⟨J,v,o,R,X⟩:=Eg.1 hi;have g:i<c.size:=by omega
   have f:c[i]=false:=by simpa [Array.getD,g] using v
   have t:∀j,(c.setIfInBounds i true)[j]?=some true↔(c[j]?=some true∨j=i):=fun j=>by
    rw[dI];by_cases e:i=j
    ·subst e;simp[g]
    have:¬j=i:=fun h=>e h.symm;simp[e,this]
   refine wpOpIn_mono (fun H w' h=>G (c.setIfInBounds i true) H w' (by simpa using r) ?_ h) ?_
   ·rw[Array.toList_setIfInBounds,List.countP_set (by simpa using g)];simp only[iU,f,Bool.not_false,cw,rl,bq,cH];have:0<c.toList.countP (fun b=>!b):=List.countP_pos_iff.2 ⟨false,by rw[←f];simp,rfl⟩;omega
   have:=Za (Q:=Q) (n0:=n0) m K T p Y hR Z hg u E R (S:=fun j=>c[j]?=some true) (by rw[cQ g,f];simp) (fun k hk=>by
    obtain⟨e,U,V,x⟩:=N.clos i o R k hk;have O:c[e.on]?=some true:=by
     have:=X e U V;rw[bV]at this;cases hq:c[e.on]? with
     |none=>rw[hq]at this;cases this
     |some b=>rw[hq]at this;simp at this;rw[this]
    rcases x with rfl|x
    ·exact O
    exact d.closed m e.on k O x) d
   exact wpOpIn_mono (fun H w' h=>h.congr fun j=>(t j).symm) this
 refine key ops.size _ a0 _ (by simp) ?_ ?_
 ·exact bH (List.countP_le_length) (by simp)
 refine .inl (Kl (w0:=w0) (w:={ w0 with drawn:=w0.drawn+1 }) (hs.heap rfl) (iW.ofHeap rfl ⟨rfl,rfl,rfl,aF _⟩) fun i h=>?_);rw[Array.getElem?_replicate]at h;split at h<;>cases h
end
end Go.AM
namespace Go.AM
variable {M:dm} {w:World}
structure aiR (fl:Bool) (base:Nat) (c d:dk):Prop where
 sld:∀b,c.sld b→d.sld b
 sb:∀b,d.sld b→d.bor b
 bor:∀b,c.bor b→d.bor b
 gone:∀id b,base≤id→c.H id≠.dead→c.place id=some b→if fl then d.bor b else d.sld b
 N:∀id,id<base→id<c.N→id<d.N
 keep:∀id,id<base→id<c.N→(d.H id=c.H id∧(c.H id≠.dead→d.place id=c.place id∧d.room id=c.room id∧d.loops id=c.loops id))∨d.H id=.dead
def dk.view(d:dk)(fl top:Bool):dk:=if top then d else d.still fl
theorem qS{d:dk}{fl top:Bool}:(d.view fl top).sld=d.sld:=by cases top<;>rfl
theorem zT{d:dk}{fl top:Bool}(h:fl=true∨top=true):(d.view fl top).bor=d.bor:=by cases top<;>cases fl<;>first|rfl|simp at h
theorem Hl{d:dk}{top:Bool}:(d.view true top).bor=d.bor:=by cases top<;>rfl
theorem BO{d:dk}{fl top:Bool}:(d.view fl top).still fl=d.still fl:=by cases top<;>cases fl<;>rfl
theorem X5{d:dk}{fl top:Bool}(a:∀b,d.sld b→d.bor b):Ext (d.still fl) w (d.view fl top) w:=by
 cases top
 ·exact .refl _ _
 exact .ofStill a fl
theorem tH{c d:dk}{b:Bool}(a:∀x,c.sld x→d.sld x)(f:b=true→∀x,c.bor x→d.bor x):Ext (c.still b) w (d.still b) w where
 sld:=a
 bor:=fun x e=>by
  cases b
  ·exact a x e
  exact f rfl x e
 rest:=fun _ _=>rfl
 N:=aF _
 head:=fun id hid=>absurd hid (da _)
 place:=fun id hid=>absurd hid (da _)
theorem Z9{fl top:Bool}{base:Nat}{σ:aw}{n:Nat}{v:aq}(h:isAgg v=false):isAgg (fz fl top base σ n v)=false:=by
 cases n with
 |zero=>rfl
 |succ n=>
  have p:∀l q,isAgg (oX fl l q)=false:=fun l q=>by unfold oX;split<;>rfl
  have c:∀g x d o,isAgg (jR g x d o)=false:=fun g x d o=>by unfold jR;split<;>rfl
  have k:∀x d o,isAgg (jR fl x d o)=false:=fun x d o=>c _ _ _ _;have j:∀{r:Type} (o:Option r) (f:r→aq),(∀a,isAgg (f a)=false)→isAgg (o.elim .any f)=false:=fun o f t=>by cases o<;>first|rfl|exact t _
  cases v with
  |agg cs=>simp[isAgg]at h
  |aa b xs=>simp only[fz];split<;>rfl
  |ai=>simp only[fz];split<;>rfl
  |imap b xs=>simp only[fz];split<;>rfl
  |lst xs=>exact p _ _
  |cptr b x o=>
   simp only[fz];cases b
   ·rfl
   cases fl
   ·cases top
    ·rfl
    exact c _ _ _ _
   exact k _ _ _
  |sl id ep off len=>
   simp only[fz];split
   ·split<;>rfl
   exact j _ _ fun l=>p _ _
  |ptr id ep i off=>
   simp only[fz];split
   ·split<;>rfl
   exact j _ _ fun l=>k _ _ _
  |mp id=>
   simp only[fz];split
   ·split<;>rfl
   exact j _ _ fun l=>rfl
  |asl id ep i off m=>simp only[fz];split<;>rfl
  |yld l s e=>simp only[fz];split<;>rfl
  |it id=>simp only[fz];split<;>rfl
  |_=>rfl
section
variable {fl:Bool} {base:Nat} {σ:aw} {c d:dk}
def FzR(M:dm)(w:World)(fl:Bool)(base:Nat)(σ:aw)(c d:dk)(n:Nat):Prop:=∀(top:Bool) (v:aq) (cv:Value),R M w c v cv→R M w (d.view fl top) (fz fl top base σ n v) cv
theorem En{n:Nat}{top:Bool}(i:∀m,m≤n→FzR M w fl base σ c d m){x:aq}{f:Nat→Value}(h:∀j (a:j<(cellsOf x).length),R M w c (cellsOf x)[j] (f j)) :
  ∀j (a:j<(cellsOf (fz fl top base σ n x)).length),R M w (d.view fl top) (cellsOf (fz fl top base σ n x))[j] (f j):=by
 intro j a;cases ha:isAgg x with
 |true=>
  obtain⟨cs,rfl⟩:=rG ha;cases n with
  |zero=>
   have e:cellsOf (fz fl top base σ 0 (.agg cs))=[.any]:=rfl;simp only[e,bw,bE]at a ⊢;have:j=0:=by omega
   subst this;exact .any
  |succ n=>
   have e:cellsOf (fz fl top base σ (n+1) (.agg cs))=cs.map (fz fl top base σ n):=rfl;simp only[e,df,dn]at a ⊢;exact i n (by omega) top _ _ (h j a)
 |false=>
  have e:cellsOf (fz fl top base σ n x)=[fz fl top base σ n x]:=rt (Z9 ha);have b:cellsOf x=[x]:=rt ha;simp only[e,bw,bE]at a ⊢;have:j=0:=by omega
  subst this;have g:=h 0 (by rw[b];simp);simp only[b,cX]at g;exact i n (aF _) top _ _ g
theorem IX{n:Nat}(b:∀m,m≤n→FzR M w fl base σ c d m){x:aq}{f:Nat→Value}(h:∀j (a:j<(cellsOf x).length),R M w c (cellsOf x)[j] (f j)) :
  ∀j (a:j<(cellsOf (fz fl false base σ n x)).length),R M w (d.still fl) (cellsOf (fz fl false base σ n x))[j] (f j):=En (top:=false) b h
theorem Be{l a:List aq}(h:a.map aM=l.map aM):a.length=l.length∧∀i (b:i<a.length) (c:i<l.length),aM a[i]=aM l[i]:=by
 have d:a.length=l.length:=by simpa using congrArg List.length h
 refine⟨d,fun i b c=>?_⟩;have:=congrArg (fun q=>q[i]?) h;simpa [b,c] using this
theorem OF{n:Nat}(hd:∀b,d.sld b→d.bor b)(y:∀m,m≤n→FzR M w fl base σ c d m){top:Bool}{l:List aq}{a:Addr}{cap K:Nat}{f:Nat→Nat→Value}(o:if fl then d.bor a.block else d.sld a.block)(q:a.spot=none)(g:l.length≤cap)(p:K≠0)
  (t:∀x∈l,aM x=K) (r:∀i j,i<l.length→j<K→w.cell? ⟨a.block,a.off+i*K+j,none⟩=some (f i j)∧(f i j).oneCell'=true)
  (u:∀i (hi:i<l.length) j (h:j<(cellsOf l[i]).length),R M w c (cellsOf l[i])[j] (f i j)) :
  R M w (d.view fl top) (oX fl l (l.map (fz fl false base σ n))) (.slice (some a) l.length cap):=by
 unfold oX;split
 ·rename_i s;obtain⟨m1,m2⟩:=Be s;have e:(l.map (fz fl false base σ n)).length=l.length:=by simp
  have:=R.aa (M:=M) (w:=w) (c:=d.view fl top) (b:=fl) (xs:=l.map (fz fl false base σ n)) (cap:=cap) (a:=a) K f (by
    cases fl
    ·rw[qS];exact o
    ·rw[Hl];exact o) q (by rw[e];exact g) p (fun x v=>by
    obtain⟨i,hi,rfl⟩:=cM.1 v;rw[m2 i hi (by rw[←e];exact hi)];exact t _ (aJ _)) (fun i j hi h=>r i j (by rw[←e];exact hi) h) (fun i hi j h=>by
    rw[BO];have k:i<l.length:=by rw[←e];exact hi
    simp only[dn]at h ⊢;exact IX y (u i k) j h)
  rw[e]at this;exact this
 exact .any
theorem Ov{n:Nat}(hd:∀b,d.sld b→d.bor b)(k:∀m,m≤n→FzR M w fl base σ c d m){top:Bool}{x:aq}{off o blk:Nat}{f:Nat→Value}(g:if fl then d.bor blk else d.sld blk)(p:aM x≠0)
  (h:∀j,j<aM x→w.cell? ⟨blk,o+j,none⟩=some (f j)∧(f j).oneCell'=true) (i:∀j (a:j<(cellsOf x).length),R M w c (cellsOf x)[j] (f j)) :
  R M w (d.view fl top) (jR fl x (fz fl false base σ n x) off) (.pointer (some ⟨blk,o+off,none⟩)):=by
 unfold jR;split
 ·rename_i l;refine .cptr f ?_ (by omega) (fun j a=>h j (by omega)) fun j a=>?_
  ·cases fl
   ·rw[qS];exact g
   rw[Hl];exact g
  have:=IX k i j a;cases fl
  ·have e:(if false=true then d.view false top else (d.view false top).still false)=d.still false:=BO (fl:=false);rw[e];exact this
  exact this.ext (X5 hd)
 exact .any
theorem FzR.zero:FzR M w fl base σ c d 0:=fun _ _ _ _=>.any
theorem af2{id ep k:Nat}{es:List aq}(b:fd M w c σ)(a:σ[id]?=some (.arr k ep es))(h:∀k e,c.H id=.arr k e→ep<e):False:=
 absurd (h k ep (by rw[b.H,fe a])) (dG _)
theorem PW(O:fd M w c σ)(q:aiR fl base c d):∀n,FzR M w fl base σ c d n:=by
 intro n;induction n using Nat.strongRecOn with
 |_ n ae=>
 cases n with
 |zero=>exact FzR.zero
 |succ n=>
  have U:∀m,m≤n→FzR M w fl base σ c d m:=fun m hm=>ae m (by omega);have S:∀{top:Bool} {v:aq} {cv:Value},R M w c v cv→R M w (d.view fl top) (fz fl top base σ n v) cv:=fun {top v cv} h=>U n (aF _) top v cv h;intro top v cv h;have V:∀b,d.sld b→(if fl then d.bor b else d.sld b):=fun b t=>by
   cases fl
   ·exact t
   exact q.sb b t
  cases h with
  |any=>exact .any
  |int=>exact .int
  |bool=>exact .bool
  |str h=>exact .str h
  |nilp=>exact .nilp
  |nilf=>exact .nilf
  |nilm=>exact .nilm
  |@ai _ a=>
   show R M w _ (if !fl&&top then .ai else .aa false []) _;split
   ·exact .ai
   exact .imm0
  |emp h=>exact .emp h
  |@agg _ cs vs f p s u y=>
   show R M w _ (.agg (cs.map (fz fl top base σ n))) _;have hr:∀i (hi:i<(cs.map (fz fl top base σ n)).length),R M w (d.view fl top) (cs.map (fz fl top base σ n))[i] (f i):=fun i hi=>by
    rw[dn];exact S (y i (by simpa using hi))
   exact .agg f (by simpa using p) (fun i hi=>s i (by simpa using hi)) (fun i hi=>(hr i hi).small (s i (by simpa using hi)).2) hr
  |@tup _ cs vs f p s u=>
   show R M w _ (.tup (cs.map (fz fl top base σ n))) _
   exact .tup f (by simpa using p) (fun i hi=>s i (by simpa using hi)) fun i hi=>by
    rw[dn];exact S (u i (by simpa using hi))
  |@fn _ g first cap fs cs f1 f2 p s u y H N=>
   show R M w _ (.fn g (first.map (fz fl top base σ n)) (cap.map (fz fl top base σ n))) _
   exact .fn f1 f2 (by simpa using p) (by simpa using s) (fun i hi=>u i (by simpa using hi)) (fun i hi=>y i (by simpa using hi)) (fun i hi=>by
    rw[dn];exact S (H i (by simpa using hi))) (fun i hi=>by rw[dn];exact S (N i (by simpa using hi)))
  |@aa _ b xs cap a K f p s u y H N W=>
   show R M w _ (if b&&!fl&&!top then .any else .aa b xs) _;split
   ·exact .any
   rename_i z;have I:b=true→fl=true∨top=true:=fun e=>by subst e;cases fl<;>cases top<;>simp at z ⊢
   refine .aa K f ?_ s u y H N fun i hi j G=>(W i hi j G).ext (tH (fun x A=>by rw[qS];exact q.sld x A) fun e x A=>?_)
   ·cases b
    ·rw[qS];exact q.sld _ p
    rw[if_pos rfl,zT (I rfl)];exact q.bor _ p
   rw[zT (I e)];exact q.bor _ A
  |@imm0 _ b cap a=>
   show R M w _ (if b&&!fl&&!top then .any else .aa b []) _;split
   ·exact .any
   exact .imm0
  |@lst _ xs cap a K f p s u y H N W=>
   exact OF q.sb U (V _ (q.sld _ p)) s u y H N W
  |@lst0 _ cap a=>exact .imm0
  |@cptr _ b x off o blk f p s u y=>
   show R M w _ (if b then (if fl then jR true x (fz fl false base σ n x) off else if top then jR true x (fz fl top base σ n x) off else .any) else .cptr false x off) _;cases b with
   |true=>
    cases fl with
    |true=>exact Ov (fl:=true) q.sb U (q.bor _ p) s u y
    |false=>
     cases top with
     |false=>exact .any
     |true=>
      show R M w d (jR true x (fz false true base σ n x) off) _;unfold jR;split
      ·rename_i hm;exact .cptr f (q.bor _ p) (by omega) (fun j G=>u j (by omega)) fun j G=>En (top:=true) U y j G
      exact .any
   |false=>
    refine .cptr f (by rw[qS];exact q.sld _ p) s u fun j G=>?_;exact (y j G).ext (tH (fun x A=>by rw[qS];exact q.sld x A) fun e=>by cases e)
  |@imap _ b es r ab en f g p s u y H N=>
   show R M w _ (if b&&!fl&&!top then .any else .imap b es) _;split
   ·exact .any
   rename_i z;have I:b=true→fl=true∨top=true:=fun e=>by subst e;cases fl<;>cases top<;>simp at z ⊢
   have A:Ext (c.still b) w ((d.view fl top).still b) w:=tH (fun x A=>by rw[qS];exact q.sld x A) fun e x A=>by
    rw[zT (I e)];exact q.bor _ A
   refine .imap f g ?_ s u y (fun i hi=>(H i hi).ext A) (fun i hi=>(N i hi).ext A);cases b
   ·rw[qS];exact q.sld _ p
   rw[if_pos rfl,zT (I rfl)];exact q.bor _ p
  |@sl _ id ep off len cap k blk p s u y H=>
   show R M w _ (if id<base then (if top then .sl id ep off len else .any) else (sliceAt σ id ep off len).elim .any fun l=>oX fl l (l.map (fz fl false base σ n))) _;split
   ·rename_i t;cases top with
    |false=>exact .any
    |true=>
     rcases q.keep id t p with⟨k1,k2⟩|k1
     ·obtain⟨L,Z,_⟩:=k2 (by rw[s];simp);exact .sl (q.N id t p) (k1.trans s) (L.trans u) y (by show _≤d.room id;rw[Z];exact H)
     exact .slOld rfl (q.N id t p) (by show ∀k e,d.H id=_→_;rw[k1];simp) (by show d.H id≠_;rw[k1];simp) (by show d.H id≠_;rw[k1];simp)
   rename_i t;cases hsl:sliceAt σ id ep off len with
   |none=>exact .any
   |some l=>
    obtain⟨k2,es,D,hl,rfl⟩:=pF hsl;have hH:c.H id=.arr k2 ep:=by rw[O.H,fe D]
    have Q:k=k2:=by rw[hH]at s;cases s;rfl
    subst Q;obtain⟨o1,o2,o3,o4⟩:=O.obj id _ D;obtain⟨cs,T,F,q1,q2,q3,q4,q5⟩:=o4 blk u;have C:((es.drop off).take len).length=len:=by simp;omega
    have:=OF (M:=M) (w:=w) (fl:=fl) (base:=base) (σ:=σ) (c:=c) (d:=d) (n:=n) (top:=top) (l:=(es.drop off).take len) (a:=⟨blk,off*k,none⟩) (cap:=cap) (K:=k) (f:=fun i j=>F (off+i) j) q.sb U (q.gone id blk (by omega) (by rw[s];simp) u) rfl (by omega) o1
     (fun x A=>o2 x (dR (cL A))) (fun i j hi G=>by
      rw[C]at hi;obtain⟨a1,a2⟩:=q4 (off+i) j (by omega) G;refine⟨?_,a2⟩;simp only[World.cell?,q1];rw[show off*k+i*k+j=(off+i)*k+j by rw[dN]];exact a1) (fun i hi j G=>by
      rw[C]at hi;have e:((es.drop off).take len)[i]'(by rw[C];exact hi)=es[off+i]'(by omega):=by simp
      have ad:j<(cellsOf (es[off+i]'(by omega))).length:=by rw[←e];exact G
      have:=q5 (off+i) (by omega) j ad;simp only[dO,eH];exact this)
    rw[C]at this;exact this
  |@sl0 _ id ep off k a p s=>
   show R M w _ (if id<base then (if top then .sl id ep off 0 else .any) else (sliceAt σ id ep off 0).elim .any fun l=>oX fl l (l.map (fz fl false base σ n))) _;split
   ·rename_i t;cases top with
    |false=>exact .any
    |true=>
     rcases q.keep id t p with⟨k1,k2⟩|k1
     ·exact .sl0 (q.N id t p) (k1.trans s)
     exact .slOld rfl (q.N id t p) (by show ∀k e,d.H id=_→_;rw[k1];simp) (by show d.H id≠_;rw[k1];simp) (by show d.H id≠_;rw[k1];simp)
   cases hsl:sliceAt σ id ep off 0 with
   |none=>exact .any
   |some l=>
    obtain⟨k2,es,D,hl,rfl⟩:=pF hsl;exact .imm0
  |@slOld _ id ep off len _ B p s u y=>
   show R M w _ (if id<base then (if top then .sl id ep off len else .any) else (sliceAt σ id ep off len).elim .any fun l=>oX fl l (l.map (fz fl false base σ n))) _;split
   ·rename_i t;cases top with
    |false=>exact .any
    |true=>
     rcases q.keep id t p with⟨k1,k2⟩|k1
     ·exact .slOld B (q.N id t p) (by show ∀k e,d.H id=_→_;rw[k1];exact s) (by show d.H id≠_;rw[k1];exact u) (by show d.H id≠_;rw[k1];exact y)
     exact .slOld B (q.N id t p) (by show ∀k e,d.H id=_→_;rw[k1];simp) (by show d.H id≠_;rw[k1];simp) (by show d.H id≠_;rw[k1];simp)
   cases hsl:sliceAt σ id ep off len with
   |none=>exact .any
   |some l=>
    obtain⟨k2,es,D,hl,rfl⟩:=pF hsl;exact (af2 O D s).elim
  |@ptr _ id ep i off k blk p s u=>
   show R M w _ (if id<base then (if top then .ptr id ep i off else .any) else (uq σ id ep i).elim .any fun x=>jR fl x (fz fl false base σ n x) off) _;split
   ·rename_i t;cases top with
    |false=>exact .any
    |true=>
     rcases q.keep id t p with⟨k1,k2⟩|k1
     ·obtain⟨L,Z,_⟩:=k2 (by rw[s];simp);exact .ptr (q.N id t p) (k1.trans s) (L.trans u)
     exact .ptrOld rfl (q.N id t p) (by show ∀k e,d.H id=_→_;rw[k1];simp) (by show d.H id≠_;rw[k1];simp) (by show d.H id≠_;rw[k1];simp)
   rename_i t;cases hsl:uq σ id ep i with
   |none=>exact .any
   |some x=>
    obtain⟨k2,es,D,A⟩:=Bk hsl;have hH:c.H id=.arr k2 ep:=by rw[O.H,fe D]
    have Q:k=k2:=by rw[hH]at s;cases s;rfl
    subst Q;obtain⟨b,f,X,Y,ag,af,P⟩:=O.elem D A;rw[u]at X;cases X;exact Ov (o:=i*k) q.sb U (q.gone id blk (by omega) (by rw[s];simp) u) (by omega) (fun j G=>⟨P j (by omega),Y.one j G⟩) Y.rel
  |@ptrOld _ id ep i off _ B p s u y=>
   show R M w _ (if id<base then (if top then .ptr id ep i off else .any) else (uq σ id ep i).elim .any fun x=>jR fl x (fz fl false base σ n x) off) _;split
   ·rename_i t;cases top with
    |false=>exact .any
    |true=>
     rcases q.keep id t p with⟨k1,k2⟩|k1
     ·exact .ptrOld B (q.N id t p) (by show ∀k e,d.H id=_→_;rw[k1];exact s) (by show d.H id≠_;rw[k1];exact u) (by show d.H id≠_;rw[k1];exact y)
     exact .ptrOld B (q.N id t p) (by show ∀k e,d.H id=_→_;rw[k1];simp) (by show d.H id≠_;rw[k1];simp) (by show d.H id≠_;rw[k1];simp)
   cases hsl:uq σ id ep i with
   |none=>exact .any
   |some x=>
    obtain⟨k2,es,D,A⟩:=Bk hsl;exact (af2 O D s).elim
  |@asl _ id ep i off m k blk p s u=>
   show R M w _ (if id<base&&top then .asl id ep i off m else .any) _;split
   ·rename_i z;simp only[ax,bZ]at z;obtain⟨t,rfl⟩:=z;rcases q.keep id t p with⟨k1,k2⟩|k1
    ·obtain⟨L,Z,_⟩:=k2 (by rw[s];simp);exact .asl (q.N id t p) (k1.trans s) (L.trans u)
    exact .aslOld (q.N id t p) (by show ∀k e,d.H id=_→_;rw[k1];simp) (by show d.H id≠_;rw[k1];simp) (by show d.H id≠_;rw[k1];simp)
   exact .any
  |@aslOld _ id ep i off m _ p s u y=>
   show R M w _ (if id<base&&top then .asl id ep i off m else .any) _;split
   ·rename_i z;simp only[ax,bZ]at z;obtain⟨t,rfl⟩:=z;rcases q.keep id t p with⟨k1,k2⟩|k1
    ·exact .aslOld (q.N id t p) (by show ∀k e,d.H id=_→_;rw[k1];exact s) (by show d.H id≠_;rw[k1];exact u) (by show d.H id≠_;rw[k1];exact y)
    exact .aslOld (q.N id t p) (by show ∀k e,d.H id=_→_;rw[k1];simp) (by show d.H id≠_;rw[k1];simp) (by show d.H id≠_;rw[k1];simp)
   exact .any
  |@mp _ id blk p s u=>
   show R M w _ (if id<base then (if top then .mp id else .any) else (ic σ id).elim .any fun es=>.imap fl (es.map fun e=>(e.1,fz fl false base σ n e.2))) _;split
   ·rename_i t;cases top with
    |false=>exact .any
    |true=>
     rcases q.keep id t p with⟨k1,k2⟩|k1
     ·obtain⟨L,Z,_⟩:=k2 (by rw[s];simp);exact .mp (q.N id t p) (k1.trans s) (L.trans u)
     exact .mpOld rfl (q.N id t p) k1
   rename_i t;cases he:ic σ id with
   |none=>exact .any
   |some es=>
    unfold ic at he;split at he
    ·rename_i es' D;cases he;obtain⟨b,cl,en,f,g,q1,q2,q3,q4,q5,q6⟩:=O.obj id _ D;rw[q1]at u;cases u;have J:=q.gone id _ (by omega) (by rw[s];simp) q1;refine .imap f g ?_ q2 (by simpa using q3) (fun i hi=>?_) (fun i hi=>?_) (fun i hi=>?_)
     ·cases fl
      ·rw[qS];exact J
      rw[Hl];exact J
     ·obtain⟨e,e1,e2,e3,e4⟩:=q4 i (by simpa using hi);exact⟨e,e1,e2,e3,by simpa using e4⟩
     ·obtain⟨e,e1,e2,e3,e4⟩:=q4 i (by simpa using hi);simp only[dn];exact Td (q5 i (by simpa using hi)) e4.1
     rw[BO];simp only[dn];exact S (top:=false) (q6 i (by simpa using hi))
    cases he
  |@mpOld _ id _ B p s=>
   show R M w _ (if id<base then (if top then .mp id else .any) else (ic σ id).elim .any fun es=>.imap fl (es.map fun e=>(e.1,fz fl false base σ n e.2))) _;split
   ·rename_i t;cases top with
    |false=>exact .any
    |true=>
     rcases q.keep id t p with⟨k1,k2⟩|k1
     ·exact .mpOld B (q.N id t p) (k1.trans s)
     exact .mpOld B (q.N id t p) k1
   cases he:ic σ id with
   |none=>exact .any
   |some es=>
    unfold ic at he;split at he
    ·rename_i es' D;rw[O.H,fe D]at s;cases s
    cases he
  |@yld _ l E env em blk f p s u y H N W=>
   show R M w _ (if l<base&&top then .yld l E (env.map (fz fl top base σ n)) else .any) _;split
   ·rename_i z;simp only[ax,bZ]at z;obtain⟨t,rfl⟩:=z;rcases q.keep l t p with⟨k1,k2⟩|k1
    ·obtain⟨L,Z,p3⟩:=k2 (by rw[s];simp);refine .yld f (q.N l t p) (k1.trans s) (L.trans u) (by show M.site E (d.loops l) em;rw[p3];exact y) (by simpa using H) (fun i hi A=>by show (d.loops l).tmps[em[i]]?=_;rw[p3];exact N i hi (by simpa using A)) fun i A=>?_;rw[dn];exact S (top:=true) (W i (by simpa using A))
    exact .yldOld rfl (q.N l t p) k1
   exact .any
  |@yldOld _ l E env _ B p s=>
   show R M w _ (if l<base&&top then .yld l E (env.map (fz fl top base σ n)) else .any) _;split
   ·rename_i z;simp only[ax,bZ]at z;obtain⟨t,rfl⟩:=z;rcases q.keep l t p with⟨k1,k2⟩|k1
    ·exact .yldOld B (q.N l t p) (k1.trans s)
    exact .yldOld B (q.N l t p) k1
   exact .any
  |@it _ id blk p s u=>
   show R M w _ (if id<base&&top then .it id else .any) _;split
   ·rename_i z;simp only[ax,bZ]at z;obtain⟨t,rfl⟩:=z;rcases q.keep id t p with⟨k1,k2⟩|k1
    ·obtain⟨L,_,_⟩:=k2 (by rw[s];simp);exact .it (q.N id t p) (k1.trans s) (L.trans u)
    exact .itOld rfl (q.N id t p) k1
   exact .any
  |@itOld _ id _ B p s=>
   show R M w _ (if id<base&&top then .it id else .any) _;split
   ·rename_i z;simp only[ax,bZ]at z;obtain⟨t,rfl⟩:=z;rcases q.keep id t p with⟨k1,k2⟩|k1
    ·exact .itOld B (q.N id t p) (k1.trans s)
    exact .itOld B (q.N id t p) k1
   exact .any
end
end Go.AM
namespace Go.AM
variable {M:dm} {w:World}
def dk.sealUp(c:dk)(base:Nat)(τ:aw):dk:={ c with
 sld:=fun b=>c.sld b∨∃id,base≤id∧c.H id≠.dead∧c.place id=some b
 bor:=fun b=>c.bor b∨∃id,base≤id∧c.H id≠.dead∧c.place id=some b
 H:=hd τ
 N:=τ.length }
def jL(base:Nat)(σ:aw):aw:=(σ.take base).map (bA base σ)
variable {c:dk} {σ:aw} {base:Nat}
theorem ui(a:base≤σ.length):(jL base σ).length=base:=by simp[jL];omega
theorem Rk{id:Nat}{o:Obj}(h:(jL base σ)[id]?=some o):id<base∧∃b,σ[id]?=some b∧o=bA base σ b:=by
 unfold jL at h;rw[dP]at h;obtain⟨b,a,c⟩:=bK h;rw[gp]at a;split at a
 ·exact⟨by assumption,b,a,c.symm⟩
 cases a
theorem Wh{id:Nat}{o:Obj}(hid:id<base)(h:σ[id]?=some o):(jL base σ)[id]?=some (bA base σ o):=by
 unfold jL;rw[dP,gp,if_pos hid,h];rfl
theorem ub{id:Nat}(hid:id<base)(g:base≤σ.length):hd (jL base σ) id=hd σ id∨hd (jL base σ) id=.dead:=by
 have a:id<σ.length:=by omega
 obtain⟨o,d⟩:∃o,σ[id]?=some o:=⟨_,au a⟩;have f:=Wh (base:=base) (σ:=σ) hid d;unfold hd;rw[f,d];cases o with
 |arr k ep es=>
  simp only[bA,KJ];by_cases c:(es.map (cq base σ)).map aM=es.map aM
  ·rw[if_pos c];exact .inl rfl
  rw[if_neg c];exact .inr rfl
 |map es=>exact .inl rfl
 |pend b j=>exact .inl rfl
 |it s pos=>exact .inl rfl
 |mit es e k=>exact .inl rfl
 |dead=>exact .inl rfl
theorem rV(e:fd M w c σ)(d:base≤σ.length):aiR false base c (c.sealUp base (jL base σ)) where
 sld:=fun b h=>.inl h
 sb:=fun b h=>h.imp (e.sb b) fun h=>h
 bor:=fun b h=>.inl h
 gone:=fun id b a f g=>.inr ⟨id,a,f,g⟩
 N:=fun id a _=>by show id<(jL base σ).length;rw[ui d];exact a
 keep:=fun id a _=>by
  rcases ub (σ:=σ) a d with h|h
  ·exact .inl ⟨by show hd (jL base σ) id=c.H id;rw[h,e.H],fun _=>⟨rfl,rfl,rfl⟩⟩
  exact .inr h
theorem fd.sealUp(p:fd M w c σ)(I:base≤σ.length):fd M w (c.sealUp base (jL base σ)) (jL base σ):=by
 have Y:=rV p I;have W:=fun n=>PW p Y n;have l:∀id,hd (jL base σ) id≠.dead→id<base∧c.H id≠.dead:=fun id h=>by
  have d:=IB h;rw[ui I]at d;refine⟨d,?_⟩;rcases ub (σ:=σ) d I with G|G
  ·rw[p.H,←G];exact h
  exact absurd G h
 refine⟨rfl,rfl,Y.sb,fun b h=>?_,fun id b H C=>?_,fun i j b hi v K L=>p.inj i j b (l i hi).2 (l j v).2 K L,fun id o ho=>?_⟩
 ·rcases h with h|⟨id,_,H,C⟩
  ·exact p.low b h
  exact (p.plow id b H C).1
 ·obtain⟨d,X⟩:=l id H;obtain⟨p1,p2⟩:=p.plow id b X C;refine⟨p1,fun h=>h.elim p2 fun ⟨O,y,t,u⟩=>?_⟩;have:=p.inj id O b X t C u;omega
 obtain⟨d,Z,h0,rfl⟩:=Rk ho;have a:=p.obj id Z h0;cases Z with
 |arr k ep es=>
  simp only[bA,KJ];by_cases N:(es.map (cq base σ)).map aM=es.map aM
  ·rw[if_pos N];obtain⟨m1,m2⟩:=Be N;obtain⟨o1,o2,o3,o4⟩:=a;refine⟨o1,fun x hx=>?_,fun hn=>by rw[o3 hn];rfl,fun b J=>?_⟩
   ·obtain⟨i,hi,rfl⟩:=cM.1 hx;rw[m2 i hi (by omega)];exact o2 _ (aJ _)
   obtain⟨cs,T,f,y,t,u,z,B⟩:=o4 b J;refine⟨cs,T,f,y,by rw[m1];exact t,u,fun i j hi v=>z i j (by omega) v,fun i hi j v=>?_⟩;simp only[dn]at v ⊢;exact En (top:=true) (n:=dF) (fun m _=>W m) (B i (by omega)) j v
  rw[if_neg N];trivial
 |map es=>
  obtain⟨b,E,en,f,g,y,t,u,z,B,R⟩:=a;refine⟨b,E,en,f,g,y,t,by simpa using u,fun i hi=>?_,fun i hi=>?_,fun i hi=>?_⟩
  ·obtain⟨e,S,U,V,F⟩:=z i (by simpa using hi);exact⟨e,S,U,V,by simpa using F⟩
  ·obtain⟨e,S,U,V,F⟩:=z i (by simpa using hi);simp only[dn];exact Td (B i (by simpa using hi)) F.1
  simp only[dn];exact W dF true _ _ (R i (by simpa using hi))
 |pend bz j=>exact a
 |it s pos=>exact a
 |mit es ab k=>
  obtain⟨b,r,A,E,seen,en,f,g,y,t,u,z,B,R,q7,q8,q9,P,Q⟩:=a;have D:Ext (c.still false) w ((c.sealUp base (jL base σ)).still false) w:=tH (fun b h=>.inl h) (fun h=>by cases h);refine⟨b,r,A,E,seen,en,f,g,y,t,.inl u,z,B,R,fun i hi=>(q7 i hi).ext D,fun i hi=>(q8 i hi).ext D,q9,P,fun e h=>?_⟩;obtain⟨l1,st,q,l2,l3,l4,l5⟩:=Q e h;exact⟨l1,st,q,l2,l3,l4.ext D,l5.ext D⟩
 |dead=>trivial
theorem iW.sealUp{i:dk}{w0:World}(h:iW i w0 c w)(o:fd M w c σ)(p:i.N=base)(e:base≤σ.length):iW i w0 (c.sealUp base (jL base σ)) w where
 sld:=fun b e=>.inl (h.sld b e)
 bor:=fun b e=>.inl (h.bor b e)
 rest:=h.rest
 N:=by show i.N≤(jL base σ).length;rw[ui e,p];exact aF _
 head:=fun id hid=>by
  show (i.H id).le (hd (jL base σ) id);rcases ub (σ:=σ) (show id<base by omega) e with a|a
  ·rw[a,←o.H];exact h.head id hid
  rw[a];exact .inr (.inl rfl)
 place:=fun id hid q k=>by
  refine h.place id hid ?_ k;have m:i.H id=hd (jL base σ) id:=q;rcases ub (σ:=σ) (show id<base by omega) e with a|a
  ·rw[m,a,←o.H]
  exact absurd (m.trans a) k
 same:=h.same
 size:=h.size
 frame:=h.frame
 old:=fun b d g=>by
  rcases d with d|⟨id,_,j,n⟩
  ·exact h.old b d g
  exact .inr (h.liv id b j n g)
 oldb:=fun b d g=>by
  rcases d with d|⟨id,_,j,n⟩
  ·exact h.oldb b d g
  exact .inr (h.liv id b j n g)
 liv:=fun id b d j g=>by
  refine h.liv id b ?_ j g;have f:hd (jL base σ) id≠.dead:=d;have l:=IB f;rw[ui e]at l;rcases ub (σ:=σ) l e with a|a
  ·rw[o.H,←a];exact f
  exact absurd a f
theorem Kq{e:Nat}:∀{l:List Nat} {env:List aq},pr (clear env l) e=pr env e∨pr (clear env l) e=.any
 |[],_=>.inl rfl
 |i::r,env=>by
  simp only[clear];rcases Kq (e:=e) (l:=r) (env:=env.set i .any) with h|h
  ·rw[h];by_cases hi:i=e
   ·subst hi;unfold pr;rw[dx];simp only[cw];split
    ·exact .inr rfl
    exact .inr rfl
   exact .inl (Bg hi)
  exact .inr h
theorem nI.clear{env:List aq}{em:List Tmp}{tmps:Array Value}(h:nI M w c env [] (yv em) tmps)(l:List Nat):nI M w c (clear env l) [] (yv em) tmps:=fun t x b=>by
 have d:=h t x b;unfold yv at b;obtain⟨e,_,rfl⟩:=bK b;show R M w c (pr (Go.AM.clear env l) e) _;rcases Kq (e:=e) (l:=l) (env:=env) with a|a
 ·rw[a];exact d
 rw[a];exact .any
theorem QL{k:dk}{w0:World}{s:St}{em:List Tmp}{tmps:Array Value}{clr:List Nat}(b:fd M w c s.st)(d:iW k w0 c w)(p:k.N=base)(q:nI M w c s.env [] (yv em) tmps) :
  ∃c',fd M w c' (bN base clr s).st∧iW k w0 c' w∧nI M w c' (bN base clr s).env [] (yv em) tmps ∧
   ∀r,¬c.bor r→(∀id,c.H id≠.dead→c.place id≠some r)→¬c'.bor r∧∀id,c'.H id≠.dead→c'.place id≠some r:=by
 have g:base≤s.st.length:=by rw[←p,←b.N];exact d.N
 unfold bN;split
 ·exact⟨c,b,d,q.clear clr,fun r m j=>⟨m,j⟩⟩
 refine⟨c.sealUp base (jL base s.st),b.sealUp g,d.sealUp b p g,fun t x o=>?_,fun r m j=>⟨fun h=>?_,fun id z=>?_⟩⟩
 rotate_left
 ·rcases h with h|⟨id,_,u,y⟩
  ·exact m h
  exact j id u y
 ·have a:hd (jL base s.st) id≠.dead:=z;have i:=IB a;rw[ui g]at i;refine j id ?_;rcases ub (σ:=s.st) i g with l|l
  ·rw[b.H,←l];exact a
  exact absurd l a
 have A:=(q.clear clr) t x o;unfold yv at o;obtain⟨e,_,rfl⟩:=bK o;have n:R M w c (pr (Go.AM.clear s.env clr) e) (tmps.getD t undef):=A;show R M w _ (pr ((Go.AM.clear s.env clr).map (cq base s.st)) e) _;have f:pr ((Go.AM.clear s.env clr).map (cq base s.st)) e=cq base s.st (pr (Go.AM.clear s.env clr) e)∨pr ((Go.AM.clear s.env clr).map (cq base s.st)) e=.any:=by
  unfold pr;rw[dP];cases (Go.AM.clear s.env clr)[e]? with
  |none=>exact .inr rfl
  |some v=>exact .inl rfl
 rcases f with f|f
 ·rw[f];exact PW b (rV b g) dF true _ _ n
 rw[f];exact .any
end Go.AM
namespace Go.AM
variable {M:dm} {P:Program} {w w':World} {c c':dk} {σ:aw}
structure Hid (n0:Nat) (w:World) (c:dk) (r:Nat):Prop where
 new:n0≤r
 at_:w.heap[r]?=some (.deferred (some []))
 bor:¬c.bor r
 place:∀id,c.H id≠.dead→c.place id≠some r
theorem Hid.lt{n0 r:Nat}(h:Hid n0 w c r):r<w.heap.size:=(bF.1 h.at_).1
theorem Hid.stp{n0 r:Nat}(h:Hid n0 w c r)(a:iW c w c' w'):Hid n0 w' c' r where
 new:=h.new
 at_:=by rw[a.frame r h.lt h.place];exact h.at_
 bor:=fun e=>by
  rcases a.oldb r e h.lt with e|⟨i,b,d⟩
  ·exact h.bor e
  exact h.place i b d
 place:=fun id b d=>by
  obtain⟨i,f,g⟩:=a.liv id r b d h.lt;exact h.place i f g
def qX(n0:Nat)(w:World)(c:dk):List Deferred→Prop
 |[]=>True
 |d::ds=>(∃r,d.target=.collected r∧Hid n0 w c r∧∀d'∈ds,d'.target≠.collected r)∧qX n0 w c ds
theorem qX.stp{n0:Nat}(a:iW c w c' w'):∀{b:List Deferred},qX n0 w c b→qX n0 w' c' b
 |[],_=>trivial
 |_::_,⟨⟨r,d,e,f⟩,h⟩=>⟨⟨r,d,e.stp a,f⟩,h.stp a⟩
theorem qX.same{n0:Nat}(h:∀r,¬c.bor r→(∀id,c.H id≠.dead→c.place id≠some r)→¬c'.bor r∧∀id,c'.H id≠.dead→c'.place id≠some r):∀{b:List Deferred},qX n0 w c b→qX n0 w c' b
 |[],_=>trivial
 |_::_,⟨⟨r,d,a,e⟩,f⟩=>⟨⟨r,d,⟨a.new,a.at_,(h r a.bor a.place).1,(h r a.bor a.place).2⟩,e⟩,f.same h⟩
theorem qX.lt{n0:Nat}:∀{a:List Deferred},qX n0 w c a→∀d∈a,∃r,d.target=.collected r∧r<w.heap.size
 |_::_,⟨⟨r,b,e,_⟩,h⟩,d,hd=>by
  rcases dX.1 hd with rfl|hd
  ·exact⟨r,b,e.lt⟩
  exact h.lt d hd
theorem iW.hid{k:dk}{w0:World}{r:Nat}{o:Go.Obj}(h:iW k w0 c w)(q:fd M w c σ)(d:Hid w0.heap.size w c r)(f:u7 w w' r o):fd M w' c σ∧Ext c w c w'∧iW k w0 c w':=by
 have g:∀b,(c.bor b∨∃id,c.H id≠.dead∧c.place id=some b)→b≠r:=fun b a e=>by
  subst e;rcases a with a|⟨i,m,n⟩
  ·exact d.bor a
  exact d.place i m n
 obtain⟨l,j⟩:=q.over (w':=w') (fun b _ a=>by rw[f.get b d.lt,if_neg (g b a)]) (by rw[f.size];exact aF _);refine⟨l,j,{ Ext.trans h.toExt j with
  same:=h.same.trans f.toSame
  size:=by rw[f.size];exact h.size
  frame:=fun b a p=>by
   rw[f.get b d.lt,if_neg (by have:=d.new;omega)];exact h.frame b a p
  liv:=h.liv
  old:=h.old
  oldb:=h.oldb }⟩
theorem qX.over{n0 r:Nat}{o:Go.Obj}(a:r<w.heap.size)(k:u7 w w' r o):∀{b:List Deferred},(∀d∈b,d.target≠.collected r)→qX n0 w c b→qX n0 w' c b
 |[],_,_=>trivial
 |d::b,j,⟨⟨q,i,f,m⟩,h⟩=>by
  refine⟨⟨q,i,⟨f.new,?_,f.bor,f.place⟩,m⟩,h.over a k fun l g=>j l (cd _ g)⟩;rw[k.get q a,if_neg]
  ·exact f.at_
  intro e;subst e;exact j d dH i
theorem Dn{F:Fence}{n:Nat}{fn:Func}{tmps:Array Value}{i:dk}{w0:World}{R:Ending→World→Prop}:∀(e:List Deferred) (w:World),fd M w c σ→iW i w0 c w→qX w0.heap.size w c e →
  (∀w',fd M w' c σ→Ext c w c w'→iW i w0 c w'→∃v,(Go.results fn tmps).run P w'=.ok v w'∧R (.returned v) w')→LeavesInM F n P fn tmps R e .returning w
 |[],w,g,b,_,h=>h w g (.refl c w) b
 |d::e,w,g,b,⟨⟨r,q,f,s⟩,t⟩,h=>by
  have a:u7 w (w.putObj r (.deferred none)) r (.deferred none):=⟨⟨rfl,rfl,rfl,aF _⟩,rfl⟩;obtain⟨j,k,l⟩:=b.hid g f a;exact⟨by simp,.inl ⟨r,_,q,run_takeDeferred f.at_,Dn e _ j l (t.over f.lt a s) fun w' m o p=>h w' m (k.trans o) p⟩⟩
theorem fd.drop(d:fd M w c σ){id b:Nat}{o:Go.Obj}(p:c.H id≠.dead)(n:c.place id=some b)(l:u7 w w' b o) :
  fd M w' { c with H:=hd (σ.set id .dead) } (σ.set id .dead)∧iW c w { c with H:=hd (σ.set id .dead) } w':=by
 have k:=(d.plow id b p n).1;have t:∀i,hd (σ.set id .dead) i=if i=id then .dead else hd σ i:=fun i=>by
  by_cases e:i=id
  ·subst e;rw[if_pos rfl];unfold hd;rw[dx];simp only[cw];split<;>rename_i h<;>split at h<;>simp_all
  rw[if_neg e,kD e]
 have a:∀i,hd (σ.set id .dead) i≠.dead→c.H i≠.dead∧i≠id:=fun i h=>by
  rw[t]at h;split at h
  ·exact absurd rfl h
  rw[d.H];exact⟨h,by assumption⟩
 have f:Ext c w { c with H:=hd (σ.set id .dead) } w':=⟨fun _ h=>h,fun _ h=>h,fun x m=>by
  rw[l.get x k,if_neg];rintro rfl;exact (d.plow id x p n).2 (m.elim (fun h=>h) (d.sb x)),aF _,fun i hi=>by
  show (c.H i).le (hd (σ.set id .dead) i);rw[t];split
  ·exact .inr (.inl rfl)
  exact .inl (by rw[d.H]),fun i hi h y=>⟨rfl,rfl,rfl⟩⟩
 refine⟨⟨rfl,by rw[gg];exact d.N,d.sb,fun x m=>by rw[l.size];exact d.low x m,fun i x q r=>?_,fun i j x hi u=>d.inj i j x (a i hi).1 (a j u).1,fun i o' g=>?_⟩,{ f with same:=l.toSame,size:=by rw[l.size];exact aF _,frame:=fun x m v=>?_,liv:=fun i x q r _=>⟨i,(a i q).1,r⟩,old:=fun _ h _=>.inl h,oldb:=fun _ h _=>.inl h }⟩
 ·obtain⟨z,A⟩:=d.plow i x (a i q).1 r;exact⟨by rw[l.size];exact z,A⟩
 ·by_cases e:i=id
  ·subst e;rw[dx]at g;simp only[cw]at g;split at g
   ·cases g;trivial
   cases g
  rw[aD (fun h=>e h.symm)]at g;refine (d.obj i o' g).ext f (fun _=>⟨rfl,rfl,rfl⟩) fun s x m=>?_;rw[l.get x k,if_neg];rintro rfl;exact e (d.inj i id x (by rw[d.H];exact fun h=>s ((rH g).1 h)) p m n)
 rw[l.get x k,if_neg (fun e=>v id p (by subst e;exact n))]
theorem fd.pend(a:fd M w c σ){id b:Nat}{u bz':Bool}{j j':Option Ex}{o:Go.Obj}(s:σ[id]?=some (.pend u j))(m:c.place id=some b)(l:u7 w w' b o)
  (n:o=.loop (match bz',j' with
    |true,_=>rU (c.loops id) .busy none
    |false,none=>rU (c.loops id) .ready none
    |false,some e=>rU (c.loops id) .done (uF e))) :
  fd M w' c (σ.set id (.pend bz' j'))∧iW c w c w':=by
 have q:c.H id≠.dead:=by rw[a.H,fe s];simp
 have k:=(a.plow id b q m).1;have g:Ext c w c w':=⟨fun _ h=>h,fun _ h=>h,fun x p=>by
  rw[l.get x k,if_neg];rintro rfl;exact (a.plow id x q m).2 (p.elim (fun h=>h) (a.sb x)),aF _,fun i hi=>.inl rfl,fun i hi h A=>⟨rfl,rfl,rfl⟩⟩
 have t:id<σ.length:=(ak.1 s).1;have f:(σ.set id (.pend bz' j'))[id]?=some (.pend bz' j'):=by simp[t]
 have z:hd (σ.set id (.pend bz' j'))=hd σ:=by
  funext i;by_cases e:i=id
  ·subst e;rw[fe f,fe s]
  rw[kD e]
 refine⟨⟨by rw[z];exact a.H,by rw[gg];exact a.N,a.sb,fun x p=>by rw[l.size];exact a.low x p,fun i x v y=>?_,a.inj,fun i o' d=>?_⟩,iW.setB a q m l g⟩
 ·obtain⟨B,C⟩:=a.plow i x v y;exact⟨by rw[l.size];exact B,C⟩
 by_cases e:i=id
 ·subst e;rw[f]at d;cases d;exact⟨b,m,by rw[l.get b k,if_pos rfl,n];cases bz'<;>cases j'<;>rfl⟩
 rw[aD (fun h=>e h.symm)]at d;refine (a.obj i o' d).ext g (fun _=>⟨rfl,rfl,rfl⟩) fun r x p=>?_;rw[l.get x k,if_neg];rintro rfl;exact e (a.inj i id x (by rw[a.H];exact fun h=>r ((rH d).1 h)) q p m)
end Go.AM
namespace Go.AM
variable {M:dm} {P:Program}
section
variable {F:Fence} {n:Nat} {Q:Exit→Act→World→Prop} {a:Act} {w:World}
theorem pJ{b:Frame}{k:List Item}{cs:List Frame}{c:Go.Code}:Go.step P (lone (b.atR a (.code (.scope c)::k)) cs w)=.next (lone (b.atR a (.code c::.inScope c::k)) cs w):=
 step_lone_go (by simp[stepG,stepG.exec,Frame.atR])
theorem Jv{b:Frame}{k:List Item}{cs:List Frame}{c:Go.Code}:Go.step P (lone (b.atR a (.inScope c::k)) cs w)=.next (lone (b.atR a k) cs w):=
 step_lone_go (by simp[stepG,stepG.exec,Frame.atR])
theorem RI{c:Go.Code}(h:c.wpIn F n P (Exit.noGoto Q) a w):(Go.Code.scope c).wpIn F n P Q a w:=by
 intro b k cs s o q;have i:(lone (b.atR a (.code (.scope c)::k)) cs w).fenced P F:=fenced_calm o q rfl;obtain⟨e,f,g,j,d⟩:=h b (.inScope c::k) cs s o q;cases e with
 |normal=>exact⟨.normal,f,g,j,.head i pJ (StepsIn.trans d (.one (fenced_calm o q rfl) Jv))⟩
 |exit id=>
  have t:exitTo id (.inScope c::k)=exitTo id k:=by simp[exitTo]
  exact⟨.exit id,f,g,j,fun x p=>.head i pJ (d.1 x (by rw[t];exact p)),
   fun r p=>let ⟨m,u,v⟩:=d.2 r (by rw[t];exact p);⟨m,u,.head i pJ v⟩⟩
 |goto l=>exact j.elim
 |ret=>exact⟨_,f,g,j,.of_steps (.one i pJ) d⟩
 |panic y=>exact⟨_,f,g,j,.of_steps (.one i pJ) d⟩
 |outgrown=>exact⟨_,f,g,j,.of_steps (.one i pJ) d⟩
end
def QO:Ex→Exit
 |.nrm=>.normal
 |.ext id=>.exit id
 |.ret=>.ret
def FN:Go.Code→Bool
 |.skip=>true
 |.label _=>true
 |_=>false
inductive gj (M:dm) (P:Program) (cA:Nat→Bool) (em:List Tmp) (nt:Nat) (top:Bool):Go.Code→az→Prop
 |nop {c}:FN c=true→gj M P cA em nt top c .skip
 |text {id ops ins os its}:xP M P cA ops ins em its (fun i=>2^i-1) [] none nt→xo ops.toList em its os=true→gj M P cA em nt top (.region id ops false) (.reg ins os)
 |any {id ops ins os its bef late}:xP M P cA ops ins em its bef [] late nt→UN ops bef→xo ops.toList em its os=true→gj M P cA em nt top (.region id ops true) (.reg ins os)
 |anyd {id ops ins os its bef chk late}:xP M P cA ops ins em its bef chk late nt→UN ops bef→xo ops.toList em its os=true→gj M P cA em nt top (.region id ops true) (.regd ins os chk)
 |seq {a b x y}:gj M P cA em nt top a x→gj M P cA em nt top b y→gj M P cA em nt top (.seq a b) (.seq x y)
 |left {a b x}:FN b=true→gj M P cA em nt top a x→gj M P cA em nt top (.seq a b) x
 |right {a b y}:FN a=true→gj M P cA em nt top b y→gj M P cA em nt top (.seq a b) y
 |cond {t a b t' x y}:lW M (yv em) t t'=true→gj M P cA em nt top a x→gj M P cA em nt top b y→gj M P cA em nt top (.cond t a b) (.cond t' x y)
 |blk {id a x}:gj M P cA em nt top a x→gj M P cA em nt top (.block id a) (.blk id x)
 |loop {clr a x}:gj M P cA em nt top a x→gj M P cA em nt top (.loop a) (.loop clr x)
 |exit {id}:gj M P cA em nt top (.exit id) (.exit id)
 |ret:gj M P cA em nt top .ret .ret
 |scope {a x}:gj M P cA em nt top a x→gj M P cA em nt top (.scope a) (.scope x)
 |lift {c x i off k}:gj M P cA em nt top c x→gj M P cA em nt top c (.lift i off k x)
 |rng {g ps assign body f site n}:top=true→lW M (yv em) g f=true→em.Nodup→(∀t∈em,t<nt)→n=em.length →
   (∀fn tmps defers,nt≤tmps.size→M.site site ⟨fn,tmps,ps,assign,body,defers⟩ em)→gj M P cA em nt top (.rangeFunc g ps assign body) (.rng n f site)
structure SR (M:dm) (em:List Tmp) (nt m0:Nat) (c:dk) (w:World) (s:St) (a:Act):Prop where
 sim:fd M w c s.st
 tmp:nI M w c s.env [] (yv em) a.tmps
 size:nt≤a.tmps.size
 base:m0≤w.heap.size
 marks:qX m0 w c a.defers
section
variable {cA:Nat→Bool} {em:List Tmp} {nt:Nat} {top:Bool} {C:ip} {n:Nat} {F:Fence} {n0:Nat}
theorem Qj{c:Go.Code}(h:FN c=true){Q:Exit→Act→World→Prop}{a:Act}{w:World}(b:Q .normal a w):c.wpIn F n0 P Q a w:=by
 cases c<;>simp[FN]at h
 ·exact wpIn_skip b
 exact wpIn_label b
theorem B0{p:Nat→Prop}(h:∃k,p k):∃k,p k∧∀j,p j→k≤j:=by
 obtain⟨k,f⟩:=h;induction k using Nat.strongRecOn with
 |_ k g=>
  by_cases b:∃j,j<k∧p j
  ·obtain⟨j,c,d⟩:=b;exact g j c d
  exact⟨k,f,fun j e=>Nat.le_of_not_lt fun a=>b ⟨j,a,e⟩⟩
open Classical in
noncomputable def Hq(p:Nat→Prop):Nat:=if h:∃k,p k∧∀j,p j→k≤j then Classical.choose h else 0
theorem R8{p:Nat→Prop}(h:∃k,p k):p (Hq p):=by
 have a:=B0 h;unfold Hq;rw[dif_pos a];exact (kT a).1
theorem XZ{p:Nat→Prop}{k:Nat}(h:p k):Hq p≤k:=by
 have a:=B0 ⟨k,h⟩;unfold Hq;rw[dif_pos a];exact (kT a).2 k h
def ZV(M:dm)(P:Program)(em:List Tmp)(nt:Nat)(F:Fence)(n0:Nat)(f:St→Option (Ex×St))(code:Go.Code):Prop:=
 ∀(s:St) (e:Ex) (s':St),f s=some (e,s')→∀(m0:Nat) (c0:dk) (w0:World) (a0:Act),kK M w0 c0→SR M em nt m0 c0 w0 s a0→∀Q:Exit→Act→World→Prop,
  (∀a w c,SR M em nt m0 c w s' a→iW c0 w0 c w→Q (QO e) a w)→code.wpIn F n0 P Q a0 w0
theorem Sm{f:St→Option (Ex×St)}{code:Go.Code}(h:ZV M P em nt F n0 f code)(clr:List Nat)(u:Nat):ZV M P em nt F n0 (fun s=>sm s.st.length clr f u ⟨clear s.env clr,s.st⟩) (.loop code):=by
 intro s e s' I A m w0 B G i Q y;have E:m.N=s.st.length:=i.sim.N
 let J:Nat→Act→World→Prop:=fun k a w=>∃n c,SR M em nt A c w n a∧iW m w0 c w∧sm s.st.length clr f k n=some (e,s')
 have q:J u B w0:=⟨⟨clear s.env clr,s.st⟩,m,⟨i.sim,i.tmp.clear clr,i.size,i.base,i.marks⟩,.refl m w0,I⟩;refine wpIn_loop (fun a w=>∃k,J k a w) (fun a w=>Hq fun k=>J k a w) ⟨u,q⟩ fun a w D=>?_;have z:J (Hq fun k=>J k a w) a w:=R8 (p:=fun k=>J k a w) D;generalize H:(Hq fun k=>J k a w)=k at z;obtain⟨n,c,t,g,r⟩:=z;cases k with
 |zero=>simp[sm]at r
 |succ k=>
  simp only[sm]at r;obtain⟨⟨v,R⟩,C,j⟩:=bR r;refine h n v R C A c w a (G.ext g.toExt) t _ fun l w' c' b d=>?_;cases v with
  |nrm=>
   obtain⟨o,K,L,N,O⟩:=QL (clr:=clr) b.sim (g.trans d) E b.tmp;have x:J k l w':=⟨_,o,⟨K,N,b.size,b.base,b.marks.same O⟩,L,j⟩;refine⟨⟨k,x⟩,?_⟩;exact Nat.lt_succ_of_le (XZ (p:=fun k=>J k l w') x)
  |ext id=>
   simp only[aK,dY]at j;obtain⟨rfl,rfl⟩:=j;exact y l w' c' b (g.trans d)
  |ret=>
   simp only[aK,dY]at j;obtain⟨rfl,rfl⟩:=j;exact y l w' c' b (g.trans d)
theorem Uf{w:World}{c:dk}{env:List aq}{a:Act}{x:Operand}{b:dd}(e:nI M w c env [] (yv em) a.tmps)(d:kK M w c)(h:lW M (yv em) x b=true):R M w c (b.eval env []) (a.eval x):=Ks e d h
theorem DT{f:Type}{l:List f}(h:l.Nodup){i j:Nat}(hi:i<l.length)(c:j<l.length)(e:l[i]=l[j]):i=j:=by
 have d:=mJ.1 h;rcases gd i j with a|b|a
 ·exact absurd e (d i j hi c a)
 ·exact b
 exact absurd e.symm (d j i c hi a)
theorem lU.ext{w w':World}{c c':dk}{xs:List aq}{A:Array Value}(h:lU M w c xs A)(d:Ext c w c' w'):lU M w' c' xs A:=
 ⟨h.1,fun i hi=>let ⟨x,a,b⟩:=h.2 i hi;⟨x,a,b.ext d⟩⟩
theorem W3(hC:lN M P C)(hF:vc F)(bl:F.round=none){g:Operand}{ps:Array Tmp}{assign body:Go.Code}{f:dd}{n:Nat}(hf:lW M (yv em) g f=true)(bg:em.Nodup)(bh:∀t∈em,t<nt){s s':St}{e:Ex}(al:s.env.length=em.length)
  (U:∀fn tmps defers,nt≤tmps.size→M.site n ⟨fn,tmps,ps,assign,body,defers⟩ em) {v:aq} {y:aw} (Z:I5 C (f.eval s.env []) [.yld s.st.length n s.env] (s.st++[.pend false none])=some (v,y))
  (N:sK s.st.length s.env y=some (e,s')) {m0:Nat} {o:dk} {w0:World} {z:Act} (hg:kK M w0 o) (u:SR M em nt m0 o w0 s z) (Q:Exit→Act→World→Prop)
  (hQ:∀a w c,SR M em nt m0 c w s' a→iW o w0 c w→Q (QO e) a w):(Go.Code.rangeFunc g ps assign body).wpIn F n0 P Q z w0:=by
 have ag:=Uf (env:=s.env) u.tmp hg hf;unfold I5 at Z;split at Z
 ·rename_i Y first cap a8
  rw[a8]at ag;obtain⟨fs,cs,he,I,ad⟩:=Pj ag;apply wpIn_rangeFunc;intro fn bp;generalize E:(⟨fn,z.tmps,ps,assign,body,w0.heap.size⟩:mv)=l;have ae:=run_enterLoop_outer (P:=P) (w:=w0) fn z.tmps ps assign body;rw[bl]
  have bo:∀b,b<w0.heap.size→(lg w0 (.deferred (some []))).heap[b]?=w0.heap[b]?:=fun b A=>gI A;obtain⟨s1,x1⟩:=u.sim.over (w':=lg w0 (.deferred (some []))) (fun b A _=>gI A) (by rw[fL];omega);have a3:iW o w0 o (lg w0 (.deferred (some []))):={ x1 with same:=pI,size:=by rw[fL];omega,frame:=fun b A _=>gI A,liv:=fun i b Z N _=>⟨i,Z,N⟩,old:=fun _ h _=>.inl h,oldb:=fun _ h _=>.inl h };generalize V:lg w0 (.deferred (some []))=k at s1 x1 a3;have a2:k.heap.size=w0.heap.size+1:=by rw[←V,fL]
  have ah:∀b,b<k.heap.size→(lg k (.loop (rU l .ready none))).heap[b]?=k.heap[b]?:=fun b A=>gI A;have s2:fd M (lg k (.loop (rU l .ready none))) (o.grow (s.st++[.pend false none]) (some k.heap.size) 0 l) (s.st++[.pend false none]):=by
   refine s1.grow _ _ _ _ ah (by rw[fL];omega) (fun b A=>by cases A;rw[fL];omega) ⟨k.heap.size,by simp[dk.grow,s1.N],?_⟩;rw[sf];simp[dk.grow,s1.N]
  have L:iW o k (o.grow (s.st++[.pend false none]) (some k.heap.size) 0 l) (lg k (.loop (rU l .ready none))):=
   iW.grow s1 _ _ _ _ pI ah (by rw[fL];omega) (fun b A=>by cases A;exact aF _)
  have hN:o.N=s.st.length:=u.sim.N;have J:(o.grow (s.st++[.pend false none]) (some k.heap.size) 0 l).loops s.st.length=l:=by simp[dk.grow,hN]
  have K:(o.grow (s.st++[.pend false none]) (some k.heap.size) 0 l).place s.st.length=some k.heap.size:=by simp[dk.grow,hN]
  have H:(o.grow (s.st++[.pend false none]) (some k.heap.size) 0 l).H s.st.length=.pend:=by
   show hd (s.st++[.pend false none]) s.st.length=_;rw[fe nM]
  have O:s.st.length<(o.grow (s.st++[.pend false none]) (some k.heap.size) 0 l).N:=by simp[dk.grow]
  generalize a5:o.grow (s.st++[.pend false none]) (some k.heap.size) 0 l=c2 at s2 L J K H O;generalize av:lg k (.loop (rU l .ready none))=G at s2 L;have m:=a3.trans L;have a1:R M G c2 (.yld s.st.length n s.env) (.func (.yield k.heap.size) #[] #[]):=by
   refine .yld (em:=em) (fun i=>z.tmps.getD (em.getD i 0) undef) O H K ?_ al.symm ?_ ?_
   ·rw[J,←E];exact U _ _ _ u.size
   ·intro i hi hx;have bc:em[i]<z.tmps.size:=bu (bh _ (aJ hi)) u.size;rw[J,←E];show z.tmps[em[i]]?=_;simp[Array.getD,hi,bc]
   intro i hi;have aj:i<em.length:=by omega
   have hr:=u.tmp em[i] (.env i) (by
    unfold yv;rw[show em.idxOf? em[i]=some i by
     rw[List.idxOf?,dD];refine⟨aj,by simp,fun j hj=>?_⟩;simp only[aX];exact fun e=>absurd (DT bg _ _ e) (by omega)]
    rfl)
   have e1:(dd.env i).eval s.env []=s.env[i]:=by
    show pr s.env i=_;unfold pr;rw[au hi];rfl
   rw[e1]at hr;simpa [List.getD,aj] using hr.ext m.toExt
  have S:lU M G c2 (first++[.yld s.st.length n s.env]++cap) (fs++#[.func (.yield k.heap.size) #[] #[]]++cs):=
   ((lU.ext I m.toExt).append ⟨rfl,fun i hi=>by
    have:i=0:=by simpa using hi
    subst this;exact⟨_,rfl,a1⟩⟩).append (lU.ext ad m.toExt)
  have B:=hC Y _ _ v y Z F (n0-1) G c2 _ hF s2 (hg.ext m.toExt) S;have p:=B.2 ⟨.yld s.st.length n s.env,by simp,rfl⟩ (fs++#[.func (.yield k.heap.size) #[] #[]]++cs) G;have a9:CallsIn F (n0-1) P (M.fm Y) (fs++#[.func (.yield k.heap.size) #[] #[]]++cs) G fun e w'=>∃cv,e=.returned cv∧gW M c2 G y v cv w':=by
   rcases B.1 with⟨_,h⟩|⟨cv,w',h,_⟩
   ·exact h
   rw[p]at h;cases h
  refine⟨w0.heap.size+1,[{ target:=.collected w0.heap.size,args:=#[] }],G,{ target:=.fn (.func (M.fm Y)) cs,args:=fs++#[.func (.yield k.heap.size) #[] #[]] },G,M.fm Y,_,G,?_,?_,fun f' _=>hF.fn f',?_,fun h=>absurd h (by rw[hF.depth];simp),a9.mono ?_⟩
  ·rw[ae,←av,←V,←E];rfl
  ·have:z.eval g=.func (.func (M.fm Y)) fs cs:=he;simp only[rangeCall,Go.resolve,this,Deferred.ofValue,a2];show Sem.run P (pure (⟨Target.fn (Fn.func (M.fm Y)) cs,fs++(#[Operand.const (Value.func (Fn.yield (w0.heap.size+1)) #[] #[])].map z.eval)⟩:Deferred)) G=_;simp[Act.eval]
  ·exact p
  intro e' w' ⟨cv,a6,c3,s3,X,_⟩;subst a6
  have ar:∃j,y[s.st.length]?=some (.pend false j)∧e=(match j with|none=>.nrm|some e=>e)∧s'=⟨s.env,y.set s.st.length .dead⟩:=by
   unfold sK at N;split at N
   ·cases N;exact⟨none,by assumption,rfl,rfl⟩
   ·cases N;exact⟨some _,by assumption,rfl,rfl⟩
   cases N
  obtain⟨j,hj,a7,an⟩:=ar;have ab:c3.H s.st.length=.pend:=by rw[s3.H,fe hj]
  obtain⟨p1,p2,p3⟩:=X.place s.st.length O (by rw[H,ab]) (by rw[H];simp);obtain⟨b,b1,b2⟩:=s3.obj _ _ hj;rw[p1,K]at b1;cases b1;rw[p3,J]at b2;have bb:c3.H s.st.length≠.dead:=by rw[ab];simp
  have bi:c3.place s.st.length=some k.heap.size:=by rw[p1,K]
  obtain⟨r,bn,bf,T⟩:∃r:Loop,w'.heap[k.heap.size]?=some (.loop r)∧r.state≠.busy∧r.pending=uF e:=by
   refine⟨_,b2,?_,?_⟩
   ·cases j<;>simp[rU]
   rw[a7];cases j with
   |none=>rfl
   |some e=>rfl
  have D:=run_endLoop (P:=P) bn bf;have ao:u7 w' (w'.putObj k.heap.size (.loop { r with state:=.exhausted })) k.heap.size (.loop { r with state:=.exhausted }):=⟨⟨rfl,rfl,rfl,aF _⟩,rfl⟩;obtain⟨s4,a4⟩:=s3.drop bb bi ao;have st:=(m.trans X).trans a4;have be:qX m0 G c2 ({ target:=.collected w0.heap.size,args:=#[] }::z.defers):=by
   refine⟨⟨w0.heap.size,rfl,⟨u.base,?_,?_,?_⟩,fun d hd e=>?_⟩,u.marks.stp m⟩
   ·rw[←av,gI (by omega),←V,sf]
   ·rw[←a5];exact fun h=>absurd (u.sim.low _ h) (by omega)
   ·intro id hl bk;obtain⟨i,i1,i2⟩:=L.liv id _ hl bk (by omega);exact absurd (u.sim.plow i _ i1 i2).1 (by omega)
   obtain⟨q,q1,q2⟩:=u.marks.lt d hd;rw[q1]at e;cases e;omega
  have af:SR M em nt m0 _ (w'.putObj k.heap.size (.loop { r with state:=.exhausted })) s' { z with defers:=[{ target:=.collected w0.heap.size,args:=#[] }]++z.defers }:=
   ⟨by rw[an];exact s4,by rw[an];exact fun t x hx=>(u.tmp t x hx).ext st.toExt,u.size,bH u.base st.size,be.stp (X.trans a4)⟩
  have hq:=hQ _ _ _ af st;generalize w'.putObj k.heap.size (.loop { r with state:=.exhausted })=W at D hq;rw[T,a2]at D;refine⟨uF e,W,D,?_⟩;cases e with
  |nrm=>exact hq
  |ext id=>exact wpIn_exit hq
  |ret=>exact wpIn_ret hq
 cases Z
theorem fd.reval{w:World}{c:dk}{σ:aw}(g:fd M w c σ){id k ep:Nat}{es es':List aq}(m:σ[id]?=some (.arr k ep es))(p:es'.length=es.length)(s:∀x∈es',aM x=k)
  (u:∀f:Nat→Nat→Value,(∀i (hi:i<es.length) j (l:j<(cellsOf es[i]).length),R M w c (cellsOf es[i])[j] (f i j))→∀i (hi:i<es'.length) j (l:j<(cellsOf es'[i]).length),R M w c (cellsOf es'[i])[j] (f i j)) :
  fd M w c (σ.set id (.arr k ep es')):=by
 have n:id<σ.length:=(ak.1 m).1;have a:(σ.set id (.arr k ep es'))[id]?=some (.arr k ep es'):=by simp[n]
 have q:hd (σ.set id (.arr k ep es'))=hd σ:=by
  funext i;by_cases e:i=id
  ·subst e;rw[fe a,fe m]
  rw[kD e]
 refine⟨by rw[q];exact g.H,by rw[gg];exact g.N,g.sb,g.low,g.plow,g.inj,fun i o d=>?_⟩;by_cases e:i=id
 ·subst e;rw[a]at d;cases d;obtain⟨v,F,y,z⟩:=g.obj i _ m;refine⟨v,s,fun t=>dc (by rw[p,y t];rfl),fun b r=>?_⟩;obtain⟨cs,T,f,A,B,C,D,E⟩:=z b r;exact⟨cs,T,f,A,by rw[p];exact B,C,fun i j hi l=>D i j (by omega) l,u f E⟩
 rw[aD (fun h=>e h.symm)]at d;exact g.obj i o d
theorem G4{w:World}{c:dk}{σ z:aw}(A:fd M w c σ){id ep j l k:Nat}(h:Eb id ep j l k σ=some z):∃c',fd M w c' z∧iW c w c' w:=by
 unfold Eb at h;split at h
 ·rename_i N e es s;split at h
  ·rename_i O;obtain⟨_,L⟩:=O;split at h
   ·rename_i cs n;split at h
    ·rename_i D;cases h;obtain⟨F,d⟩:=ak.1 n;obtain⟨G,E⟩:=ak.1 D;have hid:id<σ.length:=(ak.1 s).1;obtain⟨c',r,J,P⟩:=GG A L none;have o:(σ++[.arr k 0 []])[id]?=some (.arr N e es):=by rw[aQ hid];exact s
     have B:c'.H σ.length=.arr k 0:=by rw[r.H,fe nM]
     have C:σ.length<c'.N:=by rw[r.N];simp
     refine⟨c',?_,J⟩;have:=r.reval (es':=es.set j (.agg (cs.set l (.sl σ.length 0 0 0)))) o (by simp) (fun x p=>?_) (fun f u i hi q b=>?_)
     ·rwa [cG _ _ hid]at this
     ·obtain⟨_,y,_⟩:=A.obj id _ s;rcases eV p with p|rfl
      ·exact y x p
      rw[←y es[j] (aJ F),d];simp[aM]
     have g:i<es.length:=by simpa using hi
     by_cases t:i=j
     ·subst t;have m:(es.set i (.agg (cs.set l (.sl σ.length 0 0 0))))[i]=.agg (cs.set l (.sl σ.length 0 0 0)):=by simp
      simp only[m]at b ⊢;have key:∀q (G:q<(cs.set l (.sl σ.length 0 0 0)).length),R M w c' (cs.set l (.sl σ.length 0 0 0))[q] (f i q):=fun q G=>by
       have I:q<cs.length:=by simpa using G
       have a:R M w c' cs[q] (f i q):=by
        have:=u i g q (by rw[d];exact I);simp only[d]at this;exact this
       by_cases K:q=l
       ·subst K;rw[iJ];rw[E]at a;generalize f i q=v at a;cases a with
        |ai=>exact .sl0 C B
       rw[gV (fun h=>K h.symm)];exact a
      exact key q b
     have m:(es.set j (.agg (cs.set l (.sl σ.length 0 0 0))))[i]=es[i]:=by rw[gV (fun h=>t h.symm)]
     simp only[m]at b ⊢;exact u i g q b
    cases h
   ·rename_i n;split at h
    ·cases h;obtain⟨F,d⟩:=ak.1 n;have hid:id<σ.length:=(ak.1 s).1;obtain⟨c',r,J,P⟩:=GG A L none;have o:(σ++[.arr k 0 []])[id]?=some (.arr N e es):=by rw[aQ hid];exact s
     have B:c'.H σ.length=.arr k 0:=by rw[r.H,fe nM]
     have C:σ.length<c'.N:=by rw[r.N];simp
     refine⟨c',?_,J⟩;have:=r.reval (es':=es.set j (.sl σ.length 0 0 0)) o (by simp) (fun x p=>?_) (fun f u i hi q b=>?_)
     ·rwa [cG _ _ hid]at this
     ·obtain⟨_,y,_⟩:=A.obj id _ s;rcases eV p with p|rfl
      ·exact y x p
      rw[←y es[j] (aJ F),d];rfl
     have g:i<es.length:=by simpa using hi
     by_cases t:i=j
     ·subst t;have m:(es.set i (.sl σ.length 0 0 0))[i]=.sl σ.length 0 0 0:=by simp
      simp only[m]at b ⊢;have H:q=0:=by simpa [cellsOf] using b
      subst H;show R M w c' (.sl σ.length 0 0 0) _;have a:R M w c' .ai (f i 0):=by
       have:=u i g 0 (by rw[d];simp[cellsOf]);simp only[d]at this;exact this
      generalize f i 0=v at a;cases a with
      |ai=>exact .sl0 C B
     have m:(es.set j (.sl σ.length 0 0 0))[i]=es[i]:=by rw[gV (fun h=>t h.symm)]
     simp only[m]at b ⊢;exact u i g q b
    cases h
   cases h
  cases h
 cases h
theorem Kr{id ep k:Nat}:∀(n:Nat) {w:World} {c:dk} {σ a:aw},fd M w c σ→Db id ep k n σ=some a→∃c',fd M w c' a∧iW c w c' w
 |0,w,c,σ,a,b,h=>by cases h;exact⟨c,b,.refl c w⟩
 |n+1,w,c,σ,a,b,h=>by
  unfold Db at h;obtain⟨m,e,f⟩:=bR h;obtain⟨o,g,j⟩:=Kr n b e;obtain⟨d,i,l⟩:=G4 g f;exact⟨d,i,j.trans l⟩
theorem aiH{w:World}{c:dk}{σ a:aw}(b:fd M w c σ){p:aq}{off k:Nat}(h:HB p off k σ=some a):∃c',fd M w c' a∧iW c w c' w:=by
 unfold HB at h;split at h
 ·exact G4 b h
 ·split at h
  ·split at h
   ·exact Kr _ b h
   cases h
  exact G4 b h
 cases h
theorem xx(hm:P.follows .mixedOrders=true)(hp:wH cA C)(hC:lN M P C)(hR:kX M P C)(hF:vc F)(ae:top=true→F.round=none){code:Go.Code}{x:az}(h:gj M P cA em nt top code x):ZV M P em nt F n0 (exec C n x) code:=by
 induction h with
 |nop R=>
  intro s e s' l D A w0 r z d Q o;simp only[exec,aK,dY]at l;obtain⟨rfl,rfl⟩:=l;exact Qj R (o r w0 A d (.refl A w0))
 |@text id aj af os ag L N=>
  intro s e s' l D A w0 r z d Q o;simp only[exec]at l;obtain⟨⟨ls,Z⟩,J,B⟩:=bK l;cases B;obtain⟨st,t1,t2,t3⟩:=OX J;refine OD L t1 hp (fun n j I h=>by cases h) hC hR hF z (by rw[t2];exact d.sim) d.tmp d.size N (fun a w U=>?_) id;obtain⟨c,S,K,f3,f4,f5⟩:=U;rw[t3]at S;exact o a w c ⟨S,f3,by rw[f4];exact d.size,bH d.base K.size,by rw[f5];exact d.marks.stp K⟩ K
 |@any id aj af os ag al ah L T N=>
  intro s e s' l D A w0 r z d Q o;simp only[exec]at l;obtain⟨⟨ls,Z⟩,J,B⟩:=bK l;cases B;obtain⟨st,t1,t2,t3⟩:=OX J;refine I6 hm T L t1 hp (fun n j I h=>by cases h) hC hR hF z (by rw[t2];exact d.sim) d.tmp d.size N (fun a w U=>?_) id;obtain⟨c,S,K,f3,f4,f5⟩:=U;rw[t3]at S;exact o a w c ⟨S,f3,by rw[f4];exact d.size,bH d.base K.size,by rw[f5];exact d.marks.stp K⟩ K
 |@anyd id aj af os ag al a4 ah L T N=>
  intro s e s' l D A w0 r z d Q o;simp only[exec]at l;obtain⟨⟨ls,ss,Z⟩,J,B⟩:=bR l;obtain⟨u,R,h3⟩:=bK B;cases h3;obtain⟨st,t1,t2,t3,t4⟩:=VZ J R;refine I6 hm T L t1 hp t4 hC hR hF z (by rw[t2];exact d.sim) d.tmp d.size N (fun a w U=>?_) id;obtain⟨c,S,K,f3,f4,f5⟩:=U;rw[t3]at S;exact o a w c ⟨S,f3,by rw[f4];exact d.size,bH d.base K.size,by rw[f5];exact d.marks.stp K⟩ K
 |@seq a b x y _ _ X Y=>
  intro s e s' l D A w0 r z d Q o;simp only[exec]at l;obtain⟨⟨e1,s1⟩,J,B⟩:=bR l;apply wpIn_seq;refine X s e1 s1 J D A w0 r z d _ fun E H G p m=>?_;cases e1 with
  |nrm=>
   exact Y s1 e s' B D G H E (z.ext m.toExt) p Q fun a2 w2 c2 ar ad=>o a2 w2 c2 ar (m.trans ad)
  |ext id=>
   simp only[aK,dY]at B;obtain⟨rfl,rfl⟩:=B;exact o E H G p m
  |ret=>
   simp only[aK,dY]at B;obtain⟨rfl,rfl⟩:=B;exact o E H G p m
 |@left a b x hb _ O=>
  intro s e s' l D A w0 r z d Q o;apply wpIn_seq;refine O s e s' l D A w0 r z d _ fun E H G p m=>?_;have:=o E H G p m;cases e with
  |nrm=>exact Qj hb this
  |ext id=>exact this
  |ret=>exact this
 |@right a b y ha _ O=>
  intro s e s' l D A w0 r z d Q o;apply wpIn_seq;exact Qj ha (O s e s' l D A w0 r z d Q o)
 |@cond t a b t' x y ht _ _ X Y=>
  intro s e s' l D A w0 r z d Q o;have R:=Uf (env:=s.env) d.tmp z ht;simp only[exec]at l;split at l
  ·rename_i T;rw[T]at R;have hv:r.eval t=.bool true:=by
    generalize r.eval t=q at R;cases R;rfl
   exact wpIn_cond_true hv (X s e s' l D A w0 r z d Q o)
  ·rename_i T;rw[T]at R;have hv:r.eval t=.bool false:=by
    generalize r.eval t=q at R;cases R;rfl
   exact wpIn_cond_false hv (Y s e s' l D A w0 r z d Q o)
  cases l
 |@blk id a x _ O=>
  intro s e s' l D A w0 r z d Q o;simp only[exec]at l;obtain⟨⟨e1,s1⟩,J,B⟩:=bK l;apply wpIn_block;refine O s e1 s1 J D A w0 r z d _ fun E H G p m=>?_;cases e1 with
  |nrm=>
   cases B;exact o E H G p m
  |ret=>
   cases B;exact o E H G p m
  |ext j=>
   simp only at B;show if j=id then Q .normal E H else Q (.exit j) E H
   split at B
   ·rename_i hj;cases B;rw[if_pos hj];exact o E H G p m
   rename_i hj;cases B;rw[if_neg hj];exact o E H G p m
 |@loop clr a x _ O=>exact Sm O clr n
 |exit=>
  intro s e s' l D A w0 r z d Q o;simp only[exec,aK,dY]at l;obtain⟨rfl,rfl⟩:=l;exact wpIn_exit (o r w0 A d (.refl A w0))
 |ret=>
  intro s e s' l D A w0 r z d Q o;simp only[exec,aK,dY]at l;obtain⟨rfl,rfl⟩:=l;exact wpIn_ret (o r w0 A d (.refl A w0))
 |@scope a x _ O=>
  intro s e s' l D A w0 r z d Q o;apply RI;refine O s e s' l D A w0 r z d _ fun E H G p m=>?_;have:=o E H G p m;cases e<;>exact this
 |@lift code x i off k _ O=>
  intro s e s' l D A w0 r z d Q o;simp only[exec]at l;obtain⟨σ,J,B⟩:=bR l;obtain⟨G,l1,l2⟩:=aiH d.sim J;exact O ⟨s.env,σ⟩ e s' B D G w0 r (z.ext l2.toExt) ⟨l1,fun t x hx=>(d.tmp t x hx).ext l2.toExt,d.size,d.base,d.marks.stp l2⟩ Q fun a w c p av=>o a w c p (l2.trans av)
 |@rng g ps assign body f a3 n W U an ao hn V=>
  intro s e s' l D A w0 r z d Q o;simp only[exec]at l;split at l
  ·rename_i ab;obtain⟨⟨v,Z⟩,J,B⟩:=bR l;refine W3 hC hF (ae W) U an ao (by rw[ab,hn]) V J B z d Q o
  cases l
end
end Go.AM
namespace Go.AM
variable {M:dm} {P:Program} {w:World} {c:dk} {σ:aw}
def dk.lent(c:dk)(w:World):dk:={ c with bor:=fun b=>b<w.heap.size,H:=hd [],N:=0,place:=fun _=>none }
theorem fd.lent(a:fd M w c σ):fd M w (c.lent w) [] where
 H:=rfl
 N:=rfl
 sb:=fun b h=>a.low b (a.sb b h)
 low:=fun b h=>h
 plow:=fun id b h=>absurd (by rfl) h
 inj:=fun i j b h=>absurd (by rfl) h
 obj:=fun id o h=>by cases h
theorem zP(a:fd M w c σ):aiR true 0 c (c.lent w) where
 sld:=fun b h=>h
 sb:=fun b h=>a.low b (a.sb b h)
 bor:=fun b h=>a.low b h
 gone:=fun id b _ d e=>(a.plow id b d e).1
 N:=fun id h=>absurd h (da _)
 keep:=fun id h=>absurd h (da _)
theorem ajC(a:fd M w c σ){v:aq}{cv:Value}(h:R M w c v cv):R M w (c.lent w) (snap σ v) cv:=
 (PW a (zP a) dF false v cv h).ext (Ext.ofStill (zP a).sb true)
theorem QE(b:fd M w c σ)(d:kK M w c):kK M w (c.lent w):=⟨fun g a h=>
 (PW b (zP b) 1 false _ _ (d.1 g a h)).ext (Ext.ofStill (zP b).sb true),d.2⟩
theorem J9{em:List Tmp}{d f y:Nat}{args:List aq}{a:Array Value}(k:em.take d=List.range d)(s:d≤em.length)(v:a.size=args.length)(u:∀i (h:i<args.length),∃x,a[i]?=some x∧R M w c args[i] x) :
  nI M w c (args.take d++List.replicate (f-d) .any) [] (yv em) (a++Array.replicate (y-a.size) undef):=fun t x n=>by
 unfold yv at n;obtain⟨e,m,rfl⟩:=bK n;show R M w c (pr _ e) _;rw[List.idxOf?,dD]at m;obtain⟨p,q,_⟩:=m;by_cases g:e<(args.take d).length
 ·have b:e<d∧e<args.length:=by rw[de]at g;omega
  have j:pr (args.take d++List.replicate (f-d) .any) e=args[e]'b.2:=by
   unfold pr;rw[aQ g,au g];simp
  have o:t=e:=by
   have l:(em.take d)[e]?=some e:=by rw[k];simp[b.1]
   rw[gp,if_pos b.1,au p]at l;have r:em[e]=t:=by simpa using q
   rw[←r];exact dW l
  subst o;rw[j];obtain⟨x,z,A⟩:=u t b.2;rw[bV,eh (by omega),z];exact A
 have j:pr (args.take d++List.replicate (f-d) .any) e=.any:=by
  unfold pr;rw[bC (by omega),List.getElem?_replicate];split<;>rfl
 rw[j];exact .any
end Go.AM
namespace Go.AM
variable {M:dm} {P:Program} {w:World} {c:dk}
def J6(P:Program)(em:List Tmp):NG→ResultVar→Bool
 |.env i,.tmp t=>em.idxOf? t==some i
 |.cell a n i,.cell t T=>em.idxOf? t==some i&&uo P T a n
 |_,_=>false
def LM(tmps:Array Value):ResultVar→Sem Value
 |.tmp t=>pure (tmps.getD t undef)
 |.cell a t=>do loadVar t (←asAddr (tmps.getD a undef))
theorem Su{T:TypeId}{b cv:Value}(h:(Instr.loadAt T b).run P w=.ok cv w):(do loadVar T (←asAddr b):Sem Value).run P w=.ok cv w:=by
 unfold Instr.loadAt at h;cases b with
 |pointer a=>
  cases a with
  |some a=>exact h
  |none=>simp[Instr.sureAddr,stuck]at h
 |_=>simp[Instr.sureAddr,stuck]at h
theorem Yz{s:St}{em:List Tmp}{tmps:Array Value}(j:fd M w c s.st)(d:nI M w c s.env [] (yv em) tmps){r:NG}{q:ResultVar}(b:J6 P em r q=true){v:aq}(h:Ll s r=some v) :
  ∃cv,(LM tmps q).run P w=.ok cv w∧R M w c v cv:=by
 unfold J6 at b;split at b
 ·rename_i i t;simp only[Ll,aK]at h;subst h;refine⟨_,rfl,?_⟩;exact d t (.env i) (by unfold yv;rw[show em.idxOf? t=some i by simpa using b];rfl)
 ·rename_i a n i t T;simp only[ax,aX]at b;have g:=d t (.env i) (by unfold yv;rw[b.1];rfl);obtain⟨cv,e,f⟩:=YX (P:=P) j g b.2 h;exact⟨cv,Su e,f⟩
 cases b
theorem aan{s:St}{em:List Tmp}{tmps:Array Value}(d:fd M w c s.st)(e:nI M w c s.env [] (yv em) tmps):∀{l:List NG} {qs:List ResultVar} {vs:List aq},l.length=qs.length→((l.zip qs).all fun p=>J6 P em p.1 p.2)=true→Az s l=some vs →
  ∃cvs:List Value,(qs.mapM (LM tmps)).run P w=.ok cvs w∧cvs.length=vs.length∧∀i (h:i<vs.length) (x:i<cvs.length),R M w c vs[i] cvs[i]
 |[],[],vs,_,_,h=>by
  simp only[Az,aK]at h;subst h;exact⟨[],by simp,rfl,fun i h=>absurd h (by simp)⟩
 |[],_::_,_,h,_,_=>by simp at h
 |_::_,[],_,h,_,_=>by simp at h
 |r::l,q::qs,vs,t,a,h=>by
  simp only[fS,lQ,ax]at a;simp only[Az]at h;obtain⟨v,n,h⟩:=bR h;obtain⟨u,o,rfl⟩:=bK h;obtain⟨cv,f,g⟩:=Yz (P:=P) d e a.1 n;obtain⟨cvs,j,k,m⟩:=aan d e (by simpa using t) a.2 o;refine⟨cv::cvs,?_,by simp[k],fun i hi b=>?_⟩
  ·rw[List.mapM_cons];simp[f,j]
  cases i with
  |zero=>exact g
  |succ i=>exact m i (by simpa using hi) (by simpa using b)
theorem Wg{s:St}{em:List Tmp}{tmps:Array Value}(r:fd M w c s.st)(t:nI M w c s.env [] (yv em) tmps){fn:Func}{l:List NG}(o:l.length=fn.results.toList.length)(j:((l.zip fn.results.toList).all fun p=>J6 P em p.1 p.2)=true){v:aq}(h:results s l=some v) :
  ∃cv,(Go.results fn tmps).run P w=.ok cv w∧R M w c v cv:=by
 unfold results at h;obtain⟨vs,n,f⟩:=bK h;obtain⟨cvs,m,d,k⟩:=aan (P:=P) r t o j n;have q:(fn.results.mapM (LM tmps)).run P w=.ok cvs.toArray w:=by
  rw[Array.mapM_eq_mapM_toList];simp[m]
 have b:(Go.results fn tmps).run P w=.ok (if h:cvs.toArray.size=1 then cvs.toArray[0] else .tuple cvs.toArray) w:=by
  have e:Go.results fn tmps=(do let vs ←fn.results.mapM (LM tmps);pure (if h:vs.size=1 then vs[0] else .tuple vs):Sem Value):=by
   unfold Go.results;congr 1
  rw[e];simp only[Sem.run_bind,q,Result.andThen_ok];rfl
 refine⟨_,b,?_⟩;cases vs with
 |nil=>
  have:cvs=[]:=dc (by simpa using d);subst this;subst f;exact .tup (fun _=>undef) rfl (fun i h=>absurd h (by simp)) (fun i h=>absurd h (by simp))
 |cons x vs=>
  cases vs with
  |nil=>
   subst f;obtain⟨y,rfl⟩:=kB.1 (show cvs.length=1 by simpa using d);exact k 0 (by simp) (by simp)
  |cons u vs=>
   subst f;have g:¬(cvs.toArray.size=1):=by simp at d ⊢;omega
   rw[dif_neg g];refine .tup (fun i=>cvs.getD i undef) (by simpa using d) (fun i hi=>?_) (fun i hi=>?_)
   ·have a:i<cvs.length:=by omega
    simp[a]
   have a:i<cvs.length:=by omega
   have:=k i hi a;simpa [a] using this
end Go.AM
namespace Go.AM
variable {M:dm} {P:Program} {w w':World} {c c1:dk} {σ τ:aw}
def dk.with(c d:dk):dk:={ c with sld:=fun b=>c.sld b∨d.sld b,bor:=fun b=>c.bor b∨d.sld b }
theorem EE(a:fd M w c σ)(y:iW (c.lent w) w c1 w')(e:fd M w' c1 τ) :
  ∃l,fd M w' l σ∧iW c w l w'∧(∀v cv,R M w' c1 v cv→R M w' l (rC τ v) cv) ∧
   (∀x (f:Nat→Value),(∀j (t:j<(cellsOf x).length),R M w' c1 (cellsOf x)[j] (f j))→∀j (t:j<(cellsOf (rC τ x)).length),R M w' (l.still false) (cellsOf (rC τ x))[j] (f j)) ∧
   (∀b,l.bor b→c.bor b∨c1.sld b∨∃id,c1.H id≠.dead∧c1.place id=some b)∧l.H=c.H∧l.place=c.place:=by
 have s:=e.sealUp (cI τ.length);have n:=y.sealUp e (base:=0) rfl (cI _);generalize p:c1.sealUp 0 (jL 0 τ)=d at s n;have frame:∀b,b<w.heap.size→w'.heap[b]?=w.heap[b]?:=fun b g=>n.frame b g fun id h=>absurd (by rfl) h;have old:∀b,d.sld b→b<w.heap.size→c.sld b:=fun b h g=>by
  rcases n.old b h g with h|⟨i,h,_⟩
  ·exact h
  exact absurd (by rfl) h
 have k:Ext c w (c.with d) w':=⟨fun b h=>.inl h,fun b h=>.inl h,fun b h=>frame b (a.low b (h.elim (fun h=>h) (a.sb b))),aF _,fun _ _=>.inl rfl,fun _ _ _ _=>⟨rfl,rfl,rfl⟩⟩;refine⟨c.with d,⟨a.H,a.N,fun b h=>h.imp (a.sb b) fun h=>h,fun b h=>?_,fun id b q r=>?_,a.inj,fun id o A=>?_⟩,{ k with same:=n.same,size:=n.size,frame:=fun b g _=>frame b g,liv:=fun id b q r _=>⟨id,q,r⟩,old:=fun b h g=>h.elim .inl fun h=>.inl (old b h g),oldb:=fun b h g=>h.elim .inl fun h=>.inl (a.sb b (old b h g)) },fun v cv D=>?_,fun x f E j t=>?_,fun b h=>?_,rfl,rfl⟩
 ·rcases h with h|h
  ·exact bu (a.low b h) n.size
  exact s.low b (s.sb b h)
 ·obtain⟨B,C⟩:=a.plow id b q r;exact⟨bu B n.size,fun h=>h.elim C fun h=>C (a.sb b (old b h B))⟩
 ·exact (a.obj id o A).ext k (fun _=>⟨rfl,rfl,rfl⟩) fun u b g=>frame b (a.plow id b (by rw[a.H];exact fun h=>u ((rH A).1 h)) g).1
 ·have z:=rV e (cI τ.length);have:=PW e z dF false v cv D;rw[p]at this;refine this.ext ⟨fun b h=>.inr h,fun b h=>.inr h,fun _ _=>rfl,cI _,fun id h=>absurd h (da _),fun id h=>absurd h (da _)⟩
 ·have z:=rV e (cI τ.length);have:=IX (fun m _=>PW e z m) E j t;rw[p]at this;exact this.ext ⟨fun b h=>.inr h,fun b h=>.inr h,fun _ _=>rfl,aF _,fun id h=>absurd h (da _),fun id h=>absurd h (da _)⟩
 rcases h with h|h
 ·exact .inl h
 rw[←p]at h;rcases h with h|⟨id,_,q,r⟩
 ·exact .inr (.inl h)
 exact .inr (.inr ⟨id,q,r⟩)
end Go.AM
namespace Go.AM
variable {M:dm} {P:Program} {w w':World} {c c1:dk} {σ τ:aw}
theorem fd.kill(f:fd M w c σ)(id:Nat):fd M w { c with H:=hd (σ.set id .dead) } (σ.set id .dead)∧Ext c w { c with H:=hd (σ.set id .dead) } w:=by
 have k:∀i,hd (σ.set id .dead) i=if i=id then .dead else hd σ i:=fun i=>by
  by_cases e:i=id
  ·subst e;rw[if_pos rfl];unfold hd;rw[dx];simp only[cw];split<;>rename_i h<;>split at h<;>simp_all
  rw[if_neg e,kD e]
 have a:∀i,hd (σ.set id .dead) i≠.dead→c.H i≠.dead:=fun i h=>by
  rw[k]at h;split at h
  ·exact absurd rfl h
  rw[f.H];exact h
 have d:Ext c w { c with H:=hd (σ.set id .dead) } w:=⟨fun _ h=>h,fun _ h=>h,fun _ _=>rfl,aF _,fun i hi=>by
  show (c.H i).le (hd (σ.set id .dead) i);rw[k];split
  ·exact .inr (.inl rfl)
  exact .inl (by rw[f.H]),fun i hi h p=>⟨rfl,rfl,rfl⟩⟩
 refine⟨⟨rfl,by rw[gg];exact f.N,f.sb,f.low,fun i b l m=>f.plow i b (a i l) m,fun i j b hi n=>f.inj i j b (a i hi) (a j n),fun i o g=>?_⟩,d⟩;by_cases e:i=id
 ·subst e;rw[dx]at g;simp only[cw]at g;split at g
  ·cases g;trivial
  cases g
 rw[aD (fun h=>e h.symm)]at g;exact (f.obj i o g).ext d (fun _=>⟨rfl,rfl,rfl⟩) fun _ _ _=>rfl
theorem iW.kill{f:dk}{w0:World}(h:iW f w0 c w)(g:fd M w c σ)(id:Nat):iW f w0 { c with H:=hd (σ.set id .dead) } w:=
 { Ext.trans h.toExt (g.kill id).2 with
  same:=h.same
  size:=h.size
  frame:=h.frame
  old:=h.old
  oldb:=h.oldb
  liv:=fun i b j k l=>by
   refine h.liv i b ?_ k l;intro d;have a:hd (σ.set id .dead) i≠.dead:=j;by_cases e:i=id
   ·subst e;apply a;unfold hd;rw[dx];simp only[cw];split<;>rename_i h<;>split at h<;>simp_all
   rw[kD e,←g.H]at a;exact a d }
theorem Jf(C:fd M w c σ)(l:iW (c.lent w) w c1 w')(b:fd M w' c1 τ){k:Nat}(Q:k≠0){x:aq}{P:Value}(V:R M w' c1 x P) :
  ∃g,fd M w' g σ∧iW c w g w'∧(rK k τ x=.any∨∃xs,rK k τ x=.frs k xs∧ahT M w.heap.size w' g k xs P)∧∀v cv,R M w' c1 v cv→R M w' g (rC (Bw τ x) v) cv:=by
 by_cases h:∃id ep off len,x=.sl id ep off len
 ·obtain⟨id,ep,off,len,rfl⟩:=h;obtain⟨G,r⟩:=b.kill id;have u:=l.kill b id;obtain⟨g,D,E,F,K,L,N,O⟩:=EE C u G;refine⟨g,D,E,?_,fun v cv I=>F v cv (I.ext r)⟩;unfold rK;dsimp only;split
  ·rename_i k' e es B;split
   ·rename_i Z;obtain⟨rfl,rfl,rfl,S⟩:=Z;unfold Vv;split
    ·rename_i hm;refine .inr ⟨_,rfl,Q,fun y hy=>?_,?_⟩
     ·obtain⟨m1,m2⟩:=Be hm;obtain⟨i,hi,rfl⟩:=cM.1 hy;rw[m2 i hi (by omega)];exact (b.obj id _ B).2.1 _ (cL (aJ _))
     have d:((es.take len).map (rC (τ.set id .dead))).length=len:=by simp;omega
     have p:c1.H id=.arr k' e:=by rw[b.H,fe B]
     cases V with
     |@sl _ _ _ _ _ cap k2 blk W z A X Y=>
      rw[p]at z;cases z;obtain⟨o1,o2,o3,o4⟩:=b.obj id _ B;obtain⟨cs,T,f,q1,q2,q3,q4,q5⟩:=o4 blk A;have t:w.heap.size≤blk:=Nat.le_of_not_lt fun H=>by
       obtain⟨i,J,_⟩:=l.liv id blk (by rw[p];simp) A H;exact J rfl
      refine .inr ⟨blk,cap,cs,T,f,by rw[d];simp,t,q1,fun q=>?_,fun i hi U=>?_,by rw[d];exact X,by simpa [q3] using Y,fun i j hi n=>q4 i j (by omega) n,fun i hi j n=>?_⟩
      ·rcases L blk q with q|q|⟨i,J,i2⟩
       ·exact absurd (C.low _ q) (by omega)
       ·exact (b.plow id blk (by rw[p];simp) A).2 (b.sb _ q)
       have m:hd (τ.set id .dead) i≠.dead:=J;have s:i≠id:=fun e=>by
        subst e;apply m;rw[fe (o:=.dead) (by rw[dx];simp[(ak.1 B).1])]
       rw[kD s,←b.H]at m;exact s (b.inj i id blk m (by rw[p];simp) i2 A)
      ·rw[N]at hi;rw[O]at U;exact absurd (C.plow i blk hi U).1 (by omega)
      simp only[dn,dO]at n ⊢;exact K _ (f i) (fun j n=>(q5 i (by omega) j n).ext r) j n
     |@sl0 _ _ _ _ _ a=>exact .inl ⟨by simp,a,rfl⟩
     |slOld h0 W z=>exact absurd (z _ _ p) (dG _)
    exact .inl rfl
   exact .inl rfl
  exact .inl rfl
 obtain⟨g,D,E,F,K,L,N,O⟩:=EE C l b;refine⟨g,D,E,?_,fun v cv I=>?_⟩
 ·unfold rK;split
  ·cases V with|@ai _ a=>exact .inr ⟨[],rfl,Q,by simp,.inl ⟨rfl,a,rfl⟩⟩
  ·exact absurd ⟨_,_,_,_,rfl⟩ h
  exact .inl rfl
 have:Bw τ x=τ:=by
  unfold Bw;split
  ·exact absurd ⟨_,_,_,_,rfl⟩ h
  rfl
 rw[this];exact F v cv I
end Go.AM
namespace Go.AM
variable {M:dm} {P:Program} {w w':World} {c c1:dk} {σ τ:aw}
def C4.lends:C4→Bool
 |.pure|.fresh _=>true
 |_=>false
def C4.ok:C4→Bool
 |.fresh k=>k != 0
 |_=>true
theorem N9(q:fd M w c σ)(g:iW (c.lent w) w c1 w'){s:St}(d:fd M w' c1 s.st){m:C4}(z:m.lends=true)(D:m.ok=true){v:aq}{cv:Value}(r:R M w' c1 v cv) :
  gW M c w (iu m σ s v).2 (iu m σ s v).1 cv w':=by
 cases m with
 |pure=>
  obtain⟨h,j,l,a,_⟩:=EE q g d;exact⟨h,j,l,.r (a v cv r)⟩
 |fresh k=>
  have n:k≠0:=by simpa [C4.ok] using D
  by_cases A:∃x vs,v=.tup (x::vs)
  ·obtain⟨x,vs,rfl⟩:=A;show gW M c w σ (.tup (rK k s.st x::vs.map (rC (Bw s.st x)))) cv w';cases r with
   |@tup _ _ cvs f u p y=>
    have t:R M w' c1 x (f 0):=y 0 (by simp);obtain⟨h,j,l,a,B⟩:=Jf q g d n t;refine⟨h,j,l,?_⟩;have b:∀i (hi:i<(vs.map (rC (Bw s.st x))).length),R M w' h (vs.map (rC (Bw s.st x)))[i] (f (i+1)):=fun i hi=>by
     rw[dn];exact B _ _ (y (i+1) (by simpa using hi))
    have C:=p 0 (by simp);rcases a with a|⟨xs,a,o⟩
    ·rw[a];refine .r (.tup f (by simpa using u) (fun i hi=>p i (by simpa using hi)) fun i hi=>?_);cases i with
     |zero=>exact .any
     |succ i=>exact b i (by simpa using hi)
    rw[a];exact .tup (fun i=>f (i+1)) o (by simpa using u) C (fun i hi=>p (i+1) (by simpa using hi)) b
  have e:iu (.fresh k) σ s v=(rK k s.st v,σ):=by
   unfold iu;dsimp only;split
   ·exact absurd ⟨_,_,rfl⟩ A
   rfl
  rw[e];obtain⟨h,j,l,a,_⟩:=Jf q g d n r;refine⟨h,j,l,?_⟩;rcases a with a|⟨xs,a,o⟩
  ·rw[a];exact .r .any
  rw[a];exact .frs o
 |keep=>cases z
 |trunc=>cases z
theorem R7(g:fd M w c σ)(b:iW c w c1 w'){s:St}(a:fd M w' c1 s.st){m:C4}(f:m.lends=false){v:aq}{cv:Value}(e:R M w' c1 v cv) :
  gW M c w (iu m σ s v).2 (iu m σ s v).1 cv w':=by
 cases m with
 |pure=>cases f
 |fresh k=>cases f
 |keep=>exact⟨c1,a,b,.r e⟩
 |trunc=>
  unfold iu;dsimp only;split
  ·exact⟨c1,a,b,.r e⟩
  have d:σ.length≤s.st.length:=by rw[←g.N,←a.N];exact b.N
  exact⟨_,a.sealUp d,b.sealUp a g.N d,.r (PW a (rV a d) dF true _ _ e)⟩
def ace(M:dm)(P:Program)(cA:Nat→Bool)(f:Nat)(g:br):Prop:=
 ∃ fn code em,P.funcs[M.fm f]?=some fn∧(fn.name == "runtime.NumGoroutine")=false∧fn.body=some code∧gj M P cA em fn.ntmps true code g.body∧em.take g.np=List.range g.np∧g.np≤em.length ∧
  g.res.length=fn.results.toList.length∧((g.res.zip fn.results.toList).all fun p=>J6 P em p.1 p.2)=true∧g.mode.ok=true
theorem jS{fn:Func}{f:FuncId}{code:Go.Code}{args:Array Value}(h1:P.funcs[f]?=some fn)(h2:(fn.name == "runtime.NumGoroutine")=false)(h3:fn.body=some code):(callFunc f args).run P w=.ok (.enter f args) w:=by
 unfold callFunc;have h2':¬fn.name = "runtime.NumGoroutine":=by simpa using h2
 simp[h1,h2',h3]
theorem lU.take{args:List aq}{a:Array Value}(h:lU M w c args a)(e:fd M w c σ):lU M w (c.lent w) (args.map (snap σ)) a:=
 ⟨by rw[h.1];simp,fun i hi=>by
  obtain⟨x,b,d⟩:=h.2 i (by simpa using hi);exact⟨x,b,by rw[dn];exact ajC e d⟩⟩
theorem TQ{cA:Nat→Bool}{C:ip}{k:Nat}(Y:P.follows .mixedOrders=true)(Z:wH cA C)(U:lN M P C)(V:kX M P C){f:Nat}{g:br}(N:ace M P cA f g){args:List aq}{v:aq}{i:aw}
  (hr:(exec C k g.body (enter g args σ)).bind (qV g σ)=some (v,i)) {F:Fence} {n:Nat} {b:Array Value} (r:vc F) (z:fd M w c σ) (X:kK M w c) (J:lU M w c args b) :
  rL F n P (M.fm f) b w (gW M c w i v):=by
 obtain⟨fn,code,em,O,h2,Q,R,S,T,h7,h8,h9⟩:=N;obtain⟨⟨e,s'⟩,H,I⟩:=bR hr;refine .inl ⟨jS O h2 Q,?_⟩
 have key:∀F:Fence,vc F→F.round=none→CallsIn F n P (M.fm f) b w fun e w'=>∃cv,e=.returned cv∧gW M c w i v cv w':=fun F r u=>by
  refine callsIn_of_wp_marks O Q (r.fn _) ?_ u;unfold qV at I;have D:∃o,results s' g.res=some o∧iu g.mode σ s' o=(v,i)∧(e=.nrm∨e=.ret):=by
   cases e with
   |ext id=>cases I
   |nrm=>obtain⟨o,E,A⟩:=bK I;exact⟨o,E,A,.inl rfl⟩
   |ret=>obtain⟨o,E,A⟩:=bK I;exact⟨o,E,A,.inr rfl⟩
  obtain⟨o,E,A,q3⟩:=D;have q:∀G,((G=c.lent w∧g.mode.lends=true)∨(G=c∧g.mode.lends=false))→∀a w' c1,SR M em fn.ntmps w.heap.size c1 w' s' a→iW G w c1 w'→bodyPostM F n P fn (fun e w'=>∃cv,e=.returned cv∧gW M c w i v cv w') (QO e) a w':=fun G K a w' c1 h d=>by
   have W:LeavesInM F n P fn a.tmps (fun e w'=>∃cv,e=.returned cv∧gW M c w i v cv w') a.defers .returning w':=by
    refine Dn _ _ h.sim d h.marks fun w' l L d=>?_;obtain⟨cv,x1,x2⟩:=Wg (P:=P) l (fun t x hx=>(h.tmp t x hx).ext L) h7 h8 E;refine⟨cv,x1,cv,rfl,?_⟩;have e1:i=(iu g.mode σ s' o).2:=by rw[A]
    have e2:v=(iu g.mode σ s' o).1:=by rw[A]
    rw[e1,e2];rcases K with⟨rfl,p⟩|⟨rfl,p⟩
    ·exact N9 z d l p h9 x2
    exact R7 z d l p x2
   rcases q3 with rfl|rfl
   ·exact W
   exact W
  have m:fn.ntmps≤(b++Array.replicate (fn.ntmps-b.size) undef).size:=by simp;omega
  by_cases p:g.mode.lends=true
  ·have j:enter g args σ=⟨(args.map (snap σ)).take g.np++List.replicate (g.nenv-g.np) .any,[]⟩:=by
    unfold enter;cases hmo:g.mode<;>rw[hmo]at p<;>first|(cases p;done)|simp[jH]
   rw[j]at H;have B:=J.take z;refine xx Y Z U V r (fun _=>u) R _ e s' H w.heap.size (c.lent w) w _ (QE z X) ⟨z.lent,J9 S T B.1 B.2,m,aF _,show qX _ _ _ [] from trivial⟩ _ fun a w' c1 h d=>q _ (.inl ⟨rfl,p⟩) a w' c1 h d
  have s:g.mode.lends=false:=by simpa using p
  have j:enter g args σ=⟨args.take g.np++List.replicate (g.nenv-g.np) .any,σ⟩:=by
   unfold enter;cases hmo:g.mode<;>rw[hmo]at s<;>first|(cases s;done)|rfl
  rw[j]at H;refine xx Y Z U V r (fun _=>u) R _ e s' H w.heap.size c w _ X ⟨z,J9 S T J.1 J.2,m,aF _,show qX _ _ _ [] from trivial⟩ _ fun a w' c1 h d=>q _ (.inr ⟨rfl,s⟩) a w' c1 h d
 have y:vc { F with round:=none }:=⟨r.fn,r.depth,r.alive⟩;exact key { F with round:=none } y rfl
end Go.AM
namespace Go.AM
variable {M:dm} {P:Program} {w w':World} {c c1:dk} {σ τ:aw}
def Da(M:dm)(P:Program)(cA:Nat→Bool)(g:yH)(rec:mv)(em:List Tmp):Prop:=
 ∃nt,g.nenv=em.length∧nt≤rec.tmps.size∧gj M P cA em nt false rec.assign g.pre∧g.params.map (em[·]?)=rec.params.toList.map some∧em.Nodup∧gj M P cA em nt false rec.body g.body
def aec(M:dm)(P:Program)(cA:Nat→Bool)(code:Code):Prop:=
 ∀site rec em,M.site site rec em→∃g,code.fns site=.round g∧Da M P cA g rec em
def BF(M:dm)(P:Program)(f:Nat)(p:aiM):Prop:=
 ∀(C:ip),lN M P C→kX M P C→∀args σ v σ',p C args σ=some (v,σ')→∀(F:Fence) (n:Nat) (w:World) (c:dk) (cargs:Array Value),vc F→fd M w c σ→kK M w c→lU M w c args cargs →
  rL F n P (M.fm f) cargs w (gW M c w σ' v)∧((∃a∈args,zv a=false)→∀(cargs':Array Value) (w':World),(callFunc (M.fm f) cargs').run P w'=.ok (.enter (M.fm f) cargs') w')
structure zl (M:dm) (P:Program) (cA:Nat→Bool) (code:Code):Prop where
 mixed:P.follows .mixedOrders=true
 fns:∀f g,code.fns f=.fn g→ace M P cA f g
 nilfns:∀f g,code.fns f=.nilfn g→ace M P cA f g
 prims:∀f k,code.fns f=.prim k→BF M P f (code.prims k)
 sites:aec M P cA code
 keeps:∀f,cA f=true→(∃g,(code.fns f=.fn g∨code.fns f=.nilfn g)∧g.mode.lends=true)∨∃k,code.fns f=.prim k∧∀C args σ v σ',code.prims k C args σ=some (v,σ')→σ'=σ
theorem QT{a:Option Addr}{n cap:Nat}(h:n=0):∃b k,Value.slice a n cap=.slice b 0 k:=by subst h;exact⟨_,_,rfl⟩
theorem Xh(l:fd M w c σ){x:aq}{f:Value}(m:R M w c x f)(h:jK σ x=true):∃a cap,f=.slice a 0 cap:=by
 unfold jK at h;split at h
 ·cases h
 rename_i d;split at h
 ·rename_i b;cases m<;>first|(simp[rd]at b;done)|skip
  case str=>exact absurd rfl (d _)
  case aa xs _ _ _ _ _ _ _ _ _ _ _=>simp only[rd,aK]at b;subst b;exact⟨_,_,rfl⟩
  case imm0=>exact⟨_,_,rfl⟩
  case lst=>simp only[rd,aK]at b;subst b;exact⟨_,_,rfl⟩
  case lst0=>exact⟨_,_,rfl⟩
  case ai=>exact⟨_,_,rfl⟩
  case emp=>exact⟨_,_,rfl⟩
  case sl=>
   simp only[rd]at b;unfold sliceAt at b;split at b
   ·split at b
    ·rename_i i;simp only[aK]at b;have:=congrArg List.length b;simp at this;exact QT (by omega)
    cases b
   cases b
  case sl0=>exact⟨_,_,rfl⟩
  case slOld=>
   rename_i g _ _ _;simp only[rd]at b;unfold sliceAt at b;split at b
   ·rename_i k e es j;split at b
    ·rename_i i;have:=g k e (by rw[l.H,fe j]);omega
    cases b
   cases b
 cases h
theorem WI{l:Nat}{xs args:List aq}{a:Array Value}(h:lU M w c (.frs l xs::args) a):False:=by
 obtain⟨x,_,h⟩:=h.2 0 (by simp);cases h
theorem Hh{em:List Tmp}(f:em.Nodup):∀{n:List Nat} {u:List Tmp} {args:List aq} {b:List Value} {env:List aq} {tmps:Array Value},
  n.map (em[·]?)=u.map some→args.length=n.length→b.length=args.length→(∀i (h:i<args.length) (I:i<b.length),R M w c args[i] b[i])→env.length=em.length→(∀t∈em,t<tmps.size)→nI M w c env [] (yv em) tmps →
  nI M w c (sH env n args) [] (yv em) ((u.zip b).foldl (fun tmps (t,a)=>tmps.setIfInBounds t a) tmps)
 |[],[],args,b,env,tmps,_,r,v,_,_,_,s=>by
  cases args with
  |nil=>exact s
  |cons _ _=>simp at r
 |[],_::_,_,_,_,_,h,_,_,_,_,_,_=>by simp at h
 |_::_,[],_,_,_,_,h,_,_,_,_,_,_=>by simp at h
 |p::n,t::u,[],_,_,_,_,r,_,_,_,_,_=>by simp at r
 |p::n,t::u,x::args,[],_,_,_,_,v,_,_,_,_=>by simp at v
 |p::n,t::u,x::args,y::b,env,tmps,h,r,v,G,C,B,s=>by
  simp only[aV,pA]at h;obtain⟨E,h⟩:=h;have H:p<em.length:=(ak.1 E).1;have g:em[p]=t:=(ak.1 E).2;simp only[sH,fS,dZ];refine Hh f h (by simpa using r) (by simpa using v) (fun i hi z=>G (i+1) (by simpa using hi) (by simpa using z)) (by simpa using C) (fun t s=>by simpa using B t s) ?_;intro q o F;unfold yv at F;obtain⟨k,D,rfl⟩:=bK F;show R M w c (pr (env.set p x) k) _;rw[List.idxOf?,dD]at D;obtain⟨k1,k2,_⟩:=D;have m:em[k]=q:=by simpa using k2
  have A:t<tmps.size:=B t (by rw[←g];exact aJ _);by_cases d:k=p
  ·subst d;have:pr (env.set k x) k=x:=by
    unfold pr;rw[dx];simp[C,k1]
   rw[this];have l:q=t:=by rw[←m,g]
   subst l;have:=G 0 (by simp) (by simp);simpa [Array.getD,A] using this
  rw[Bg (fun e=>d e.symm)];have l:q≠t:=fun e=>d (DT f _ _ (by rw[m,g,e]))
  have:=s q (.env k) (by unfold yv;rw[show em.idxOf? q=some k by
   rw[List.idxOf?,dD];exact⟨k1,k2,fun j J=>by
    simp only[aX];exact fun e=>absurd (DT f _ _ (e.trans m.symm)) (by omega)⟩];rfl)
  have e:(tmps.setIfInBounds t y).getD q undef=tmps.getD q undef:=by
   rw[bV,bV,Array.getElem?_setIfInBounds_ne (fun e=>l e.symm)]
  rw[e];exact this
theorem Ku{b:Array Tmp}{xs:Array Value}{tmps:Array Value}:(b.zip xs).foldl (fun tmps (t,a)=>tmps.setIfInBounds t a) tmps=(b.toList.zip xs.toList).foldl (fun tmps (t,a)=>tmps.setIfInBounds t a) tmps:=by
 rw[←Array.foldl_toList,Array.toList_zip]
theorem I9:∀(l:List (Tmp×Value)) (tmps:Array Value),(l.foldl (fun tmps (t,a)=>tmps.setIfInBounds t a) tmps).size=tmps.size
 |[],_=>rfl
 |_::l,tmps=>by simp only[dZ];rw[I9 l];simp
def ak1:Ex→Option Ex
 |.nrm=>none
 |e=>some e
theorem JJ{l:Nat}{e:Ex}{s:St}{v:aq}(h:lF l (e,s)=some (v,σ)) :
  ∃j,s.st[l]?=some (.pend true none)∧j=ak1 e∧v=.bool (uF e).isNone∧σ=s.st.set l (.pend false j):=by
 unfold lF at h;dsimp only at h;generalize s.st[l]?=q at h
 match q,h with
 |some (.pend true none),h=>
  cases e with
  |nrm=>cases h;exact⟨none,rfl,rfl,rfl,rfl⟩
  |ret=>cases h;exact⟨some .ret,rfl,rfl,rfl,rfl⟩
  |ext i=>cases h;exact⟨some (.ext i),rfl,rfl,rfl,rfl⟩
theorem N2{cA:Nat→Bool}{C:ip}{k:Nat}(hm:P.follows .mixedOrders=true)(hp:wH cA C)(hC:lN M P C)(hR:kX M P C){H l:Nat}{g:yH}{env args:List aq}{v:aq}{D:aw}
  (hl:σ[l]?=some (.pend false none)) (s:((env++args).drop g.nenv).length=g.params.length)
  (hr:(exec C k g.pre ⟨sH ((env++args).take g.nenv) g.params ((env++args).drop g.nenv),σ⟩).bind (po C k l g.body)=some (v,D))
  (ag:∀Y em,M.site H Y em→Da M P cA g Y em)
  {F:Fence} {n:Nat} {d:Array Value} {x:Value} (hF:vc F) (hs:fd M w c σ) (hg:kK M w c) (ha:lU M w c args d) (hx:R M w c (.yld l H env) x) :
  ∃b tmps N,x=.func (.yield b) #[] #[]∧(Instr.yield b d).run P w=.ok (.round b (c.loops l).fn tmps (c.loops l).assign (c.loops l).body) N ∧
   RoundIn F n P b (c.loops l).fn tmps (c.loops l).assign (c.loops l).body N fun e w'=>∃cv,e=.returned cv∧gW M c w D v cv w':=by
 have hH:c.H l=.pend:=by rw[hs.H,fe hl]
 have u:c.H l≠.dead:=by rw[hH];simp
 cases hx with
 |yldOld h0 Q S=>rw[hH]at S;cases S
 |@yld _ _ _ _ em blk f Q S h3 h4 h5 h6 h7=>
  obtain⟨nt,g1,g2,g3,g4,g5,g6⟩:=ag _ _ h4;have G:env.length=g.nenv:=by rw[g1,h5]
  have q:(env++args).drop g.nenv=args:=by rw[←G];simp
  have L:(env++args).take g.nenv=env:=by rw[←G];simp
  rw[q]at s;rw[q,L]at hr;obtain⟨b,E,b2⟩:=hs.obj _ _ hl;rw[h3]at E;cases E;replace b2:w.heap[blk]?=some (.loop (rU (c.loops l) .ready none)):=b2;have U:(c.loops l).params.size=g.params.length:=by
   have:=congrArg List.length g4;simpa using this.symm
  have hy:=run_yield (P:=P) (args:=d) b2 (by rw[ha.1,s];exact U.symm);refine⟨blk,_,w,rfl,hy,?_⟩;apply roundIn_of_wpIn (hF.fn _);obtain⟨⟨e0,s0⟩,r0,A⟩:=bR hr;have al:(((c.loops l).params.zip d).foldl (fun tmps (t,a)=>tmps.setIfInBounds t a) (c.loops l).tmps).size=(c.loops l).tmps.size:=by rw[Ku,I9]
  have ar:∀t∈em,t<(c.loops l).tmps.size:=fun t ht=>by
   obtain⟨i,hi,rfl⟩:=cM.1 ht;exact (bF.1 (h6 i hi (by omega))).1
  have an:nI M w c env [] (yv em) (c.loops l).tmps:=fun t o ho=>by
   unfold yv at ho;obtain⟨i,hi,rfl⟩:=bK ho;show R M w c (pr env i) _;rw[List.idxOf?,dD]at hi;obtain⟨i1,i2,_⟩:=hi;have av:em[i]=t:=by simpa using i2
   have i3:i<env.length:=by omega
   have e1:pr env i=env[i]:=by
    unfold pr;rw[au i3];rfl
   rw[e1,bV,←av,h6 i i1 i3];exact h7 i i3
  have ao:nI M w c (sH env g.params args) [] (yv em) (((c.loops l).params.zip d).foldl (fun tmps (t,a)=>tmps.setIfInBounds t a) (c.loops l).tmps):=by
   rw[Ku];refine Hh g5 g4 s (by simp[ha.1]) (fun i hi a2=>?_) (by omega) ar an;obtain⟨y,y1,y2⟩:=ha.2 i hi;have:d.toList[i]=y:=by
    have:=(bF.1 y1).2;simpa using this
   rw[this];exact y2
  refine xx hm hp hC hR (hF.inRound blk) (fun h=>by cases h) g3 _ e0 s0 r0 0 c _ _ hg ⟨hs,ao,bH g2 (Nat.le_of_eq al.symm),cI _,show qX _ _ _ [] from trivial⟩ _ fun a1 N c1 p z=>?_;have af:e0=.nrm∧s0.st[l]?=some (.pend false none)∧(exec C k g.body ⟨s0.env,s0.st.set l (.pend true none)⟩).bind (lF l)=some (v,D):=by
   unfold po at A;split at A
   ·rename_i Q S;exact⟨Q,S,A⟩
   cases A
  obtain⟨rfl,I,aj⟩:=af;have ab:c1.H l=.pend:=by rw[p.sim.H,fe I]
  obtain⟨q1,q2,q3⟩:=z.place l Q (by rw[hH,ab]) u;obtain⟨b,E,O⟩:=p.sim.obj _ _ I;have T:c1.place l=some blk:=by rw[q1,h3]
  rw[T]at E;cases E;replace O:N.heap[blk]?=some (.loop (rU (c1.loops l) .ready none)):=O;have ae:=run_beginRound (P:=P) O rfl;refine⟨_,ae,?_⟩;have V:u7 N (N.putObj blk (.loop { rU (c1.loops l) .ready none with state:=.busy })) blk (.loop { rU (c1.loops l) .ready none with state:=.busy }):=⟨⟨rfl,rfl,rfl,aF _⟩,rfl⟩;obtain⟨s1,B⟩:=p.sim.pend (bz':=true) (j':=none) I T V rfl;obtain⟨⟨e,s'⟩,r1,r2⟩:=bR aj;refine xx hm hp hC hR (hF.inRound blk) (fun h=>by cases h) g6 _ e s' r1 0 c1 _ _ (hg.ext (z.trans B).toExt) ⟨s1,fun t o ho=>(p.tmp t o ho).ext B.toExt,p.size,cI _,p.marks.stp B⟩ _ fun a w2 Z J X=>?_
  have ah:=JJ r2;obtain⟨j,p1,p2,p3,p4⟩:=ah;have W:=(z.trans B).trans X;have ad:Z.H l=.pend:=by rw[J.sim.H,fe p1]
  obtain⟨q1,q2,q3⟩:=W.place l Q (by rw[hH,ad]) u;obtain⟨b,E,O⟩:=J.sim.obj _ _ p1;rw[q1,h3]at E;cases E;have r:=run_endRound (P:=P) (uF e) O;have K:u7 w2 (w2.putObj blk (.loop { rU (Z.loops l) .busy none with state:=if (uF e).isNone then .ready else .done,pending:=uF e })) blk (.loop { rU (Z.loops l) .busy none with state:=if (uF e).isNone then .ready else .done,pending:=uF e }):=⟨⟨rfl,rfl,rfl,aF _⟩,rfl⟩
  obtain⟨s3,a0⟩:=J.sim.pend (bz':=false) (j':=j) p1 (by rw[q1,h3]) K (by
   rw[p2];cases e<;>rfl)
  have m:gW M c w D v (.bool (uF e).isNone) _:=⟨Z,by rw[p4];exact s3,W.trans a0,by rw[p3];exact .r .bool⟩;cases e with
  |nrm=>exact⟨_,_,r,_,rfl,m⟩
  |ret=>exact⟨_,_,r,_,rfl,m⟩
  |ext i=>exact⟨_,_,r,_,rfl,m⟩
theorem FD{cA:Nat→Bool}{code:Code}(y:zl M P cA code):∀n,lN M P (dV code n)∧kX M P (dV code n)∧wH cA (dV code n)
 |0=>by
  refine⟨?_,?_,?_⟩
  ·intro f args σ v d h;cases h
  ·intro A l env args σ v d h;cases h
  intro f args σ v d _ h;cases h
 |k+1=>by
  obtain⟨D,E,K⟩:=FD y k;refine⟨fun f args σ v d h F n w c j R I T z=>?_,fun A l env args σ v d h F n w c j x R I T z H Z=>?_,fun f args σ v d hp h=>?_⟩
  ·simp only[dV]at h;split at h
   ·cases h
   ·rename_i q p;exact y.prims f q p _ D E args σ v d h F n w c j R I T z
   ·rename_i g p;refine⟨TQ y.mixed K D E (y.fns f g p) h R I T z,fun _ B w'=>?_⟩;obtain⟨fn,code,em,C,m,G,_⟩:=y.fns f g p;exact jS C m G
   ·rename_i g p;refine⟨?_,fun _ B w'=>?_⟩
    ·have o:∀args v d,pD (dV code k) k g args σ=some (v,d)→lU M w c args j→rL F n P (M.fm f) j w (gW M c w d v):=fun args v d h z=>
      TQ y.mixed K D E (y.nilfns f g p) h R I T z
     split at h
     ·rename_i x V;split at h
      ·rename_i he;obtain⟨r,C,h⟩:=bR h;obtain⟨q,m,h⟩:=bR h;split at h
       ·rename_i t;cases h;simp only[ax]at t;obtain⟨q1,q2⟩:=q;have e1:=tG t.1;have e2:=IJ t.2;dsimp only at e1 e2;subst e1 e2;obtain⟨cx,ad,Z⟩:=z.2 0 (by simp);obtain⟨a,cap,rfl⟩:=Xh I Z he;have S:∀b,a.isNone=b→lU M w c (.emp b::V) j:=fun b X=>by
         refine⟨z.1,fun i hi=>?_⟩;cases i with
         |zero=>exact⟨_,ad,.emp X⟩
         |succ i=>exact z.2 (i+1) hi
        cases X:a.isNone with
        |true=>exact o _ _ _ C (S _ X)
        |false=>exact o _ _ _ m (S _ X)
       cases h
      exact o _ _ _ h z
     cases h
    obtain⟨fn,code,em,C,m,G,_⟩:=y.nilfns f g p;exact jS C m G
   split at h
   ·exact (WI z).elim
   cases h
  ·have ae:σ[l]?=some (.pend false none):=by
    unfold pt at H;split at H
    ·assumption
    cases H
   have J:∃g,code.fns A=.round g∧∀L em,M.site A L em→Da M P cA g L em:=by
    cases Z with
    |@yld _ _ _ _ em blk f C m G h4 h5 h6 h7=>
     obtain⟨g,W,g2⟩:=y.sites _ _ _ h4;refine⟨g,W,fun L em hm=>?_⟩;obtain⟨g',Q,ab⟩:=y.sites _ _ _ hm;rw[W]at Q;cases Q;exact ab
    |yldOld h0 C m=>rw[I.H,fe ae]at m;cases m
   obtain⟨g,W,g2⟩:=J;simp only[dV,W,bY]at h;split at h
   ·rename_i Y;split at h
    ·rename_i U;exact N2 y.mixed K D E Y U h g2 R I T z Z
    cases h
   cases h
  simp only[dV]at h;rcases y.keeps f hp with⟨g,p,Y⟩|⟨q,p,hk⟩
  ·have keep:∀args v d,pD (dV code k) k g args σ=some (v,d)→d=σ:=fun args v d h=>by
    unfold pD at h;obtain⟨⟨e,s⟩,_,m⟩:=bR h;unfold qV at m;have O:∀N,iu g.mode σ s N=(v,d)→d=σ:=fun N u=>by
     cases hmo:g.mode<;>rw[hmo]at Y u<;>first|(cases Y;done)|skip
     ·cases u;rfl
     simp only[iu]at u;cases u;rfl
    cases e with
    |ext i=>cases m
    |nrm=>obtain⟨N,_,G⟩:=bK m;exact O N G
    |ret=>obtain⟨N,_,G⟩:=bK m;exact O N G
   rcases p with p|p
   ·rw[p]at h;exact keep _ _ _ h
   rw[p]at h;dsimp only at h;split at h
   ·split at h
    ·obtain⟨⟨r1,r2⟩,C,h⟩:=bR h;obtain⟨q,m,h⟩:=bR h;split at h
     ·cases h;exact keep _ _ _ C
     cases h
    exact keep _ _ _ h
   cases h
  rw[p]at h;exact hk _ _ _ _ _ h
end Go.AM
