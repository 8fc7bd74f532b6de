/- Part of the proof. -/
import Derived.Test.YtmpmbfpkpannjaaGreatDoorAm04
import Derived.RangeFuncLeaves
import Derived.RangeFuncRecord
import Derived.Scope
set_option linter.unusedVariables false
set_option linter.unusedSimpArgs false
set_option linter.unusedSectionVars false
namespace Go.AM
variable {M:dm} {P:Program} {w w':World} {c c':dk} {σ:aw}
theorem fd.over(a:fd M w c σ)(h:∀b,b<w.heap.size→(c.bor b∨∃id,c.H id≠.dead∧c.place id=some b)→w'.heap[b]?=w.heap[b]?)(i:w.heap.size≤w'.heap.size):fd M w' c σ∧Ext c w c w':=by
 have d:Ext c w c w':=⟨fun _ h=>h,fun _ h=>h,fun b e=>h b (a.low b (e.elim (fun h=>h) (a.sb b))) (.inl (e.elim (fun h=>h) (a.sb b))),aF _,fun _ _=>.inl rfl,fun _ _ _ _=>⟨rfl,rfl,rfl⟩⟩;refine⟨⟨a.H,a.N,a.sb,fun b e=>bu (a.low b e) i,fun id b j l=>?_,a.inj,fun id o g=>?_⟩,d⟩
 ·obtain⟨k,m⟩:=a.plow id b j l;exact⟨bu k i,m⟩
 refine (a.obj id o g).ext d (fun _=>⟨rfl,rfl,rfl⟩) fun f b e=>?_;have hd:c.H id≠.dead:=by rw[a.H];exact fun h=>f ((rO g).1 h)
 exact h b (a.plow id b hd e).1 (.inr ⟨id,hd,e⟩)
end Go.AM
namespace Go.AM
variable {M:dm} {P:Program}
variable {cA:Nat→Bool} {ops:Array Oper} {ins:List cr} {em:List Tmp} {its:GF} {bef:Nat→Nat} {chk:List (Nat×Nat)} {late:Option Nat} {nt:Nat} {env ls:List aq} {s:Nat→aw} {C:ir} {w0:World} {c0:dk} {a0:Act}
def yu(em:List Tmp)(t:Tmp):Option db:=(em.idxOf? t).map .env
def tK(e:Nat):List (Nat×db)→Option db
 |[]=>none
 |(k,x)::r=>if k=e then some x else tK e r
def xM(ops:List Oper)(em:List Tmp)(its:GF)(os:List (Nat×db)):Bool:=
 (os.map (·.1)).Nodup&&em.zipIdx.all fun te=>match P1 ops te.1 with
  |none=>(tK te.2 os).isNone
  |some k=>(match tK te.2 os with
   |some x=>FE (sX its k) x
   |none=>false)
theorem Bn{env:List aq}{k e:Nat}{v:aq}(h:k≠e):pC (env.set k v) e=pC env e:=by
 unfold pC;rw[aD h]
theorem La{old ls:List aq}{e:Nat}:∀{os:List (Nat×db)} {env:List aq},tK e os=none→pC (sT env old ls os) e=pC env e
 |[],_,_=>rfl
 |(k,x)::r,env,h=>by
  simp only[tK]at h;split at h
  ·cases h
  rename_i a;simp only[sT];rw[La h,Bn a]
theorem T7{old ls:List aq}{e:Nat}{x:db}:∀{os:List (Nat×db)} {env:List aq},(os.map (·.1)).Nodup→tK e os=some x→pC (sT env old ls os) e=x.eval old ls∨pC (sT env old ls os) e=.any
 |[],_,_,h=>by cases h
 |(k,y)::r,env,b,h=>by
  simp only[tK]at h;simp only[aV,List.nodup_cons]at b;simp only[sT];split at h
  ·rename_i d;subst d;cases h;have:tK k r=none:=by
    have a:=b.1;clear b;induction r with
    |nil=>rfl
    |cons q r c=>
     simp only[aV,dY,not_or]at a;unfold tK;rw[if_neg (fun e=>a.1 e.symm)];exact c a.2
   rw[La this];unfold pC;rw[dw];split
   ·split
    ·exact .inl rfl
    exact .inr rfl
   exact absurd rfl (by assumption)
  exact T7 b.2 h
def Zi(M:dm)(em:List Tmp)(env ls:List aq)(os:List (Nat×db))(c0:dk)(w0:World)(a0:Act)(σ':aw)(a:Act)(w:World):Prop:=
 ∃c,fd M w c σ'∧iR c0 w0 c w∧ot M w c (sT env env ls os) [] (yu em) a.tmps∧a.tmps.size=a0.tmps.size∧a.defers=a0.defers
theorem KJ(b:xQ M P cA ops ins em its bef chk late nt)(T:AR C env ins ls s)(U:wk cA C)(u:∀(n j:Nat) (I:cr),(n,j)∈chk→ins[n]?=some I→bH C env (ls.take n) (s j) I.op=some (pC ls n,s j))
  (H:ot M w0 c0 env [] (yu em) a0.tmps) {os:List (Nat×db)} (g:xM ops.toList em its os=true) {S:Nat→Prop} (N:∀i,i<ops.size→S i) {a:Act} {w:World}
  (q:yq M cA ops ins its bef chk env ls s c0 w0 a0 none S a w):Zi M em env ls os c0 w0 a0 (s ins.length) a w:=by
 obtain⟨Z,lt,c,p,X,r,f,V,G,B,L,_⟩:=q;have D:p≤ins.length:=by
  rcases f.1 with rfl|⟨k,n,_,d,_,rfl⟩
  ·exact cK _
  exact b.bound k n d
 have F:s p=s ins.length:=C5 T U u b.guards b.onto D (aF _) fun k m d J=>by
  have K:k<ops.size:=by
   rw[←b.size];unfold fM at d;obtain⟨x,v,_⟩:=bN d;exact (ak.1 v).1
  exact⟨fun _=>b.bound k m d,fun _=>(f.2 k m d J).1 (N k K)⟩
 refine⟨c,F▸X,r,fun t x v=>?_,B,L⟩;unfold yu at v;obtain⟨e,A,rfl⟩:=bJ v;unfold xM at g;simp only[ax,cd,aY]at g;obtain⟨y,l⟩:=g;have J:(t,e)∈em.zipIdx:=by
  rw[List.idxOf?,dD]at A;obtain⟨W,Y,_⟩:=A;rw[List.mem_zipIdx_iff_getElem?];rw[au W];simpa using Y
 have:=l _ J;simp only at this;show R M w c (pC (sT env env ls os) e) _;cases hw:P1 ops.toList t with
 |none=>
  rw[hw]at this;rw[La (by simpa using this),G t (fun i o _ Q=>Kw hw Q) (fun _ _ e=>by cases e)];exact (H t (.env e) (by unfold yu;rw[A];rfl)).ext r.toExt
 |some k=>
  rw[hw]at this;simp only at this;split at this
  ·rename_i x E;obtain⟨ok,d,z⟩:=Kb hw;have O:=V k ok t (N k (bE.1 d).1) d z;rw[wi this]at O;rcases T7 (old:=env) (ls:=ls) (env:=env) y E with h|h
   ·rw[h];exact O
   rw[h];exact .any
  cases this
theorem KO{w:World}(c:fd M w c0 (s 0))(b:iR c0 w0 c0 w){S:Nat→Prop}(a:∀i,¬S i):yq M cA ops ins its bef chk env ls s c0 w0 a0 none S a0 w:=
 ⟨fun i k h=>absurd h (a i),fun i h=>absurd h (a i),c0,0,c,b,⟨.inl rfl,fun k n _ _=>⟨fun h=>absurd h (a k),fun h=>absurd h (cZ _)⟩⟩,fun i o d h=>absurd h (a i),fun t _ _=>rfl,rfl,rfl,fun _ _ _ e=>by cases e⟩
theorem yq.congr{x:Option (Tmp×Nat×Go.Obj)}{S S':Nat→Prop}(h:∀i,S i↔S' i){a:Act}{w:World}(hi:yq M cA ops ins its bef chk env ls s c0 w0 a0 x S a w):yq M cA ops ins its bef chk env ls s c0 w0 a0 x S' a w:=by
 have:S=S':=funext fun i=>propext (h i);rw[←this];exact hi
section
variable {F:Fence} {n0:Nat} {Q:Exit→Act→World→Prop} {os:List (Nat×db)}
theorem NT(f:xQ M P cA ops ins em its (fun i=>2^i-1) chk none nt)(t:AR C env ins ls s)(u:wk cA C)(c:∀(n j:Nat) (I:cr),(n,j)∈chk→ins[n]?=some I→bH C env (ls.take n) (s j) I.op=some (pC ls n,s j))
  (B:lN M P C) (G:kY M P C) (E:u6 F) (A:kS M w0 c0) (D:fd M w0 c0 (s 0)) (d:ot M w0 c0 env [] (yu em) a0.tmps) (g:nt≤a0.tmps.size) (l:xM ops.toList em its os=true)
  (y:∀a w,Zi M em env ls os c0 w0 a0 (s ins.length) a w→Q .normal a w) (id:Nat):(Code.region id ops false).wpIn F n0 P Q a0 w0:=by
 apply wpIn_region;have key:∀(m i:Nat) (a:Act) (w:World),i+m=ops.size→yq M cA ops ins its (fun i=>2^i-1) chk env ls s c0 w0 a0 none (fun j=>j<i) a w→wpOpsIn F n0 P ops Q (List.range' i m) a w:=by
  intro m;induction m with
  |zero=>
   intro i a w hi b;exact y a w (KJ f t u c d l (fun j J=>by omega) b)
  |succ m z=>
   intro i a w hi b;rw[o8,wpOpsIn_cons];have q:i<ops.size:=by omega
   refine wpOpIn_mono (fun v w' h=>z (i+1) v w' (by omega) h) ?_
   have:=LP (Q:=Q) (n0:=n0) f t u c B G E A d g (i:=i) (o:=ops[i]) (by simp[q]) (x:=none) (fun _ _ _ e=>by cases e) (S:=fun j=>j<i) (dI i) (fun n H K k m p r L=>p) (fun k r=>by
    rw[eK]at r;simpa using r) b
   exact wpOpIn_mono (fun v w' h=>h.congr fun j=>by omega) this
 rw[pI];exact key ops.size 0 a0 w0 (by omega) (KO D (.refl c0 w0) fun i=>cZ i)
structure Ul (ops:Array Oper) (bef:Nat→Nat):Prop where
 low:∀(i:Nat) (o:Oper),ops[i]?=some o→∀e∈o.after,Region.binds .any e=true→e.on<i
 clos:∀(i:Nat) (o:Oper),ops[i]?=some o→∀k,(bef i).testBit k=true→∃e∈o.after,Region.binds .any e=true∧(k=e.on∨(bef e.on).testBit k=true)
theorem EA{a:Array Bool}{i:Nat}:i∈Region.ready .any ops a↔i<ops.size∧a.getD i true=false∧∃o,ops[i]?=some o∧∀e∈o.after,Region.binds .any e=true→a.getD e.on false=true:=by
 unfold Region.ready;simp only[List.mem_filter,gq,ax,gI];constructor
 ·rintro⟨c,g,b⟩;refine⟨c,g,ops[i],by simp[c],fun e f d=>?_⟩;rw[cO c]at b;simp only[dK,dd,jI]at b;have:=b e f;simpa [d] using this
 rintro⟨c,g,o,h,b⟩;refine⟨c,g,?_⟩;rw[h];simp only[dK,dd,jI];intro e f;cases d:Region.binds .any e with
 |false=>rfl
 |true=>simpa using b e f d
theorem Wq(u:xQ M P cA ops ins em its bef chk late nt)(X:AR C env ins ls s)(hp:wk cA C)(V:∀(n j:Nat) (I:cr),(n,j)∈chk→ins[n]?=some I→bH C env (ls.take n) (s j) I.op=some (pC ls n,s j))
  {d:Nat} {o:Oper} {t:Tmp} {n E b:Nat} {z:aq} {v0:Value} {T:TypeId} (hd:ops[d]?=some o) (Q:o.dst=some t) (G:fM its d=some n) (hI:ins[n]?=some ⟨.box E (.val z),none⟩) (U:lu cA ins chk n=true) (L:sX its d=.loc n)
  (ae:E≠0) (hz:po M.fm 8 v0 z=true) (ah:bef d=0) {S:Nat→Prop} (hS:¬S d) (v:∀k m,fM its k=some m→lu cA ins chk m=true→m<n→S k) {a:Act} {w:World}
  (O:yq M cA ops ins its bef chk env ls s c0 w0 a0 (some (t,b,.cells v0.cells T (0,0))) S a w):yq M cA ops ins its bef chk env ls s c0 w0 a0 none (fun j=>S j∨j=d) a w:=by
 obtain⟨cl,lt,c,p,hs,ag,r,hv,ad,Y,aj,H⟩:=O;obtain⟨y1,y2,y3,y4,y5⟩:=H t b _ rfl;have N:n<ins.length:=(ak.1 hI).1;have x:n<ls.length:=by rw[X.len];exact N
 have Z:p≤ins.length:=by
  rcases r.1 with rfl|⟨k,n,_,q,_,rfl⟩
  ·exact cK _
  exact u.bound k n q
 have ao:¬n<p:=fun h=>hS ((r.2 d n G U).2 h);have y:∀k m,fM its k=some m→lu cA ins chk m=true→(m<p↔m<n):=fun k m q F=>by
  refine⟨fun h=>by omega,fun h=>(r.2 k m q F).1 (v k m q F h)⟩
 have ab:s p=s n:=C5 X hp V u.guards u.onto Z (by omega) y;have B:bH C env (ls.take n) (s n) (.box E (.val z))=some (ls[n],s (n+1)):=by
  have K:=(ak.1 hI).2;rcases X.step n N x with⟨_,h2⟩|⟨h1,_,_⟩
  ·rw[K]at h2;exact h2
  rw[K]at h1;cases h1
 have l:(if aM z=E then some (aq.ptr (s n).length 0 0 0,s n++[.arr E 0 [z]]) else none)=some (ls[n],s (n+1)):=B;split at l
 ·rename_i af;simp only[aL,dZ]at l;obtain⟨e1,e2⟩:=l;rw[ab]at hs;obtain⟨g,hg,al,W⟩:=tO (tB (M:=M) (w:=w) (c:=c) hz) (by omega)
  obtain⟨c',a1,a2,a3,a4,a5,a6,a7⟩:=hs.adopt ag (k:=E) (xs:=[z]) (f:=fun _ j=>g j) y2 y3 y4 y5 ae (by simp[af]) (by simp;omega)
   (fun i j hi hj=>by
    have:i=0:=by simp at hi;omega
    subst this;rw[mH,cE];exact⟨W j (by omega),hg.one j (by omega)⟩)
   (fun i hi j hj=>by
    have:i=0:=by simp at hi;omega
    subst this;exact hg.rel j hj)
  refine⟨fun i k hi q=>?_,fun i hi=>?_,c',n+1,by rw[←e2];exact a5,a6,⟨.inr ⟨d,n,.inr rfl,G,U,rfl⟩,fun k m q F=>?_⟩,fun i oi di hi A D=>?_,fun t' J _=>?_,Y,aj,fun _ _ _ e=>by cases e⟩
  ·rcases hi with hi|rfl
   ·exact .inl (cl i k hi q)
   rw[ah]at q;simp at q
  ·rcases hi with hi|rfl
   ·exact lt i hi
   exact (bE.1 hd).1
  ·constructor
   ·rintro (h|rfl)
    ·have:=(r.2 k m q F).1 h;have:=(y k m q F).1 this;omega
    rw[G]at q;cases q;omega
   intro h;by_cases e:m=n
   ·subst e;right;rcases gh k d with h|h|h
    ·have:=u.mono _ _ _ _ q G h;omega
    ·exact h
    have:=u.mono _ _ _ _ G q h;omega
   exact .inl (v k m q F (by omega))
  ·by_cases e:i=d
   ·subst e;rw[hd]at A;cases A;rw[Q]at D;cases D;rw[y1,L];have e3:(db.loc n).eval env ls=.ptr (s n).length 0 0 0:=by
     show pC ls n=_;rw[Lp x,←e1]
    rw[e3];have:=R.ptr (M:=M) (w:=w) (c:=c') (id:=(s n).length) (ep:=0) (i:=0) (off:=0) (by omega) a2 a3;simpa using this
   exact (hv i oi di (hi.resolve_right e) A D).ext a7
  refine ad t' (fun i oi hi=>J i oi (.inl hi)) fun b' an e=>?_;cases e;exact J d o (.inr rfl) hd Q
 cases l
def Ix(M:dm)(P:Program)(cA:Nat→Bool)(ops:Array Oper)(ins:List cr)(its:GF)(bef:Nat→Nat)(chk:List (Nat×Nat))(late:Option Nat)(env ls:List aq)(s:Nat→aw)(c0:dk)(w0:World)(a0:Act)(S:Nat→Prop)(a:Act)(w:World):Prop:=
 yq M cA ops ins its bef chk env ls s c0 w0 a0 none S a w ∨
 ∃d o t n kk b z v0 T,late=some d∧ops[d]?=some o∧o.dst=some t∧fM its d=some n∧ins[n]?=some ⟨.box kk (.val z),none⟩∧sX its d=.loc n∧kk≠0∧po M.fm 8 v0 z=true∧S d ∧
  (∃k m,fM its k=some m∧lu cA ins chk m=true∧m<n∧¬S k)∧yq M cA ops ins its bef chk env ls s c0 w0 a0 (some (t,b,.cells v0.cells T (0,0))) (fun j=>S j∧j≠d) a w
theorem Yx(l:xQ M P cA ops ins em its bef chk late nt)(hT:AR C env ins ls s)(hp:wk cA C)(E:∀(n j:Nat) (I:cr),(n,j)∈chk→ins[n]?=some I→bH C env (ls.take n) (s j) I.op=some (pC ls n,s j))
  (hC:lN M P C) (hR:kY M P C) (hF:u6 F) (hg:kS M w0 c0) (av:ot M w0 c0 env [] (yu em) a0.tmps) (Z:nt≤a0.tmps.size)
  {i:Nat} {o:Oper} (K:ops[i]?=some o) {S:Nat→Prop} (hi:¬S i) (V:∀k,(bef i).testBit k=true→S k) {a:Act} {w:World}
  (r:Ix M P cA ops ins its bef chk late env ls s c0 w0 a0 S a w):wpOpIn F n0 P ops Q i (Ix M P cA ops ins its bef chk late env ls s c0 w0 a0 fun j=>S j∨j=i) a w:=by
 have bl:i<ops.size:=(bE.1 K).1
 have al:late≠some i→∀n,fM its i=some n→lu cA ins chk n=true→∀k m,k<i→fM its k=some m→lu cA ins chk m=true→(bef i).testBit k=true:=fun H n y hw k m B u hm=>by
  rcases l.item i o K with⟨g,_⟩|⟨m',I,g,v,h3,L,h5,h6,h7⟩
  ·rw[g]at y;cases y
  rw[g]at y;cases y;exact h6 hw H k m B u hm
 rcases r with r|⟨d,od,t,n,kk,b,z,v0,T,H,hd,O,y,hI,W,a1,hz,ae,⟨k0,m0,ao,bh,ah,aj⟩,r⟩
 ·by_cases hA:late=some i∧∃n k m,fM its i=some n∧fM its k=some m∧lu cA ins chk m=true∧m<n∧¬S k
  ·
   obtain⟨H,n',k',m',a5,ab,bi,a3,af⟩:=hA;obtain⟨a2,o',T,t,n,kk,z,l1,l2,l3,D,R,l6,l7,l8,l9⟩:=l.lateOk i H;rw[K]at l1;cases l1;rw[R]at a5;cases a5;have Y:=l.item i o K;rcases Y with⟨g,_⟩|⟨m,I,g,v,h3,L,_⟩
   ·rw[g]at R;cases R
   rw[g]at R;cases R;rw[l6]at v;cases v;rw[l2]at L;simp only[G8,ax]at L;obtain⟨z1,z2⟩:=L;obtain⟨z3,z4⟩:=lY z1;obtain⟨ii,v0,i1,i2,i3,i4⟩:=sm z2;unfold wpOpIn;rw[K];simp only;have hw:Region.wanted o (yielded ops a.tmps)=true:=by unfold Region.wanted;rw[l3]
   rw[if_pos hw];refine⟨fun f _=>hF.fn f,?_⟩;have bf:(execOp a.eval o).run P w=.ok (.value (.pointer (some ⟨w.heap.size,0,none⟩))) (lj w (.cells v0.cells T (0,0))):=by
    unfold execOp;rw[l2];simp[Instr.alloc,i3,newVar,newRow];rfl
   rw[Oper.semAt_eq _ _ _ (fun q e=>by rw[e]at l2;cases l2),bf];obtain⟨cl,lt,c,p,hs,ar,X,hv,a8,a4,bc,_⟩:=r;obtain⟨s1,x1⟩:=hs.over (w':=lj w (.cells v0.cells T (0,0))) (fun b V _=>gJ V) (by rw[fO];omega);have bo:iR c w c (lj w (.cells v0.cells T (0,0))):={ x1 with same:=pP,size:=by rw[fO];omega,frame:=fun b V _=>gJ V,liv:=fun i b g v _=>⟨i,g,v⟩,old:=fun _ h _=>.inl h,oldb:=fun _ h _=>.inl h };have G:t<a.tmps.size:=by rw[a4];exact bu (l.dst _ _ _ K D) Z
   refine .inr ⟨i,o,t,_,kk,w.heap.size,z,v0,T,H,K,D,g,l6,h3,z4,i4,.inr rfl,⟨k',m',ab,bi,a3,fun h=>h.elim af fun e=>?_⟩,fun j k A B=>?_,fun j A=>?_,c,p,s1,ar.trans bo,?_,fun j oj dj A a6 a7=>?_,fun t' bg bn=>?_,?_,?_,fun t' b' bt e=>?_⟩
   ·subst e;rw[g]at ab;cases ab;omega
   ·have N:S j:=A.1.resolve_right A.2;refine⟨.inl (cl j k N B),fun e=>?_⟩;subst e;exact hi (cl j k N B)
   ·exact lt j (A.1.resolve_right A.2)
   ·refine⟨X.1.imp id fun ⟨k,q,q1,q2⟩=>⟨k,q,⟨.inl q1,fun e=>hi (e▸q1)⟩,q2⟩,fun k q q1 q2=>?_⟩;rw[←X.2 k q q1 q2];exact⟨fun h=>h.1.resolve_right h.2,fun h=>⟨.inl h,fun e=>hi (e▸h)⟩⟩
   ·have N:S j:=A.1.resolve_right A.2;have ad:¬dj=t:=fun e=>by
     subst e;exact A.2 (l.uniq _ _ _ _ _ a6 K a7 D)
    rw[D,uC G,if_neg ad];exact (hv j oj dj N a6 a7).ext x1
   ·have ad:¬t'=t:=fun e=>bn _ _ (by rw[e]);rw[D,uC G,if_neg ad];exact a8 t' (fun j oj A=>bg j oj ⟨.inl A,fun e=>hi (e▸A)⟩) fun _ _ e=>by cases e
   ·rw[D];simp[Act.put,a4]
   ·rw[D];exact bc
   cases e;refine⟨by rw[D,uC G,if_pos rfl],ar.size,rZ,fun h=>absurd (hs.low _ h) (dI _),fun id g v=>absurd (hs.plow id _ g v).1 (dI _)⟩
  refine wpOpIn_mono (fun a' w' h=>.inl h) (LP (Q:=Q) (n0:=n0) l hT hp E hC hR hF hg av Z K (x:=none) (fun _ _ _ e=>by cases e) hi (fun n y hw k m B u hm=>?_) V r);by_cases H:late=some i
  ·by_cases hS:S k
   ·exact hS
   exact absurd ⟨H,n,k,m,y,u,hm,l.mono _ _ _ _ u y B,hS⟩ hA
  exact V k (al H n y hw k m B u hm)
 obtain⟨a2,o',T',t',n',bs,z',l1,l2,l3,D,R,l6,l7,l8,l9⟩:=l.lateOk d H;rw[hd]at l1;cases l1;rw[O]at D;cases D;rw[y]at R;cases R;have hid:i≠d:=fun e=>hi (e▸ae);have bk:late≠some i:=fun e=>by rw[H]at e;cases e;exact hid rfl
 have U:¬(bef i).testBit d=true:=fun h=>aj (V k0 (l8 i h k0 m0 ao bh ah));have an:∀k,(bef i).testBit k=true→S k∧k≠d:=fun k B=>⟨V k B,fun e=>by subst e;exact U B⟩;refine wpOpIn_mono (fun a' w' h=>?_) (LP (Q:=Q) (n0:=n0) l hT hp E hC hR hF hg av Z K (x:=some (t,b,.cells v0.cells T (0,0))) (fun t1 b1 bp e=>?_) (fun h=>hi h.1) (fun n1 a9 bb k m B u hm=>an k (al bk n1 a9 bb k m B u hm)) an r)
 ·by_cases J:∃k m,fM its k=some m∧lu cA ins chk m=true∧m<n∧¬(S k∨k=i)
  ·refine .inr ⟨d,od,t,n,kk,b,z,v0,T,H,hd,O,y,hI,W,a1,hz,.inl ae,J,h.congr fun j=>?_⟩;constructor
   ·rintro (⟨g,v⟩|rfl)
    ·exact⟨.inl g,v⟩
    exact⟨.inr rfl,hid⟩
   rintro⟨g|rfl,v⟩
   ·exact .inl ⟨g,v⟩
   exact .inr rfl
  have ag:∀k m,fM its k=some m→lu cA ins chk m=true→m<n→(S k∧k≠d)∨k=i:=fun k m g v h3=>by
   by_cases L:S k∨k=i
   ·rcases L with L|L
    ·refine .inl ⟨L,fun e=>?_⟩;subst e;rw[y]at g;cases g;omega
    exact .inr L
   exact absurd ⟨k,m,g,v,h3,L⟩ J
  have:=Wq l hT hp E hd O y hI l7 W a1 hz a2 (S:=fun j=>(S j∧j≠d)∨j=i) (fun h=>h.elim (fun h=>h.2 rfl) fun e=>hid e.symm) ag h;refine .inl (this.congr fun j=>?_);constructor
  ·rintro ((⟨g,v⟩|rfl)|rfl)
   ·exact .inl g
   ·exact .inr rfl
   exact .inl ae
  rintro (g|rfl)
  ·by_cases e:j=d
   ·exact .inr e
   exact .inl (.inl ⟨g,e⟩)
  exact .inl (.inr rfl)
 cases e;refine⟨?_,fun e=>hid (l.uniq _ _ _ _ _ K hd e O)⟩;cases hq:Ju ops.toList em its bef i t with
 |none=>rfl
 |some q=>exact absurd (l9 i bl hid (by rw[hq];simp)) U
theorem Ix.final(j:xQ M P cA ops ins em its bef chk late nt){S:Nat→Prop}(q:∀i,i<ops.size→S i){a:Act}{w:World}(e:Ix M P cA ops ins its bef chk late env ls s c0 w0 a0 S a w):yq M cA ops ins its bef chk env ls s c0 w0 a0 none S a w:=by
 rcases e with h|⟨d,o,t,n,E,b,z,B,T,F,hd,r,A,D,k,y,C,v,⟨m,G,c,p,l,f⟩,e⟩
 ·exact h
 have g:m<ops.size:=by
  rw[←j.size];unfold fM at c;obtain⟨x,u,_⟩:=bN c;exact (ak.1 u).1
 exact absurd (q m g) f
theorem Ix.congr{S S':Nat→Prop}(h:∀i,S i↔S' i){a:Act}{w:World}(hi:Ix M P cA ops ins its bef chk late env ls s c0 w0 a0 S a w):Ix M P cA ops ins its bef chk late env ls s c0 w0 a0 S' a w:=by
 have:S=S':=funext fun i=>propext (h i);rw[←this];exact hi
theorem Ix.closed(g:xQ M P cA ops ins em its bef chk late nt){S:Nat→Prop}{a:Act}{w:World}(c:Ix M P cA ops ins its bef chk late env ls s c0 w0 a0 S a w):∀i k,S i→(bef i).testBit k=true→S k:=by
 rcases c with h|⟨d,o,t,n,y,b,z,u,T,l,hd,m,r,x,j,q,v,p,_,c⟩
 ·exact h.1
 intro i k hi f;by_cases e:i=d
 ·subst e;rw[(g.lateOk i l).1]at f;simp at f
 exact (c.1 i k ⟨hi,e⟩ f).1
theorem HM(hm:P.follows .mixedOrders=true)(L:Ul ops bef)(m:xQ M P cA ops ins em its bef chk late nt)(J:AR C env ins ls s)(K:wk cA C)(p:∀(n j:Nat) (I:cr),(n,j)∈chk→ins[n]?=some I→bH C env (ls.take n) (s j) I.op=some (pC ls n,s j))
  (hC:lN M P C) (hR:kY M P C) (hF:u6 F) (W:kS M w0 c0) (hs:fd M w0 c0 (s 0)) (t:ot M w0 c0 env [] (yu em) a0.tmps) (A:nt≤a0.tmps.size) (D:xM ops.toList em its os=true)
  (U:∀a w,Zi M em env ls os c0 w0 a0 (s ins.length) a w→Q .normal a w) (id:Nat):(Code.region id ops true).wpIn F n0 P Q a0 w0:=by
 apply wpIn_region_any hm;have key:∀(dE:Nat) (c:Array Bool) (a:Act) (w:World),c.size=ops.size→c.toList.countP (fun b=>!b)≤dE→Ix M P cA ops ins its bef chk late env ls s c0 w0 a0 (fun j=>c[j]?=some true) a w →
   wpAnyIn F n0 P .any ops Q dE c a w:=by
  intro dE;have done:∀(c:Array Bool) (a:Act) (w:World),c.size=ops.size→(∀i,i<ops.size→c[i]?=some true)→Ix M P cA ops ins its bef chk late env ls s c0 w0 a0 (fun j=>c[j]?=some true) a w→Q .normal a w:=fun c a w q l d=>
   U a w (KJ m J K p t D l (d.final m l))
  have r:∀(c:Array Bool),c.size=ops.size→Region.ready .any ops c=[]→∀i,i<ops.size→c[i]?=some true:=fun c q G i=>by
   induction i using Nat.strongRecOn with
   |_ i z=>
    intro hi;have f:i<c.size:=by omega
    cases hb:c[i] with
    |true=>rw[cO f,hb]
    |false=>
     have:i∈Region.ready .any ops c:=EA.2 ⟨hi,by simp[Array.getD,f,hb],ops[i],by simp[hi],fun e B y=>by
      have E:=L.low i ops[i] (by simp[hi]) e B y;have:=z e.on E (by omega);simp[bV,this]⟩
     rw[G]at this;cases this
  induction dE with
  |zero=>
   intro c a w q N d;have l:∀i,i<ops.size→c[i]?=some true:=fun i hi=>by
    have f:i<c.size:=by omega
    have Z:=List.countP_eq_zero.1 (Nat.le_zero.1 N) c[i] (by simp);rw[cO f];simpa using Z
   refine⟨?_,done c a w q l d⟩;rw[List.eq_nil_iff_forall_not_mem];intro i hi;obtain⟨O,v,_⟩:=EA.1 hi;have:=l i O;rw[bV,this]at v;cases v
  |succ dE z=>
   intro c a w q N d;refine⟨fun G=>done c a w q (r c q G) d,fun i hi=>?_⟩;obtain⟨O,v,o,H,X⟩:=EA.1 hi;have f:i<c.size:=by omega
   have g:c[i]=false:=by simpa [Array.getD,f] using v
   have u:∀j,(c.setIfInBounds i true)[j]?=some true↔(c[j]?=some true∨j=i):=fun j=>by
    rw[dJ];by_cases e:i=j
    ·subst e;simp[f]
    have:¬j=i:=fun h=>e h.symm;simp[e,this]
   refine wpOpIn_mono (fun R w' h=>z (c.setIfInBounds i true) R w' (by simpa using q) ?_ h) ?_
   ·rw[Array.toList_setIfInBounds,List.countP_set (by simpa using f)];simp only[jd,g,Bool.not_false,cw,rv,bq,cI];have:0<c.toList.countP (fun b=>!b):=List.countP_pos_iff.2 ⟨false,by rw[←g];simp,rfl⟩;omega
   have:=Yx (Q:=Q) (n0:=n0) m J K p hC hR hF W t A H (S:=fun j=>c[j]?=some true) (by rw[cO f,g];simp) (fun k hk=>by
    obtain⟨e,Y,V,x⟩:=L.clos i o H k hk;have T:c[e.on]?=some true:=by
     have:=X e Y V;rw[bV]at this;cases hq:c[e.on]? with
     |none=>rw[hq]at this;cases this
     |some b=>rw[hq]at this;simp at this;rw[this]
    rcases x with rfl|x
    ·exact T
    exact d.closed m e.on k T x) d
   exact wpOpIn_mono (fun R w' h=>h.congr fun j=>(u j).symm) this
 refine key ops.size _ a0 _ (by simp) ?_ ?_
 ·exact bR (List.countP_le_length) (by simp)
 refine .inl (KO (w0:=w0) (w:={ w0 with drawn:=w0.drawn+1 }) (hs.heap rfl) (iR.ofHeap rfl ⟨rfl,rfl,rfl,aF _⟩) fun i h=>?_);rw[Array.getElem?_replicate]at h;split at h<;>cases h
end
end Go.AM
namespace Go.AM
variable {M:dm} {w:World}
structure aif (fl:Bool) (base:Nat) (c d:dk):Prop where
 sld:∀b,c.sld b→d.sld b
 sb:∀b,d.sld b→d.bor b
 bor:∀b,c.bor b→d.bor b
 gone:∀id b,base≤id→c.H id≠.dead→c.place id=some b→if fl then d.bor b else d.sld b
 N:∀id,id<base→id<c.N→id<d.N
 keep:∀id,id<base→id<c.N→(d.H id=c.H id∧(c.H id≠.dead→d.place id=c.place id∧d.room id=c.room id∧d.loops id=c.loops id))∨d.H id=.dead
def dk.view(d:dk)(fl top:Bool):dk:=if top then d else d.still fl
theorem qD{d:dk}{fl top:Bool}:(d.view fl top).sld=d.sld:=by cases top<;>rfl
theorem zM{d:dk}{fl top:Bool}(h:fl=true∨top=true):(d.view fl top).bor=d.bor:=by cases top<;>cases fl<;>first|rfl|simp at h
theorem G0{d:dk}{top:Bool}:(d.view true top).bor=d.bor:=by cases top<;>rfl
theorem Bp{d:dk}{fl top:Bool}:(d.view fl top).still fl=d.still fl:=by cases top<;>cases fl<;>rfl
theorem ZN{d:dk}{fl top:Bool}(a:∀b,d.sld b→d.bor b):Ext (d.still fl) w (d.view fl top) w:=by
 cases top
 ·exact .refl _ _
 exact .ofStill a fl
theorem tz{c d:dk}{b:Bool}(e:∀x,c.sld x→d.sld x)(f:b=true→∀x,c.bor x→d.bor x):Ext (c.still b) w (d.still b) w where
 sld:=e
 bor:=fun x a=>by
  cases b
  ·exact e x a
  exact f rfl x a
 rest:=fun _ _=>rfl
 N:=aF _
 head:=fun id hid=>absurd hid (cZ _)
 place:=fun id hid=>absurd hid (cZ _)
theorem abb{fl top:Bool}{base:Nat}{σ:aw}{n:Nat}{v:aq}(h:isAgg v=false):isAgg (fz fl top base σ n v)=false:=by
 cases n with
 |zero=>rfl
 |succ n=>
  have r:∀l p,isAgg (oY fl l p)=false:=fun l p=>by unfold oY;split<;>rfl
  have d:∀g x c o,isAgg (jQ g x c o)=false:=fun g x c o=>by unfold jQ;split<;>rfl
  have q:∀x c o,isAgg (jQ fl x c o)=false:=fun x c o=>d _ _ _ _;have j:∀{k:Type} (o:Option k) (f:k→aq),(∀a,isAgg (f a)=false)→isAgg (o.elim .any f)=false:=fun o f t=>by cases o<;>first|rfl|exact t _
  cases v with
  |agg cs=>simp[isAgg]at h
  |aa b xs=>simp only[fz];split<;>rfl
  |ai=>simp only[fz];split<;>rfl
  |imap b xs=>simp only[fz];split<;>rfl
  |lst xs=>exact r _ _
  |cptr b x o=>
   simp only[fz];cases b
   ·rfl
   cases fl
   ·cases top
    ·rfl
    exact d _ _ _ _
   exact q _ _ _
  |sl id ep off len=>
   simp only[fz];split
   ·split<;>rfl
   exact j _ _ fun l=>r _ _
  |ptr id ep i off=>
   simp only[fz];split
   ·split<;>rfl
   exact j _ _ fun l=>q _ _ _
  |mp id=>
   simp only[fz];split
   ·split<;>rfl
   exact j _ _ fun l=>rfl
  |asl id ep i off m=>simp only[fz];split<;>rfl
  |yld l s e=>simp only[fz];split<;>rfl
  |it id=>simp only[fz];split<;>rfl
  |_=>rfl
section
variable {fl:Bool} {base:Nat} {σ:aw} {c d:dk}
def FzR(M:dm)(w:World)(fl:Bool)(base:Nat)(σ:aw)(c d:dk)(n:Nat):Prop:=∀(top:Bool) (v:aq) (cv:Value),R M w c v cv→R M w (d.view fl top) (fz fl top base σ n v) cv
theorem El{n:Nat}{top:Bool}(i:∀m,m≤n→FzR M w fl base σ c d m){x:aq}{f:Nat→Value}(h:∀j (a:j<(cellsOf x).length),R M w c (cellsOf x)[j] (f j)) :
  ∀j (a:j<(cellsOf (fz fl top base σ n x)).length),R M w (d.view fl top) (cellsOf (fz fl top base σ n x))[j] (f j):=by
 intro j a;cases ha:isAgg x with
 |true=>
  obtain⟨cs,rfl⟩:=ry ha;cases n with
  |zero=>
   have e:cellsOf (fz fl top base σ 0 (.agg cs))=[.any]:=rfl;simp only[e,bA,bD]at a ⊢;have:j=0:=by omega
   subst this;exact .any
  |succ n=>
   have e:cellsOf (fz fl top base σ (n+1) (.agg cs))=cs.map (fz fl top base σ n):=rfl;simp only[e,dg,dn]at a ⊢;exact i n (by omega) top _ _ (h j a)
 |false=>
  have e:cellsOf (fz fl top base σ n x)=[fz fl top base σ n x]:=ro (abb ha);have g:cellsOf x=[x]:=ro ha;simp only[e,bA,bD]at a ⊢;have:j=0:=by omega
  subst this;have b:=h 0 (by rw[g];simp);simp only[g,cV]at b;exact i n (aF _) top _ _ b
theorem Hj{n:Nat}(b:∀m,m≤n→FzR M w fl base σ c d m){x:aq}{f:Nat→Value}(h:∀j (a:j<(cellsOf x).length),R M w c (cellsOf x)[j] (f j)) :
  ∀j (a:j<(cellsOf (fz fl false base σ n x)).length),R M w (d.still fl) (cellsOf (fz fl false base σ n x))[j] (f j):=El (top:=false) b h
theorem Bl{l a:List aq}(h:a.map aM=l.map aM):a.length=l.length∧∀i (c:i<a.length) (b:i<l.length),aM a[i]=aM l[i]:=by
 have d:a.length=l.length:=by simpa using congrArg List.length h
 refine⟨d,fun i c b=>?_⟩;have:=congrArg (fun q=>q[i]?) h;simpa [c,b] using this
theorem NO{n:Nat}(hd:∀b,d.sld b→d.bor b)(q:∀m,m≤n→FzR M w fl base σ c d m){top:Bool}{l:List aq}{a:Addr}{cap K:Nat}{f:Nat→Nat→Value}(o:if fl then d.bor a.block else d.sld a.block)(v:a.spot=none)(h:l.length≤cap)(t:K≠0)
  (p:∀x∈l,aM x=K) (r:∀i j,i<l.length→j<K→w.cell? ⟨a.block,a.off+i*K+j,none⟩=some (f i j)∧(f i j).oneCell'=true)
  (s:∀i (hi:i<l.length) j (g:j<(cellsOf l[i]).length),R M w c (cellsOf l[i])[j] (f i j)) :
  R M w (d.view fl top) (oY fl l (l.map (fz fl false base σ n))) (.slice (some a) l.length cap):=by
 unfold oY;split
 ·rename_i y;obtain⟨m1,m2⟩:=Bl y;have e:(l.map (fz fl false base σ n)).length=l.length:=by simp
  have:=R.aa (M:=M) (w:=w) (c:=d.view fl top) (b:=fl) (xs:=l.map (fz fl false base σ n)) (cap:=cap) (a:=a) K f (by
    cases fl
    ·rw[qD];exact o
    ·rw[G0];exact o) v (by rw[e];exact h) t (fun x u=>by
    obtain⟨i,hi,rfl⟩:=cM.1 u;rw[m2 i hi (by rw[←e];exact hi)];exact p _ (aJ _)) (fun i j hi g=>r i j (by rw[←e];exact hi) g) (fun i hi j g=>by
    rw[Bp];have k:i<l.length:=by rw[←e];exact hi
    simp only[dn]at g ⊢;exact Hj q (s i k) j g)
  rw[e]at this;exact this
 exact .any
theorem OY{n:Nat}(hd:∀b,d.sld b→d.bor b)(k:∀m,m≤n→FzR M w fl base σ c d m){top:Bool}{x:aq}{off o blk:Nat}{f:Nat→Value}(g:if fl then d.bor blk else d.sld blk)(l:aM x≠0)
  (h:∀j,j<aM x→w.cell? ⟨blk,o+j,none⟩=some (f j)∧(f j).oneCell'=true) (i:∀j (a:j<(cellsOf x).length),R M w c (cellsOf x)[j] (f j)) :
  R M w (d.view fl top) (jQ fl x (fz fl false base σ n x) off) (.pointer (some ⟨blk,o+off,none⟩)):=by
 unfold jQ;split
 ·rename_i p;refine .cptr f ?_ (by omega) (fun j a=>h j (by omega)) fun j a=>?_
  ·cases fl
   ·rw[qD];exact g
   rw[G0];exact g
  have:=Hj k i j a;cases fl
  ·have e:(if false=true then d.view false top else (d.view false top).still false)=d.still false:=Bp (fl:=false);rw[e];exact this
  exact this.ext (ZN hd)
 exact .any
theorem FzR.zero:FzR M w fl base σ c d 0:=fun _ _ _ _=>.any
theorem agJ{id ep k:Nat}{es:List aq}(b:fd M w c σ)(a:σ[id]?=some (.arr k ep es))(h:∀k e,c.H id=.arr k e→ep<e):False:=
 absurd (h k ep (by rw[b.H,fe a])) (dI _)
theorem SK(O:fd M w c σ)(q:aif fl base c d):∀n,FzR M w fl base σ c d n:=by
 intro n;induction n using Nat.strongRecOn with
 |_ n ae=>
 cases n with
 |zero=>exact FzR.zero
 |succ n=>
  have U:∀m,m≤n→FzR M w fl base σ c d m:=fun m hm=>ae m (by omega);have S:∀{top:Bool} {v:aq} {cv:Value},R M w c v cv→R M w (d.view fl top) (fz fl top base σ n v) cv:=fun {top v cv} h=>U n (aF _) top v cv h;intro top v cv h;have Y:∀b,d.sld b→(if fl then d.bor b else d.sld b):=fun b t=>by
   cases fl
   ·exact t
   exact q.sb b t
  cases h with
  |any=>exact .any
  |int=>exact .int
  |bool=>exact .bool
  |str h=>exact .str h
  |nilp=>exact .nilp
  |nilf=>exact .nilf
  |nilm=>exact .nilm
  |@ai _ a=>
   show R M w _ (if !fl&&top then .ai else .aa false []) _;split
   ·exact .ai
   exact .imm0
  |emp h=>exact .emp h
  |@agg _ cs vs f p s u y=>
   show R M w _ (.agg (cs.map (fz fl top base σ n))) _;have hr:∀i (hi:i<(cs.map (fz fl top base σ n)).length),R M w (d.view fl top) (cs.map (fz fl top base σ n))[i] (f i):=fun i hi=>by
    rw[dn];exact S (y i (by simpa using hi))
   exact .agg f (by simpa using p) (fun i hi=>s i (by simpa using hi)) (fun i hi=>(hr i hi).small (s i (by simpa using hi)).2) hr
  |@tup _ cs vs f p s u=>
   show R M w _ (.tup (cs.map (fz fl top base σ n))) _
   exact .tup f (by simpa using p) (fun i hi=>s i (by simpa using hi)) fun i hi=>by
    rw[dn];exact S (u i (by simpa using hi))
  |@fn _ g first cap fs cs f1 f2 p s u y I N=>
   show R M w _ (.fn g (first.map (fz fl top base σ n)) (cap.map (fz fl top base σ n))) _
   exact .fn f1 f2 (by simpa using p) (by simpa using s) (fun i hi=>u i (by simpa using hi)) (fun i hi=>y i (by simpa using hi)) (fun i hi=>by
    rw[dn];exact S (I i (by simpa using hi))) (fun i hi=>by rw[dn];exact S (N i (by simpa using hi)))
  |@aa _ b xs cap a K f p s u y I N Z=>
   show R M w _ (if b&&!fl&&!top then .any else .aa b xs) _;split
   ·exact .any
   rename_i z;have L:b=true→fl=true∨top=true:=fun e=>by subst e;cases fl<;>cases top<;>simp at z ⊢
   refine .aa K f ?_ s u y I N fun i hi j G=>(Z i hi j G).ext (tz (fun x A=>by rw[qD];exact q.sld x A) fun e x A=>?_)
   ·cases b
    ·rw[qD];exact q.sld _ p
    rw[if_pos rfl,zM (L rfl)];exact q.bor _ p
   rw[zM (L e)];exact q.bor _ A
  |@imm0 _ b cap a=>
   show R M w _ (if b&&!fl&&!top then .any else .aa b []) _;split
   ·exact .any
   exact .imm0
  |@lst _ xs cap a K f p s u y I N Z=>
   exact NO q.sb U (Y _ (q.sld _ p)) s u y I N Z
  |@lst0 _ cap a=>exact .imm0
  |@cptr _ b x off o blk f p s u y=>
   show R M w _ (if b then (if fl then jQ true x (fz fl false base σ n x) off else if top then jQ true x (fz fl top base σ n x) off else .any) else .cptr false x off) _;cases b with
   |true=>
    cases fl with
    |true=>exact OY (fl:=true) q.sb U (q.bor _ p) s u y
    |false=>
     cases top with
     |false=>exact .any
     |true=>
      show R M w d (jQ true x (fz false true base σ n x) off) _;unfold jQ;split
      ·rename_i hm;exact .cptr f (q.bor _ p) (by omega) (fun j G=>u j (by omega)) fun j G=>El (top:=true) U y j G
      exact .any
   |false=>
    refine .cptr f (by rw[qD];exact q.sld _ p) s u fun j G=>?_;exact (y j G).ext (tz (fun x A=>by rw[qD];exact q.sld x A) fun e=>by cases e)
  |@imap _ b es r ab en f g p s u y I N=>
   show R M w _ (if b&&!fl&&!top then .any else .imap b es) _;split
   ·exact .any
   rename_i z;have L:b=true→fl=true∨top=true:=fun e=>by subst e;cases fl<;>cases top<;>simp at z ⊢
   have A:Ext (c.still b) w ((d.view fl top).still b) w:=tz (fun x A=>by rw[qD];exact q.sld x A) fun e x A=>by
    rw[zM (L e)];exact q.bor _ A
   refine .imap f g ?_ s u y (fun i hi=>(I i hi).ext A) (fun i hi=>(N i hi).ext A);cases b
   ·rw[qD];exact q.sld _ p
   rw[if_pos rfl,zM (L rfl)];exact q.bor _ p
  |@sl _ id ep off len cap k blk p s u y I=>
   show R M w _ (if id<base then (if top then .sl id ep off len else .any) else (sliceAt σ id ep off len).elim .any fun l=>oY fl l (l.map (fz fl false base σ n))) _;split
   ·rename_i t;cases top with
    |false=>exact .any
    |true=>
     rcases q.keep id t p with⟨k1,k2⟩|k1
     ·obtain⟨H,W,_⟩:=k2 (by rw[s];simp);exact .sl (q.N id t p) (k1.trans s) (H.trans u) y (by show _≤d.room id;rw[W];exact I)
     exact .slOld rfl (q.N id t p) (by show ∀k e,d.H id=_→_;rw[k1];simp) (by show d.H id≠_;rw[k1];simp) (by show d.H id≠_;rw[k1];simp)
   rename_i t;cases hsl:sliceAt σ id ep off len with
   |none=>exact .any
   |some l=>
    obtain⟨k2,es,D,hl,rfl⟩:=pN hsl;have hH:c.H id=.arr k2 ep:=by rw[O.H,fe D]
    have P:k=k2:=by rw[hH]at s;cases s;rfl
    subst P;obtain⟨o1,o2,o3,o4⟩:=O.obj id _ D;obtain⟨cs,T,F,q1,q2,q3,q4,q5⟩:=o4 blk u;have C:((es.drop off).take len).length=len:=by simp;omega
    have:=NO (M:=M) (w:=w) (fl:=fl) (base:=base) (σ:=σ) (c:=c) (d:=d) (n:=n) (top:=top) (l:=(es.drop off).take len) (a:=⟨blk,off*k,none⟩) (cap:=cap) (K:=k) (f:=fun i j=>F (off+i) j) q.sb U (q.gone id blk (by omega) (by rw[s];simp) u) rfl (by omega) o1
     (fun x A=>o2 x (ej (cT A))) (fun i j hi G=>by
      rw[C]at hi;obtain⟨a1,a2⟩:=q4 (off+i) j (by omega) G;refine⟨?_,a2⟩;simp only[World.cell?,q1];rw[show off*k+i*k+j=(off+i)*k+j by rw[dN]];exact a1) (fun i hi j G=>by
      rw[C]at hi;have e:((es.drop off).take len)[i]'(by rw[C];exact hi)=es[off+i]'(by omega):=by simp
      have ad:j<(cellsOf (es[off+i]'(by omega))).length:=by rw[←e];exact G
      have:=q5 (off+i) (by omega) j ad;simp only[dP,eG];exact this)
    rw[C]at this;exact this
  |@sl0 _ id ep off k a p s=>
   show R M w _ (if id<base then (if top then .sl id ep off 0 else .any) else (sliceAt σ id ep off 0).elim .any fun l=>oY fl l (l.map (fz fl false base σ n))) _;split
   ·rename_i t;cases top with
    |false=>exact .any
    |true=>
     rcases q.keep id t p with⟨k1,k2⟩|k1
     ·exact .sl0 (q.N id t p) (k1.trans s)
     exact .slOld rfl (q.N id t p) (by show ∀k e,d.H id=_→_;rw[k1];simp) (by show d.H id≠_;rw[k1];simp) (by show d.H id≠_;rw[k1];simp)
   cases hsl:sliceAt σ id ep off 0 with
   |none=>exact .any
   |some l=>
    obtain⟨k2,es,D,hl,rfl⟩:=pN hsl;exact .imm0
  |@slOld _ id ep off len _ B p s u y=>
   show R M w _ (if id<base then (if top then .sl id ep off len else .any) else (sliceAt σ id ep off len).elim .any fun l=>oY fl l (l.map (fz fl false base σ n))) _;split
   ·rename_i t;cases top with
    |false=>exact .any
    |true=>
     rcases q.keep id t p with⟨k1,k2⟩|k1
     ·exact .slOld B (q.N id t p) (by show ∀k e,d.H id=_→_;rw[k1];exact s) (by show d.H id≠_;rw[k1];exact u) (by show d.H id≠_;rw[k1];exact y)
     exact .slOld B (q.N id t p) (by show ∀k e,d.H id=_→_;rw[k1];simp) (by show d.H id≠_;rw[k1];simp) (by show d.H id≠_;rw[k1];simp)
   cases hsl:sliceAt σ id ep off len with
   |none=>exact .any
   |some l=>
    obtain⟨k2,es,D,hl,rfl⟩:=pN hsl;exact (agJ O D s).elim
  |@ptr _ id ep i off k blk p s u=>
   show R M w _ (if id<base then (if top then .ptr id ep i off else .any) else (ul σ id ep i).elim .any fun x=>jQ fl x (fz fl false base σ n x) off) _;split
   ·rename_i t;cases top with
    |false=>exact .any
    |true=>
     rcases q.keep id t p with⟨k1,k2⟩|k1
     ·obtain⟨H,W,_⟩:=k2 (by rw[s];simp);exact .ptr (q.N id t p) (k1.trans s) (H.trans u)
     exact .ptrOld rfl (q.N id t p) (by show ∀k e,d.H id=_→_;rw[k1];simp) (by show d.H id≠_;rw[k1];simp) (by show d.H id≠_;rw[k1];simp)
   rename_i t;cases hsl:ul σ id ep i with
   |none=>exact .any
   |some x=>
    obtain⟨k2,es,D,A⟩:=B0 hsl;have hH:c.H id=.arr k2 ep:=by rw[O.H,fe D]
    have P:k=k2:=by rw[hH]at s;cases s;rfl
    subst P;obtain⟨b,f,V,X,af,ag,Q⟩:=O.elem D A;rw[u]at V;cases V;exact OY (o:=i*k) q.sb U (q.gone id blk (by omega) (by rw[s];simp) u) (by omega) (fun j G=>⟨Q j (by omega),X.one j G⟩) X.rel
  |@ptrOld _ id ep i off _ B p s u y=>
   show R M w _ (if id<base then (if top then .ptr id ep i off else .any) else (ul σ id ep i).elim .any fun x=>jQ fl x (fz fl false base σ n x) off) _;split
   ·rename_i t;cases top with
    |false=>exact .any
    |true=>
     rcases q.keep id t p with⟨k1,k2⟩|k1
     ·exact .ptrOld B (q.N id t p) (by show ∀k e,d.H id=_→_;rw[k1];exact s) (by show d.H id≠_;rw[k1];exact u) (by show d.H id≠_;rw[k1];exact y)
     exact .ptrOld B (q.N id t p) (by show ∀k e,d.H id=_→_;rw[k1];simp) (by show d.H id≠_;rw[k1];simp) (by show d.H id≠_;rw[k1];simp)
   cases hsl:ul σ id ep i with
   |none=>exact .any
   |some x=>
    obtain⟨k2,es,D,A⟩:=B0 hsl;exact (agJ O D s).elim
  |@asl _ id ep i off m k blk p s u=>
   show R M w _ (if id<base&&top then .asl id ep i off m else .any) _;split
   ·rename_i z;simp only[ax,cd]at z;obtain⟨t,rfl⟩:=z;rcases q.keep id t p with⟨k1,k2⟩|k1
    ·obtain⟨H,W,_⟩:=k2 (by rw[s];simp);exact .asl (q.N id t p) (k1.trans s) (H.trans u)
    exact .aslOld (q.N id t p) (by show ∀k e,d.H id=_→_;rw[k1];simp) (by show d.H id≠_;rw[k1];simp) (by show d.H id≠_;rw[k1];simp)
   exact .any
  |@aslOld _ id ep i off m _ p s u y=>
   show R M w _ (if id<base&&top then .asl id ep i off m else .any) _;split
   ·rename_i z;simp only[ax,cd]at z;obtain⟨t,rfl⟩:=z;rcases q.keep id t p with⟨k1,k2⟩|k1
    ·exact .aslOld (q.N id t p) (by show ∀k e,d.H id=_→_;rw[k1];exact s) (by show d.H id≠_;rw[k1];exact u) (by show d.H id≠_;rw[k1];exact y)
    exact .aslOld (q.N id t p) (by show ∀k e,d.H id=_→_;rw[k1];simp) (by show d.H id≠_;rw[k1];simp) (by show d.H id≠_;rw[k1];simp)
   exact .any
  |@mp _ id blk p s u=>
   show R M w _ (if id<base then (if top then .mp id else .any) else (ip σ id).elim .any fun es=>.imap fl (es.map fun e=>(e.1,fz fl false base σ n e.2))) _;split
   ·rename_i t;cases top with
    |false=>exact .any
    |true=>
     rcases q.keep id t p with⟨k1,k2⟩|k1
     ·obtain⟨H,W,_⟩:=k2 (by rw[s];simp);exact .mp (q.N id t p) (k1.trans s) (H.trans u)
     exact .mpOld rfl (q.N id t p) k1
   rename_i t;cases he:ip σ id with
   |none=>exact .any
   |some es=>
    unfold ip at he;split at he
    ·rename_i es' D;cases he;obtain⟨b,cl,en,f,g,q1,q2,q3,q4,q5,q6⟩:=O.obj id _ D;rw[q1]at u;cases u;have J:=q.gone id _ (by omega) (by rw[s];simp) q1;refine .imap f g ?_ q2 (by simpa using q3) (fun i hi=>?_) (fun i hi=>?_) (fun i hi=>?_)
     ·cases fl
      ·rw[qD];exact J
      rw[G0];exact J
     ·obtain⟨e,e1,e2,e3,e4⟩:=q4 i (by simpa using hi);exact⟨e,e1,e2,e3,by simpa using e4⟩
     ·obtain⟨e,e1,e2,e3,e4⟩:=q4 i (by simpa using hi);simp only[dn];exact Tl (q5 i (by simpa using hi)) e4.1
     rw[Bp];simp only[dn];exact S (top:=false) (q6 i (by simpa using hi))
    cases he
  |@mpOld _ id _ B p s=>
   show R M w _ (if id<base then (if top then .mp id else .any) else (ip σ id).elim .any fun es=>.imap fl (es.map fun e=>(e.1,fz fl false base σ n e.2))) _;split
   ·rename_i t;cases top with
    |false=>exact .any
    |true=>
     rcases q.keep id t p with⟨k1,k2⟩|k1
     ·exact .mpOld B (q.N id t p) (k1.trans s)
     exact .mpOld B (q.N id t p) k1
   cases he:ip σ id with
   |none=>exact .any
   |some es=>
    unfold ip at he;split at he
    ·rename_i es' D;rw[O.H,fe D]at s;cases s
    cases he
  |@yld _ l E env em blk f p s u y I N Z=>
   show R M w _ (if l<base&&top then .yld l E (env.map (fz fl top base σ n)) else .any) _;split
   ·rename_i z;simp only[ax,cd]at z;obtain⟨t,rfl⟩:=z;rcases q.keep l t p with⟨k1,k2⟩|k1
    ·obtain⟨H,W,p3⟩:=k2 (by rw[s];simp);refine .yld f (q.N l t p) (k1.trans s) (H.trans u) (by show M.site E (d.loops l) em;rw[p3];exact y) (by simpa using I) (fun i hi A=>by show (d.loops l).tmps[em[i]]?=_;rw[p3];exact N i hi (by simpa using A)) fun i A=>?_;rw[dn];exact S (top:=true) (Z i (by simpa using A))
    exact .yldOld rfl (q.N l t p) k1
   exact .any
  |@yldOld _ l E env _ B p s=>
   show R M w _ (if l<base&&top then .yld l E (env.map (fz fl top base σ n)) else .any) _;split
   ·rename_i z;simp only[ax,cd]at z;obtain⟨t,rfl⟩:=z;rcases q.keep l t p with⟨k1,k2⟩|k1
    ·exact .yldOld B (q.N l t p) (k1.trans s)
    exact .yldOld B (q.N l t p) k1
   exact .any
  |@it _ id blk p s u=>
   show R M w _ (if id<base&&top then .it id else .any) _;split
   ·rename_i z;simp only[ax,cd]at z;obtain⟨t,rfl⟩:=z;rcases q.keep id t p with⟨k1,k2⟩|k1
    ·obtain⟨H,_,_⟩:=k2 (by rw[s];simp);exact .it (q.N id t p) (k1.trans s) (H.trans u)
    exact .itOld rfl (q.N id t p) k1
   exact .any
  |@itOld _ id _ B p s=>
   show R M w _ (if id<base&&top then .it id else .any) _;split
   ·rename_i z;simp only[ax,cd]at z;obtain⟨t,rfl⟩:=z;rcases q.keep id t p with⟨k1,k2⟩|k1
    ·exact .itOld B (q.N id t p) (k1.trans s)
    exact .itOld B (q.N id t p) k1
   exact .any
end
end Go.AM
namespace Go.AM
variable {M:dm} {w:World}
def dk.sealUp(c:dk)(base:Nat)(τ:aw):dk:={ c with
 sld:=fun b=>c.sld b∨∃id,base≤id∧c.H id≠.dead∧c.place id=some b
 bor:=fun b=>c.bor b∨∃id,base≤id∧c.H id≠.dead∧c.place id=some b
 H:=hd τ
 N:=τ.length }
def jT(base:Nat)(σ:aw):aw:=(σ.take base).map (bw base σ)
variable {c:dk} {σ:aw} {base:Nat}
theorem uS(a:base≤σ.length):(jT base σ).length=base:=by simp[jT];omega
theorem QW{id:Nat}{o:Obj}(h:(jT base σ)[id]?=some o):id<base∧∃a,σ[id]?=some a∧o=bw base σ a:=by
 unfold jT at h;rw[eE]at h;obtain⟨a,b,c⟩:=bJ h;rw[gu]at b;split at b
 ·exact⟨by assumption,a,b,c.symm⟩
 cases b
theorem VW{id:Nat}{o:Obj}(hid:id<base)(h:σ[id]?=some o):(jT base σ)[id]?=some (bw base σ o):=by
 unfold jT;rw[eE,gu,if_pos hid,h];rfl
theorem ub{id:Nat}(hid:id<base)(g:base≤σ.length):hd (jT base σ) id=hd σ id∨hd (jT base σ) id=.dead:=by
 have a:id<σ.length:=by omega
 obtain⟨o,c⟩:∃o,σ[id]?=some o:=⟨_,au a⟩;have e:=VW (base:=base) (σ:=σ) hid c;unfold hd;rw[e,c];cases o with
 |arr k ep es=>
  simp only[bw,Kp];by_cases d:(es.map (cn base σ)).map aM=es.map aM
  ·rw[if_pos d];exact .inl rfl
  rw[if_neg d];exact .inr rfl
 |map es=>exact .inl rfl
 |pend b j=>exact .inl rfl
 |it s pos=>exact .inl rfl
 |mit es f k=>exact .inl rfl
 |dead=>exact .inl rfl
theorem sj(d:fd M w c σ)(e:base≤σ.length):aif false base c (c.sealUp base (jT base σ)) where
 sld:=fun b h=>.inl h
 sb:=fun b h=>h.imp (d.sb b) fun h=>h
 bor:=fun b h=>.inl h
 gone:=fun id b a g f=>.inr ⟨id,a,g,f⟩
 N:=fun id a _=>by show id<(jT base σ).length;rw[uS e];exact a
 keep:=fun id a _=>by
  rcases ub (σ:=σ) a e with h|h
  ·exact .inl ⟨by show hd (jT base σ) id=c.H id;rw[h,d.H],fun _=>⟨rfl,rfl,rfl⟩⟩
  exact .inr h
theorem fd.sealUp(p:fd M w c σ)(Q:base≤σ.length):fd M w (c.sealUp base (jT base σ)) (jT base σ):=by
 have U:=sj p Q;have V:=fun n=>SK p U n;have d:∀id,hd (jT base σ) id≠.dead→id<base∧c.H id≠.dead:=fun id h=>by
  have l:=Jg h;rw[uS Q]at l;refine⟨l,?_⟩;rcases ub (σ:=σ) l Q with P|P
  ·rw[p.H,←P];exact h
  exact absurd P h
 refine⟨rfl,rfl,U.sb,fun b h=>?_,fun id b G D=>?_,fun i j b hi v K J=>p.inj i j b (d i hi).2 (d j v).2 K J,fun id o ho=>?_⟩
 ·rcases h with h|⟨id,_,G,D⟩
  ·exact p.low b h
  exact (p.plow id b G D).1
 ·obtain⟨l,W⟩:=d id G;obtain⟨p1,p2⟩:=p.plow id b W D;refine⟨p1,fun h=>h.elim p2 fun ⟨I,y,t,u⟩=>?_⟩;have:=p.inj id I b W t D u;omega
 obtain⟨l,Z,h0,rfl⟩:=QW ho;have a:=p.obj id Z h0;cases Z with
 |arr k ep es=>
  simp only[bw,Kp];by_cases L:(es.map (cn base σ)).map aM=es.map aM
  ·rw[if_pos L];obtain⟨m1,m2⟩:=Bl L;obtain⟨o1,o2,o3,o4⟩:=a;refine⟨o1,fun x hx=>?_,fun hn=>by rw[o3 hn];rfl,fun b N=>?_⟩
   ·obtain⟨i,hi,rfl⟩:=cM.1 hx;rw[m2 i hi (by omega)];exact o2 _ (aJ _)
   obtain⟨cs,T,f,y,t,u,z,A⟩:=o4 b N;refine⟨cs,T,f,y,by rw[m1];exact t,u,fun i j hi v=>z i j (by omega) v,fun i hi j v=>?_⟩;simp only[dn]at v ⊢;exact El (top:=true) (n:=dE) (fun m _=>V m) (A i (by omega)) j v
  rw[if_neg L];trivial
 |map es=>
  obtain⟨b,F,en,f,g,y,t,u,z,A,R⟩:=a;refine⟨b,F,en,f,g,y,t,by simpa using u,fun i hi=>?_,fun i hi=>?_,fun i hi=>?_⟩
  ·obtain⟨e,S,Y,X,O⟩:=z i (by simpa using hi);exact⟨e,S,Y,X,by simpa using O⟩
  ·obtain⟨e,S,Y,X,O⟩:=z i (by simpa using hi);simp only[dn];exact Tl (A i (by simpa using hi)) O.1
  simp only[dn];exact V dE true _ _ (R i (by simpa using hi))
 |pend bz j=>exact a
 |it s pos=>exact a
 |mit es ab k=>
  obtain⟨b,r,B,F,seen,en,f,g,y,t,u,z,A,R,q7,q8,q9,E,H⟩:=a;have C:Ext (c.still false) w ((c.sealUp base (jT base σ)).still false) w:=tz (fun b h=>.inl h) (fun h=>by cases h);refine⟨b,r,B,F,seen,en,f,g,y,t,.inl u,z,A,R,fun i hi=>(q7 i hi).ext C,fun i hi=>(q8 i hi).ext C,q9,E,fun e h=>?_⟩;obtain⟨l1,st,q,l2,l3,l4,l5⟩:=H e h;exact⟨l1,st,q,l2,l3,l4.ext C,l5.ext C⟩
 |dead=>trivial
theorem iR.sealUp{i:dk}{w0:World}(h:iR i w0 c w)(n:fd M w c σ)(p:i.N=base)(e:base≤σ.length):iR i w0 (c.sealUp base (jT base σ)) w where
 sld:=fun b e=>.inl (h.sld b e)
 bor:=fun b e=>.inl (h.bor b e)
 rest:=h.rest
 N:=by show i.N≤(jT base σ).length;rw[uS e,p];exact aF _
 head:=fun id hid=>by
  show (i.H id).le (hd (jT base σ) id);rcases ub (σ:=σ) (show id<base by omega) e with a|a
  ·rw[a,←n.H];exact h.head id hid
  rw[a];exact .inr (.inl rfl)
 place:=fun id hid q j=>by
  refine h.place id hid ?_ j;have k:i.H id=hd (jT base σ) id:=q;rcases ub (σ:=σ) (show id<base by omega) e with a|a
  ·rw[k,a,←n.H]
  exact absurd (k.trans a) j
 same:=h.same
 size:=h.size
 frame:=h.frame
 old:=fun b d g=>by
  rcases d with d|⟨id,_,m,o⟩
  ·exact h.old b d g
  exact .inr (h.liv id b m o g)
 oldb:=fun b d g=>by
  rcases d with d|⟨id,_,m,o⟩
  ·exact h.oldb b d g
  exact .inr (h.liv id b m o g)
 liv:=fun id b d m g=>by
  refine h.liv id b ?_ m g;have f:hd (jT base σ) id≠.dead:=d;have l:=Jg f;rw[uS e]at l;rcases ub (σ:=σ) l e with a|a
  ·rw[n.H,←a];exact f
  exact absurd a f
theorem Ko{e:Nat}:∀{l:List Nat} {env:List aq},pC (clear env l) e=pC env e∨pC (clear env l) e=.any
 |[],_=>.inl rfl
 |i::r,env=>by
  simp only[clear];rcases Ko (e:=e) (l:=r) (env:=env.set i .any) with h|h
  ·rw[h];by_cases hi:i=e
   ·subst hi;unfold pC;rw[dw];simp only[cw];split
    ·exact .inr rfl
    exact .inr rfl
   exact .inl (Bn hi)
  exact .inr h
theorem ot.clear{env:List aq}{em:List Tmp}{tmps:Array Value}(h:ot M w c env [] (yu em) tmps)(l:List Nat):ot M w c (clear env l) [] (yu em) tmps:=fun t x a=>by
 have d:=h t x a;unfold yu at a;obtain⟨e,_,rfl⟩:=bJ a;show R M w c (pC (Go.AM.clear env l) e) _;rcases Ko (e:=e) (l:=l) (env:=env) with b|b
 ·rw[b];exact d
 rw[b];exact .any
theorem Qc{k:dk}{w0:World}{s:St}{em:List Tmp}{tmps:Array Value}{clr:List Nat}(d:fd M w c s.st)(b:iR k w0 c w)(q:k.N=base)(p:ot M w c s.env [] (yu em) tmps) :
  ∃c',fd M w c' (bQ base clr s).st∧iR k w0 c' w∧ot M w c' (bQ base clr s).env [] (yu em) tmps ∧
   ∀r,¬c.bor r→(∀id,c.H id≠.dead→c.place id≠some r)→¬c'.bor r∧∀id,c'.H id≠.dead→c'.place id≠some r:=by
 have i:base≤s.st.length:=by rw[←q,←d.N];exact b.N
 unfold bQ;split
 ·exact⟨c,d,b,p.clear clr,fun r n j=>⟨n,j⟩⟩
 refine⟨c.sealUp base (jT base s.st),d.sealUp i,b.sealUp d q i,fun t x o=>?_,fun r n j=>⟨fun h=>?_,fun id A=>?_⟩⟩
 rotate_left
 ·rcases h with h|⟨id,_,u,y⟩
  ·exact n h
  exact j id u y
 ·have a:hd (jT base s.st) id≠.dead:=A;have f:=Jg a;rw[uS i]at f;refine j id ?_;rcases ub (σ:=s.st) f i with m|m
  ·rw[d.H,←m];exact a
  exact absurd m a
 have z:=(p.clear clr) t x o;unfold yu at o;obtain⟨e,_,rfl⟩:=bJ o;have l:R M w c (pC (Go.AM.clear s.env clr) e) (tmps.getD t undef):=z;show R M w _ (pC ((Go.AM.clear s.env clr).map (cn base s.st)) e) _;have g:pC ((Go.AM.clear s.env clr).map (cn base s.st)) e=cn base s.st (pC (Go.AM.clear s.env clr) e)∨pC ((Go.AM.clear s.env clr).map (cn base s.st)) e=.any:=by
  unfold pC;rw[eE];cases (Go.AM.clear s.env clr)[e]? with
  |none=>exact .inr rfl
  |some v=>exact .inl rfl
 rcases g with g|g
 ·rw[g];exact SK d (sj d i) dE true _ _ l
 rw[g];exact .any
end Go.AM
namespace Go.AM
variable {M:dm} {P:Program} {w w':World} {c c':dk} {σ:aw}
structure Hid (n0:Nat) (w:World) (c:dk) (r:Nat):Prop where
 new:n0≤r
 at_:w.heap[r]?=some (.deferred (some []))
 bor:¬c.bor r
 place:∀id,c.H id≠.dead→c.place id≠some r
theorem Hid.lt{n0 r:Nat}(h:Hid n0 w c r):r<w.heap.size:=(bE.1 h.at_).1
theorem Hid.stp{n0 r:Nat}(h:Hid n0 w c r)(a:iR c w c' w'):Hid n0 w' c' r where
 new:=h.new
 at_:=by rw[a.frame r h.lt h.place];exact h.at_
 bor:=fun b=>by
  rcases a.oldb r b h.lt with b|⟨i,e,d⟩
  ·exact h.bor b
  exact h.place i e d
 place:=fun id e d=>by
  obtain⟨i,g,f⟩:=a.liv id r e d h.lt;exact h.place i g f
def rk(n0:Nat)(w:World)(c:dk):List Deferred→Prop
 |[]=>True
 |d::ds=>(∃r,d.target=.collected r∧Hid n0 w c r∧∀d'∈ds,d'.target≠.collected r)∧rk n0 w c ds
theorem rk.stp{n0:Nat}(a:iR c w c' w'):∀{b:List Deferred},rk n0 w c b→rk n0 w' c' b
 |[],_=>trivial
 |_::_,⟨⟨r,f,e,d⟩,h⟩=>⟨⟨r,f,e.stp a,d⟩,h.stp a⟩
theorem rk.same{n0:Nat}(h:∀r,¬c.bor r→(∀id,c.H id≠.dead→c.place id≠some r)→¬c'.bor r∧∀id,c'.H id≠.dead→c'.place id≠some r):∀{b:List Deferred},rk n0 w c b→rk n0 w c' b
 |[],_=>trivial
 |_::_,⟨⟨r,f,a,d⟩,e⟩=>⟨⟨r,f,⟨a.new,a.at_,(h r a.bor a.place).1,(h r a.bor a.place).2⟩,d⟩,e.same h⟩
theorem rk.lt{n0:Nat}:∀{a:List Deferred},rk n0 w c a→∀d∈a,∃r,d.target=.collected r∧r<w.heap.size
 |_::_,⟨⟨r,b,e,_⟩,h⟩,d,hd=>by
  rcases dY.1 hd with rfl|hd
  ·exact⟨r,b,e.lt⟩
  exact h.lt d hd
theorem iR.hid{k:dk}{w0:World}{r:Nat}{o:Go.Obj}(h:iR k w0 c w)(p:fd M w c σ)(d:Hid w0.heap.size w c r)(f:uW w w' r o):fd M w' c σ∧Ext c w c w'∧iR k w0 c w':=by
 have g:∀b,(c.bor b∨∃id,c.H id≠.dead∧c.place id=some b)→b≠r:=fun b a e=>by
  subst e;rcases a with a|⟨i,m,q⟩
  ·exact d.bor a
  exact d.place i m q
 obtain⟨n,j⟩:=p.over (w':=w') (fun b _ a=>by rw[f.get b d.lt,if_neg (g b a)]) (by rw[f.size];exact aF _);refine⟨n,j,{ Ext.trans h.toExt j with
  same:=h.same.trans f.toSame
  size:=by rw[f.size];exact h.size
  frame:=fun b a l=>by
   rw[f.get b d.lt,if_neg (by have:=d.new;omega)];exact h.frame b a l
  liv:=h.liv
  old:=h.old
  oldb:=h.oldb }⟩
theorem rk.over{n0 r:Nat}{o:Go.Obj}(a:r<w.heap.size)(k:uW w w' r o):∀{f:List Deferred},(∀d∈f,d.target≠.collected r)→rk n0 w c f→rk n0 w' c f
 |[],_,_=>trivial
 |d::f,i,⟨⟨q,j,b,m⟩,h⟩=>by
  refine⟨⟨q,j,⟨b.new,?_,b.bor,b.place⟩,m⟩,h.over a k fun l g=>i l (cf _ g)⟩;rw[k.get q a,if_neg]
  ·exact b.at_
  intro e;subst e;exact i d dH j
theorem Dt{F:Fence}{n:Nat}{fn:Func}{tmps:Array Value}{i:dk}{w0:World}{R:Ending→World→Prop}:∀(e:List Deferred) (w:World),fd M w c σ→iR i w0 c w→rk w0.heap.size w c e →
  (∀w',fd M w' c σ→Ext c w c w'→iR i w0 c w'→∃v,(Go.results fn tmps).run P w'=.ok v w'∧R (.returned v) w')→LeavesInM F n P fn tmps R e .returning w
 |[],w,f,b,_,h=>h w f (.refl c w) b
 |d::e,w,f,b,⟨⟨r,m,g,s⟩,t⟩,h=>by
  have a:uW w (w.putObj r (.deferred none)) r (.deferred none):=⟨⟨rfl,rfl,rfl,aF _⟩,rfl⟩;obtain⟨p,j,q⟩:=b.hid f g a;exact⟨by simp,.inl ⟨r,_,m,run_takeDeferred g.at_,Dt e _ p q (t.over g.lt a s) fun w' o l k=>h w' o (j.trans l) k⟩⟩
theorem fd.drop(d:fd M w c σ){id b:Nat}{o:Go.Obj}(p:c.H id≠.dead)(n:c.place id=some b)(k:uW w w' b o) :
  fd M w' { c with H:=hd (σ.set id .dead) } (σ.set id .dead)∧iR c w { c with H:=hd (σ.set id .dead) } w':=by
 have l:=(d.plow id b p n).1;have t:∀i,hd (σ.set id .dead) i=if i=id then .dead else hd σ i:=fun i=>by
  by_cases e:i=id
  ·subst e;rw[if_pos rfl];unfold hd;rw[dw];simp only[cw];split<;>rename_i h<;>split at h<;>simp_all
  rw[if_neg e,kJ e]
 have a:∀i,hd (σ.set id .dead) i≠.dead→c.H i≠.dead∧i≠id:=fun i h=>by
  rw[t]at h;split at h
  ·exact absurd rfl h
  rw[d.H];exact⟨h,by assumption⟩
 have f:Ext c w { c with H:=hd (σ.set id .dead) } w':=⟨fun _ h=>h,fun _ h=>h,fun x m=>by
  rw[k.get x l,if_neg];rintro rfl;exact (d.plow id x p n).2 (m.elim (fun h=>h) (d.sb x)),aF _,fun i hi=>by
  show (c.H i).le (hd (σ.set id .dead) i);rw[t];split
  ·exact .inr (.inl rfl)
  exact .inl (by rw[d.H]),fun i hi h y=>⟨rfl,rfl,rfl⟩⟩
 refine⟨⟨rfl,by rw[gj];exact d.N,d.sb,fun x m=>by rw[k.size];exact d.low x m,fun i x r s=>?_,fun i j x hi z=>d.inj i j x (a i hi).1 (a j z).1,fun i o' g=>?_⟩,{ f with same:=k.toSame,size:=by rw[k.size];exact aF _,frame:=fun x m u=>?_,liv:=fun i x r s _=>⟨i,(a i r).1,s⟩,old:=fun _ h _=>.inl h,oldb:=fun _ h _=>.inl h }⟩
 ·obtain⟨A,v⟩:=d.plow i x (a i r).1 s;exact⟨by rw[k.size];exact A,v⟩
 ·by_cases e:i=id
  ·subst e;rw[dw]at g;simp only[cw]at g;split at g
   ·cases g;trivial
   cases g
  rw[aD (fun h=>e h.symm)]at g;refine (d.obj i o' g).ext f (fun _=>⟨rfl,rfl,rfl⟩) fun q x m=>?_;rw[k.get x l,if_neg];rintro rfl;exact e (d.inj i id x (by rw[d.H];exact fun h=>q ((rO g).1 h)) p m n)
 rw[k.get x l,if_neg (fun e=>u id p (by subst e;exact n))]
theorem fd.pend(a:fd M w c σ){id b:Nat}{v bz':Bool}{j j':Option Ex}{o:Go.Obj}(s:σ[id]?=some (.pend v j))(p:c.place id=some b)(l:uW w w' b o)
  (m:o=.loop (match bz',j' with
    |true,_=>sn (c.loops id) .busy none
    |false,none=>sn (c.loops id) .ready none
    |false,some e=>sn (c.loops id) .done (uo e))) :
  fd M w' c (σ.set id (.pend bz' j'))∧iR c w c w':=by
 have q:c.H id≠.dead:=by rw[a.H,fe s];simp
 have k:=(a.plow id b q p).1;have g:Ext c w c w':=⟨fun _ h=>h,fun _ h=>h,fun x n=>by
  rw[l.get x k,if_neg];rintro rfl;exact (a.plow id x q p).2 (n.elim (fun h=>h) (a.sb x)),aF _,fun i hi=>.inl rfl,fun i hi h A=>⟨rfl,rfl,rfl⟩⟩
 have t:id<σ.length:=(ak.1 s).1;have f:(σ.set id (.pend bz' j'))[id]?=some (.pend bz' j'):=by simp[t]
 have C:hd (σ.set id (.pend bz' j'))=hd σ:=by
  funext i;by_cases e:i=id
  ·subst e;rw[fe f,fe s]
  rw[kJ e]
 refine⟨⟨by rw[C];exact a.H,by rw[gj];exact a.N,a.sb,fun x n=>by rw[l.size];exact a.low x n,fun i x z B=>?_,a.inj,fun i o' d=>?_⟩,iR.setB a q p l g⟩
 ·obtain⟨y,u⟩:=a.plow i x z B;exact⟨by rw[l.size];exact y,u⟩
 by_cases e:i=id
 ·subst e;rw[f]at d;cases d;exact⟨b,p,by rw[l.get b k,if_pos rfl,m];cases bz'<;>cases j'<;>rfl⟩
 rw[aD (fun h=>e h.symm)]at d;refine (a.obj i o' d).ext g (fun _=>⟨rfl,rfl,rfl⟩) fun r x n=>?_;rw[l.get x k,if_neg];rintro rfl;exact e (a.inj i id x (by rw[a.H];exact fun h=>r ((rO d).1 h)) q n p)
end Go.AM
namespace Go.AM
variable {M:dm} {P:Program}
section
variable {F:Fence} {n:Nat} {Q:Exit→Act→World→Prop} {a:Act} {w:World}
theorem pF{b:Frame}{k:List Item}{cs:List Frame}{c:Go.Code}:Go.step P (lone (b.atR a (.code (.scope c)::k)) cs w)=.next (lone (b.atR a (.code c::.inScope c::k)) cs w):=
 step_lone_go (by simp[stepG,stepG.exec,Frame.atR])
theorem Jz{b:Frame}{k:List Item}{cs:List Frame}{c:Go.Code}:Go.step P (lone (b.atR a (.inScope c::k)) cs w)=.next (lone (b.atR a k) cs w):=
 step_lone_go (by simp[stepG,stepG.exec,Frame.atR])
theorem Sa{c:Go.Code}(h:c.wpIn F n P (Exit.noGoto Q) a w):(Go.Code.scope c).wpIn F n P Q a w:=by
 intro b k cs p r o;have i:(lone (b.atR a (.code (.scope c)::k)) cs w).fenced P F:=fenced_calm r o rfl;obtain⟨e,g,f,j,d⟩:=h b (.inScope c::k) cs p r o;cases e with
 |normal=>exact⟨.normal,g,f,j,.head i pF (StepsIn.trans d (.one (fenced_calm r o rfl) Jz))⟩
 |exit id=>
  have t:exitTo id (.inScope c::k)=exitTo id k:=by simp[exitTo]
  exact⟨.exit id,g,f,j,fun v s=>.head i pF (d.1 v (by rw[t];exact s)),
   fun q s=>let ⟨m,u,x⟩:=d.2 q (by rw[t];exact s);⟨m,u,.head i pF x⟩⟩
 |goto l=>exact j.elim
 |ret=>exact⟨_,g,f,j,.of_steps (.one i pF) d⟩
 |panic y=>exact⟨_,g,f,j,.of_steps (.one i pF) d⟩
 |outgrown=>exact⟨_,g,f,j,.of_steps (.one i pF) d⟩
end
def Sx:Ex→Exit
 |.nrm=>.normal
 |.ext id=>.exit id
 |.ret=>.ret
def Fh:Go.Code→Bool
 |.skip=>true
 |.label _=>true
 |_=>false
inductive gl (M:dm) (P:Program) (cA:Nat→Bool) (em:List Tmp) (nt:Nat) (top:Bool):Go.Code→az→Prop
 |nop {c}:Fh c=true→gl M P cA em nt top c .skip
 |text {id ops ins os its}:xQ M P cA ops ins em its (fun i=>2^i-1) [] none nt→xM ops.toList em its os=true→gl M P cA em nt top (.region id ops false) (.reg ins os)
 |any {id ops ins os its bef late}:xQ M P cA ops ins em its bef [] late nt→Ul ops bef→xM ops.toList em its os=true→gl M P cA em nt top (.region id ops true) (.reg ins os)
 |anyd {id ops ins os its bef chk late}:xQ M P cA ops ins em its bef chk late nt→Ul ops bef→xM ops.toList em its os=true→gl M P cA em nt top (.region id ops true) (.regd ins os chk)
 |seq {a b x y}:gl M P cA em nt top a x→gl M P cA em nt top b y→gl M P cA em nt top (.seq a b) (.seq x y)
 |left {a b x}:Fh b=true→gl M P cA em nt top a x→gl M P cA em nt top (.seq a b) x
 |right {a b y}:Fh a=true→gl M P cA em nt top b y→gl M P cA em nt top (.seq a b) y
 |cond {t a b t' x y}:lZ M (yu em) t t'=true→gl M P cA em nt top a x→gl M P cA em nt top b y→gl M P cA em nt top (.cond t a b) (.cond t' x y)
 |blk {id a x}:gl M P cA em nt top a x→gl M P cA em nt top (.block id a) (.blk id x)
 |loop {clr a x}:gl M P cA em nt top a x→gl M P cA em nt top (.loop a) (.loop clr x)
 |exit {id}:gl M P cA em nt top (.exit id) (.exit id)
 |ret:gl M P cA em nt top .ret .ret
 |scope {a x}:gl M P cA em nt top a x→gl M P cA em nt top (.scope a) (.scope x)
 |lift {c x i off k}:gl M P cA em nt top c x→gl M P cA em nt top c (.lift i off k x)
 |rng {g ps assign body f site n}:top=true→lZ M (yu em) g f=true→em.Nodup→(∀t∈em,t<nt)→n=em.length →
   (∀fn tmps defers,nt≤tmps.size→M.site site ⟨fn,tmps,ps,assign,body,defers⟩ em)→gl M P cA em nt top (.rangeFunc g ps assign body) (.rng n f site)
structure SR (M:dm) (em:List Tmp) (nt m0:Nat) (c:dk) (w:World) (s:St) (a:Act):Prop where
 sim:fd M w c s.st
 tmp:ot M w c s.env [] (yu em) a.tmps
 size:nt≤a.tmps.size
 base:m0≤w.heap.size
 marks:rk m0 w c a.defers
section
variable {cA:Nat→Bool} {em:List Tmp} {nt:Nat} {top:Bool} {C:ir} {n:Nat} {F:Fence} {n0:Nat}
theorem Sb{c:Go.Code}(h:Fh c=true){Q:Exit→Act→World→Prop}{a:Act}{w:World}(b:Q .normal a w):c.wpIn F n0 P Q a w:=by
 cases c<;>simp[Fh]at h
 ·exact wpIn_skip b
 exact wpIn_label b
theorem Cu{p:Nat→Prop}(h:∃k,p k):∃k,p k∧∀j,p j→k≤j:=by
 obtain⟨k,d⟩:=h;induction k using Nat.strongRecOn with
 |_ k e=>
  by_cases b:∃j,j<k∧p j
  ·obtain⟨j,g,f⟩:=b;exact e j g f
  exact⟨k,d,fun j c=>Nat.le_of_not_lt fun a=>b ⟨j,a,c⟩⟩
open Classical in
noncomputable def If(p:Nat→Prop):Nat:=if h:∃k,p k∧∀j,p j→k≤j then Classical.choose h else 0
theorem QU{p:Nat→Prop}(h:∃k,p k):p (If p):=by
 have a:=Cu h;unfold If;rw[dif_pos a];exact (lh a).1
theorem aaI{p:Nat→Prop}{k:Nat}(h:p k):If p≤k:=by
 have a:=Cu ⟨k,h⟩;unfold If;rw[dif_pos a];exact (lh a).2 k h
def Zv(M:dm)(P:Program)(em:List Tmp)(nt:Nat)(F:Fence)(n0:Nat)(f:St→Option (Ex×St))(code:Go.Code):Prop:=
 ∀(s:St) (e:Ex) (s':St),f s=some (e,s')→∀(m0:Nat) (c0:dk) (w0:World) (a0:Act),kS M w0 c0→SR M em nt m0 c0 w0 s a0→∀Q:Exit→Act→World→Prop,
  (∀a w c,SR M em nt m0 c w s' a→iR c0 w0 c w→Q (Sx e) a w)→code.wpIn F n0 P Q a0 w0
theorem P3{f:St→Option (Ex×St)}{code:Go.Code}(h:Zv M P em nt F n0 f code)(clr:List Nat)(o:Nat):Zv M P em nt F n0 (fun s=>rX s.st.length clr f o ⟨clear s.env clr,s.st⟩) (.loop code):=by
 intro s e s' L z l w0 G D i Q v;have O:l.N=s.st.length:=i.sim.N
 let J:Nat→Act→World→Prop:=fun k a w=>∃m c,SR M em nt z c w m a∧iR l w0 c w∧rX s.st.length clr f k m=some (e,s')
 have q:J o G w0:=⟨⟨clear s.env clr,s.st⟩,l,⟨i.sim,i.tmp.clear clr,i.size,i.base,i.marks⟩,.refl l w0,L⟩;refine wpIn_loop (fun a w=>∃k,J k a w) (fun a w=>If fun k=>J k a w) ⟨o,q⟩ fun a w C=>?_;have A:J (If fun k=>J k a w) a w:=QU (p:=fun k=>J k a w) C;generalize B:(If fun k=>J k a w)=k at A;obtain⟨m,c,t,g,u⟩:=A;cases k with
 |zero=>simp[rX]at u
 |succ k=>
  simp only[rX]at u;obtain⟨⟨y,I⟩,N,j⟩:=bN u;refine h m y I N z c w a (D.ext g.toExt) t _ fun n w' c' b d=>?_;cases y with
  |nrm=>
   obtain⟨r,E,K,R,H⟩:=Qc (clr:=clr) b.sim (g.trans d) O b.tmp;have x:J k n w':=⟨_,r,⟨E,R,b.size,b.base,b.marks.same H⟩,K,j⟩;refine⟨⟨k,x⟩,?_⟩;exact Nat.lt_succ_of_le (aaI (p:=fun k=>J k n w') x)
  |ext id=>
   simp only[aL,dZ]at j;obtain⟨rfl,rfl⟩:=j;exact v n w' c' b (g.trans d)
  |ret=>
   simp only[aL,dZ]at j;obtain⟨rfl,rfl⟩:=j;exact v n w' c' b (g.trans d)
theorem Tt{w:World}{c:dk}{env:List aq}{a:Act}{x:Operand}{b:db}(d:ot M w c env [] (yu em) a.tmps)(e:kS M w c)(h:lZ M (yu em) x b=true):R M w c (b.eval env []) (a.eval x):=Kt d e h
theorem DJ{f:Type}{l:List f}(h:l.Nodup){i j:Nat}(hi:i<l.length)(c:j<l.length)(e:l[i]=l[j]):i=j:=by
 have d:=mL.1 h;rcases gh i j with a|b|a
 ·exact absurd e (d i j hi c a)
 ·exact b
 exact absurd e.symm (d j i c hi a)
theorem lQ.ext{w w':World}{c c':dk}{xs:List aq}{A:Array Value}(h:lQ M w c xs A)(b:Ext c w c' w'):lQ M w' c' xs A:=
 ⟨h.1,fun i hi=>let ⟨x,a,d⟩:=h.2 i hi;⟨x,a,d.ext b⟩⟩
theorem WX(hC:lN M P C)(hF:u6 F)(bn:F.round=none){g:Operand}{ps:Array Tmp}{assign body:Go.Code}{f:db}{n:Nat}(hf:lZ M (yu em) g f=true)(a7:em.Nodup)(a8:∀t∈em,t<nt){s s':St}{e:Ex}(al:s.env.length=em.length)
  (O:∀fn tmps defers,nt≤tmps.size→M.site n ⟨fn,tmps,ps,assign,body,defers⟩ em) {v:aq} {y:aw} (Z:Hh C (f.eval s.env []) [.yld s.st.length n s.env] (s.st++[.pend false none])=some (v,y))
  (X:sJ s.st.length s.env y=some (e,s')) {m0:Nat} {o:dk} {w0:World} {z:Act} (hg:kS M w0 o) (p:SR M em nt m0 o w0 s z) (Q:Exit→Act→World→Prop)
  (hQ:∀a w c,SR M em nt m0 c w s' a→iR o w0 c w→Q (Sx e) a w):(Go.Code.rangeFunc g ps assign body).wpIn F n0 P Q z w0:=by
 have a3:=Tt (env:=s.env) p.tmp hg hf;unfold Hh at Z;split at Z
 ·rename_i Y first cap bf
  rw[bf]at a3;obtain⟨fs,cs,he,H,a1⟩:=Ov a3;apply wpIn_rangeFunc;intro fn bp;generalize A:(⟨fn,z.tmps,ps,assign,body,w0.heap.size⟩:mi)=l;have af:=run_enterLoop_outer (P:=P) (w:=w0) fn z.tmps ps assign body;rw[bn]
  have bo:∀b,b<w0.heap.size→(lj w0 (.deferred (some []))).heap[b]?=w0.heap[b]?:=fun b G=>gJ G;obtain⟨s1,x1⟩:=p.sim.over (w':=lj w0 (.deferred (some []))) (fun b G _=>gJ G) (by rw[fO];omega);have a4:iR o w0 o (lj w0 (.deferred (some []))):={ x1 with same:=pP,size:=by rw[fO];omega,frame:=fun b G _=>gJ G,liv:=fun i b Z X _=>⟨i,Z,X⟩,old:=fun _ h _=>.inl h,oldb:=fun _ h _=>.inl h };generalize V:lj w0 (.deferred (some []))=k at s1 x1 a4;have ar:k.heap.size=w0.heap.size+1:=by rw[←V,fO]
  have a2:∀b,b<k.heap.size→(lj k (.loop (sn l .ready none))).heap[b]?=k.heap[b]?:=fun b G=>gJ G;have s2:fd M (lj k (.loop (sn l .ready none))) (o.grow (s.st++[.pend false none]) (some k.heap.size) 0 l) (s.st++[.pend false none]):=by
   refine s1.grow _ _ _ _ a2 (by rw[fO];omega) (fun b G=>by cases G;rw[fO];omega) ⟨k.heap.size,by simp[dk.grow,s1.N],?_⟩;rw[rZ];simp[dk.grow,s1.N]
  have J:iR o k (o.grow (s.st++[.pend false none]) (some k.heap.size) 0 l) (lj k (.loop (sn l .ready none))):=
   iR.grow s1 _ _ _ _ pP a2 (by rw[fO];omega) (fun b G=>by cases G;exact aF _)
  have hN:o.N=s.st.length:=p.sim.N;have K:(o.grow (s.st++[.pend false none]) (some k.heap.size) 0 l).loops s.st.length=l:=by simp[dk.grow,hN]
  have I:(o.grow (s.st++[.pend false none]) (some k.heap.size) 0 l).place s.st.length=some k.heap.size:=by simp[dk.grow,hN]
  have L:(o.grow (s.st++[.pend false none]) (some k.heap.size) 0 l).H s.st.length=.pend:=by
   show hd (s.st++[.pend false none]) s.st.length=_;rw[fe oD]
  have S:s.st.length<(o.grow (s.st++[.pend false none]) (some k.heap.size) 0 l).N:=by simp[dk.grow]
  generalize bg:o.grow (s.st++[.pend false none]) (some k.heap.size) 0 l=c2 at s2 J K I L S;generalize av:lj k (.loop (sn l .ready none))=D at s2 J;have m:=a4.trans J;have ab:R M D c2 (.yld s.st.length n s.env) (.func (.yield k.heap.size) #[] #[]):=by
   refine .yld (em:=em) (fun i=>z.tmps.getD (em.getD i 0) undef) S L I ?_ al.symm ?_ ?_
   ·rw[K,←A];exact O _ _ _ p.size
   ·intro i hi hx;have a9:em[i]<z.tmps.size:=bu (a8 _ (aJ hi)) p.size;rw[K,←A];show z.tmps[em[i]]?=_;simp[Array.getD,hi,a9]
   intro i hi;have an:i<em.length:=by omega
   have hr:=p.tmp em[i] (.env i) (by
    unfold yu;rw[show em.idxOf? em[i]=some i by
     rw[List.idxOf?,dD];refine⟨an,by simp,fun j hj=>?_⟩;simp only[aX];exact fun e=>absurd (DJ a7 _ _ e) (by omega)]
    rfl)
   have e1:(db.env i).eval s.env []=s.env[i]:=by
    show pC s.env i=_;unfold pC;rw[au hi];rfl
   rw[e1]at hr;simpa [List.getD,an] using hr.ext m.toExt
  have U:lQ M D c2 (first++[.yld s.st.length n s.env]++cap) (fs++#[.func (.yield k.heap.size) #[] #[]]++cs):=
   ((lQ.ext H m.toExt).append ⟨rfl,fun i hi=>by
    have:i=0:=by simpa using hi
    subst this;exact⟨_,rfl,ab⟩⟩).append (lQ.ext a1 m.toExt)
  have E:=hC Y _ _ v y Z F (n0-1) D c2 _ hF s2 (hg.ext m.toExt) U;have u:=E.2 ⟨.yld s.st.length n s.env,by simp,rfl⟩ (fs++#[.func (.yield k.heap.size) #[] #[]]++cs) D;have bh:CallsIn F (n0-1) P (M.fm Y) (fs++#[.func (.yield k.heap.size) #[] #[]]++cs) D fun e w'=>∃cv,e=.returned cv∧ig M c2 D y v cv w':=by
   rcases E.1 with⟨_,h⟩|⟨cv,w',h,_⟩
   ·exact h
   rw[u]at h;cases h
  refine⟨w0.heap.size+1,[{ target:=.collected w0.heap.size,args:=#[] }],D,{ target:=.fn (.func (M.fm Y)) cs,args:=fs++#[.func (.yield k.heap.size) #[] #[]] },D,M.fm Y,_,D,?_,?_,fun f' _=>hF.fn f',?_,fun h=>absurd h (by rw[hF.depth];simp),bh.mono ?_⟩
  ·rw[af,←av,←V,←A];rfl
  ·have:z.eval g=.func (.func (M.fm Y)) fs cs:=he;simp only[rangeCall,Go.resolve,this,Deferred.ofValue,ar];show Sem.run P (pure (⟨Target.fn (Fn.func (M.fm Y)) cs,fs++(#[Operand.const (Value.func (Fn.yield (w0.heap.size+1)) #[] #[])].map z.eval)⟩:Deferred)) D=_;simp[Act.eval]
  ·exact u
  intro e' w' ⟨cv,bc,c3,s3,T,_⟩;subst bc
  have ag:∃j,y[s.st.length]?=some (.pend false j)∧e=(match j with|none=>.nrm|some e=>e)∧s'=⟨s.env,y.set s.st.length .dead⟩:=by
   unfold sJ at X;split at X
   ·cases X;exact⟨none,by assumption,rfl,rfl⟩
   ·cases X;exact⟨some _,by assumption,rfl,rfl⟩
   cases X
  obtain⟨j,hj,bi,aj⟩:=ag;have ad:c3.H s.st.length=.pend:=by rw[s3.H,fe hj]
  obtain⟨p1,p2,p3⟩:=T.place s.st.length S (by rw[L,ad]) (by rw[L];simp);obtain⟨b,b1,b2⟩:=s3.obj _ _ hj;rw[p1,I]at b1;cases b1;rw[p3,K]at b2;have a5:c3.H s.st.length≠.dead:=by rw[ad];simp
  have bk:c3.place s.st.length=some k.heap.size:=by rw[p1,I]
  obtain⟨r,be,bl,N⟩:∃r:Loop,w'.heap[k.heap.size]?=some (.loop r)∧r.state≠.busy∧r.pending=uo e:=by
   refine⟨_,b2,?_,?_⟩
   ·cases j<;>simp[sn]
   rw[bi];cases j with
   |none=>rfl
   |some e=>rfl
  have B:=run_endLoop (P:=P) be bl;have ah:uW w' (w'.putObj k.heap.size (.loop { r with state:=.exhausted })) k.heap.size (.loop { r with state:=.exhausted }):=⟨⟨rfl,rfl,rfl,aF _⟩,rfl⟩;obtain⟨s4,ae⟩:=s3.drop a5 bk ah;have st:=(m.trans T).trans ae;have a6:rk m0 D c2 ({ target:=.collected w0.heap.size,args:=#[] }::z.defers):=by
   refine⟨⟨w0.heap.size,rfl,⟨p.base,?_,?_,?_⟩,fun d hd e=>?_⟩,p.marks.stp m⟩
   ·rw[←av,gJ (by omega),←V,rZ]
   ·rw[←bg];exact fun h=>absurd (p.sim.low _ h) (by omega)
   ·intro id hl bb;obtain⟨i,i1,i2⟩:=J.liv id _ hl bb (by omega);exact absurd (p.sim.plow i _ i1 i2).1 (by omega)
   obtain⟨q,q1,q2⟩:=p.marks.lt d hd;rw[q1]at e;cases e;omega
  have ao:SR M em nt m0 _ (w'.putObj k.heap.size (.loop { r with state:=.exhausted })) s' { z with defers:=[{ target:=.collected w0.heap.size,args:=#[] }]++z.defers }:=
   ⟨by rw[aj];exact s4,by rw[aj];exact fun t x hx=>(p.tmp t x hx).ext st.toExt,p.size,bR p.base st.size,a6.stp (T.trans ae)⟩
  have hq:=hQ _ _ _ ao st;generalize w'.putObj k.heap.size (.loop { r with state:=.exhausted })=W at B hq;rw[N,ar]at B;refine⟨uo e,W,B,?_⟩;cases e with
  |nrm=>exact hq
  |ext id=>exact wpIn_exit hq
  |ret=>exact wpIn_ret hq
 cases Z
theorem fd.reval{w:World}{c:dk}{σ:aw}(g:fd M w c σ){id k ep:Nat}{es es':List aq}(l:σ[id]?=some (.arr k ep es))(p:es'.length=es.length)(q:∀x∈es',aM x=k)
  (A:∀f:Nat→Nat→Value,(∀i (hi:i<es.length) j (n:j<(cellsOf es[i]).length),R M w c (cellsOf es[i])[j] (f i j))→∀i (hi:i<es'.length) j (n:j<(cellsOf es'[i]).length),R M w c (cellsOf es'[i])[j] (f i j)) :
  fd M w c (σ.set id (.arr k ep es')):=by
 have m:id<σ.length:=(ak.1 l).1;have a:(σ.set id (.arr k ep es'))[id]?=some (.arr k ep es'):=by simp[m]
 have E:hd (σ.set id (.arr k ep es'))=hd σ:=by
  funext i;by_cases e:i=id
  ·subst e;rw[fe a,fe l]
  rw[kJ e]
 refine⟨by rw[E];exact g.H,by rw[gj];exact g.N,g.sb,g.low,g.plow,g.inj,fun i o d=>?_⟩;by_cases e:i=id
 ·subst e;rw[a]at d;cases d;obtain⟨C,F,z,s⟩:=g.obj i _ l;refine⟨C,q,fun v=>da (by rw[p,z v];rfl),fun b D=>?_⟩;obtain⟨cs,T,f,r,u,B,y,t⟩:=s b D;exact⟨cs,T,f,r,by rw[p];exact u,B,fun i j hi n=>y i j (by omega) n,A f t⟩
 rw[aD (fun h=>e h.symm)]at d;exact g.obj i o d
theorem Hv{w:World}{c:dk}{σ z:aw}(A:fd M w c σ){id ep j l k:Nat}(h:DI id ep j l k σ=some z):∃c',fd M w c' z∧iR c w c' w:=by
 unfold DI at h;split at h
 ·rename_i L e es s;split at h
  ·rename_i P;obtain⟨_,N⟩:=P;split at h
   ·rename_i cs p;split at h
    ·rename_i H;cases h;obtain⟨D,d⟩:=ak.1 p;obtain⟨E,C⟩:=ak.1 H;have hid:id<σ.length:=(ak.1 s).1;obtain⟨c',o,F,O⟩:=Gp A N none;have n:(σ++[.arr k 0 []])[id]?=some (.arr L e es):=by rw[aS hid];exact s
     have J:c'.H σ.length=.arr k 0:=by rw[o.H,fe oD]
     have I:σ.length<c'.N:=by rw[o.N];simp
     refine⟨c',?_,F⟩;have:=o.reval (es':=es.set j (.agg (cs.set l (.sl σ.length 0 0 0)))) n (by simp) (fun x r=>?_) (fun f y i hi q b=>?_)
     ·rwa [cF _ _ hid]at this
     ·obtain⟨_,t,_⟩:=A.obj id _ s;rcases eV r with r|rfl
      ·exact t x r
      rw[←t es[j] (aJ D),d];simp[aM]
     have g:i<es.length:=by simpa using hi
     by_cases u:i=j
     ·subst u;have m:(es.set i (.agg (cs.set l (.sl σ.length 0 0 0))))[i]=.agg (cs.set l (.sl σ.length 0 0 0)):=by simp
      simp only[m]at b ⊢;have key:∀q (E:q<(cs.set l (.sl σ.length 0 0 0)).length),R M w c' (cs.set l (.sl σ.length 0 0 0))[q] (f i q):=fun q E=>by
       have B:q<cs.length:=by simpa using E
       have a:R M w c' cs[q] (f i q):=by
        have:=y i g q (by rw[d];exact B);simp only[d]at this;exact this
       by_cases K:q=l
       ·subst K;rw[iL];rw[C]at a;generalize f i q=v at a;cases a with
        |ai=>exact .sl0 I J
       rw[gV (fun h=>K h.symm)];exact a
      exact key q b
     have m:(es.set j (.agg (cs.set l (.sl σ.length 0 0 0))))[i]=es[i]:=by rw[gV (fun h=>u h.symm)]
     simp only[m]at b ⊢;exact y i g q b
    cases h
   ·rename_i p;split at h
    ·cases h;obtain⟨D,d⟩:=ak.1 p;have hid:id<σ.length:=(ak.1 s).1;obtain⟨c',o,F,O⟩:=Gp A N none;have n:(σ++[.arr k 0 []])[id]?=some (.arr L e es):=by rw[aS hid];exact s
     have J:c'.H σ.length=.arr k 0:=by rw[o.H,fe oD]
     have I:σ.length<c'.N:=by rw[o.N];simp
     refine⟨c',?_,F⟩;have:=o.reval (es':=es.set j (.sl σ.length 0 0 0)) n (by simp) (fun x r=>?_) (fun f y i hi q b=>?_)
     ·rwa [cF _ _ hid]at this
     ·obtain⟨_,t,_⟩:=A.obj id _ s;rcases eV r with r|rfl
      ·exact t x r
      rw[←t es[j] (aJ D),d];rfl
     have g:i<es.length:=by simpa using hi
     by_cases u:i=j
     ·subst u;have m:(es.set i (.sl σ.length 0 0 0))[i]=.sl σ.length 0 0 0:=by simp
      simp only[m]at b ⊢;have G:q=0:=by simpa [cellsOf] using b
      subst G;show R M w c' (.sl σ.length 0 0 0) _;have a:R M w c' .ai (f i 0):=by
       have:=y i g 0 (by rw[d];simp[cellsOf]);simp only[d]at this;exact this
      generalize f i 0=v at a;cases a with
      |ai=>exact .sl0 I J
     have m:(es.set j (.sl σ.length 0 0 0))[i]=es[i]:=by rw[gV (fun h=>u h.symm)]
     simp only[m]at b ⊢;exact y i g q b
    cases h
   cases h
  cases h
 cases h
theorem Kv{id ep k:Nat}:∀(n:Nat) {w:World} {c:dk} {σ a:aw},fd M w c σ→Cc id ep k n σ=some a→∃c',fd M w c' a∧iR c w c' w
 |0,w,c,σ,a,b,h=>by cases h;exact⟨c,b,.refl c w⟩
 |n+1,w,c,σ,a,b,h=>by
  unfold Cc at h;obtain⟨g,f,j⟩:=bN h;obtain⟨o,d,e⟩:=Kv n b f;obtain⟨i,l,m⟩:=Hv d j;exact⟨i,l,e.trans m⟩
theorem aip{w:World}{c:dk}{σ a:aw}(b:fd M w c σ){p:aq}{off k:Nat}(h:Ia p off k σ=some a):∃c',fd M w c' a∧iR c w c' w:=by
 unfold Ia at h;split at h
 ·exact Hv b h
 ·split at h
  ·split at h
   ·exact Kv _ b h
   cases h
  exact Hv b h
 cases h
theorem xl(hm:P.follows .mixedOrders=true)(hp:wk cA C)(hC:lN M P C)(hR:kY M P C)(hF:u6 F)(ab:top=true→F.round=none){code:Go.Code}{x:az}(h:gl M P cA em nt top code x):Zv M P em nt F n0 (exec C n x) code:=by
 induction h with
 |nop R=>
  intro s e s' l B A w0 r z d Q o;simp only[exec,aL,dZ]at l;obtain⟨rfl,rfl⟩:=l;exact Sb R (o r w0 A d (.refl A w0))
 |@text id ag ae os aj O L=>
  intro s e s' l B A w0 r z d Q o;simp only[exec]at l;obtain⟨⟨ls,X⟩,J,D⟩:=bJ l;cases D;obtain⟨st,t1,t2,t3⟩:=PD J;refine NT O t1 hp (fun n j I h=>by cases h) hC hR hF z (by rw[t2];exact d.sim) d.tmp d.size L (fun a w Y=>?_) id;obtain⟨c,S,K,f3,f4,f5⟩:=Y;rw[t3]at S;exact o a w c ⟨S,f3,by rw[f4];exact d.size,bR d.base K.size,by rw[f5];exact d.marks.stp K⟩ K
 |@any id ag ae os aj ao af O T L=>
  intro s e s' l B A w0 r z d Q o;simp only[exec]at l;obtain⟨⟨ls,X⟩,J,D⟩:=bJ l;cases D;obtain⟨st,t1,t2,t3⟩:=PD J;refine HM hm T O t1 hp (fun n j I h=>by cases h) hC hR hF z (by rw[t2];exact d.sim) d.tmp d.size L (fun a w Y=>?_) id;obtain⟨c,S,K,f3,f4,f5⟩:=Y;rw[t3]at S;exact o a w c ⟨S,f3,by rw[f4];exact d.size,bR d.base K.size,by rw[f5];exact d.marks.stp K⟩ K
 |@anyd id ag ae os aj ao a4 af O T L=>
  intro s e s' l B A w0 r z d Q o;simp only[exec]at l;obtain⟨⟨ls,ss,X⟩,J,D⟩:=bN l;obtain⟨u,R,h3⟩:=bJ D;cases h3;obtain⟨st,t1,t2,t3,t4⟩:=WI J R;refine HM hm T O t1 hp t4 hC hR hF z (by rw[t2];exact d.sim) d.tmp d.size L (fun a w Y=>?_) id;obtain⟨c,S,K,f3,f4,f5⟩:=Y;rw[t3]at S;exact o a w c ⟨S,f3,by rw[f4];exact d.size,bR d.base K.size,by rw[f5];exact d.marks.stp K⟩ K
 |@seq a b x y _ _ W U=>
  intro s e s' l B A w0 r z d Q o;simp only[exec]at l;obtain⟨⟨e1,s1⟩,J,D⟩:=bN l;apply wpIn_seq;refine W s e1 s1 J B A w0 r z d _ fun G H E p m=>?_;cases e1 with
  |nrm=>
   exact U s1 e s' D B E H G (z.ext m.toExt) p Q fun a2 w2 c2 ar ad=>o a2 w2 c2 ar (m.trans ad)
  |ext id=>
   simp only[aL,dZ]at D;obtain⟨rfl,rfl⟩:=D;exact o G H E p m
  |ret=>
   simp only[aL,dZ]at D;obtain⟨rfl,rfl⟩:=D;exact o G H E p m
 |@left a b x hb _ N=>
  intro s e s' l B A w0 r z d Q o;apply wpIn_seq;refine N s e s' l B A w0 r z d _ fun G H E p m=>?_;have:=o G H E p m;cases e with
  |nrm=>exact Sb hb this
  |ext id=>exact this
  |ret=>exact this
 |@right a b y ha _ N=>
  intro s e s' l B A w0 r z d Q o;apply wpIn_seq;exact Sb ha (N s e s' l B A w0 r z d Q o)
 |@cond t a b t' x y ht _ _ W U=>
  intro s e s' l B A w0 r z d Q o;have R:=Tt (env:=s.env) d.tmp z ht;simp only[exec]at l;split at l
  ·rename_i T;rw[T]at R;have hv:r.eval t=.bool true:=by
    generalize r.eval t=q at R;cases R;rfl
   exact wpIn_cond_true hv (W s e s' l B A w0 r z d Q o)
  ·rename_i T;rw[T]at R;have hv:r.eval t=.bool false:=by
    generalize r.eval t=q at R;cases R;rfl
   exact wpIn_cond_false hv (U s e s' l B A w0 r z d Q o)
  cases l
 |@blk id a x _ N=>
  intro s e s' l B A w0 r z d Q o;simp only[exec]at l;obtain⟨⟨e1,s1⟩,J,D⟩:=bJ l;apply wpIn_block;refine N s e1 s1 J B A w0 r z d _ fun G H E p m=>?_;cases e1 with
  |nrm=>
   cases D;exact o G H E p m
  |ret=>
   cases D;exact o G H E p m
  |ext j=>
   simp only at D;show if j=id then Q .normal G H else Q (.exit j) G H
   split at D
   ·rename_i hj;cases D;rw[if_pos hj];exact o G H E p m
   rename_i hj;cases D;rw[if_neg hj];exact o G H E p m
 |@loop clr a x _ N=>exact P3 N clr n
 |exit=>
  intro s e s' l B A w0 r z d Q o;simp only[exec,aL,dZ]at l;obtain⟨rfl,rfl⟩:=l;exact wpIn_exit (o r w0 A d (.refl A w0))
 |ret=>
  intro s e s' l B A w0 r z d Q o;simp only[exec,aL,dZ]at l;obtain⟨rfl,rfl⟩:=l;exact wpIn_ret (o r w0 A d (.refl A w0))
 |@scope a x _ N=>
  intro s e s' l B A w0 r z d Q o;apply Sa;refine N s e s' l B A w0 r z d _ fun G H E p m=>?_;have:=o G H E p m;cases e<;>exact this
 |@lift code x i off k _ N=>
  intro s e s' l B A w0 r z d Q o;simp only[exec]at l;obtain⟨σ,J,D⟩:=bN l;obtain⟨E,l1,l2⟩:=aip d.sim J;exact N ⟨s.env,σ⟩ e s' D B E w0 r (z.ext l2.toExt) ⟨l1,fun t x hx=>(d.tmp t x hx).ext l2.toExt,d.size,d.base,d.marks.stp l2⟩ Q fun a w c p av=>o a w c p (l2.trans av)
 |@rng g ps assign body f a3 n Z Y al an hn V=>
  intro s e s' l B A w0 r z d Q o;simp only[exec]at l;split at l
  ·rename_i ah;obtain⟨⟨v,X⟩,J,D⟩:=bN l;refine WX hC hF (ab Z) Y al an (by rw[ah,hn]) V J D z d Q o
  cases l
end
end Go.AM
namespace Go.AM
variable {M:dm} {P:Program} {w:World} {c:dk} {σ:aw}
def dk.lent(c:dk)(w:World):dk:={ c with bor:=fun b=>b<w.heap.size,H:=hd [],N:=0,place:=fun _=>none }
theorem fd.lent(a:fd M w c σ):fd M w (c.lent w) [] where
 H:=rfl
 N:=rfl
 sb:=fun b h=>a.low b (a.sb b h)
 low:=fun b h=>h
 plow:=fun id b h=>absurd (by rfl) h
 inj:=fun i j b h=>absurd (by rfl) h
 obj:=fun id o h=>by cases h
theorem Ak(a:fd M w c σ):aif true 0 c (c.lent w) where
 sld:=fun b h=>h
 sb:=fun b h=>a.low b (a.sb b h)
 bor:=fun b h=>a.low b h
 gone:=fun id b _ d e=>(a.plow id b d e).1
 N:=fun id h=>absurd h (cZ _)
 keep:=fun id h=>absurd h (cZ _)
theorem ahn(a:fd M w c σ){v:aq}{cv:Value}(h:R M w c v cv):R M w (c.lent w) (snap σ v) cv:=
 (SK a (Ak a) dE false v cv h).ext (Ext.ofStill (Ak a).sb true)
theorem Q2(b:fd M w c σ)(d:kS M w c):kS M w (c.lent w):=⟨fun g a h=>
 (SK b (Ak b) 1 false _ _ (d.1 g a h)).ext (Ext.ofStill (Ak b).sb true),d.2⟩
theorem KG{em:List Tmp}{d f q:Nat}{args:List aq}{a:Array Value}(j:em.take d=List.range d)(s:d≤em.length)(y:a.size=args.length)(r:∀i (h:i<args.length),∃x,a[i]?=some x∧R M w c args[i] x) :
  ot M w c (args.take d++List.replicate (f-d) .any) [] (yu em) (a++Array.replicate (q-a.size) undef):=fun t x l=>by
 unfold yu at l;obtain⟨e,n,rfl⟩:=bJ l;show R M w c (pC _ e) _;rw[List.idxOf?,dD]at n;obtain⟨u,A,_⟩:=n;by_cases g:e<(args.take d).length
 ·have b:e<d∧e<args.length:=by rw[cY]at g;omega
  have k:pC (args.take d++List.replicate (f-d) .any) e=args[e]'b.2:=by
   unfold pC;rw[aS g,au g];simp
  have o:t=e:=by
   have m:(em.take d)[e]?=some e:=by rw[j];simp[b.1]
   rw[gu,if_pos b.1,au u]at m;have p:em[e]=t:=by simpa using A
   rw[←p];exact dW m
  subst o;rw[k];obtain⟨x,v,z⟩:=r t b.2;rw[bV,ee (by omega),v];exact z
 have k:pC (args.take d++List.replicate (f-d) .any) e=.any:=by
  unfold pC;rw[bI (by omega),List.getElem?_replicate];split<;>rfl
 rw[k];exact .any
end Go.AM
namespace Go.AM
variable {M:dm} {P:Program} {w:World} {c:dk}
def JP(P:Program)(em:List Tmp):Oi→ResultVar→Bool
 |.env i,.tmp t=>em.idxOf? t==some i
 |.cell a n i,.cell t T=>em.idxOf? t==some i&&uh P T a n
 |_,_=>false
def LO(tmps:Array Value):ResultVar→Sem Value
 |.tmp t=>pure (tmps.getD t undef)
 |.cell a t=>do loadVar t (←asAddr (tmps.getD a undef))
theorem Q5{T:TypeId}{b cv:Value}(h:(Instr.loadAt T b).run P w=.ok cv w):(do loadVar T (←asAddr b):Sem Value).run P w=.ok cv w:=by
 unfold Instr.loadAt at h;cases b with
 |pointer a=>
  cases a with
  |some a=>exact h
  |none=>simp[Instr.sureAddr,stuck]at h
 |_=>simp[Instr.sureAddr,stuck]at h
theorem aa2{s:St}{em:List Tmp}{tmps:Array Value}(g:fd M w c s.st)(d:ot M w c s.env [] (yu em) tmps){r:Oi}{q:ResultVar}(b:JP P em r q=true){v:aq}(h:LJ s r=some v) :
  ∃cv,(LO tmps q).run P w=.ok cv w∧R M w c v cv:=by
 unfold JP at b;split at b
 ·rename_i i t;simp only[LJ,aL]at h;subst h;refine⟨_,rfl,?_⟩;exact d t (.env i) (by unfold yu;rw[show em.idxOf? t=some i by simpa using b];rfl)
 ·rename_i a n i t T;simp only[ax,aX]at b;have e:=d t (.env i) (by unfold yu;rw[b.1];rfl);obtain⟨cv,f,j⟩:=aba (P:=P) g e b.2 h;exact⟨cv,Q5 f,j⟩
 cases b
theorem aaO{s:St}{em:List Tmp}{tmps:Array Value}(e:fd M w c s.st)(d:ot M w c s.env [] (yu em) tmps):∀{l:List Oi} {qs:List ResultVar} {vs:List aq},l.length=qs.length→((l.zip qs).all fun p=>JP P em p.1 p.2)=true→As s l=some vs →
  ∃cvs:List Value,(qs.mapM (LO tmps)).run P w=.ok cvs w∧cvs.length=vs.length∧∀i (h:i<vs.length) (x:i<cvs.length),R M w c vs[i] cvs[i]
 |[],[],vs,_,_,h=>by
  simp only[As,aL]at h;subst h;exact⟨[],by simp,rfl,fun i h=>absurd h (by simp)⟩
 |[],_::_,_,h,_,_=>by simp at h
 |_::_,[],_,h,_,_=>by simp at h
 |r::l,q::qs,vs,u,a,h=>by
  simp only[fV,lJ,ax]at a;simp only[As]at h;obtain⟨v,g,h⟩:=bN h;obtain⟨j,t,rfl⟩:=bJ h;obtain⟨cv,o,n⟩:=aa2 (P:=P) e d a.1 g;obtain⟨cvs,f,m,k⟩:=aaO e d (by simpa using u) a.2 t;refine⟨cv::cvs,?_,by simp[m],fun i hi b=>?_⟩
  ·rw[List.mapM_cons];simp[o,f]
  cases i with
  |zero=>exact n
  |succ i=>exact k i (by simpa using hi) (by simpa using b)
theorem WJ{s:St}{em:List Tmp}{tmps:Array Value}(r:fd M w c s.st)(o:ot M w c s.env [] (yu em) tmps){fn:Func}{l:List Oi}(m:l.length=fn.results.toList.length)(f:((l.zip fn.results.toList).all fun p=>JP P em p.1 p.2)=true){v:aq}(h:results s l=some v) :
  ∃cv,(Go.results fn tmps).run P w=.ok cv w∧R M w c v cv:=by
 unfold results at h;obtain⟨vs,q,j⟩:=bJ h;obtain⟨cvs,n,d,k⟩:=aaO (P:=P) r o m f q;have t:(fn.results.mapM (LO tmps)).run P w=.ok cvs.toArray w:=by
  rw[Array.mapM_eq_mapM_toList];simp[n]
 have b:(Go.results fn tmps).run P w=.ok (if h:cvs.toArray.size=1 then cvs.toArray[0] else .tuple cvs.toArray) w:=by
  have e:Go.results fn tmps=(do let vs ←fn.results.mapM (LO tmps);pure (if h:vs.size=1 then vs[0] else .tuple vs):Sem Value):=by
   unfold Go.results;congr 1
  rw[e];simp only[Sem.run_bind,t,Result.andThen_ok];rfl
 refine⟨_,b,?_⟩;cases vs with
 |nil=>
  have:cvs=[]:=da (by simpa using d);subst this;subst j;exact .tup (fun _=>undef) rfl (fun i h=>absurd h (by simp)) (fun i h=>absurd h (by simp))
 |cons x vs=>
  cases vs with
  |nil=>
   subst j;obtain⟨y,rfl⟩:=kG.1 (show cvs.length=1 by simpa using d);exact k 0 (by simp) (by simp)
  |cons u vs=>
   subst j;have g:¬(cvs.toArray.size=1):=by simp at d ⊢;omega
   rw[dif_neg g];refine .tup (fun i=>cvs.getD i undef) (by simpa using d) (fun i hi=>?_) (fun i hi=>?_)
   ·have a:i<cvs.length:=by omega
    simp[a]
   have a:i<cvs.length:=by omega
   have:=k i hi a;simpa [a] using this
end Go.AM
namespace Go.AM
variable {M:dm} {P:Program} {w w':World} {c c1:dk} {σ τ:aw}
def dk.with(c d:dk):dk:={ c with sld:=fun b=>c.sld b∨d.sld b,bor:=fun b=>c.bor b∨d.sld b }
theorem DF(a:fd M w c σ)(u:iR (c.lent w) w c1 w')(e:fd M w' c1 τ) :
  ∃p,fd M w' p σ∧iR c w p w'∧(∀v cv,R M w' c1 v cv→R M w' p (rr τ v) cv) ∧
   (∀x (f:Nat→Value),(∀j (y:j<(cellsOf x).length),R M w' c1 (cellsOf x)[j] (f j))→∀j (y:j<(cellsOf (rr τ x)).length),R M w' (p.still false) (cellsOf (rr τ x))[j] (f j)) ∧
   (∀b,p.bor b→c.bor b∨c1.sld b∨∃id,c1.H id≠.dead∧c1.place id=some b)∧p.H=c.H∧p.place=c.place:=by
 have z:=e.sealUp (cK τ.length);have n:=u.sealUp e (base:=0) rfl (cK _);generalize l:c1.sealUp 0 (jT 0 τ)=d at z n;have frame:∀b,b<w.heap.size→w'.heap[b]?=w.heap[b]?:=fun b g=>n.frame b g fun id h=>absurd (by rfl) h;have old:∀b,d.sld b→b<w.heap.size→c.sld b:=fun b h g=>by
  rcases n.old b h g with h|⟨i,h,_⟩
  ·exact h
  exact absurd (by rfl) h
 have k:Ext c w (c.with d) w':=⟨fun b h=>.inl h,fun b h=>.inl h,fun b h=>frame b (a.low b (h.elim (fun h=>h) (a.sb b))),aF _,fun _ _=>.inl rfl,fun _ _ _ _=>⟨rfl,rfl,rfl⟩⟩;refine⟨c.with d,⟨a.H,a.N,fun b h=>h.imp (a.sb b) fun h=>h,fun b h=>?_,fun id b q r=>?_,a.inj,fun id o A=>?_⟩,{ k with same:=n.same,size:=n.size,frame:=fun b g _=>frame b g,liv:=fun id b q r _=>⟨id,q,r⟩,old:=fun b h g=>h.elim .inl fun h=>.inl (old b h g),oldb:=fun b h g=>h.elim .inl fun h=>.inl (a.sb b (old b h g)) },fun v cv D=>?_,fun x f E j y=>?_,fun b h=>?_,rfl,rfl⟩
 ·rcases h with h|h
  ·exact bu (a.low b h) n.size
  exact z.low b (z.sb b h)
 ·obtain⟨B,C⟩:=a.plow id b q r;exact⟨bu B n.size,fun h=>h.elim C fun h=>C (a.sb b (old b h B))⟩
 ·exact (a.obj id o A).ext k (fun _=>⟨rfl,rfl,rfl⟩) fun t b g=>frame b (a.plow id b (by rw[a.H];exact fun h=>t ((rO A).1 h)) g).1
 ·have s:=sj e (cK τ.length);have:=SK e s dE false v cv D;rw[l]at this;refine this.ext ⟨fun b h=>.inr h,fun b h=>.inr h,fun _ _=>rfl,cK _,fun id h=>absurd h (cZ _),fun id h=>absurd h (cZ _)⟩
 ·have s:=sj e (cK τ.length);have:=Hj (fun m _=>SK e s m) E j y;rw[l]at this;exact this.ext ⟨fun b h=>.inr h,fun b h=>.inr h,fun _ _=>rfl,aF _,fun id h=>absurd h (cZ _),fun id h=>absurd h (cZ _)⟩
 rcases h with h|h
 ·exact .inl h
 rw[←l]at h;rcases h with h|⟨id,_,q,r⟩
 ·exact .inr (.inl h)
 exact .inr (.inr ⟨id,q,r⟩)
end Go.AM
namespace Go.AM
variable {M:dm} {P:Program} {w w':World} {c c1:dk} {σ τ:aw}
theorem fd.kill(f:fd M w c σ)(id:Nat):fd M w { c with H:=hd (σ.set id .dead) } (σ.set id .dead)∧Ext c w { c with H:=hd (σ.set id .dead) } w:=by
 have k:∀i,hd (σ.set id .dead) i=if i=id then .dead else hd σ i:=fun i=>by
  by_cases e:i=id
  ·subst e;rw[if_pos rfl];unfold hd;rw[dw];simp only[cw];split<;>rename_i h<;>split at h<;>simp_all
  rw[if_neg e,kJ e]
 have a:∀i,hd (σ.set id .dead) i≠.dead→c.H i≠.dead:=fun i h=>by
  rw[k]at h;split at h
  ·exact absurd rfl h
  rw[f.H];exact h
 have d:Ext c w { c with H:=hd (σ.set id .dead) } w:=⟨fun _ h=>h,fun _ h=>h,fun _ _=>rfl,aF _,fun i hi=>by
  show (c.H i).le (hd (σ.set id .dead) i);rw[k];split
  ·exact .inr (.inl rfl)
  exact .inl (by rw[f.H]),fun i hi h m=>⟨rfl,rfl,rfl⟩⟩
 refine⟨⟨rfl,by rw[gj];exact f.N,f.sb,f.low,fun i b l p=>f.plow i b (a i l) p,fun i j b hi n=>f.inj i j b (a i hi) (a j n),fun i o g=>?_⟩,d⟩;by_cases e:i=id
 ·subst e;rw[dw]at g;simp only[cw]at g;split at g
  ·cases g;trivial
  cases g
 rw[aD (fun h=>e h.symm)]at g;exact (f.obj i o g).ext d (fun _=>⟨rfl,rfl,rfl⟩) fun _ _ _=>rfl
theorem iR.kill{g:dk}{w0:World}(h:iR g w0 c w)(f:fd M w c σ)(id:Nat):iR g w0 { c with H:=hd (σ.set id .dead) } w:=
 { Ext.trans h.toExt (f.kill id).2 with
  same:=h.same
  size:=h.size
  frame:=h.frame
  old:=h.old
  oldb:=h.oldb
  liv:=fun i b l k j=>by
   refine h.liv i b ?_ k j;intro d;have a:hd (σ.set id .dead) i≠.dead:=l;by_cases e:i=id
   ·subst e;apply a;unfold hd;rw[dw];simp only[cw];split<;>rename_i h<;>split at h<;>simp_all
   rw[kJ e,←f.H]at a;exact a d }
theorem Hr(z:fd M w c σ)(m:iR (c.lent w) w c1 w')(b:fd M w' c1 τ){k:Nat}(V:k≠0){x:aq}{U:Value}(O:R M w' c1 x U) :
  ∃g,fd M w' g σ∧iR c w g w'∧(rL k τ x=.any∨∃xs,rL k τ x=.frs k xs∧ai1 M w.heap.size w' g k xs U)∧∀v cv,R M w' c1 v cv→R M w' g (rr (BP τ x) v) cv:=by
 by_cases h:∃id ep off len,x=.sl id ep off len
 ·obtain⟨id,ep,off,len,rfl⟩:=h;obtain⟨F,s⟩:=b.kill id;have r:=m.kill b id;obtain⟨g,I,H,E,L,P,S,K⟩:=DF z r F;refine⟨g,I,H,?_,fun v cv J=>E v cv (J.ext s)⟩;unfold rL;dsimp only;split
  ·rename_i k' e es A;split
   ·rename_i Z;obtain⟨rfl,rfl,rfl,Q⟩:=Z;unfold UQ;split
    ·rename_i hm;refine .inr ⟨_,rfl,V,fun y X=>?_,?_⟩
     ·obtain⟨m1,m2⟩:=Bl hm;obtain⟨i,hi,rfl⟩:=cM.1 X;rw[m2 i hi (by omega)];exact (b.obj id _ A).2.1 _ (cT (aJ _))
     have d:((es.take len).map (rr (τ.set id .dead))).length=len:=by simp;omega
     have q:c1.H id=.arr k' e:=by rw[b.H,fe A]
     cases O with
     |@sl _ _ _ _ _ cap k2 blk h1 C B h4 h5=>
      rw[q]at C;cases C;obtain⟨o1,o2,o3,o4⟩:=b.obj id _ A;obtain⟨cs,T,f,q1,q2,q3,q4,W⟩:=o4 blk B;have p:w.heap.size≤blk:=Nat.le_of_not_lt fun D=>by
       obtain⟨i,G,_⟩:=m.liv id blk (by rw[q];simp) B D;exact G rfl
      refine .inr ⟨blk,cap,cs,T,f,by rw[d];simp,p,q1,fun u=>?_,fun i hi N=>?_,by rw[d];exact h4,by simpa [q3] using h5,fun i j hi n=>q4 i j (by omega) n,fun i hi j n=>?_⟩
      ·rcases P blk u with u|u|⟨i,G,Y⟩
       ·exact absurd (z.low _ u) (by omega)
       ·exact (b.plow id blk (by rw[q];simp) B).2 (b.sb _ u)
       have l:hd (τ.set id .dead) i≠.dead:=G;have t:i≠id:=fun e=>by
        subst e;apply l;rw[fe (o:=.dead) (by rw[dw];simp[(ak.1 A).1])]
       rw[kJ t,←b.H]at l;exact t (b.inj i id blk l (by rw[q];simp) Y B)
      ·rw[S]at hi;rw[K]at N;exact absurd (z.plow i blk hi N).1 (by omega)
      simp only[dn,dP]at n ⊢;exact L _ (f i) (fun j n=>(W i (by omega) j n).ext s) j n
     |@sl0 _ _ _ _ _ a=>exact .inl ⟨by simp,a,rfl⟩
     |slOld h0 h1 C=>exact absurd (C _ _ q) (dI _)
    exact .inl rfl
   exact .inl rfl
  exact .inl rfl
 obtain⟨g,I,H,E,L,P,S,K⟩:=DF z m b;refine⟨g,I,H,?_,fun v cv J=>?_⟩
 ·unfold rL;split
  ·cases O with|@ai _ a=>exact .inr ⟨[],rfl,V,by simp,.inl ⟨rfl,a,rfl⟩⟩
  ·exact absurd ⟨_,_,_,_,rfl⟩ h
  exact .inl rfl
 have:BP τ x=τ:=by
  unfold BP;split
  ·exact absurd ⟨_,_,_,_,rfl⟩ h
  rfl
 rw[this];exact E v cv J
end Go.AM
namespace Go.AM
variable {M:dm} {P:Program} {w w':World} {c c1:dk} {σ τ:aw}
def C9.lends:C9→Bool
 |.pure|.fresh _=>true
 |_=>false
def C9.ok:C9→Bool
 |.fresh k=>k != 0
 |_=>true
theorem NV(q:fd M w c σ)(d:iR (c.lent w) w c1 w'){s:St}(g:fd M w' c1 s.st){m:C9}(A:m.lends=true)(D:m.ok=true){v:aq}{cv:Value}(p:R M w' c1 v cv) :
  ig M c w (iw m σ s v).2 (iw m σ s v).1 cv w':=by
 cases m with
 |pure=>
  obtain⟨h,l,j,a,_⟩:=DF q d g;exact⟨h,l,j,.r (a v cv p)⟩
 |fresh k=>
  have n:k≠0:=by simpa [C9.ok] using D
  by_cases y:∃x vs,v=.tup (x::vs)
  ·obtain⟨x,vs,rfl⟩:=y;show ig M c w σ (.tup (rL k s.st x::vs.map (rr (BP s.st x)))) cv w';cases p with
   |@tup _ _ cvs f z t u=>
    have r:R M w' c1 x (f 0):=u 0 (by simp);obtain⟨h,l,j,a,B⟩:=Hr q d g n r;refine⟨h,l,j,?_⟩;have b:∀i (hi:i<(vs.map (rr (BP s.st x))).length),R M w' h (vs.map (rr (BP s.st x)))[i] (f (i+1)):=fun i hi=>by
     rw[dn];exact B _ _ (u (i+1) (by simpa using hi))
    have C:=t 0 (by simp);rcases a with a|⟨xs,a,o⟩
    ·rw[a];refine .r (.tup f (by simpa using z) (fun i hi=>t i (by simpa using hi)) fun i hi=>?_);cases i with
     |zero=>exact .any
     |succ i=>exact b i (by simpa using hi)
    rw[a];exact .tup (fun i=>f (i+1)) o (by simpa using z) C (fun i hi=>t (i+1) (by simpa using hi)) b
  have e:iw (.fresh k) σ s v=(rL k s.st v,σ):=by
   unfold iw;dsimp only;split
   ·exact absurd ⟨_,_,rfl⟩ y
   rfl
  rw[e];obtain⟨h,l,j,a,_⟩:=Hr q d g n p;refine⟨h,l,j,?_⟩;rcases a with a|⟨xs,a,o⟩
  ·rw[a];exact .r .any
  rw[a];exact .frs o
 |keep=>cases A
 |trunc=>cases A
theorem Rc(f:fd M w c σ)(b:iR c w c1 w'){s:St}(a:fd M w' c1 s.st){m:C9}(g:m.lends=false){v:aq}{cv:Value}(d:R M w' c1 v cv) :
  ig M c w (iw m σ s v).2 (iw m σ s v).1 cv w':=by
 cases m with
 |pure=>cases g
 |fresh k=>cases g
 |keep=>exact⟨c1,a,b,.r d⟩
 |trunc=>
  unfold iw;dsimp only;split
  ·exact⟨c1,a,b,.r d⟩
  have e:σ.length≤s.st.length:=by rw[←f.N,←a.N];exact b.N
  exact⟨_,a.sealUp e,b.sealUp a f.N e,.r (SK a (sj a e) dE true _ _ d)⟩
def adj(M:dm)(P:Program)(cA:Nat→Bool)(f:Nat)(g:br):Prop:=
 ∃ fn code em,P.funcs[M.fm f]?=some fn∧(fn.name == "runtime.NumGoroutine")=false∧fn.body=some code∧gl M P cA em fn.ntmps true code g.body∧em.take g.np=List.range g.np∧g.np≤em.length ∧
  g.res.length=fn.results.toList.length∧((g.res.zip fn.results.toList).all fun p=>JP P em p.1 p.2)=true∧g.mode.ok=true
theorem jW{fn:Func}{f:FuncId}{code:Go.Code}{args:Array Value}(h1:P.funcs[f]?=some fn)(h2:(fn.name == "runtime.NumGoroutine")=false)(h3:fn.body=some code):(callFunc f args).run P w=.ok (.enter f args) w:=by
 unfold callFunc;have h2':¬fn.name = "runtime.NumGoroutine":=by simpa using h2
 simp[h1,h2',h3]
theorem lQ.take{args:List aq}{a:Array Value}(h:lQ M w c args a)(b:fd M w c σ):lQ M w (c.lent w) (args.map (snap σ)) a:=
 ⟨by rw[h.1];simp,fun i hi=>by
  obtain⟨x,e,d⟩:=h.2 i (by simpa using hi);exact⟨x,e,by rw[dn];exact ahn b d⟩⟩
theorem Tn{cA:Nat→Bool}{C:ir}{k:Nat}(U:P.follows .mixedOrders=true)(Q:wk cA C)(S:lN M P C)(Z:kY M P C){f:Nat}{g:br}(N:adj M P cA f g){args:List aq}{v:aq}{h:aw}
  (hr:(exec C k g.body (enter g args σ)).bind (qY g σ)=some (v,h)) {F:Fence} {n:Nat} {b:Array Value} (r:u6 F) (A:fd M w c σ) (O:kS M w c) (L:lQ M w c args b) :
  rM F n P (M.fm f) b w (ig M c w h v):=by
 obtain⟨fn,code,em,R,h2,W,X,T,V,h7,h8,h9⟩:=N;obtain⟨⟨e,s'⟩,H,I⟩:=bN hr;refine .inl ⟨jW R h2 W,?_⟩
 have key:∀F:Fence,u6 F→F.round=none→CallsIn F n P (M.fm f) b w fun e w'=>∃cv,e=.returned cv∧ig M c w h v cv w':=fun F r y=>by
  refine callsIn_of_wp_marks R W (r.fn _) ?_ y;unfold qY at I;have E:∃o,results s' g.res=some o∧iw g.mode σ s' o=(v,h)∧(e=.nrm∨e=.ret):=by
   cases e with
   |ext id=>cases I
   |nrm=>obtain⟨o,B,z⟩:=bJ I;exact⟨o,B,z,.inl rfl⟩
   |ret=>obtain⟨o,B,z⟩:=bJ I;exact⟨o,B,z,.inr rfl⟩
  obtain⟨o,B,z,q3⟩:=E;have q:∀G,((G=c.lent w∧g.mode.lends=true)∨(G=c∧g.mode.lends=false))→∀a w' c1,SR M em fn.ntmps w.heap.size c1 w' s' a→iR G w c1 w'→bodyPostM F n P fn (fun e w'=>∃cv,e=.returned cv∧ig M c w h v cv w') (Sx e) a w':=fun G J a w' c1 i d=>by
   have Y:LeavesInM F n P fn a.tmps (fun e w'=>∃cv,e=.returned cv∧ig M c w h v cv w') a.defers .returning w':=by
    refine Dt _ _ i.sim d i.marks fun w' l K d=>?_;obtain⟨cv,x1,x2⟩:=WJ (P:=P) l (fun t x hx=>(i.tmp t x hx).ext K) h7 h8 B;refine⟨cv,x1,cv,rfl,?_⟩;have e1:h=(iw g.mode σ s' o).2:=by rw[z]
    have e2:v=(iw g.mode σ s' o).1:=by rw[z]
    rw[e1,e2];rcases J with⟨rfl,p⟩|⟨rfl,p⟩
    ·exact NV A d l p h9 x2
    exact Rc A d l p x2
   rcases q3 with rfl|rfl
   ·exact Y
   exact Y
  have j:fn.ntmps≤(b++Array.replicate (fn.ntmps-b.size) undef).size:=by simp;omega
  by_cases p:g.mode.lends=true
  ·have m:enter g args σ=⟨(args.map (snap σ)).take g.np++List.replicate (g.nenv-g.np) .any,[]⟩:=by
    unfold enter;cases hmo:g.mode<;>rw[hmo]at p<;>first|(cases p;done)|simp[jN]
   rw[m]at H;have D:=L.take A;refine xl U Q S Z r (fun _=>y) X _ e s' H w.heap.size (c.lent w) w _ (Q2 A O) ⟨A.lent,KG T V D.1 D.2,j,aF _,show rk _ _ _ [] from trivial⟩ _ fun a w' c1 i d=>q _ (.inl ⟨rfl,p⟩) a w' c1 i d
  have u:g.mode.lends=false:=by simpa using p
  have m:enter g args σ=⟨args.take g.np++List.replicate (g.nenv-g.np) .any,σ⟩:=by
   unfold enter;cases hmo:g.mode<;>rw[hmo]at u<;>first|(cases u;done)|rfl
  rw[m]at H;refine xl U Q S Z r (fun _=>y) X _ e s' H w.heap.size c w _ O ⟨A,KG T V L.1 L.2,j,aF _,show rk _ _ _ [] from trivial⟩ _ fun a w' c1 i d=>q _ (.inr ⟨rfl,u⟩) a w' c1 i d
 have s:u6 { F with round:=none }:=⟨r.fn,r.depth,r.alive⟩;exact key { F with round:=none } s rfl
end Go.AM
namespace Go.AM
variable {M:dm} {P:Program} {w w':World} {c c1:dk} {σ τ:aw}
def B9(M:dm)(P:Program)(cA:Nat→Bool)(g:yO)(rec:mi)(em:List Tmp):Prop:=
 ∃nt,g.nenv=em.length∧nt≤rec.tmps.size∧gl M P cA em nt false rec.assign g.pre∧g.params.map (em[·]?)=rec.params.toList.map some∧em.Nodup∧gl M P cA em nt false rec.body g.body
def aeo(M:dm)(P:Program)(cA:Nat→Bool)(code:Code):Prop:=
 ∀site rec em,M.site site rec em→∃g,code.fns site=.round g∧B9 M P cA g rec em
def Bs(M:dm)(P:Program)(f:Nat)(p:ahG):Prop:=
 ∀(C:ir),lN M P C→kY M P C→∀args σ v σ',p C args σ=some (v,σ')→∀(F:Fence) (n:Nat) (w:World) (c:dk) (cargs:Array Value),u6 F→fd M w c σ→kS M w c→lQ M w c args cargs →
  rM F n P (M.fm f) cargs w (ig M c w σ' v)∧((∃a∈args,yI a=false)→∀(cargs':Array Value) (w':World),(callFunc (M.fm f) cargs').run P w'=.ok (.enter (M.fm f) cargs') w')
structure yU (M:dm) (P:Program) (cA:Nat→Bool) (code:Code):Prop where
 mixed:P.follows .mixedOrders=true
 fns:∀f g,code.fns f=.fn g→adj M P cA f g
 nilfns:∀f g,code.fns f=.nilfn g→adj M P cA f g
 prims:∀f k,code.fns f=.prim k→Bs M P f (code.prims k)
 sites:aeo M P cA code
 keeps:∀f,cA f=true→(∃g,(code.fns f=.fn g∨code.fns f=.nilfn g)∧g.mode.lends=true)∨∃k,code.fns f=.prim k∧∀C args σ v σ',code.prims k C args σ=some (v,σ')→σ'=σ
theorem SL{a:Option Addr}{n cap:Nat}(h:n=0):∃b k,Value.slice a n cap=.slice b 0 k:=by subst h;exact⟨_,_,rfl⟩
theorem abu(j:fd M w c σ){x:aq}{f:Value}(l:R M w c x f)(h:kw σ x=true):∃a cap,f=.slice a 0 cap:=by
 unfold kw at h;split at h
 ·cases h
 rename_i d;split at h
 ·rename_i b;cases l<;>first|(simp[rd]at b;done)|skip
  case str=>exact absurd rfl (d _)
  case aa xs _ _ _ _ _ _ _ _ _ _ _=>simp only[rd,aL]at b;subst b;exact⟨_,_,rfl⟩
  case imm0=>exact⟨_,_,rfl⟩
  case lst=>simp only[rd,aL]at b;subst b;exact⟨_,_,rfl⟩
  case lst0=>exact⟨_,_,rfl⟩
  case ai=>exact⟨_,_,rfl⟩
  case emp=>exact⟨_,_,rfl⟩
  case sl=>
   simp only[rd]at b;unfold sliceAt at b;split at b
   ·split at b
    ·rename_i i;simp only[aL]at b;have:=congrArg List.length b;simp at this;exact SL (by omega)
    cases b
   cases b
  case sl0=>exact⟨_,_,rfl⟩
  case slOld=>
   rename_i m _ _ _;simp only[rd]at b;unfold sliceAt at b;split at b
   ·rename_i k e es g;split at b
    ·rename_i i;have:=m k e (by rw[j.H,fe g]);omega
    cases b
   cases b
 cases h
theorem WV{l:Nat}{xs args:List aq}{a:Array Value}(h:lQ M w c (.frs l xs::args) a):False:=by
 obtain⟨x,_,h⟩:=h.2 0 (by simp);cases h
theorem HV{em:List Tmp}(d:em.Nodup):∀{n:List Nat} {r:List Tmp} {args:List aq} {b:List Value} {env:List aq} {tmps:Array Value},
  n.map (em[·]?)=r.map some→args.length=n.length→b.length=args.length→(∀i (h:i<args.length) (J:i<b.length),R M w c args[i] b[i])→env.length=em.length→(∀t∈em,t<tmps.size)→ot M w c env [] (yu em) tmps →
  ot M w c (sA env n args) [] (yu em) ((r.zip b).foldl (fun tmps (t,a)=>tmps.setIfInBounds t a) tmps)
 |[],[],args,b,env,tmps,_,u,v,_,_,_,s=>by
  cases args with
  |nil=>exact s
  |cons _ _=>simp at u
 |[],_::_,_,_,_,_,h,_,_,_,_,_,_=>by simp at h
 |_::_,[],_,_,_,_,h,_,_,_,_,_,_=>by simp at h
 |p::n,t::r,[],_,_,_,_,u,_,_,_,_,_=>by simp at u
 |p::n,t::r,x::args,[],_,_,_,_,v,_,_,_,_=>by simp at v
 |p::n,t::r,x::args,y::b,env,tmps,h,u,v,E,C,F,s=>by
  simp only[aV,px]at h;obtain⟨B,h⟩:=h;have H:p<em.length:=(ak.1 B).1;have m:em[p]=t:=(ak.1 B).2;simp only[sA,fV,dX];refine HV d h (by simpa using u) (by simpa using v) (fun i hi z=>E (i+1) (by simpa using hi) (by simpa using z)) (by simpa using C) (fun t s=>by simpa using F t s) ?_;intro q o D;unfold yu at D;obtain⟨k,G,rfl⟩:=bJ D;show R M w c (pC (env.set p x) k) _;rw[List.idxOf?,dD]at G;obtain⟨k1,k2,_⟩:=G;have g:em[k]=q:=by simpa using k2
  have A:t<tmps.size:=F t (by rw[←m];exact aJ _);by_cases f:k=p
  ·subst f;have:pC (env.set k x) k=x:=by
    unfold pC;rw[dw];simp[C,k1]
   rw[this];have l:q=t:=by rw[←g,m]
   subst l;have:=E 0 (by simp) (by simp);simpa [Array.getD,A] using this
  rw[Bn (fun e=>f e.symm)];have l:q≠t:=fun e=>f (DJ d _ _ (by rw[g,m,e]))
  have:=s q (.env k) (by unfold yu;rw[show em.idxOf? q=some k by
   rw[List.idxOf?,dD];exact⟨k1,k2,fun j I=>by
    simp only[aX];exact fun e=>absurd (DJ d _ _ (e.trans g.symm)) (by omega)⟩];rfl)
  have e:(tmps.setIfInBounds t y).getD q undef=tmps.getD q undef:=by
   rw[bV,bV,Array.getElem?_setIfInBounds_ne (fun e=>l e.symm)]
  rw[e];exact this
theorem Kf{b:Array Tmp}{xs:Array Value}{tmps:Array Value}:(b.zip xs).foldl (fun tmps (t,a)=>tmps.setIfInBounds t a) tmps=(b.toList.zip xs.toList).foldl (fun tmps (t,a)=>tmps.setIfInBounds t a) tmps:=by
 rw[←Array.foldl_toList,Array.toList_zip]
theorem Hs:∀(l:List (Tmp×Value)) (tmps:Array Value),(l.foldl (fun tmps (t,a)=>tmps.setIfInBounds t a) tmps).size=tmps.size
 |[],_=>rfl
 |_::l,tmps=>by simp only[dX];rw[Hs l];simp
def aj6:Ex→Option Ex
 |.nrm=>none
 |e=>some e
theorem Jt{l:Nat}{e:Ex}{s:St}{v:aq}(h:lE l (e,s)=some (v,σ)) :
  ∃j,s.st[l]?=some (.pend true none)∧j=aj6 e∧v=.bool (uo e).isNone∧σ=s.st.set l (.pend false j):=by
 unfold lE at h;dsimp only at h;generalize s.st[l]?=q at h
 match q,h with
 |some (.pend true none),h=>
  cases e with
  |nrm=>cases h;exact⟨none,rfl,rfl,rfl,rfl⟩
  |ret=>cases h;exact⟨some .ret,rfl,rfl,rfl,rfl⟩
  |ext i=>cases h;exact⟨some (.ext i),rfl,rfl,rfl,rfl⟩
theorem NA{cA:Nat→Bool}{C:ir}{k:Nat}(hm:P.follows .mixedOrders=true)(hp:wk cA C)(hC:lN M P C)(hR:kY M P C){H l:Nat}{g:yO}{env args:List aq}{v:aq}{B:aw}
  (hl:σ[l]?=some (.pend false none)) (s:((env++args).drop g.nenv).length=g.params.length)
  (hr:(exec C k g.pre ⟨sA ((env++args).take g.nenv) g.params ((env++args).drop g.nenv),σ⟩).bind (pq C k l g.body)=some (v,B))
  (a0:∀T em,M.site H T em→B9 M P cA g T em)
  {F:Fence} {n:Nat} {d:Array Value} {x:Value} (hF:u6 F) (hs:fd M w c σ) (hg:kS M w c) (ha:lQ M w c args d) (hx:R M w c (.yld l H env) x) :
  ∃b tmps N,x=.func (.yield b) #[] #[]∧(Instr.yield b d).run P w=.ok (.round b (c.loops l).fn tmps (c.loops l).assign (c.loops l).body) N ∧
   RoundIn F n P b (c.loops l).fn tmps (c.loops l).assign (c.loops l).body N fun e w'=>∃cv,e=.returned cv∧ig M c w B v cv w':=by
 have hH:c.H l=.pend:=by rw[hs.H,fe hl]
 have z:c.H l≠.dead:=by rw[hH];simp
 cases hx with
 |yldOld h0 S Y=>rw[hH]at Y;cases Y
 |@yld _ _ _ _ em blk f S Y h3 h4 h5 h6 h7=>
  obtain⟨nt,g1,g2,g3,g4,g5,g6⟩:=a0 _ _ h4;have G:env.length=g.nenv:=by rw[g1,h5]
  have q:(env++args).drop g.nenv=args:=by rw[←G];simp
  have L:(env++args).take g.nenv=env:=by rw[←G];simp
  rw[q]at s;rw[q,L]at hr;obtain⟨b,E,b2⟩:=hs.obj _ _ hl;rw[h3]at E;cases E;replace b2:w.heap[blk]?=some (.loop (sn (c.loops l) .ready none)):=b2;have V:(c.loops l).params.size=g.params.length:=by
   have:=congrArg List.length g4;simpa using this.symm
  have hy:=run_yield (P:=P) (args:=d) b2 (by rw[ha.1,s];exact V.symm);refine⟨blk,_,w,rfl,hy,?_⟩;apply roundIn_of_wpIn (hF.fn _);obtain⟨⟨e0,s0⟩,r0,A⟩:=bN hr;have ab:(((c.loops l).params.zip d).foldl (fun tmps (t,a)=>tmps.setIfInBounds t a) (c.loops l).tmps).size=(c.loops l).tmps.size:=by rw[Kf,Hs]
  have an:∀t∈em,t<(c.loops l).tmps.size:=fun t ht=>by
   obtain⟨i,hi,rfl⟩:=cM.1 ht;exact (bE.1 (h6 i hi (by omega))).1
  have av:ot M w c env [] (yu em) (c.loops l).tmps:=fun t o ho=>by
   unfold yu at ho;obtain⟨i,hi,rfl⟩:=bJ ho;show R M w c (pC env i) _;rw[List.idxOf?,dD]at hi;obtain⟨i1,i2,_⟩:=hi;have al:em[i]=t:=by simpa using i2
   have i3:i<env.length:=by omega
   have e1:pC env i=env[i]:=by
    unfold pC;rw[au i3];rfl
   rw[e1,bV,←al,h6 i i1 i3];exact h7 i i3
  have ae:ot M w c (sA env g.params args) [] (yu em) (((c.loops l).params.zip d).foldl (fun tmps (t,a)=>tmps.setIfInBounds t a) (c.loops l).tmps):=by
   rw[Kf];refine HV g5 g4 s (by simp[ha.1]) (fun i hi a2=>?_) (by omega) an av;obtain⟨y,y1,y2⟩:=ha.2 i hi;have:d.toList[i]=y:=by
    have:=(bE.1 y1).2;simpa using this
   rw[this];exact y2
  refine xl hm hp hC hR (hF.inRound blk) (fun h=>by cases h) g3 _ e0 s0 r0 0 c _ _ hg ⟨hs,ae,bR g2 (Nat.le_of_eq ab.symm),cK _,show rk _ _ _ [] from trivial⟩ _ fun a1 N c1 p u=>?_;have ag:e0=.nrm∧s0.st[l]?=some (.pend false none)∧(exec C k g.body ⟨s0.env,s0.st.set l (.pend true none)⟩).bind (lE l)=some (v,B):=by
   unfold pq at A;split at A
   ·rename_i S Y;exact⟨S,Y,A⟩
   cases A
  obtain⟨rfl,I,ah⟩:=ag;have ad:c1.H l=.pend:=by rw[p.sim.H,fe I]
  obtain⟨q1,q2,q3⟩:=u.place l S (by rw[hH,ad]) z;obtain⟨b,E,Q⟩:=p.sim.obj _ _ I;have W:c1.place l=some blk:=by rw[q1,h3]
  rw[W]at E;cases E;replace Q:N.heap[blk]?=some (.loop (sn (c1.loops l) .ready none)):=Q;have aj:=run_beginRound (P:=P) Q rfl;refine⟨_,aj,?_⟩;have U:uW N (N.putObj blk (.loop { sn (c1.loops l) .ready none with state:=.busy })) blk (.loop { sn (c1.loops l) .ready none with state:=.busy }):=⟨⟨rfl,rfl,rfl,aF _⟩,rfl⟩;obtain⟨s1,D⟩:=p.sim.pend (bz':=true) (j':=none) I W U rfl;obtain⟨⟨e,s'⟩,r1,r2⟩:=bN ah;refine xl hm hp hC hR (hF.inRound blk) (fun h=>by cases h) g6 _ e s' r1 0 c1 _ _ (hg.ext (u.trans D).toExt) ⟨s1,fun t o ho=>(p.tmp t o ho).ext D.toExt,p.size,cK _,p.marks.stp D⟩ _ fun a w2 Z J O=>?_
  have af:=Jt r2;obtain⟨j,p1,p2,p3,p4⟩:=af;have X:=(u.trans D).trans O;have ar:Z.H l=.pend:=by rw[J.sim.H,fe p1]
  obtain⟨q1,q2,q3⟩:=X.place l S (by rw[hH,ar]) z;obtain⟨b,E,Q⟩:=J.sim.obj _ _ p1;rw[q1,h3]at E;cases E;have r:=run_endRound (P:=P) (uo e) Q;have K:uW w2 (w2.putObj blk (.loop { sn (Z.loops l) .busy none with state:=if (uo e).isNone then .ready else .done,pending:=uo e })) blk (.loop { sn (Z.loops l) .busy none with state:=if (uo e).isNone then .ready else .done,pending:=uo e }):=⟨⟨rfl,rfl,rfl,aF _⟩,rfl⟩
  obtain⟨s3,ao⟩:=J.sim.pend (bz':=false) (j':=j) p1 (by rw[q1,h3]) K (by
   rw[p2];cases e<;>rfl)
  have m:ig M c w B v (.bool (uo e).isNone) _:=⟨Z,by rw[p4];exact s3,X.trans ao,by rw[p3];exact .r .bool⟩;cases e with
  |nrm=>exact⟨_,_,r,_,rfl,m⟩
  |ret=>exact⟨_,_,r,_,rfl,m⟩
  |ext i=>exact⟨_,_,r,_,rfl,m⟩
theorem Fo{cA:Nat→Bool}{code:Code}(y:yU M P cA code):∀n,lN M P (dV code n)∧kY M P (dV code n)∧wk cA (dV code n)
 |0=>by
  refine⟨?_,?_,?_⟩
  ·intro f args σ v d h;cases h
  ·intro z l env args σ v d h;cases h
  intro f args σ v d _ h;cases h
 |k+1=>by
  obtain⟨D,C,I⟩:=Fo y k;refine⟨fun f args σ v d h F n w c j Q L O A=>?_,fun z l env args σ v d h F n w c j x Q L O A H W=>?_,fun f args σ v d hp h=>?_⟩
  ·simp only[dV]at h;split at h
   ·cases h
   ·rename_i q o;exact y.prims f q o _ D C args σ v d h F n w c j Q L O A
   ·rename_i g o;refine⟨Tn y.mixed I D C (y.fns f g o) h Q L O A,fun _ E w'=>?_⟩;obtain⟨fn,code,em,B,t,G,_⟩:=y.fns f g o;exact jW B t G
   ·rename_i g o;refine⟨?_,fun _ E w'=>?_⟩
    ·have p:∀args v d,pJ (dV code k) k g args σ=some (v,d)→lQ M w c args j→rM F n P (M.fm f) j w (ig M c w d v):=fun args v d h A=>
      Tn y.mixed I D C (y.nilfns f g o) h Q L O A
     split at h
     ·rename_i x R;split at h
      ·rename_i he;obtain⟨r,B,h⟩:=bN h;obtain⟨q,t,h⟩:=bN h;split at h
       ·rename_i m;cases h;simp only[ax]at m;obtain⟨q1,q2⟩:=q;have e1:=tj m.1;have e2:=Hg m.2;dsimp only at e1 e2;subst e1 e2;obtain⟨cx,ab,W⟩:=A.2 0 (by simp);obtain⟨a,cap,rfl⟩:=abu L W he;have V:∀b,a.isNone=b→lQ M w c (.emp b::R) j:=fun b Z=>by
         refine⟨A.1,fun i hi=>?_⟩;cases i with
         |zero=>exact⟨_,ab,.emp Z⟩
         |succ i=>exact A.2 (i+1) hi
        cases Z:a.isNone with
        |true=>exact p _ _ _ B (V _ Z)
        |false=>exact p _ _ _ t (V _ Z)
       cases h
      exact p _ _ _ h A
     cases h
    obtain⟨fn,code,em,B,t,G,_⟩:=y.nilfns f g o;exact jW B t G
   split at h
   ·exact (WV A).elim
   cases h
  ·have ae:σ[l]?=some (.pend false none):=by
    unfold pD at H;split at H
    ·assumption
    cases H
   have J:∃g,code.fns z=.round g∧∀K em,M.site z K em→B9 M P cA g K em:=by
    cases W with
    |@yld _ _ _ _ em blk f B t G h4 h5 h6 h7=>
     obtain⟨g,Y,g2⟩:=y.sites _ _ _ h4;refine⟨g,Y,fun K em hm=>?_⟩;obtain⟨g',U,ad⟩:=y.sites _ _ _ hm;rw[Y]at U;cases U;exact ad
    |yldOld h0 B t=>rw[L.H,fe ae]at t;cases t
   obtain⟨g,Y,g2⟩:=J;simp only[dV,Y,bX]at h;split at h
   ·rename_i X;split at h
    ·rename_i S;exact NA y.mixed I D C X S h g2 Q L O A W
    cases h
   cases h
  simp only[dV]at h;rcases y.keeps f hp with⟨g,o,X⟩|⟨q,o,hk⟩
  ·have keep:∀args v d,pJ (dV code k) k g args σ=some (v,d)→d=σ:=fun args v d h=>by
    unfold pJ at h;obtain⟨⟨e,s⟩,_,t⟩:=bN h;unfold qY at t;have T:∀N,iw g.mode σ s N=(v,d)→d=σ:=fun N u=>by
     cases hmo:g.mode<;>rw[hmo]at X u<;>first|(cases X;done)|skip
     ·cases u;rfl
     simp only[iw]at u;cases u;rfl
    cases e with
    |ext i=>cases t
    |nrm=>obtain⟨N,_,G⟩:=bJ t;exact T N G
    |ret=>obtain⟨N,_,G⟩:=bJ t;exact T N G
   rcases o with o|o
   ·rw[o]at h;exact keep _ _ _ h
   rw[o]at h;dsimp only at h;split at h
   ·split at h
    ·obtain⟨⟨r1,r2⟩,B,h⟩:=bN h;obtain⟨q,t,h⟩:=bN h;split at h
     ·cases h;exact keep _ _ _ B
     cases h
    exact keep _ _ _ h
   cases h
  rw[o]at h;exact hk _ _ _ _ _ h
end Go.AM
