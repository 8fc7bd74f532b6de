/- Part of the proof. -/
import Derived.Test.YtmpmbfpkpannjaaGreatDoorBm09
import Derived.Test.YtmpmbfpkpannjaaGreatDoorBm10
import Derived.Test.YtmpmbfpkpannjaaGreatDoorBm11
import Derived.Test.YtmpmbfpkpannjaaGreatDoorBm12
import Derived.Test.YtmpmbfpkpannjaaGreatDoorBm13
import Derived.Test.YtmpmbfpkpannjaaGreatDoorBm14
import Derived.Deep.Slices
import Derived.ChangeBears
import Derived.WideShapes
import Derived.Deep.DeepHandedRow
import Derived.ReadAgain
import Derived.OpenShut
import Derived.RowKit
import Derived.LaidLaws
import Derived.ChangeOld
set_option linter.unusedVariables false
set_option linter.unusedSimpArgs false
set_option linter.unusedSectionVars false
namespace Go.AM.K
set_option maxRecDepth 100000 in
theorem all:YA (adD Go.Proofs.Tryz.prog S.fm S.glob S.sites (xe P.tbl) S.em) 0 P.tbl:=TH (n:=0) (C9 (n:=0) (by decide) k1 (C9 (by decide) k2 (C9 (by decide) k3 (C9 (by decide) k4 (C9 (by decide) k5 (k6))))))
set_option maxRecDepth 100000 in
theorem site_of:∀s d,S.sites s=some d→∃g,P.tbl.getD s .none=.round g:=by
 intro s d h;unfold S.sites at h;split at h
 ·exact⟨_,rfl⟩
 ·exact⟨_,rfl⟩
 cases h
end Go.AM.K
namespace Go.AM
open Go.ChangeShapes Go.WideShapes
inductive Sh where
 |int (k:IntKind)
 |bool
 |str
 |sl (a:Bool) (cs:List Sh)
inductive mA:Sh→aq→Prop
 |int {k n}:(Lit.int k n).wf=true→mA (.int k) (.int k n)
 |bool {b}:mA .bool (.bool b)
 |str {s:List UInt8}:s.length≤maxLen→mA .str (.str s)
 |sl {a cs xs}:xs.length≤maxLen→(∀x∈xs,isAgg x=a∧(cellsOf x).length=cs.length∧aM x=cs.length) →
   (∀x∈xs,∀i (h:i<cs.length) (h':i<(cellsOf x).length),mA cs[i] (cellsOf x)[i])→mA (.sl a cs) (.aa true xs)
def xh(P:Program):Nat→TypeId→Option (Bool×List Sh)
 |0,_=>none
 |n+1,t=>match P.underlying t with
  |some .bool=>some (false,[.bool])
  |some (.int k)=>some (false,[.int k])
  |some .string=>some (false,[.str])
  |some (.slice e)=>(xh P n e).bind fun s=>if s.2.isEmpty then none else some (false,[.sl s.1 s.2])
  |some (.struct fs)=>(fs.toList.mapM fun f=>xh P n f.type).map fun l=>(true,(l.map (·.2)).flatten)
  |some (.array m e)=>(xh P n e).map fun s=>(true,(List.replicate m s.2).flatten)
  |_=>none
theorem NP{P:Program}:∀{n:Nat} {t:TypeId} {s:List Sh},xh P n t=some (false,s)→s.length=1
 |0,_,_,h=>by simp[xh]at h
 |n+1,t,s,h=>by
  unfold xh at h;split at h
  ·cases h;rfl
  ·cases h;rfl
  ·cases h;rfl
  ·obtain⟨q,_,h⟩:=aL.1 h;split at h
   ·cases h
   cases h;rfl
  ·obtain⟨q,_,h⟩:=aR.1 h;cases h
  ·obtain⟨q,_,h⟩:=aR.1 h;cases h
  cases h
inductive Rd (M:dk) (w:World) (c:dh):List Sh→List aq→List Value→Prop
 |nil:Rd M w c [] [] []
 |cons {s a v ss es vs}:v.oneCell'=true→isAgg a=false→aM a=1→mA s a→R M w c a v→Rd M w c ss es vs→Rd M w c (s::ss) (a::es) (v::vs)
variable {M:dk} {w:World} {c:dh}
theorem Rd.append{d e:List Sh}{a b:List aq}{f g:List Value}(h:Rd M w c d a f)(i:Rd M w c e b g):Rd M w c (d++e) (a++b) (f++g):=by
 induction h with
 |nil=>exact i
 |cons j k l m n _ o=>exact .cons j k l m n o
theorem Rd.len{s:List Sh}{a:List aq}{v:List Value}(h:Rd M w c s a v):a.length=s.length∧v.length=s.length:=by
 induction h with
 |nil=>exact⟨rfl,rfl⟩
 |cons _ _ _ _ _ _ b=>exact⟨by simp[b.1],by simp[b.2]⟩
theorem Rd.get{s:List Sh}{a:List aq}{v:List Value}(h:Rd M w c s a v):∀i (b:i<s.length) (d:i<a.length) (e:i<v.length),v[i].oneCell'=true∧isAgg a[i]=false∧aM a[i]=1∧mA s[i] a[i]∧R M w c a[i] v[i]:=by
 induction h with
 |nil=>intro i b;exact absurd b (cZ _)
 |cons f g j k l _ m=>
  intro i b d e;cases i with
  |zero=>exact⟨f,g,j,k,l⟩
  |succ i=>exact m i (by simpa using b) (by simpa using d) (by simpa using e)
theorem MH:∀(l:List (Nat×List Sh)) (cs:List Value),cs.length=(l.map (·.1)).sum →
  (∀j z s,l[j]?=some (z,s)→∃a,Rd M w c s a ((cs.drop ((l.take j).map (·.1)).sum).take z))→∃a,Rd M w c (l.map (·.2)).flatten a cs
 |[],cs,h,_=>⟨[],by
  obtain rfl:cs=[]:=db (by simpa using h);exact .nil⟩
 |(z,s)::r,cs,h,b=>by
  obtain⟨d,f⟩:=b 0 z s rfl
  obtain⟨e,g⟩:=MH r (cs.drop z) (by simp at h ⊢;omega) fun j m s' k=>by
   obtain⟨a,i⟩:=b (j+1) m s' (by simpa using k);refine⟨a,?_⟩;rw[nu];simpa using i
  refine⟨d++e,?_⟩;have:=f.append g;simpa using this
theorem rB(m k:Nat):(List.replicate m k).sum=m*k:=by
 induction m with
 |zero=>simp
 |succ m a=>rw[jr,List.sum_cons,a,Nat.succ_mul,g9]
section
variable {H:Type} {enc:TypeId×Value→H} {P:Program} {T:TypeId→Prop}
theorem FG{a:Addr}{i:Nat}{v:Value}(c:w.cell? (a.add i)=some v):a.add i=⟨a.block,a.off+i,none⟩:=by
 have b:(a.add i).spot=none:=by
  cases hsp:(a.add i).spot with
  |none=>rfl
  |some s=>
   simp only[World.cell?]at c;split at c
   ·simp[hsp]at c
   cases c
 unfold Addr.add at b ⊢;split
 ·rename_i d;subst d;rw[if_pos rfl]at b;cases a;simp_all
 rfl
theorem QO{af:Bool}(K:Kids P T):∀(n dH:Nat) (t:TypeId) (cs:List Value) (x:DataW H×List MemPlace) (c:dh) (a:Bool) (O:List Sh),(∀b,b<w.heap.size→c.bor b)→T t→xh P n t=some (a,O) →
  DataW.trod enc P w 0 (fun _=>true) af dH t cs=some x→∃U,Rd M w c O U cs:=by
 intro n;induction n with
 |zero=>intro dH t cs x c a O _ _ h;simp[xh]at h
 |succ n ih=>
  intro dH t cs x c a O hb hT h hd;unfold xh at h;split at h
  ·rename_i B;obtain⟨b,rfl,_⟩:=DataW.trod_bool B hd;cases h;exact⟨_,.cons rfl rfl rfl .bool .bool .nil⟩
  ·rename_i k B;obtain⟨z,rfl,_,hw⟩:=DataW.trod_int B hd;cases h;exact⟨_,.cons rfl rfl rfl (.int hw) .int .nil⟩
  ·rename_i B;obtain⟨s,rfl,_,hw⟩:=DataW.trod_string B hd;cases h;exact⟨_,.cons (a:=.str s.data.toList) rfl rfl rfl (.str (by rw[cQ];exact hw)) (.str rfl) .nil⟩
  ·rename_i e B;obtain⟨⟨Z,C⟩,N,h⟩:=aL.1 h;split at h
   ·cases h
   rename_i ao;cases h;have J:0<C.length:=by
    cases C with
    |nil=>exact absurd rfl ao
    |cons _ _=>simp
   rcases Deep.open_slice B hd with⟨rfl,_⟩|⟨S,len,cap,m,k,D,Pl,rfl,_,hl,hm,ah,_,aj⟩
   ·exact⟨_,.cons (a:=.aa true []) rfl rfl rfl (.sl (by simp) (by simp) (by simp)) .imm0 .nil⟩
   simp only[cz]at ah;subst ah;have ab:∀i,i<len→∃q:List aq×List Value,w.cells? 0 (S.add (i*P.cellsOf e)) (P.cellsOf e)=some q.2∧Rd M w (c.still true) C q.1 q.2:=fun i hi=>by
    obtain⟨cs',o,g⟩:=aj i (by omega);obtain⟨U,r⟩:=ih _ _ _ _ (c.still true) _ _ hb (K.slice hT B) N g;exact⟨(U,cs'),o,r⟩
   obtain⟨F,Y⟩:=Deep.choose_lt ab
   let el (i:Nat):aq:=if Z then .agg (F i).1 else (F i).1.headD .any
   have u:∀i,i<len→isAgg (el i)=Z∧cellsOf (el i)=(F i).1∧aM (el i)=C.length:=fun i hi=>by
    have E:=(Y i hi).2;cases Z with
    |true=>exact⟨rfl,rfl,E.len.1⟩
    |false=>
     have o:=NP N;have g:=E.len.1;rw[o]at g
     match hq:(F i).1,g with
     |[y],_=>
      have hg:=E.get 0 J (by rw[hq];simp) (by rw[E.len.2];exact J);simp only[hq,cU]at hg;have:el i=y:=by simp[el,hq]
      rw[this,o];refine⟨hg.2.1,?_,hg.2.2.1⟩;cases y<;>first|rfl|(simp[isAgg]at hg)
   by_cases h0:len=0
   ·subst h0;exact⟨_,.cons (a:=.aa true []) rfl rfl rfl (.sl (by simp) (by simp) (by simp)) .imm0 .nil⟩
   have G:∀i j,i<len→j<C.length→∃v,(F i).2[j]?=some v∧w.cell? ⟨S.block,S.off+i*C.length+j,none⟩=some v∧v.oneCell'=true∧P.cellsOf e=C.length:=fun i j hi d=>by
    obtain⟨o,g⟩:=Y i hi;obtain⟨_,r,V⟩:=World.cells?_some o;have h5:P.cellsOf e=C.length:=by rw[←r,g.len.2]
    have h6:=V j (by omega);have h7:j<(F i).2.length:=by rw[g.len.2];exact d
    rw[au h7]at h6;have h8:=h6;rw[Deep.add_add]at h8;have h9:=FG h8;rw[h9,h5]at h8;exact⟨_,au h7,by rw[dB];exact h8,(g.get j d (by rw[g.len.1];exact d) h7).1,h5⟩
   have L:S.spot=none∧S.block<w.heap.size:=by
    obtain⟨v,_,hv,_,hK⟩:=G 0 0 (by omega) J;obtain⟨o,g⟩:=Y 0 (by omega);obtain⟨_,r,V⟩:=World.cells?_some o;have h6:=V 0 (by omega);rw[Deep.add_add,mB,cD,au (by omega)]at h6;have h9:=FG h6;have an:=World.block_lt_of_cell? w _ hv;refine⟨?_,an⟩;have:(S.add 0).spot=none:=by rw[h9]
    simpa [Addr.add] using this
   refine⟨_,.cons (a:=.aa true ((List.range len).map el)) rfl rfl rfl (.sl (by simp;omega) ?_ ?_) ?_ .nil⟩
   ·intro x Q;obtain⟨i,hi,rfl⟩:=bM.1 Q;have hi:=gi.1 hi;obtain⟨o,g,r⟩:=u i hi;exact⟨o,by rw[g];exact (Y i hi).2.len.1,r⟩
   ·intro x Q j d X;obtain⟨i,hi,rfl⟩:=bM.1 Q;have hi:=gi.1 hi;obtain⟨o,g,r⟩:=u i hi;have E:=(Y i hi).2;have:=(E.get j d (by rw[E.len.1];exact d) (by rw[E.len.2];exact d)).2.2.2.1;simpa only [g] using this
   have A:((List.range len).map el).length=len:=by simp
   have:=R.aa (M:=M) (w:=w) (c:=c) (b:=true) (xs:=(List.range len).map el) (cap:=m) (a:=S) C.length (fun i j=>((F i).2[j]?).getD default) (hb _ L.2) L.1 (by rw[A];exact hl) (by omega)
    (fun x Q=>by
     obtain⟨i,hi,rfl⟩:=bM.1 Q;exact (u i (gi.1 hi)).2.2)
    (fun i j hi d=>by
     rw[A]at hi;obtain⟨v,o,g,r,_⟩:=G i j hi d;simp only[o,de];exact⟨g,r⟩)
    (fun i hi j d=>by
     have ag:i<len:=by rw[A]at hi;exact hi
     have e1:((List.range len).map el)[i]=el i:=by simp
     have e2:=(u i ag).2.1;have E:=(Y i ag).2;simp only[e1,e2]at d ⊢;have X:j<C.length:=by rw[E.len.1]at d;exact d
     have hv:j<(F i).2.length:=by rw[E.len.2];exact X
     simp only[au hv,de];exact (E.get j X d hv).2.2.2.2)
   rw[A]at this;exact this
  ·rename_i fs B;obtain⟨l,hl,h⟩:=aR.1 h;cases h;obtain⟨xs,k,rfl,_,W,ar,hf⟩:=DataW.trod_struct B hd;obtain⟨k1,k2,k3⟩:=K.struct hT B;have av:=mapM_some_length hl;have e0:((fs.toList.zip l).map fun p=>(P.cellsOf p.1.type,p.2.2)).map (·.1)=fs.toList.map fun f=>P.cellsOf f.type:=by
    rw[bT,show ((fun x:Nat×List Sh=>x.1)∘fun p:Field×Bool×List Sh=>(P.cellsOf p.1.type,p.2.2))=(fun f:Field=>P.cellsOf f.type)∘Prod.fst from rfl,←List.map_map,List.map_fst_zip (by omega)]
   have e1:((fs.toList.zip l).map fun p=>(P.cellsOf p.1.type,p.2.2)).map (·.2)=l.map (·.2):=by
    rw[bT,show ((fun x:Nat×List Sh=>x.2)∘fun p:Field×Bool×List Sh=>(P.cellsOf p.1.type,p.2.2))=(fun q:Bool×List Sh=>q.2)∘Prod.snd from rfl,←List.map_map,List.map_snd_zip (by omega)]
   have:=MH (M:=M) (w:=w) (c:=c) ((fs.toList.zip l).map fun p=>(P.cellsOf p.1.type,p.2.2)) cs (by rw[e0,W,k2]) (fun j z s d=>by
    rw[jF,e0,←List.map_take];rw[ed,aR]at d;obtain⟨⟨f,q⟩,d,hz⟩:=d;cases hz;rw[eT]at d;obtain⟨I,al⟩:=d;have o:=hf j f (by simpa using I);have g:=k3 j f I;have r:=mapM_some_get hl j f I;rw[al]at r;have V:j<xs.length:=by
     have:=(ak.1 I).1;rw[ar];simpa using this
    rw[au V,g]at o;exact ih _ _ _ _ c q.1 q.2 hb (k1 f (aN I)) r o)
   rw[e1]at this;exact this
  ·rename_i m e B;obtain⟨⟨Z,C⟩,N,h⟩:=aR.1 h;cases h;cases dH with
   |zero=>simp[DataW.trod]at hd
   |succ k=>
    rw[DataW.trod_step]at hd;unfold DataW.trodStep at hd;simp only[B]at hd;split at hd
    ·rename_i W;obtain⟨xs,Q,_⟩:=aR.1 hd;obtain⟨k1,k2⟩:=K.array hT B
     have:=MH (M:=M) (w:=w) (c:=c) (List.replicate m (P.cellsOf e,C)) cs (by simp[rB,W,k2]) (fun j z s d=>by
      obtain⟨o,g⟩:=ak.1 d;simp at o g;obtain⟨rfl,rfl⟩:=g;rw[List.take_replicate,List.map_replicate,rB,show min j m=j by omega];have r:=mapM_some_get Q j j (by simp[o]);have V:j<xs.length:=by rw[mapM_some_length Q];simpa using o
      rw[au V]at r;exact ih _ _ _ _ c Z C hb k1 N r)
     simpa using this
    cases hd
  cases h
def JL(s:Bool×List Sh)(x:aq):Prop:=isAgg x=s.1∧(cellsOf x).length=s.2.length∧aM x=s.2.length∧∀i (h:i<s.2.length) (h':i<(cellsOf x).length),mA s.2[i] (cellsOf x)[i]
theorem Jz{r:Reach}{e:Nat}{t:TypeId}{v:Value}{n:Nat}{d:List Sh}(a:xh P n t=some (true,d))(b:Value.okWide P w r e t v):∃cs,v=.agg cs:=by
 cases n with
 |zero=>simp[xh]at a
 |succ n=>
  unfold xh at a;unfold Value.okWide at b;split at a
  ·cases a
  ·cases a
  ·cases a
  ·obtain⟨q,_,a⟩:=aL.1 a;split at a<;>cases a
  ·rename_i c;rw[c]at b;obtain⟨cs,h,_⟩:=b;exact⟨cs,h⟩
  ·rename_i c;rw[c]at b;obtain⟨cs,h,_⟩:=b;exact⟨cs,h⟩
  cases a
theorem Jv{r:Reach}{f:Nat}{t:TypeId}{v:Value}{n:Nat}{e:List Sh}(b:xh P n t=some (false,e))(c:Value.okWide P w r f t v):v.cells=#[v]:=by
 have d:∀cs,v≠.agg cs:=by
  rintro cs rfl;cases n with
  |zero=>simp[xh]at b
  |succ n=>
   unfold xh at b;unfold Value.okWide Cell.okWide at c;split at b
   ·rename_i a;simp[a,Cell.ok]at c
   ·rename_i a;simp[a,Cell.ok]at c
   ·rename_i a;simp[a,Cell.ok]at c
   ·rename_i a;simp[a,Cell.ok]at c
   ·obtain⟨q,_,h⟩:=aR.1 b;cases h
   ·obtain⟨q,_,h⟩:=aR.1 b;cases h
   cases b
 cases v<;>first|rfl|exact absurd rfl (d _)
theorem YU(K:Kids P T){n:Nat}{t:TypeId}{v:Value}{d:DataW H}{D:List MemPlace}{s:Bool×List Sh}{r:Reach}{u:Nat}(B:∀b,b<w.heap.size→c.bor b)(A:T t)(k:xh P n t=some s)
  (q:Value.okWide P w r u t v) (hd:DataW.Trod enc P w 0 (fun _=>true) true t v d D):∃x,JL s x∧R M w c x v:=by
 obtain⟨dH,hd⟩:=hd;obtain⟨a,l⟩:=s;obtain⟨f,e⟩:=QO (M:=M) K n dH t _ _ c a l B A k hd;cases a with
 |true=>
  obtain⟨cs,rfl⟩:=Jz k q;refine⟨.agg f,⟨rfl,e.len.1,e.len.1,fun i h m=>(e.get i h m (by rw[e.len.2];exact h)).2.2.2.1⟩,?_⟩;have C:cs.size=f.length:=by
   have:=e.len.2;simp[Value.cells]at this;rw[this,e.len.1]
  have hi:∀i,i<f.length→i<cs.size:=fun i h=>by omega
  have key:∀i (h:i<f.length),_:=fun i h=>e.get i (by rw[←e.len.1];exact h) h (by simpa [Value.cells] using hi i h);refine .agg (fun i=>(cs[i]?).getD default) C (fun i h=>?_) (fun i h=>?_) fun i h=>?_
  ·have:=(key i h).1;simp[Value.cells,hi i h]at this ⊢;exact this
  ·exact⟨by rw[(key i h).2.2.1];exact aF _,(key i h).2.1⟩
  have:=(key i h).2.2.2.2;simp[Value.cells,hi i h]at this ⊢;exact this
 |false=>
  have j:=NP k;have z:=Jv k q;rw[z]at e;have o:=e.len.1;rw[j]at o
  match f,o,e with
  |[y],_,e=>
   have g:=e.get 0 (by omega) (by simp) (by simp);simp only[cU]at g;have p:cellsOf y=[y]:=by
    have:=g.2.1;cases y<;>first|rfl|(simp[isAgg]at this)
   refine⟨y,⟨g.2.1,by rw[p,j];rfl,by rw[g.2.2.1,j],fun i h m=>?_⟩,by simpa using g.2.2.2.2⟩;have hi:i=0:=by rw[j]at h;omega
   subst hi;simpa only [p,cU] using g.2.2.2.1
inductive BE:List (Bool×List Sh)→List aq→Prop
 |nil:BE [] []
 |cons {s x ss xs}:JL s x→BE ss xs→BE (s::ss) (x::xs)
theorem KI(K:Kids P T){n:Nat}{r:Reach}{B:Nat}(u:∀b,b<w.heap.size→c.bor b):∀{d:List TypeId} {vs:List Value} {e:List (DataW H)} {p:List MemPlace} {ss:List (Bool×List Sh)},(∀t∈d,T t)→d.mapM (xh P n)=some ss →
  (∀(j:Nat) t v,d[j]?=some t→vs[j]?=some v→Value.okWide P w r B t v)→DataW.TrodAll enc P w 0 (fun _=>true) true d vs e p →
  ∃xs:List aq,BE ss xs∧xs.length=vs.length∧∀i (h:i<xs.length),∃x,vs[i]?=some x∧R M w c xs[i] x
 |[],vs,e,p,ss,_,a,_,h=>by
  obtain⟨rfl,rfl,rfl⟩:=trodAll_nil h;cases a;exact⟨[],.nil,rfl,fun i h=>absurd h (cZ _)⟩
 |t::d,vs,e,p,ss,q,a,z,h=>by
  obtain⟨A,L,N,C,O,Q,rfl,rfl,rfl,D,I⟩:=trodAll_cons h;rw[List.mapM_cons]at a;simp only[bind,aL,pure,aK]at a;obtain⟨s,l,J,m,rfl⟩:=a;obtain⟨x,G,E⟩:=YU (M:=M) (c:=c) K u (q t (dF ..)) l (z 0 t A rfl rfl) D;obtain⟨xs,o,F,k⟩:=KI K u (fun t h=>q t (bZ _ h)) m (fun j t v f g=>z (j+1) t v (by simpa using f) (by simpa using g)) I;refine⟨x::xs,.cons G o,by simp[F],fun i h=>?_⟩;cases i with
  |zero=>exact⟨A,rfl,E⟩
  |succ i=>
   obtain⟨y,f,g⟩:=k i (by simpa using h);exact⟨y,by simpa using f,g⟩
end
end Go.AM
namespace Go.AM
open Go.ChangeShapes Go.WideShapes Go.RowKit
section
variable {H:Type} {enc:TypeId×Value→H} {P:Program} {W W':World}
theorem AQ{base:Nat}{g:Nat→Bool}{a:Bool}:∀{i:List TypeId} {vs:List Value} {d:List (DataW H)} {c:List MemPlace},DataW.TrodAll enc P W base g a i vs d c→(∀p∈c,W.sameAt W' p) →
  DataW.TrodAll enc P W' base g a i vs d c
 |[],[],[],_,h,_=>h
 |_::_,_::_,_::_,_,⟨p,q,⟨n,j⟩,k,e⟩,f=>⟨p,q,⟨n,DataW.trod_carry n _ _ _ j fun x b=>f x (by rw[e];exact List.mem_append_left _ b)⟩,AQ k fun x b=>f x (by rw[e];exact List.mem_append_right _ b),e⟩
theorem JF{f:Func}{s:ChangeSpec}{args:Array Value}{l gs:List (DataW H)}{a:List MemPlace}{tb:TypeId}(B:Kids P (· < P.types.size))(D:∀t e,t<P.types.size→P.underlying t=some (.slice e)→0<P.cellsOf e)
  (A:∀t∈f.params.toList,t<P.types.size) (m:DataW.Whole enc P f.params.toList s.vars false W args.toList l gs a) (y:s.vars=[]) (k:f.resultTypes=#[tb]) (r:P.underlying tb=some .bool)
  (c:s.fn H l={ results:=[.lit (.bool true)],args:=l }) (w:Same W W') (C:W.heap.size≤W'.heap.size) (d:∀b,b<W.heap.size→W'.heap[b]?=W.heap[b]?) :
  s.post enc P f false true false false W args (.bool true) W':=by
 have j:=m.lt;have n:=m;obtain⟨p,q,z,v,rfl,_,_⟩:=m;rw[y]at v;obtain⟨rfl,rfl⟩:=trodVars_none v;have g:∀x∈p,W.sameAt W' x:=fun x u=>by
  have:=j x (by simpa using u);cases x with
  |cell b off=>exact p7 (d b this) off
  |map b=>exact d b this
 refine⟨l,[],p++[],[],p,[],n,?_,?_,?_,?_,fun h=>by cases h⟩
 ·rw[dJ,c,k];exact trodAll_cons_mk (shut_bool r true) trodAll_mk0
 ·rw[dJ,c];exact AQ (DataW.TrodAll.respare B D A z fun x u=>qK (j x (by simpa using u))) g
 ·rw[y,dJ,c];exact rfl
 refine⟨w.os,w.output,fun i hi=>?_⟩;rw[d i hi];cases W.heap[i]? with
 |none=>simp
 |some o=>cases o<;>simp
end
mutual
def yL{H:Type}:DataW H→Option (List Value)
 |.lit (.int k n)=>some [.int k n]
 |.lit (.bool b)=>some [.bool b]
 |.lit (.string s)=>some [.string ⟨s.toArray⟩]
 |.agg l=>Pg l
 |_=>none
def Pg{H:Type}:List (DataW H)→Option (List Value)
 |[]=>some []
 |d::r=>(yL d).bind fun a=>(Pg r).map (a++·)
end
theorem LD:∀(l:List Nat) (a:List (List Value)) (cs:List Value),l.length=a.length→cs.length=l.sum→(∀j z p,l[j]?=some z→a[j]?=some p→(cs.drop (l.take j).sum).take z=p)→cs=a.flatten
 |[],[],cs,_,h,_=>by simpa using h
 |z::l,p::a,cs,f,h,c=>by
  have b:=c 0 z p rfl rfl;simp at b
  have:=LD l a (cs.drop z) (by simpa using f) (by simp at h ⊢;omega) fun j i g d e=>by
   have:=c (j+1) i g (by simpa using d) (by simpa using e);simpa [nu] using this
  rw[List.flatten_cons,←this,←b,o5]
 |[],_::_,_,h,_,_=>by cases h
 |_::_,[],_,h,_,_=>by cases h
theorem Bj{H:Type}:∀{l:List (DataW H)} {vs:List Value},Pg l=some vs→∃c:List (List Value),c.length=l.length∧vs=c.flatten∧∀(j:Nat) d,l[j]?=some d→∃p,c[j]?=some p∧yL d=some p
 |[],vs,h=>by
  simp[Pg]at h;exact⟨[],rfl,by simp[h],fun j d h=>by simp at h⟩
 |d::r,vs,h=>by
  simp only[Pg,aL,aR]at h;obtain⟨a,m,b,n,rfl⟩:=h;obtain⟨c,g,i,k⟩:=Bj n;refine⟨a::c,by simp[g],by simp[i],fun j f e=>?_⟩;cases j with
  |zero=>simp at e;subst e;exact⟨a,rfl,m⟩
  |succ j=>simpa using k j f (by simpa using e)
theorem acV{H:Type}{enc:TypeId×Value→H}{P:Program}{T:TypeId→Prop}{w:World}{base:Nat}{N:Nat→Bool}{l:Bool}(K:Kids P T) :
  ∀(dH:Nat) (t:TypeId) (cs:List Value) (d:DataW H) (p:List MemPlace) (vs:List Value),T t→DataW.trod enc P w base N l dH t cs=some (d,p)→yL d=some vs→cs=vs:=by
 intro dH;induction dH with
 |zero=>intro t cs d p vs _ h;simp[DataW.trod]at h
 |succ dH G=>
  intro t cs d p vs E h a;have J:=h;rw[DataW.trod_step]at h;unfold DataW.trodStep at h;split at h
  case h_1=>cases h;simpa [yL] using a
  case h_2=>split at h<;>cases h;rename_i L;obtain⟨rfl,_⟩:=L;simpa [yL] using a
  case h_4=>split at h<;>cases h;simpa [yL] using a
  case h_9 ht=>
   rename_i fs;obtain⟨xs,k,I,q,g,b,s⟩:=DataW.trod_struct ht J;cases I;obtain⟨k1,k2,k3⟩:=K.struct E ht;have r:d=.agg (xs.map (·.1)):=(Prod.mk.inj q).1;subst r;simp only[yL]at a;obtain⟨v,x,rfl,y⟩:=Bj a;refine LD (fs.toList.map fun f=>P.cellsOf f.type) v _ (by rw[x,dm,dm,b,cQ]) (by rw[g,k2]) fun j z p c u=>?_;rw[ed,aR]at c;obtain⟨f,c,rfl⟩:=c;have n:=(ak.1 c).1;have A:=s j f (by simpa using c);rw[k3 j f c,au (by rw[b];simpa using n)]at A;obtain⟨M,i,o⟩:=y j _ (by rw[ed,au (by rw[b];simpa using n)];rfl);rw[u]at i;cases i;rw[←List.map_take];exact G _ _ _ _ _ (k1 f (aN c)) A o
  case h_10 ht=>
   rename_i m e;split at h
   ·rename_i g;obtain⟨xs,F,q⟩:=aR.1 h;have r:d=.agg (xs.map (·.1)):=((Prod.mk.inj q).1).symm;subst r;obtain⟨k1,k2⟩:=K.array E ht;simp only[yL]at a;obtain⟨v,x,rfl,y⟩:=Bj a;have b:xs.length=m:=by simpa using mapM_some_length F
    refine LD (List.replicate m (P.cellsOf e)) v _ (by simp[x,b]) (by rw[g,k2,rB]) fun j z p c u=>?_;obtain⟨B,C⟩:=ak.1 c;simp at B C;subst C;rw[List.take_replicate,rB,show min j m=j by omega];have D:=mapM_some_get F j j (by simp[B]);rw[au (by omega)]at D;obtain⟨M,i,o⟩:=y j _ (by rw[ed,au (by omega)];rfl);rw[u]at i;cases i;exact G _ _ _ _ _ k1 D o
   cases h
  all_goals first
   |(cases h;done)
   |(cases h;simp[yL]at a;done)
   |(simp only[aR]at h;obtain⟨_,_,h⟩:=h;cases h;simp[yL]at a;done)
   |(split at h<;>first|(cases h;done)|(cases h;simp[yL]at a;done)|(simp only[aL,aR]at h;obtain⟨_,_,_,_,h⟩:=h;cases h;simp[yL]at a;done)|(simp only[aR]at h;obtain⟨_,_,h⟩:=h;cases h;simp[yL]at a;done)|skip)
  split at h
  ·obtain⟨en,_,h⟩:=aL.1 h;simp only at h;split at h
   ·cases h;simp[yL]at a
   cases h
  cases h
def toV:aq→Option Value
 |.int k n=>some (.int k n)
 |.bool b=>some (.bool b)
 |.str s=>some (.string ⟨s.toArray⟩)
 |_=>none
theorem ahe{M:dk}{w:World}{c:dh}{a:aq}{v:Value}(h:toV a=some v):R M w c a v∧v.oneCell'=true:=by
 cases a<;>simp[toV]at h<;>subst h
 ·exact⟨.int,rfl⟩
 ·exact⟨.bool,rfl⟩
 exact⟨.str rfl,rfl⟩
theorem laid_mem{P:Program}{w:World}:∀{l:List (String×DataW Unit)} {b:List MemPlace},DataW.LaidVars P w l b→∀n d,(n,d)∈l →
  ∃g t cs dH p,P.globalNamed n=some g∧(P.globals[g]?).map (·.type)=some t∧w.var? P n=some cs∧DataW.trod (fun _=>()) P w 0 (fun _=>true) false dH t cs.toList=some (d,p)
 |[],_,_,n,d,h=>by cases h
 |(o,m)::r,b,h,n,d,a=>by
  obtain⟨g,t,cs,dH,p,q,c,f,i,j,k,_⟩:=h;rcases dW.1 a with e|a
  ·cases e;exact⟨g,t,cs,dH,p,c,f,i,j⟩
  exact laid_mem k n d a
theorem Zh{P:Program}{fm:Nat→FuncId}{glob:Nat→Option aq}{sites:Nat→Option uB}{W:World}{laid:List (String×DataW Unit)}{lp:mq}{T:TypeId→Prop}(K:Kids P T)(hT:∀(g:Nat) t,(P.globals[g]?).map (·.type)=some t→T t)(hL:laidMet P laid W)
  (hg:∀g a,glob g=some a→∃n d vs,(n,d)∈laid∧P.globalNamed n=some g∧yL d=some vs∧(cellsOf a).map toV=vs.map some∧aM a=vs.length∧vs≠[])
  (hu:∀ g13 g3 g4 gE,P.globalNamed "unicode.CaseRanges" = some g13→P.globalNamed "unicode/utf8.first" = some g3→P.globalNamed "unicode/utf8.acceptRanges" = some g4→P.globalNamed "strconv.ErrRange" = some gE→Lib.CaseVar g13 Lib.caseA W∧Lib.Utf8Tabs g3 g4 W∧∃ te pe,W.cell? ⟨gE,0,none⟩=some (.iface te pe)) :
  kC (dk.of P fm glob sites) W (dh.start W (fun _=>True) lp):=by
 refine⟨?_,fun g13 g3 g4 gE n1 n2 n3 n4=>?_⟩
 rotate_left
 ·obtain⟨⟨R,oR,cap,v1,v2⟩,u,te,pe,ve⟩:=hu g13 g3 g4 gE n1 n2 n3 n4;exact⟨⟨R,oR,cap,v1,v2,⟨trivial,World.block_lt_of_cell? W _ v1⟩,⟨trivial,World.block_lt_of_cell? W _ (v2 0 VR).1⟩⟩,u,⟨trivial,World.block_lt_of_cell? W _ (u.1 0 (by omega))⟩,⟨trivial,World.block_lt_of_cell? W _ (u.2 0 (by omega)).1⟩,⟨te,pe,ve⟩,⟨trivial,World.block_lt_of_cell? W _ ve⟩⟩
 intro g a ha;obtain⟨n,d,vs,h1,h2,h3,h4,h5,h6⟩:=hg g a ha;obtain⟨ps,hv,_⟩:=hL;obtain⟨g',t,cs,dH,p,e1,e2,e3,e4⟩:=laid_mem hv n d h1;obtain rfl:=dN (h2.symm.trans e1);have hcs:=acV K dH t cs.toList d p vs (hT g t e2) e4 h3;have hlen:(cellsOf a).length=vs.length:=by simpa using congrArg List.length h4
 have hcell:∀j (h:j<vs.length),W.cell? ⟨g,j,none⟩=some vs[j]:=fun j h=>by
  rw[World.var?_cell h2 e3 j,←Array.getElem?_toList,hcs,au h]
 have hget:∀j (h:j<vs.length) (h':j<(cellsOf a).length),toV (cellsOf a)[j]=some vs[j]:=fun j h h'=>by
  have:=congrArg (·[j]?) h4;simpa [h,h'] using this
 have hsz:g<W.heap.size:=World.block_lt_of_cell? W _ (hcell 0 (eV.2 h6));have:=R.cptr (M:=dk.of P fm glob sites) (w:=W) (c:=dh.start W (fun _=>True) lp) (b:=false) (x:=a) (off:=0) (o:=0) (blk:=g) (fun j=>(vs[j]?).getD default) ⟨trivial,hsz⟩
  (by rw[h5];exact Nat.pos_iff_ne_zero.1 (eV.2 h6))
  (fun j hj=>by
   rw[h5]at hj;have:=hcell j hj;simp only[au hj,de,cD];exact⟨this,(ahe (M:=dk.of P fm glob sites) (w:=W) (c:=dh.start W (fun _=>True) lp) (hget j hj (by omega))).2⟩)
  (fun j hj=>by
   have hj':j<vs.length:=by omega
   simp only[au hj',de];exact (ahe (hget j hj' hj)).1)
 exact this
def Hg:Bool×List Sh→Bool
 |(true,_)=>true
 |(false,[.sl _ _])=>true
 |(false,[.bool])=>true
 |_=>false
theorem OO{s:Bool×List Sh}{x:aq}(h:JL s x)(d:Hg s=true):yP x=false:=by
 obtain⟨b,g,i,f⟩:=h;obtain⟨a,l⟩:=s;have c:isAgg x=false→cellsOf x=[x]:=fun h=>by cases x<;>first|rfl|(simp[isAgg]at h)
 unfold Hg at d;split at d
 ·rename_i e;cases e;cases x<;>first|rfl|(simp[isAgg]at b;done)
 ·rename_i e;cases e;have:=f 0 (by simp) (by rw[c b];simp);simp only[c b,cU]at this;cases this;rfl
 ·rename_i e;cases e;have:=f 0 (by simp) (by rw[c b];simp);simp only[c b,cU]at this;cases this;rfl
 cases d
theorem Hm:∀{ss:List (Bool×List Sh)} {xs:List aq},BE ss xs→∀(i:Nat) s,ss[i]?=some s→∃x∈xs,JL s x
 |_,_,.nil,i,s,h=>by simp at h
 |_,_,.cons a b,i,s,h=>by
  cases i with
  |zero=>simp at h;subst h;exact⟨_,dF ..,a⟩
  |succ i=>
   obtain⟨x,d,c⟩:=Hm b i s (by simpa using h);exact⟨x,bZ _ d,c⟩
theorem Kh{s:Sh}{x:aq}(h:JL (false,[s]) x):mA s x:=by
 obtain⟨b,d,_,c⟩:=h;have a:cellsOf x=[x]:=by
  cases x with
  |agg cs=>cases b
  |_=>rfl
 have:=c 0 (by simp) (by rw[a];simp);simpa only [a,cU] using this
theorem mA.int_inv{k:IntKind}{x:aq}(h:mA (.int k) x):∃n,x=.int k n∧(Lit.int k n).wf=true:=by cases h with|int h=>exact⟨_,rfl,h⟩
theorem mA.str_inv{x:aq}(h:mA .str x):∃s,x=.str s∧s.length≤maxLen:=by cases h with|str h=>exact⟨_,rfl,h⟩
theorem Ln{P:Program}{fm:Nat→FuncId}{glob:Nat→Option aq}{sites:Nat→Option uB}{tbl:List kQ}{H:Type}{enc:TypeId×Value→H}{laid:List (String×DataW Unit)}{fn:Func}{s:ChangeSpec}{tb:TypeId}{k f:Nat}{ss:List (Bool×List Sh)}
  (hc:yY (dk.of P fm glob sites) P (xe tbl) (Bk tbl)) (hl:laidOutB P=true) (hm:mapsRowed P=true)
  (hz:((List.range P.types.size).all fun t=>match P.underlying t with|some (.slice e)=>decide (0<P.cellsOf e)|_=>true)=true)
  (hT:(fn.params.toList.all fun t=>decide (t<P.types.size))=true) (hgT:(P.globals.toList.all fun g=>decide (g.type<P.types.size))=true)
  (hg:∀g a,glob g=some a→∃n d vs,(n,d)∈laid∧P.globalNamed n=some g∧yL d=some vs∧(cellsOf a).map toV=vs.map some∧aM a=vs.length∧vs≠[])
  (hss:fn.params.toList.mapM (xh P k)=some ss) (hnp:∃(i:Nat) (s:Bool×List Sh),ss[i]?=some s∧Hg s=true) (hv:s.vars=[]) (hres:fn.resultTypes=#[tb]) (htb:P.underlying tb=some .bool)
  (hfn:∀ds:List (DataW H),ds.length=fn.params.size→s.fn H ds={ results:=[.lit (.bool true)],args:=ds })
  (hu:∀ W,laidMet P laid W→∀ g13 g3 g4 gE,P.globalNamed "unicode.CaseRanges" = some g13→P.globalNamed "unicode/utf8.first" = some g3→P.globalNamed "unicode/utf8.acceptRanges" = some g4→P.globalNamed "strconv.ErrRange" = some gE→Lib.CaseVar g13 Lib.caseA W∧Lib.Utf8Tabs g3 g4 W∧∃ te pe,W.cell? ⟨gE,0,none⟩=some (.iface te pe))
  (law:∀args,BE ss args→∃n,dV (Bk tbl) n f args []=some (.bool true,[]))
  {W:World} {base:Nat} {args:Array Value} {ds gs:List (DataW H)} {before:List MemPlace}
  (hval:∀(j:Nat) t v,fn.params[j]?=some t→args[j]?=some v→Value.okWide P W .any base t v)
  (hW:DataW.Whole enc P fn.params.toList s.vars false W args.toList ds gs before) (hL:laidMet P laid W) :
  Calls P (fm f) args W fun e W'=>∃v,e=.returned v∧s.post enc P fn false true false false W args v W':=by
 have K:Kids P (· < P.types.size):=kids_rows hl hm;have hT':∀t∈fn.params.toList,t<P.types.size:=fun t ht=>oo (ba.1 hT t ht);have hgT':∀(g:Nat) t,(P.globals[g]?).map (·.type)=some t→t<P.types.size:=fun g t h=>by
  obtain⟨x,h1,rfl⟩:=aR.1 h;exact oo (ba.1 hgT x (by simpa using vT h1))
 have hW':=hW;obtain⟨p,q,h1,h2,_,_,_⟩:=hW
 let lp:mq:=⟨0,#[],#[],.skip,.skip,0⟩
 obtain⟨xs,hxs,hxl,hxR⟩:=KI (M:=dk.of P fm glob sites) (c:=dh.start W (fun _=>True) lp) (n:=k) K (fun b hb=>hb) hT' hss (fun j t v h3 h4=>hval j t v (by simpa using h3) (by simpa using h4)) h1;obtain⟨i,s0,hi,hnp⟩:=hnp;obtain⟨x0,hx0,hx1⟩:=Hm hxs i s0 hi;obtain⟨n,hrun⟩:=law xs hxs;have hds:ds.length=fn.params.size:=by
  have:∀{ts:List TypeId} {vs:List Value} {ds:List (DataW H)} {ps:List MemPlace},DataW.TrodAll enc P W 0 (fun _=>true) true ts vs ds ps→ds.length=ts.length:=by
   intro ts;induction ts with
   |nil=>intro vs ds ps h;obtain⟨_,rfl,_⟩:=trodAll_nil h;rfl
   |cons t ts ih=>
    intro vs ds ps h;obtain⟨_,_,_,_,_,_,_,rfl,_,_,r0⟩:=trodAll_cons h;simp[ih r0]
  rw[this h1,cQ]
 refine (VV hc hrun ⟨x0,hx0,OO hx1 hnp⟩ (Zh K hgT' hL hg (hu W hL)) (⟨by rw[hxl,cQ],fun j hj=>by
  obtain⟨y,e1,e2⟩:=hxR j hj;exact⟨y,by simpa using e1,e2⟩⟩:ll _ W _ xs args)).mono fun e W' ⟨cv,c',he,hrf,hs,hsz,hfr⟩=>?_
 have hcv:cv=.bool true:=by
  cases hrf with
  |r h=>cases h;rfl
 subst he;subst hcv;exact⟨_,rfl,JF K (slices_full_of P hz) hT' hW' hv hres htb (hfn ds hds) hs hsz hfr⟩
end Go.AM
