/- Part of the proof. -/
import Derived.Test.YtmpmbfpkpannjaaGreatDoorAm09
import Derived.Test.YtmpmbfpkpannjaaGreatDoorAm10
import Derived.Test.YtmpmbfpkpannjaaGreatDoorAm11
import Derived.Test.YtmpmbfpkpannjaaGreatDoorAm12
import Derived.Test.YtmpmbfpkpannjaaGreatDoorAm13
import Derived.Test.YtmpmbfpkpannjaaGreatDoorAm14
import Derived.Deep.Slices
import Derived.ChangeBears
import Derived.WideShapes
import Derived.Deep.DeepHandedRow
import Derived.ReadAgain
import Derived.OpenShut
import Derived.RowKit
import Derived.LaidLaws
import Derived.ChangeOld
set_option linter.unusedVariables false
set_option linter.unusedSimpArgs false
set_option linter.unusedSectionVars false
namespace Go.AM.K
set_option maxRecDepth 100000 in
theorem all:Zr (adn Go.Proofs.Tryz.prog S.fm S.glob S.sites (xm P.tbl) S.em) 0 P.tbl:=Um (n:=0) (Cf (n:=0) (by decide) k1 (Cf (by decide) k2 (Cf (by decide) k3 (Cf (by decide) k4 (Cf (by decide) k5 (k6))))))
set_option maxRecDepth 100000 in
theorem site_of:∀s d,S.sites s=some d→∃g,P.tbl.getD s .none=.round g:=by
 intro s d h;unfold S.sites at h;split at h
 ·exact⟨_,rfl⟩
 ·exact⟨_,rfl⟩
 cases h
end Go.AM.K
namespace Go.AM
open Go.ChangeShapes Go.WideShapes
inductive Sh where
 |int (k:IntKind)
 |bool
 |str
 |sl (a:Bool) (cs:List Sh)
inductive mJ:Sh→aq→Prop
 |int {k n}:(Lit.int k n).wf=true→mJ (.int k) (.int k n)
 |bool {b}:mJ .bool (.bool b)
 |str {s:List UInt8}:s.length≤maxLen→mJ .str (.str s)
 |sl {a cs xs}:xs.length≤maxLen→(∀x∈xs,isAgg x=a∧(cellsOf x).length=cs.length∧aM x=cs.length) →
   (∀x∈xs,∀i (h:i<cs.length) (h':i<(cellsOf x).length),mJ cs[i] (cellsOf x)[i])→mJ (.sl a cs) (.aa true xs)
def xn(P:Program):Nat→TypeId→Option (Bool×List Sh)
 |0,_=>none
 |n+1,t=>match P.underlying t with
  |some .bool=>some (false,[.bool])
  |some (.int k)=>some (false,[.int k])
  |some .string=>some (false,[.str])
  |some (.slice e)=>(xn P n e).bind fun s=>if s.2.isEmpty then none else some (false,[.sl s.1 s.2])
  |some (.struct fs)=>(fs.toList.mapM fun f=>xn P n f.type).map fun l=>(true,(l.map (·.2)).flatten)
  |some (.array m e)=>(xn P n e).map fun s=>(true,(List.replicate m s.2).flatten)
  |_=>none
theorem NI{P:Program}:∀{n:Nat} {t:TypeId} {s:List Sh},xn P n t=some (false,s)→s.length=1
 |0,_,_,h=>by simp[xn]at h
 |n+1,t,s,h=>by
  unfold xn at h;split at h
  ·cases h;rfl
  ·cases h;rfl
  ·cases h;rfl
  ·obtain⟨q,_,h⟩:=aK.1 h;split at h
   ·cases h
   cases h;rfl
  ·obtain⟨q,_,h⟩:=aQ.1 h;cases h
  ·obtain⟨q,_,h⟩:=aQ.1 h;cases h
  cases h
inductive Rd (M:dm) (w:World) (c:dk):List Sh→List aq→List Value→Prop
 |nil:Rd M w c [] [] []
 |cons {s a v ss es vs}:v.oneCell'=true→isAgg a=false→aM a=1→mJ s a→R M w c a v→Rd M w c ss es vs→Rd M w c (s::ss) (a::es) (v::vs)
variable {M:dm} {w:World} {c:dk}
theorem Rd.append{b g:List Sh}{d a:List aq}{e f:List Value}(h:Rd M w c b d e)(o:Rd M w c g a f):Rd M w c (b++g) (d++a) (e++f):=by
 induction h with
 |nil=>exact o
 |cons j n l i m _ k=>exact .cons j n l i m k
theorem Rd.len{s:List Sh}{a:List aq}{v:List Value}(h:Rd M w c s a v):a.length=s.length∧v.length=s.length:=by
 induction h with
 |nil=>exact⟨rfl,rfl⟩
 |cons _ _ _ _ _ _ b=>exact⟨by simp[b.1],by simp[b.2]⟩
theorem Rd.get{s:List Sh}{a:List aq}{v:List Value}(h:Rd M w c s a v):∀i (b:i<s.length) (e:i<a.length) (d:i<v.length),v[i].oneCell'=true∧isAgg a[i]=false∧aM a[i]=1∧mJ s[i] a[i]∧R M w c a[i] v[i]:=by
 induction h with
 |nil=>intro i b;exact absurd b (cZ _)
 |cons g m k f l _ j=>
  intro i b e d;cases i with
  |zero=>exact⟨g,m,k,f,l⟩
  |succ i=>exact j i (by simpa using b) (by simpa using e) (by simpa using d)
theorem Mr:∀(l:List (Nat×List Sh)) (cs:List Value),cs.length=(l.map (·.1)).sum →
  (∀j z s,l[j]?=some (z,s)→∃a,Rd M w c s a ((cs.drop ((l.take j).map (·.1)).sum).take z))→∃a,Rd M w c (l.map (·.2)).flatten a cs
 |[],cs,h,_=>⟨[],by
  obtain rfl:cs=[]:=da (by simpa using h);exact .nil⟩
 |(z,s)::r,cs,h,b=>by
  obtain⟨f,e⟩:=b 0 z s rfl
  obtain⟨d,m⟩:=Mr r (cs.drop z) (by simp at h ⊢;omega) fun j g s' i=>by
   obtain⟨a,k⟩:=b (j+1) g s' (by simpa using i);refine⟨a,?_⟩;rw[nz];simpa using k
  refine⟨f++d,?_⟩;have:=e.append m;simpa using this
theorem rR(m k:Nat):(List.replicate m k).sum=m*k:=by
 induction m with
 |zero=>simp
 |succ m a=>rw[jH,List.sum_cons,a,Nat.succ_mul,iu]
section
variable {H:Type} {enc:TypeId×Value→H} {P:Program} {T:TypeId→Prop}
theorem EW{a:Addr}{i:Nat}{v:Value}(c:w.cell? (a.add i)=some v):a.add i=⟨a.block,a.off+i,none⟩:=by
 have b:(a.add i).spot=none:=by
  cases hsp:(a.add i).spot with
  |none=>rfl
  |some s=>
   simp only[World.cell?]at c;split at c
   ·simp[hsp]at c
   cases c
 unfold Addr.add at b ⊢;split
 ·rename_i d;subst d;rw[if_pos rfl]at b;cases a;simp_all
 rfl
theorem Sl{ab:Bool}(K:Kids P T):∀(n dE:Nat) (t:TypeId) (cs:List Value) (x:DataW H×List MemPlace) (c:dk) (a:Bool) (N:List Sh),(∀b,b<w.heap.size→c.bor b)→T t→xn P n t=some (a,N) →
  DataW.trod enc P w 0 (fun _=>true) ab dE t cs=some x→∃S,Rd M w c N S cs:=by
 intro n;induction n with
 |zero=>intro dE t cs x c a N _ _ h;simp[xn]at h
 |succ n ih=>
  intro dE t cs x c a N hb hT h hd;unfold xn at h;split at h
  ·rename_i A;obtain⟨b,rfl,_⟩:=DataW.trod_bool A hd;cases h;exact⟨_,.cons rfl rfl rfl .bool .bool .nil⟩
  ·rename_i k A;obtain⟨z,rfl,_,hw⟩:=DataW.trod_int A hd;cases h;exact⟨_,.cons rfl rfl rfl (.int hw) .int .nil⟩
  ·rename_i A;obtain⟨s,rfl,_,hw⟩:=DataW.trod_string A hd;cases h;exact⟨_,.cons (a:=.str s.data.toList) rfl rfl rfl (.str (by rw[cR];exact hw)) (.str rfl) .nil⟩
  ·rename_i e A;obtain⟨⟨ae,C⟩,O,h⟩:=aK.1 h;split at h
   ·cases h
   rename_i ao;cases h;have G:0<C.length:=by
    cases C with
    |nil=>exact absurd rfl ao
    |cons _ _=>simp
   rcases Deep.open_slice A hd with⟨rfl,_⟩|⟨X,len,cap,m,k,D,Pl,rfl,_,hl,hm,af,_,ah⟩
   ·exact⟨_,.cons (a:=.aa true []) rfl rfl rfl (.sl (by simp) (by simp) (by simp)) .imm0 .nil⟩
   simp only[cw]at af;subst af;have Z:∀i,i<len→∃q:List aq×List Value,w.cells? 0 (X.add (i*P.cellsOf e)) (P.cellsOf e)=some q.2∧Rd M w (c.still true) C q.1 q.2:=fun i hi=>by
    obtain⟨cs',o,g⟩:=ah i (by omega);obtain⟨S,r⟩:=ih _ _ _ _ (c.still true) _ _ hb (K.slice hT A) O g;exact⟨(S,cs'),o,r⟩
   obtain⟨F,Y⟩:=Deep.choose_lt Z
   let el (i:Nat):aq:=if ae then .agg (F i).1 else (F i).1.headD .any
   have u:∀i,i<len→isAgg (el i)=ae∧cellsOf (el i)=(F i).1∧aM (el i)=C.length:=fun i hi=>by
    have E:=(Y i hi).2;cases ae with
    |true=>exact⟨rfl,rfl,E.len.1⟩
    |false=>
     have o:=NI O;have g:=E.len.1;rw[o]at g
     match hq:(F i).1,g with
     |[y],_=>
      have hg:=E.get 0 G (by rw[hq];simp) (by rw[E.len.2];exact G);simp only[hq,cV]at hg;have:el i=y:=by simp[el,hq]
      rw[this,o];refine⟨hg.2.1,?_,hg.2.2.1⟩;cases y<;>first|rfl|(simp[isAgg]at hg)
   by_cases h0:len=0
   ·subst h0;exact⟨_,.cons (a:=.aa true []) rfl rfl rfl (.sl (by simp) (by simp) (by simp)) .imm0 .nil⟩
   have L:∀i j,i<len→j<C.length→∃v,(F i).2[j]?=some v∧w.cell? ⟨X.block,X.off+i*C.length+j,none⟩=some v∧v.oneCell'=true∧P.cellsOf e=C.length:=fun i j hi d=>by
    obtain⟨o,g⟩:=Y i hi;obtain⟨_,r,W⟩:=World.cells?_some o;have h5:P.cellsOf e=C.length:=by rw[←r,g.len.2]
    have h6:=W j (by omega);have h7:j<(F i).2.length:=by rw[g.len.2];exact d
    rw[au h7]at h6;have h8:=h6;rw[Deep.add_add]at h8;have h9:=EW h8;rw[h9,h5]at h8;exact⟨_,au h7,by rw[dA];exact h8,(g.get j d (by rw[g.len.1];exact d) h7).1,h5⟩
   have I:X.spot=none∧X.block<w.heap.size:=by
    obtain⟨v,_,hv,_,hK⟩:=L 0 0 (by omega) G;obtain⟨o,g⟩:=Y 0 (by omega);obtain⟨_,r,W⟩:=World.cells?_some o;have h6:=W 0 (by omega);rw[Deep.add_add,mH,cE,au (by omega)]at h6;have h9:=EW h6;have aj:=World.block_lt_of_cell? w _ hv;refine⟨?_,aj⟩;have:(X.add 0).spot=none:=by rw[h9]
    simpa [Addr.add] using this
   refine⟨_,.cons (a:=.aa true ((List.range len).map el)) rfl rfl rfl (.sl (by simp;omega) ?_ ?_) ?_ .nil⟩
   ·intro x Q;obtain⟨i,hi,rfl⟩:=bK.1 Q;have hi:=gq.1 hi;obtain⟨o,g,r⟩:=u i hi;exact⟨o,by rw[g];exact (Y i hi).2.len.1,r⟩
   ·intro x Q j d U;obtain⟨i,hi,rfl⟩:=bK.1 Q;have hi:=gq.1 hi;obtain⟨o,g,r⟩:=u i hi;have E:=(Y i hi).2;have:=(E.get j d (by rw[E.len.1];exact d) (by rw[E.len.2];exact d)).2.2.2.1;simpa only [g] using this
   have B:((List.range len).map el).length=len:=by simp
   have:=R.aa (M:=M) (w:=w) (c:=c) (b:=true) (xs:=(List.range len).map el) (cap:=m) (a:=X) C.length (fun i j=>((F i).2[j]?).getD default) (hb _ I.2) I.1 (by rw[B];exact hl) (by omega)
    (fun x Q=>by
     obtain⟨i,hi,rfl⟩:=bK.1 Q;exact (u i (gq.1 hi)).2.2)
    (fun i j hi d=>by
     rw[B]at hi;obtain⟨v,o,g,r,_⟩:=L i j hi d;simp only[o,dd];exact⟨g,r⟩)
    (fun i hi j d=>by
     have ag:i<len:=by rw[B]at hi;exact hi
     have e1:((List.range len).map el)[i]=el i:=by simp
     have e2:=(u i ag).2.1;have E:=(Y i ag).2;simp only[e1,e2]at d ⊢;have U:j<C.length:=by rw[E.len.1]at d;exact d
     have hv:j<(F i).2.length:=by rw[E.len.2];exact U
     simp only[au hv,dd];exact (E.get j U d hv).2.2.2.2)
   rw[B]at this;exact this
  ·rename_i fs A;obtain⟨l,hl,h⟩:=aQ.1 h;cases h;obtain⟨xs,k,rfl,_,V,an,hf⟩:=DataW.trod_struct A hd;obtain⟨k1,k2,k3⟩:=K.struct hT A;have ar:=mapM_some_length hl;have e0:((fs.toList.zip l).map fun p=>(P.cellsOf p.1.type,p.2.2)).map (·.1)=fs.toList.map fun f=>P.cellsOf f.type:=by
    rw[bY,show ((fun x:Nat×List Sh=>x.1)∘fun p:Field×Bool×List Sh=>(P.cellsOf p.1.type,p.2.2))=(fun f:Field=>P.cellsOf f.type)∘Prod.fst from rfl,←List.map_map,List.map_fst_zip (by omega)]
   have e1:((fs.toList.zip l).map fun p=>(P.cellsOf p.1.type,p.2.2)).map (·.2)=l.map (·.2):=by
    rw[bY,show ((fun x:Nat×List Sh=>x.2)∘fun p:Field×Bool×List Sh=>(P.cellsOf p.1.type,p.2.2))=(fun q:Bool×List Sh=>q.2)∘Prod.snd from rfl,←List.map_map,List.map_snd_zip (by omega)]
   have:=Mr (M:=M) (w:=w) (c:=c) ((fs.toList.zip l).map fun p=>(P.cellsOf p.1.type,p.2.2)) cs (by rw[e0,V,k2]) (fun j z s d=>by
    rw[jN,e0,←List.map_take];rw[eE,aQ]at d;obtain⟨⟨f,q⟩,d,hz⟩:=d;cases hz;rw[eW]at d;obtain⟨J,al⟩:=d;have o:=hf j f (by simpa using J);have g:=k3 j f J;have r:=mapM_some_get hl j f J;rw[al]at r;have W:j<xs.length:=by
     have:=(ak.1 J).1;rw[an];simpa using this
    rw[au W,g]at o;exact ih _ _ _ _ c q.1 q.2 hb (k1 f (aN J)) r o)
   rw[e1]at this;exact this
  ·rename_i m e A;obtain⟨⟨ae,C⟩,O,h⟩:=aQ.1 h;cases h;cases dE with
   |zero=>simp[DataW.trod]at hd
   |succ k=>
    rw[DataW.trod_step]at hd;unfold DataW.trodStep at hd;simp only[A]at hd;split at hd
    ·rename_i V;obtain⟨xs,Q,_⟩:=aQ.1 hd;obtain⟨k1,k2⟩:=K.array hT A
     have:=Mr (M:=M) (w:=w) (c:=c) (List.replicate m (P.cellsOf e,C)) cs (by simp[rR,V,k2]) (fun j z s d=>by
      obtain⟨o,g⟩:=ak.1 d;simp at o g;obtain⟨rfl,rfl⟩:=g;rw[List.take_replicate,List.map_replicate,rR,show min j m=j by omega];have r:=mapM_some_get Q j j (by simp[o]);have W:j<xs.length:=by rw[mapM_some_length Q];simpa using o
      rw[au W]at r;exact ih _ _ _ _ c ae C hb k1 O r)
     simpa using this
    cases hd
  cases h
def J8(s:Bool×List Sh)(x:aq):Prop:=isAgg x=s.1∧(cellsOf x).length=s.2.length∧aM x=s.2.length∧∀i (h:i<s.2.length) (h':i<(cellsOf x).length),mJ s.2[i] (cellsOf x)[i]
theorem JD{r:Reach}{e:Nat}{t:TypeId}{v:Value}{n:Nat}{d:List Sh}(a:xn P n t=some (true,d))(b:Value.okWide P w r e t v):∃cs,v=.agg cs:=by
 cases n with
 |zero=>simp[xn]at a
 |succ n=>
  unfold xn at a;unfold Value.okWide at b;split at a
  ·cases a
  ·cases a
  ·cases a
  ·obtain⟨q,_,a⟩:=aK.1 a;split at a<;>cases a
  ·rename_i c;rw[c]at b;obtain⟨cs,h,_⟩:=b;exact⟨cs,h⟩
  ·rename_i c;rw[c]at b;obtain⟨cs,h,_⟩:=b;exact⟨cs,h⟩
  cases a
theorem Jm{r:Reach}{f:Nat}{t:TypeId}{v:Value}{n:Nat}{e:List Sh}(b:xn P n t=some (false,e))(c:Value.okWide P w r f t v):v.cells=#[v]:=by
 have d:∀cs,v≠.agg cs:=by
  rintro cs rfl;cases n with
  |zero=>simp[xn]at b
  |succ n=>
   unfold xn at b;unfold Value.okWide Cell.okWide at c;split at b
   ·rename_i a;simp[a,Cell.ok]at c
   ·rename_i a;simp[a,Cell.ok]at c
   ·rename_i a;simp[a,Cell.ok]at c
   ·rename_i a;simp[a,Cell.ok]at c
   ·obtain⟨q,_,h⟩:=aQ.1 b;cases h
   ·obtain⟨q,_,h⟩:=aQ.1 b;cases h
   cases b
 cases v<;>first|rfl|exact absurd rfl (d _)
theorem Xj(K:Kids P T){n:Nat}{t:TypeId}{v:Value}{d:DataW H}{C:List MemPlace}{s:Bool×List Sh}{r:Reach}{z:Nat}(A:∀b,b<w.heap.size→c.bor b)(u:T t)(k:xn P n t=some s)
  (q:Value.okWide P w r z t v) (hd:DataW.Trod enc P w 0 (fun _=>true) true t v d C):∃x,J8 s x∧R M w c x v:=by
 obtain⟨dE,hd⟩:=hd;obtain⟨a,l⟩:=s;obtain⟨f,e⟩:=Sl (M:=M) K n dE t _ _ c a l A u k hd;cases a with
 |true=>
  obtain⟨cs,rfl⟩:=JD k q;refine⟨.agg f,⟨rfl,e.len.1,e.len.1,fun i h o=>(e.get i h o (by rw[e.len.2];exact h)).2.2.2.1⟩,?_⟩;have D:cs.size=f.length:=by
   have:=e.len.2;simp[Value.cells]at this;rw[this,e.len.1]
  have hi:∀i,i<f.length→i<cs.size:=fun i h=>by omega
  have key:∀i (h:i<f.length),_:=fun i h=>e.get i (by rw[←e.len.1];exact h) h (by simpa [Value.cells] using hi i h);refine .agg (fun i=>(cs[i]?).getD default) D (fun i h=>?_) (fun i h=>?_) fun i h=>?_
  ·have:=(key i h).1;simp[Value.cells,hi i h]at this ⊢;exact this
  ·exact⟨by rw[(key i h).2.2.1];exact aF _,(key i h).2.1⟩
  have:=(key i h).2.2.2.2;simp[Value.cells,hi i h]at this ⊢;exact this
 |false=>
  have j:=NI k;have B:=Jm k q;rw[B]at e;have m:=e.len.1;rw[j]at m
  match f,m,e with
  |[y],_,e=>
   have g:=e.get 0 (by omega) (by simp) (by simp);simp only[cV]at g;have p:cellsOf y=[y]:=by
    have:=g.2.1;cases y<;>first|rfl|(simp[isAgg]at this)
   refine⟨y,⟨g.2.1,by rw[p,j];rfl,by rw[g.2.2.1,j],fun i h o=>?_⟩,by simpa using g.2.2.2.2⟩;have hi:i=0:=by rw[j]at h;omega
   subst hi;simpa only [p,cV] using g.2.2.2.1
inductive BM:List (Bool×List Sh)→List aq→Prop
 |nil:BM [] []
 |cons {s x ss xs}:J8 s x→BM ss xs→BM (s::ss) (x::xs)
theorem KL(K:Kids P T){n:Nat}{r:Reach}{G:Nat}(A:∀b,b<w.heap.size→c.bor b):∀{a:List TypeId} {vs:List Value} {g:List (DataW H)} {p:List MemPlace} {ss:List (Bool×List Sh)},(∀t∈a,T t)→a.mapM (xn P n)=some ss →
  (∀(j:Nat) t v,a[j]?=some t→vs[j]?=some v→Value.okWide P w r G t v)→DataW.TrodAll enc P w 0 (fun _=>true) true a vs g p →
  ∃xs:List aq,BM ss xs∧xs.length=vs.length∧∀i (h:i<xs.length),∃x,vs[i]?=some x∧R M w c xs[i] x
 |[],vs,g,p,ss,_,d,_,h=>by
  obtain⟨rfl,rfl,rfl⟩:=trodAll_nil h;cases d;exact⟨[],.nil,rfl,fun i h=>absurd h (cZ _)⟩
 |t::a,vs,g,p,ss,u,d,z,h=>by
  obtain⟨q,D,Q,B,N,O,rfl,rfl,rfl,F,C⟩:=trodAll_cons h;rw[List.mapM_cons]at d;simp only[bind,aK,pure,aL]at d;obtain⟨s,e,E,m,rfl⟩:=d;obtain⟨x,I,J⟩:=Xj (M:=M) (c:=c) K A (u t (dH ..)) e (z 0 t q rfl rfl) F;obtain⟨xs,f,L,k⟩:=KL K A (fun t h=>u t (cf _ h)) m (fun j t v l o=>z (j+1) t v (by simpa using l) (by simpa using o)) C;refine⟨x::xs,.cons I f,by simp[L],fun i h=>?_⟩;cases i with
  |zero=>exact⟨q,rfl,J⟩
  |succ i=>
   obtain⟨y,l,o⟩:=k i (by simpa using h);exact⟨y,by simpa using l,o⟩
end
end Go.AM
namespace Go.AM
open Go.ChangeShapes Go.WideShapes Go.RowKit
section
variable {H:Type} {enc:TypeId×Value→H} {P:Program} {W W':World}
theorem AU{base:Nat}{d:Nat→Bool}{a:Bool}:∀{f:List TypeId} {vs:List Value} {i:List (DataW H)} {c:List MemPlace},DataW.TrodAll enc P W base d a f vs i c→(∀p∈c,W.sameAt W' p) →
  DataW.TrodAll enc P W' base d a f vs i c
 |[],[],[],_,h,_=>h
 |_::_,_::_,_::_,_,⟨p,q,⟨n,j⟩,k,e⟩,g=>⟨p,q,⟨n,DataW.trod_carry n _ _ _ j fun x b=>g x (by rw[e];exact List.mem_append_left _ b)⟩,AU k fun x b=>g x (by rw[e];exact List.mem_append_right _ b),e⟩
theorem Jo{f:Func}{s:ChangeSpec}{args:Array Value}{l gs:List (DataW H)}{a:List MemPlace}{tb:TypeId}(D:Kids P (· < P.types.size))(z:∀t e,t<P.types.size→P.underlying t=some (.slice e)→0<P.cellsOf e)
  (B:∀t∈f.params.toList,t<P.types.size) (m:DataW.Whole enc P f.params.toList s.vars false W args.toList l gs a) (v:s.vars=[]) (j:f.resultTypes=#[tb]) (n:P.underlying tb=some .bool)
  (d:s.fn H l={ results:=[.lit (.bool true)],args:=l }) (w:Same W W') (A:W.heap.size≤W'.heap.size) (g:∀b,b<W.heap.size→W'.heap[b]?=W.heap[b]?) :
  s.post enc P f false true false false W args (.bool true) W':=by
 have k:=m.lt;have r:=m;obtain⟨p,q,C,y,rfl,_,_⟩:=m;rw[v]at y;obtain⟨rfl,rfl⟩:=trodVars_none y;have c:∀x∈p,W.sameAt W' x:=fun x u=>by
  have:=k x (by simpa using u);cases x with
  |cell b off=>exact qR (g b this) off
  |map b=>exact g b this
 refine⟨l,[],p++[],[],p,[],r,?_,?_,?_,?_,fun h=>by cases h⟩
 ·rw[dO,d,j];exact trodAll_cons_mk (shut_bool n true) trodAll_mk0
 ·rw[dO,d];exact AU (DataW.TrodAll.respare D z B C fun x u=>qL (k x (by simpa using u))) c
 ·rw[v,dO,d];exact rfl
 refine⟨w.os,w.output,fun i hi=>?_⟩;rw[g i hi];cases W.heap[i]? with
 |none=>simp
 |some o=>cases o<;>simp
end
mutual
def yZ{H:Type}:DataW H→Option (List Value)
 |.lit (.int k n)=>some [.int k n]
 |.lit (.bool b)=>some [.bool b]
 |.lit (.string s)=>some [.string ⟨s.toArray⟩]
 |.agg l=>Oa l
 |_=>none
def Oa{H:Type}:List (DataW H)→Option (List Value)
 |[]=>some []
 |d::r=>(yZ d).bind fun a=>(Oa r).map (a++·)
end
theorem LM:∀(l:List Nat) (a:List (List Value)) (cs:List Value),l.length=a.length→cs.length=l.sum→(∀j z p,l[j]?=some z→a[j]?=some p→(cs.drop (l.take j).sum).take z=p)→cs=a.flatten
 |[],[],cs,_,h,_=>by simpa using h
 |z::l,p::a,cs,i,h,c=>by
  have b:=c 0 z p rfl rfl;simp at b
  have:=LM l a (cs.drop z) (by simpa using i) (by simp at h ⊢;omega) fun j e g d f=>by
   have:=c (j+1) e g (by simpa using d) (by simpa using f);simpa [nz] using this
  rw[List.flatten_cons,←this,←b,pf]
 |[],_::_,_,h,_,_=>by cases h
 |_::_,[],_,h,_,_=>by cases h
theorem Bx{H:Type}:∀{l:List (DataW H)} {vs:List Value},Oa l=some vs→∃c:List (List Value),c.length=l.length∧vs=c.flatten∧∀(j:Nat) d,l[j]?=some d→∃p,c[j]?=some p∧yZ d=some p
 |[],vs,h=>by
  simp[Oa]at h;exact⟨[],rfl,by simp[h],fun j d h=>by simp at h⟩
 |d::r,vs,h=>by
  simp only[Oa,aK,aQ]at h;obtain⟨a,i,b,k,rfl⟩:=h;obtain⟨c,m,g,f⟩:=Bx k;refine⟨a::c,by simp[m],by simp[g],fun j n e=>?_⟩;cases j with
  |zero=>simp at e;subst e;exact⟨a,rfl,i⟩
  |succ j=>simpa using f j n (by simpa using e)
theorem ac5{H:Type}{enc:TypeId×Value→H}{P:Program}{T:TypeId→Prop}{w:World}{base:Nat}{I:Nat→Bool}{l:Bool}(K:Kids P T) :
  ∀(dE:Nat) (t:TypeId) (cs:List Value) (d:DataW H) (p:List MemPlace) (vs:List Value),T t→DataW.trod enc P w base I l dE t cs=some (d,p)→yZ d=some vs→cs=vs:=by
 intro dE;induction dE with
 |zero=>intro t cs d p vs _ h;simp[DataW.trod]at h
 |succ dE C=>
  intro t cs d p vs E h a;have L:=h;rw[DataW.trod_step]at h;unfold DataW.trodStep at h;split at h
  case h_1=>cases h;simpa [yZ] using a
  case h_2=>split at h<;>cases h;rename_i M;obtain⟨rfl,_⟩:=M;simpa [yZ] using a
  case h_4=>split at h<;>cases h;simpa [yZ] using a
  case h_9 ht=>
   rename_i fs;obtain⟨xs,k,J,u,g,b,x⟩:=DataW.trod_struct ht L;cases J;obtain⟨k1,k2,k3⟩:=K.struct E ht;have o:d=.agg (xs.map (·.1)):=(Prod.mk.inj u).1;subst o;simp only[yZ]at a;obtain⟨y,q,rfl,v⟩:=Bx a;refine LM (fs.toList.map fun f=>P.cellsOf f.type) y _ (by rw[q,dg,dg,b,cR]) (by rw[g,k2]) fun j z p c s=>?_;rw[eE,aQ]at c;obtain⟨f,c,rfl⟩:=c;have n:=(ak.1 c).1;have D:=x j f (by simpa using c);rw[k3 j f c,au (by rw[b];simpa using n)]at D;obtain⟨N,i,r⟩:=v j _ (by rw[eE,au (by rw[b];simpa using n)];rfl);rw[s]at i;cases i;rw[←List.map_take];exact C _ _ _ _ _ (k1 f (aN c)) D r
  case h_10 ht=>
   rename_i m e;split at h
   ·rename_i g;obtain⟨xs,G,u⟩:=aQ.1 h;have o:d=.agg (xs.map (·.1)):=((Prod.mk.inj u).1).symm;subst o;obtain⟨k1,k2⟩:=K.array E ht;simp only[yZ]at a;obtain⟨y,q,rfl,v⟩:=Bx a;have b:xs.length=m:=by simpa using mapM_some_length G
    refine LM (List.replicate m (P.cellsOf e)) y _ (by simp[q,b]) (by rw[g,k2,rR]) fun j z p c s=>?_;obtain⟨B,A⟩:=ak.1 c;simp at B A;subst A;rw[List.take_replicate,rR,show min j m=j by omega];have F:=mapM_some_get G j j (by simp[B]);rw[au (by omega)]at F;obtain⟨N,i,r⟩:=v j _ (by rw[eE,au (by omega)];rfl);rw[s]at i;cases i;exact C _ _ _ _ _ k1 F r
   cases h
  all_goals first
   |(cases h;done)
   |(cases h;simp[yZ]at a;done)
   |(simp only[aQ]at h;obtain⟨_,_,h⟩:=h;cases h;simp[yZ]at a;done)
   |(split at h<;>first|(cases h;done)|(cases h;simp[yZ]at a;done)|(simp only[aK,aQ]at h;obtain⟨_,_,_,_,h⟩:=h;cases h;simp[yZ]at a;done)|(simp only[aQ]at h;obtain⟨_,_,h⟩:=h;cases h;simp[yZ]at a;done)|skip)
  split at h
  ·obtain⟨en,_,h⟩:=aK.1 h;simp only at h;split at h
   ·cases h;simp[yZ]at a
   cases h
  cases h
def toV:aq→Option Value
 |.int k n=>some (.int k n)
 |.bool b=>some (.bool b)
 |.str s=>some (.string ⟨s.toArray⟩)
 |_=>none
theorem afa{M:dm}{w:World}{c:dk}{a:aq}{v:Value}(h:toV a=some v):R M w c a v∧v.oneCell'=true:=by
 cases a<;>simp[toV]at h<;>subst h
 ·exact⟨.int,rfl⟩
 ·exact⟨.bool,rfl⟩
 exact⟨.str rfl,rfl⟩
theorem laid_mem{P:Program}{w:World}:∀{l:List (String×DataW Unit)} {b:List MemPlace},DataW.LaidVars P w l b→∀n d,(n,d)∈l →
  ∃g t cs dE p,P.globalNamed n=some g∧(P.globals[g]?).map (·.type)=some t∧w.var? P n=some cs∧DataW.trod (fun _=>()) P w 0 (fun _=>true) false dE t cs.toList=some (d,p)
 |[],_,_,n,d,h=>by cases h
 |(m,o)::r,b,h,n,d,a=>by
  obtain⟨g,t,cs,dE,p,q,f,k,i,c,j,_⟩:=h;rcases dY.1 a with e|a
  ·cases e;exact⟨g,t,cs,dE,p,f,k,i,c⟩
  exact laid_mem j n d a
theorem aaA{P:Program}{fm:Nat→FuncId}{glob:Nat→Option aq}{sites:Nat→Option ui}{W:World}{laid:List (String×DataW Unit)}{lp:mi}{T:TypeId→Prop}(K:Kids P T)(hT:∀(g:Nat) t,(P.globals[g]?).map (·.type)=some t→T t)(hL:laidMet P laid W)
  (hg:∀g a,glob g=some a→∃n d vs,(n,d)∈laid∧P.globalNamed n=some g∧yZ d=some vs∧(cellsOf a).map toV=vs.map some∧aM a=vs.length∧vs≠[])
  (hu:∀ g13 g3 g4 gE,P.globalNamed "unicode.CaseRanges" = some g13→P.globalNamed "unicode/utf8.first" = some g3→P.globalNamed "unicode/utf8.acceptRanges" = some g4→P.globalNamed "strconv.ErrRange" = some gE→Lib.CaseVar g13 Lib.caseA W∧Lib.Utf8Tabs g3 g4 W∧∃ te pe,W.cell? ⟨gE,0,none⟩=some (.iface te pe)) :
  kS (dm.of P fm glob sites) W (dk.start W (fun _=>True) lp):=by
 refine⟨?_,fun g13 g3 g4 gE n1 n2 n3 n4=>?_⟩
 rotate_left
 ·obtain⟨⟨R,oR,cap,v1,v2⟩,u,te,pe,ve⟩:=hu g13 g3 g4 gE n1 n2 n3 n4;exact⟨⟨R,oR,cap,v1,v2,⟨trivial,World.block_lt_of_cell? W _ v1⟩,⟨trivial,World.block_lt_of_cell? W _ (v2 0 VU).1⟩⟩,u,⟨trivial,World.block_lt_of_cell? W _ (u.1 0 (by omega))⟩,⟨trivial,World.block_lt_of_cell? W _ (u.2 0 (by omega)).1⟩,⟨te,pe,ve⟩,⟨trivial,World.block_lt_of_cell? W _ ve⟩⟩
 intro g a ha;obtain⟨n,d,vs,h1,h2,h3,h4,h5,h6⟩:=hg g a ha;obtain⟨ps,hv,_⟩:=hL;obtain⟨g',t,cs,dE,p,e1,e2,e3,e4⟩:=laid_mem hv n d h1;obtain rfl:=dW (h2.symm.trans e1);have hcs:=ac5 K dE t cs.toList d p vs (hT g t e2) e4 h3;have hlen:(cellsOf a).length=vs.length:=by simpa using congrArg List.length h4
 have hcell:∀j (h:j<vs.length),W.cell? ⟨g,j,none⟩=some vs[j]:=fun j h=>by
  rw[World.var?_cell h2 e3 j,←Array.getElem?_toList,hcs,au h]
 have hget:∀j (h:j<vs.length) (h':j<(cellsOf a).length),toV (cellsOf a)[j]=some vs[j]:=fun j h h'=>by
  have:=congrArg (·[j]?) h4;simpa [h,h'] using this
 have hsz:g<W.heap.size:=World.block_lt_of_cell? W _ (hcell 0 (eY.2 h6));have:=R.cptr (M:=dm.of P fm glob sites) (w:=W) (c:=dk.start W (fun _=>True) lp) (b:=false) (x:=a) (off:=0) (o:=0) (blk:=g) (fun j=>(vs[j]?).getD default) ⟨trivial,hsz⟩
  (by rw[h5];exact Nat.pos_iff_ne_zero.1 (eY.2 h6))
  (fun j hj=>by
   rw[h5]at hj;have:=hcell j hj;simp only[au hj,dd,cE];exact⟨this,(afa (M:=dm.of P fm glob sites) (w:=W) (c:=dk.start W (fun _=>True) lp) (hget j hj (by omega))).2⟩)
  (fun j hj=>by
   have hj':j<vs.length:=by omega
   simp only[au hj',dd];exact (afa (hget j hj' hj)).1)
 exact this
def GZ:Bool×List Sh→Bool
 |(true,_)=>true
 |(false,[.sl _ _])=>true
 |(false,[.bool])=>true
 |_=>false
theorem PC{s:Bool×List Sh}{x:aq}(h:J8 s x)(d:GZ s=true):yI x=false:=by
 obtain⟨b,i,g,f⟩:=h;obtain⟨a,l⟩:=s;have c:isAgg x=false→cellsOf x=[x]:=fun h=>by cases x<;>first|rfl|(simp[isAgg]at h)
 unfold GZ at d;split at d
 ·rename_i e;cases e;cases x<;>first|rfl|(simp[isAgg]at b;done)
 ·rename_i e;cases e;have:=f 0 (by simp) (by rw[c b];simp);simp only[c b,cV]at this;cases this;rfl
 ·rename_i e;cases e;have:=f 0 (by simp) (by rw[c b];simp);simp only[c b,cV]at this;cases this;rfl
 cases d
theorem HI:∀{ss:List (Bool×List Sh)} {xs:List aq},BM ss xs→∀(i:Nat) s,ss[i]?=some s→∃x∈xs,J8 s x
 |_,_,.nil,i,s,h=>by simp at h
 |_,_,.cons a d,i,s,h=>by
  cases i with
  |zero=>simp at h;subst h;exact⟨_,dH ..,a⟩
  |succ i=>
   obtain⟨x,b,c⟩:=HI d i s (by simpa using h);exact⟨x,cf _ b,c⟩
theorem WN{s:Sh}{x:aq}(h:J8 (false,[s]) x):mJ s x:=by
 obtain⟨c,d,_,b⟩:=h;have a:cellsOf x=[x]:=by
  cases x with
  |agg cs=>cases c
  |_=>rfl
 have:=b 0 (by simp) (by rw[a];simp);simpa only [a,cV] using this
theorem mJ.int_inv{k:IntKind}{x:aq}(h:mJ (.int k) x):∃n,x=.int k n∧(Lit.int k n).wf=true:=by cases h with|int h=>exact⟨_,rfl,h⟩
theorem mJ.str_inv{x:aq}(h:mJ .str x):∃s,x=.str s∧s.length≤maxLen:=by cases h with|str h=>exact⟨_,rfl,h⟩
theorem Lf{P:Program}{fm:Nat→FuncId}{glob:Nat→Option aq}{sites:Nat→Option ui}{tbl:List li}{H:Type}{enc:TypeId×Value→H}{laid:List (String×DataW Unit)}{fn:Func}{s:ChangeSpec}{tb:TypeId}{k f:Nat}{ss:List (Bool×List Sh)}
  (hc:yU (dm.of P fm glob sites) P (xm tbl) (BZ tbl)) (hl:laidOutB P=true) (hm:mapsRowed P=true)
  (hz:((List.range P.types.size).all fun t=>match P.underlying t with|some (.slice e)=>decide (0<P.cellsOf e)|_=>true)=true)
  (hT:(fn.params.toList.all fun t=>decide (t<P.types.size))=true) (hgT:(P.globals.toList.all fun g=>decide (g.type<P.types.size))=true)
  (hg:∀g a,glob g=some a→∃n d vs,(n,d)∈laid∧P.globalNamed n=some g∧yZ d=some vs∧(cellsOf a).map toV=vs.map some∧aM a=vs.length∧vs≠[])
  (hss:fn.params.toList.mapM (xn P k)=some ss) (hnp:∃(i:Nat) (s:Bool×List Sh),ss[i]?=some s∧GZ s=true) (hv:s.vars=[]) (hres:fn.resultTypes=#[tb]) (htb:P.underlying tb=some .bool)
  (hfn:∀ds:List (DataW H),ds.length=fn.params.size→s.fn H ds={ results:=[.lit (.bool true)],args:=ds })
  (hu:∀ W,laidMet P laid W→∀ g13 g3 g4 gE,P.globalNamed "unicode.CaseRanges" = some g13→P.globalNamed "unicode/utf8.first" = some g3→P.globalNamed "unicode/utf8.acceptRanges" = some g4→P.globalNamed "strconv.ErrRange" = some gE→Lib.CaseVar g13 Lib.caseA W∧Lib.Utf8Tabs g3 g4 W∧∃ te pe,W.cell? ⟨gE,0,none⟩=some (.iface te pe))
  (law:∀args,BM ss args→∃n,dV (BZ tbl) n f args []=some (.bool true,[]))
  {W:World} {base:Nat} {args:Array Value} {ds gs:List (DataW H)} {before:List MemPlace}
  (hval:∀(j:Nat) t v,fn.params[j]?=some t→args[j]?=some v→Value.okWide P W .any base t v)
  (hW:DataW.Whole enc P fn.params.toList s.vars false W args.toList ds gs before) (hL:laidMet P laid W) :
  Calls P (fm f) args W fun e W'=>∃v,e=.returned v∧s.post enc P fn false true false false W args v W':=by
 have K:Kids P (· < P.types.size):=kids_rows hl hm;have hT':∀t∈fn.params.toList,t<P.types.size:=fun t ht=>oe (aY.1 hT t ht);have hgT':∀(g:Nat) t,(P.globals[g]?).map (·.type)=some t→t<P.types.size:=fun g t h=>by
  obtain⟨x,h1,rfl⟩:=aQ.1 h;exact oe (aY.1 hgT x (by simpa using vR h1))
 have hW':=hW;obtain⟨p,q,h1,h2,_,_,_⟩:=hW
 let lp:mi:=⟨0,#[],#[],.skip,.skip,0⟩
 obtain⟨xs,hxs,hxl,hxR⟩:=KL (M:=dm.of P fm glob sites) (c:=dk.start W (fun _=>True) lp) (n:=k) K (fun b hb=>hb) hT' hss (fun j t v h3 h4=>hval j t v (by simpa using h3) (by simpa using h4)) h1;obtain⟨i,s0,hi,hnp⟩:=hnp;obtain⟨x0,hx0,hx1⟩:=HI hxs i s0 hi;obtain⟨n,hrun⟩:=law xs hxs;have hds:ds.length=fn.params.size:=by
  have:∀{ts:List TypeId} {vs:List Value} {ds:List (DataW H)} {ps:List MemPlace},DataW.TrodAll enc P W 0 (fun _=>true) true ts vs ds ps→ds.length=ts.length:=by
   intro ts;induction ts with
   |nil=>intro vs ds ps h;obtain⟨_,rfl,_⟩:=trodAll_nil h;rfl
   |cons t ts ih=>
    intro vs ds ps h;obtain⟨_,_,_,_,_,_,_,rfl,_,_,r0⟩:=trodAll_cons h;simp[ih r0]
  rw[this h1,cR]
 refine (WE hc hrun ⟨x0,hx0,PC hx1 hnp⟩ (aaA K hgT' hL hg (hu W hL)) (⟨by rw[hxl,cR],fun j hj=>by
  obtain⟨y,e1,e2⟩:=hxR j hj;exact⟨y,by simpa using e1,e2⟩⟩:lQ _ W _ xs args)).mono fun e W' ⟨cv,c',he,hrf,hs,hsz,hfr⟩=>?_
 have hcv:cv=.bool true:=by
  cases hrf with
  |r h=>cases h;rfl
 subst he;subst hcv;exact⟨_,rfl,Jo K (slices_full_of P hz) hT' hW' hv hres htb (hfn ds hds) hs hsz hfr⟩
end Go.AM
