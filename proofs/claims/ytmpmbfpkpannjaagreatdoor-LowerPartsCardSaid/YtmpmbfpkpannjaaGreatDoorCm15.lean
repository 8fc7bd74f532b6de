/- Part of the proof. -/
import Derived.Test.YtmpmbfpkpannjaaGreatDoorCm09
import Derived.Test.YtmpmbfpkpannjaaGreatDoorCm10
import Derived.Test.YtmpmbfpkpannjaaGreatDoorCm11
import Derived.Test.YtmpmbfpkpannjaaGreatDoorCm12
import Derived.Test.YtmpmbfpkpannjaaGreatDoorCm13
import Derived.Test.YtmpmbfpkpannjaaGreatDoorCm14
import Derived.Deep.Slices
import Derived.ChangeBears
import Derived.WideShapes
import Derived.Deep.DeepHandedRow
import Derived.ReadAgain
import Derived.OpenShut
import Derived.RowKit
import Derived.LaidLaws
import Derived.ChangeOld
set_option linter.unusedVariables false
set_option linter.unusedSimpArgs false
set_option linter.unusedSectionVars false
namespace Go.AM.K
set_option maxRecDepth 100000 in
theorem all:Y5 (ac3 Go.Proofs.Tryz.prog S.fm S.glob S.sites (xH P.tbl) S.em) 0 P.tbl:=Vg (n:=0) (C2 (n:=0) (by decide) k1 (C2 (by decide) k2 (C2 (by decide) k3 (C2 (by decide) k4 (C2 (by decide) k5 (k6))))))
set_option maxRecDepth 100000 in
theorem site_of:∀s d,S.sites s=some d→∃g,P.tbl.getD s .none=.round g:=by
 intro s d h;unfold S.sites at h;split at h
 ·exact⟨_,rfl⟩
 ·exact⟨_,rfl⟩
 cases h
end Go.AM.K
namespace Go.AM
open Go.ChangeShapes Go.WideShapes
inductive Sh where
 |int (k:IntKind)
 |bool
 |str
 |sl (a:Bool) (cs:List Sh)
inductive mG:Sh→aq→Prop
 |int {k n}:(Lit.int k n).wf=true→mG (.int k) (.int k n)
 |bool {b}:mG .bool (.bool b)
 |str {s:List UInt8}:s.length≤maxLen→mG .str (.str s)
 |sl {a cs xs}:xs.length≤maxLen→(∀x∈xs,isAgg x=a∧(cellsOf x).length=cs.length∧aM x=cs.length) →
   (∀x∈xs,∀i (h:i<cs.length) (h':i<(cellsOf x).length),mG cs[i] (cellsOf x)[i])→mG (.sl a cs) (.aa true xs)
def xz(P:Program):Nat→TypeId→Option (Bool×List Sh)
 |0,_=>none
 |n+1,t=>match P.underlying t with
  |some .bool=>some (false,[.bool])
  |some (.int k)=>some (false,[.int k])
  |some .string=>some (false,[.str])
  |some (.slice e)=>(xz P n e).bind fun s=>if s.2.isEmpty then none else some (false,[.sl s.1 s.2])
  |some (.struct fs)=>(fs.toList.mapM fun f=>xz P n f.type).map fun l=>(true,(l.map (·.2)).flatten)
  |some (.array m e)=>(xz P n e).map fun s=>(true,(List.replicate m s.2).flatten)
  |_=>none
theorem OO{P:Program}:∀{n:Nat} {t:TypeId} {s:List Sh},xz P n t=some (false,s)→s.length=1
 |0,_,_,h=>by simp[xz]at h
 |n+1,t,s,h=>by
  unfold xz at h;split at h
  ·cases h;rfl
  ·cases h;rfl
  ·cases h;rfl
  ·obtain⟨q,_,h⟩:=aL.1 h;split at h
   ·cases h
   cases h;rfl
  ·obtain⟨q,_,h⟩:=aT.1 h;cases h
  ·obtain⟨q,_,h⟩:=aT.1 h;cases h
  cases h
inductive Rd (M:dm) (w:World) (c:dk):List Sh→List aq→List Value→Prop
 |nil:Rd M w c [] [] []
 |cons {s a v ss es vs}:v.oneCell'=true→isAgg a=false→aM a=1→mG s a→R M w c a v→Rd M w c ss es vs→Rd M w c (s::ss) (a::es) (v::vs)
variable {M:dm} {w:World} {c:dk}
theorem Rd.append{d e:List Sh}{a b:List aq}{f g:List Value}(h:Rd M w c d a f)(i:Rd M w c e b g):Rd M w c (d++e) (a++b) (f++g):=by
 induction h with
 |nil=>exact i
 |cons j k l m n _ o=>exact .cons j k l m n o
theorem Rd.len{s:List Sh}{a:List aq}{v:List Value}(h:Rd M w c s a v):a.length=s.length∧v.length=s.length:=by
 induction h with
 |nil=>exact⟨rfl,rfl⟩
 |cons _ _ _ _ _ _ b=>exact⟨by simp[b.1],by simp[b.2]⟩
theorem Rd.get{s:List Sh}{a:List aq}{v:List Value}(h:Rd M w c s a v):∀i (b:i<s.length) (d:i<a.length) (e:i<v.length),v[i].oneCell'=true∧isAgg a[i]=false∧aM a[i]=1∧mG s[i] a[i]∧R M w c a[i] v[i]:=by
 induction h with
 |nil=>intro i b;exact absurd b (da _)
 |cons f g j k l _ m=>
  intro i b d e;cases i with
  |zero=>exact⟨f,g,j,k,l⟩
  |succ i=>exact m i (by simpa using b) (by simpa using d) (by simpa using e)
theorem LK:∀(l:List (Nat×List Sh)) (cs:List Value),cs.length=(l.map (·.1)).sum →
  (∀j z s,l[j]?=some (z,s)→∃a,Rd M w c s a ((cs.drop ((l.take j).map (·.1)).sum).take z))→∃a,Rd M w c (l.map (·.2)).flatten a cs
 |[],cs,h,_=>⟨[],by
  obtain rfl:cs=[]:=dc (by simpa using h);exact .nil⟩
 |(z,s)::r,cs,h,b=>by
  obtain⟨d,f⟩:=b 0 z s rfl
  obtain⟨e,g⟩:=LK r (cs.drop z) (by simp at h ⊢;omega) fun j m s' k=>by
   obtain⟨a,i⟩:=b (j+1) m s' (by simpa using k);refine⟨a,?_⟩;rw[nh];simpa using i
  refine⟨d++e,?_⟩;have:=f.append g;simpa using this
theorem rJ(m k:Nat):(List.replicate m k).sum=m*k:=by
 induction m with
 |zero=>simp
 |succ m a=>rw[jv,List.sum_cons,a,Nat.succ_mul,im]
section
variable {H:Type} {enc:TypeId×Value→H} {P:Program} {T:TypeId→Prop}
theorem Fu{a:Addr}{i:Nat}{v:Value}(c:w.cell? (a.add i)=some v):a.add i=⟨a.block,a.off+i,none⟩:=by
 have b:(a.add i).spot=none:=by
  cases hsp:(a.add i).spot with
  |none=>rfl
  |some s=>
   simp only[World.cell?]at c;split at c
   ·simp[hsp]at c
   cases c
 unfold Addr.add at b ⊢;split
 ·rename_i d;subst d;rw[if_pos rfl]at b;cases a;simp_all
 rfl
theorem SJ{af:Bool}(K:Kids P T):∀(n dF:Nat) (t:TypeId) (cs:List Value) (x:DataW H×List MemPlace) (c:dk) (a:Bool) (O:List Sh),(∀b,b<w.heap.size→c.bor b)→T t→xz P n t=some (a,O) →
  DataW.trod enc P w 0 (fun _=>true) af dF t cs=some x→∃U,Rd M w c O U cs:=by
 intro n;induction n with
 |zero=>intro dF t cs x c a O _ _ h;simp[xz]at h
 |succ n ih=>
  intro dF t cs x c a O hb hT h hd;unfold xz at h;split at h
  ·rename_i B;obtain⟨b,rfl,_⟩:=DataW.trod_bool B hd;cases h;exact⟨_,.cons rfl rfl rfl .bool .bool .nil⟩
  ·rename_i k B;obtain⟨z,rfl,_,hw⟩:=DataW.trod_int B hd;cases h;exact⟨_,.cons rfl rfl rfl (.int hw) .int .nil⟩
  ·rename_i B;obtain⟨s,rfl,_,hw⟩:=DataW.trod_string B hd;cases h;exact⟨_,.cons (a:=.str s.data.toList) rfl rfl rfl (.str (by rw[cR];exact hw)) (.str rfl) .nil⟩
  ·rename_i e B;obtain⟨⟨Z,C⟩,N,h⟩:=aL.1 h;split at h
   ·cases h
   rename_i ao;cases h;have J:0<C.length:=by
    cases C with
    |nil=>exact absurd rfl ao
    |cons _ _=>simp
   rcases Deep.open_slice B hd with⟨rfl,_⟩|⟨S,len,cap,m,k,D,Pl,rfl,_,hl,hm,ah,_,aj⟩
   ·exact⟨_,.cons (a:=.aa true []) rfl rfl rfl (.sl (by simp) (by simp) (by simp)) .imm0 .nil⟩
   simp only[cw]at ah;subst ah;have ab:∀i,i<len→∃q:List aq×List Value,w.cells? 0 (S.add (i*P.cellsOf e)) (P.cellsOf e)=some q.2∧Rd M w (c.still true) C q.1 q.2:=fun i hi=>by
    obtain⟨cs',o,g⟩:=aj i (by omega);obtain⟨U,r⟩:=ih _ _ _ _ (c.still true) _ _ hb (K.slice hT B) N g;exact⟨(U,cs'),o,r⟩
   obtain⟨F,Y⟩:=Deep.choose_lt ab
   let el (i:Nat):aq:=if Z then .agg (F i).1 else (F i).1.headD .any
   have u:∀i,i<len→isAgg (el i)=Z∧cellsOf (el i)=(F i).1∧aM (el i)=C.length:=fun i hi=>by
    have E:=(Y i hi).2;cases Z with
    |true=>exact⟨rfl,rfl,E.len.1⟩
    |false=>
     have o:=OO N;have g:=E.len.1;rw[o]at g
     match hq:(F i).1,g with
     |[y],_=>
      have hg:=E.get 0 J (by rw[hq];simp) (by rw[E.len.2];exact J);simp only[hq,cX]at hg;have:el i=y:=by simp[el,hq]
      rw[this,o];refine⟨hg.2.1,?_,hg.2.2.1⟩;cases y<;>first|rfl|(simp[isAgg]at hg)
   by_cases h0:len=0
   ·subst h0;exact⟨_,.cons (a:=.aa true []) rfl rfl rfl (.sl (by simp) (by simp) (by simp)) .imm0 .nil⟩
   have G:∀i j,i<len→j<C.length→∃v,(F i).2[j]?=some v∧w.cell? ⟨S.block,S.off+i*C.length+j,none⟩=some v∧v.oneCell'=true∧P.cellsOf e=C.length:=fun i j hi d=>by
    obtain⟨o,g⟩:=Y i hi;obtain⟨_,r,V⟩:=World.cells?_some o;have h5:P.cellsOf e=C.length:=by rw[←r,g.len.2]
    have h6:=V j (by omega);have h7:j<(F i).2.length:=by rw[g.len.2];exact d
    rw[au h7]at h6;have h8:=h6;rw[Deep.add_add]at h8;have h9:=Fu h8;rw[h9,h5]at h8;exact⟨_,au h7,by rw[dB];exact h8,(g.get j d (by rw[g.len.1];exact d) h7).1,h5⟩
   have L:S.spot=none∧S.block<w.heap.size:=by
    obtain⟨v,_,hv,_,hK⟩:=G 0 0 (by omega) J;obtain⟨o,g⟩:=Y 0 (by omega);obtain⟨_,r,V⟩:=World.cells?_some o;have h6:=V 0 (by omega);rw[Deep.add_add,mH,cE,au (by omega)]at h6;have h9:=Fu h6;have an:=World.block_lt_of_cell? w _ hv;refine⟨?_,an⟩;have:(S.add 0).spot=none:=by rw[h9]
    simpa [Addr.add] using this
   refine⟨_,.cons (a:=.aa true ((List.range len).map el)) rfl rfl rfl (.sl (by simp;omega) ?_ ?_) ?_ .nil⟩
   ·intro x Q;obtain⟨i,hi,rfl⟩:=bM.1 Q;have hi:=gm.1 hi;obtain⟨o,g,r⟩:=u i hi;exact⟨o,by rw[g];exact (Y i hi).2.len.1,r⟩
   ·intro x Q j d X;obtain⟨i,hi,rfl⟩:=bM.1 Q;have hi:=gm.1 hi;obtain⟨o,g,r⟩:=u i hi;have E:=(Y i hi).2;have:=(E.get j d (by rw[E.len.1];exact d) (by rw[E.len.2];exact d)).2.2.2.1;simpa only [g] using this
   have A:((List.range len).map el).length=len:=by simp
   have:=R.aa (M:=M) (w:=w) (c:=c) (b:=true) (xs:=(List.range len).map el) (cap:=m) (a:=S) C.length (fun i j=>((F i).2[j]?).getD default) (hb _ L.2) L.1 (by rw[A];exact hl) (by omega)
    (fun x Q=>by
     obtain⟨i,hi,rfl⟩:=bM.1 Q;exact (u i (gm.1 hi)).2.2)
    (fun i j hi d=>by
     rw[A]at hi;obtain⟨v,o,g,r,_⟩:=G i j hi d;simp only[o,cT];exact⟨g,r⟩)
    (fun i hi j d=>by
     have ag:i<len:=by rw[A]at hi;exact hi
     have e1:((List.range len).map el)[i]=el i:=by simp
     have e2:=(u i ag).2.1;have E:=(Y i ag).2;simp only[e1,e2]at d ⊢;have X:j<C.length:=by rw[E.len.1]at d;exact d
     have hv:j<(F i).2.length:=by rw[E.len.2];exact X
     simp only[au hv,cT];exact (E.get j X d hv).2.2.2.2)
   rw[A]at this;exact this
  ·rename_i fs B;obtain⟨l,hl,h⟩:=aT.1 h;cases h;obtain⟨xs,k,rfl,_,W,ar,hf⟩:=DataW.trod_struct B hd;obtain⟨k1,k2,k3⟩:=K.struct hT B;have av:=mapM_some_length hl;have e0:((fs.toList.zip l).map fun p=>(P.cellsOf p.1.type,p.2.2)).map (·.1)=fs.toList.map fun f=>P.cellsOf f.type:=by
    rw[bU,show ((fun x:Nat×List Sh=>x.1)∘fun p:Field×Bool×List Sh=>(P.cellsOf p.1.type,p.2.2))=(fun f:Field=>P.cellsOf f.type)∘Prod.fst from rfl,←List.map_map,List.map_fst_zip (by omega)]
   have e1:((fs.toList.zip l).map fun p=>(P.cellsOf p.1.type,p.2.2)).map (·.2)=l.map (·.2):=by
    rw[bU,show ((fun x:Nat×List Sh=>x.2)∘fun p:Field×Bool×List Sh=>(P.cellsOf p.1.type,p.2.2))=(fun q:Bool×List Sh=>q.2)∘Prod.snd from rfl,←List.map_map,List.map_snd_zip (by omega)]
   have:=LK (M:=M) (w:=w) (c:=c) ((fs.toList.zip l).map fun p=>(P.cellsOf p.1.type,p.2.2)) cs (by rw[e0,W,k2]) (fun j z s d=>by
    rw[jH,e0,←List.map_take];rw[dP,aT]at d;obtain⟨⟨f,q⟩,d,hz⟩:=d;cases hz;rw[eU]at d;obtain⟨I,al⟩:=d;have o:=hf j f (by simpa using I);have g:=k3 j f I;have r:=mapM_some_get hl j f I;rw[al]at r;have V:j<xs.length:=by
     have:=(ak.1 I).1;rw[ar];simpa using this
    rw[au V,g]at o;exact ih _ _ _ _ c q.1 q.2 hb (k1 f (aN I)) r o)
   rw[e1]at this;exact this
  ·rename_i m e B;obtain⟨⟨Z,C⟩,N,h⟩:=aT.1 h;cases h;cases dF with
   |zero=>simp[DataW.trod]at hd
   |succ k=>
    rw[DataW.trod_step]at hd;unfold DataW.trodStep at hd;simp only[B]at hd;split at hd
    ·rename_i W;obtain⟨xs,Q,_⟩:=aT.1 hd;obtain⟨k1,k2⟩:=K.array hT B
     have:=LK (M:=M) (w:=w) (c:=c) (List.replicate m (P.cellsOf e,C)) cs (by simp[rJ,W,k2]) (fun j z s d=>by
      obtain⟨o,g⟩:=ak.1 d;simp at o g;obtain⟨rfl,rfl⟩:=g;rw[List.take_replicate,List.map_replicate,rJ,show min j m=j by omega];have r:=mapM_some_get Q j j (by simp[o]);have V:j<xs.length:=by rw[mapM_some_length Q];simpa using o
      rw[au V]at r;exact ih _ _ _ _ c Z C hb k1 N r)
     simpa using this
    cases hd
  cases h
def JY(s:Bool×List Sh)(x:aq):Prop:=isAgg x=s.1∧(cellsOf x).length=s.2.length∧aM x=s.2.length∧∀i (h:i<s.2.length) (h':i<(cellsOf x).length),mG s.2[i] (cellsOf x)[i]
theorem JE{r:Reach}{e:Nat}{t:TypeId}{v:Value}{n:Nat}{d:List Sh}(a:xz P n t=some (true,d))(b:Value.okWide P w r e t v):∃cs,v=.agg cs:=by
 cases n with
 |zero=>simp[xz]at a
 |succ n=>
  unfold xz at a;unfold Value.okWide at b;split at a
  ·cases a
  ·cases a
  ·cases a
  ·obtain⟨q,_,a⟩:=aL.1 a;split at a<;>cases a
  ·rename_i c;rw[c]at b;obtain⟨cs,h,_⟩:=b;exact⟨cs,h⟩
  ·rename_i c;rw[c]at b;obtain⟨cs,h,_⟩:=b;exact⟨cs,h⟩
  cases a
theorem Jy{r:Reach}{f:Nat}{t:TypeId}{v:Value}{n:Nat}{e:List Sh}(b:xz P n t=some (false,e))(c:Value.okWide P w r f t v):v.cells=#[v]:=by
 have d:∀cs,v≠.agg cs:=by
  rintro cs rfl;cases n with
  |zero=>simp[xz]at b
  |succ n=>
   unfold xz at b;unfold Value.okWide Cell.okWide at c;split at b
   ·rename_i a;simp[a,Cell.ok]at c
   ·rename_i a;simp[a,Cell.ok]at c
   ·rename_i a;simp[a,Cell.ok]at c
   ·rename_i a;simp[a,Cell.ok]at c
   ·obtain⟨q,_,h⟩:=aT.1 b;cases h
   ·obtain⟨q,_,h⟩:=aT.1 b;cases h
   cases b
 cases v<;>first|rfl|exact absurd rfl (d _)
theorem Yq(K:Kids P T){n:Nat}{t:TypeId}{v:Value}{d:DataW H}{D:List MemPlace}{s:Bool×List Sh}{r:Reach}{u:Nat}(B:∀b,b<w.heap.size→c.bor b)(A:T t)(k:xz P n t=some s)
  (q:Value.okWide P w r u t v) (hd:DataW.Trod enc P w 0 (fun _=>true) true t v d D):∃x,JY s x∧R M w c x v:=by
 obtain⟨dF,hd⟩:=hd;obtain⟨a,l⟩:=s;obtain⟨f,e⟩:=SJ (M:=M) K n dF t _ _ c a l B A k hd;cases a with
 |true=>
  obtain⟨cs,rfl⟩:=JE k q;refine⟨.agg f,⟨rfl,e.len.1,e.len.1,fun i h m=>(e.get i h m (by rw[e.len.2];exact h)).2.2.2.1⟩,?_⟩;have C:cs.size=f.length:=by
   have:=e.len.2;simp[Value.cells]at this;rw[this,e.len.1]
  have hi:∀i,i<f.length→i<cs.size:=fun i h=>by omega
  have key:∀i (h:i<f.length),_:=fun i h=>e.get i (by rw[←e.len.1];exact h) h (by simpa [Value.cells] using hi i h);refine .agg (fun i=>(cs[i]?).getD default) C (fun i h=>?_) (fun i h=>?_) fun i h=>?_
  ·have:=(key i h).1;simp[Value.cells,hi i h]at this ⊢;exact this
  ·exact⟨by rw[(key i h).2.2.1];exact aF _,(key i h).2.1⟩
  have:=(key i h).2.2.2.2;simp[Value.cells,hi i h]at this ⊢;exact this
 |false=>
  have j:=OO k;have z:=Jy k q;rw[z]at e;have o:=e.len.1;rw[j]at o
  match f,o,e with
  |[y],_,e=>
   have g:=e.get 0 (by omega) (by simp) (by simp);simp only[cX]at g;have p:cellsOf y=[y]:=by
    have:=g.2.1;cases y<;>first|rfl|(simp[isAgg]at this)
   refine⟨y,⟨g.2.1,by rw[p,j];rfl,by rw[g.2.2.1,j],fun i h m=>?_⟩,by simpa using g.2.2.2.2⟩;have hi:i=0:=by rw[j]at h;omega
   subst hi;simpa only [p,cX] using g.2.2.2.1
inductive Ba:List (Bool×List Sh)→List aq→Prop
 |nil:Ba [] []
 |cons {s x ss xs}:JY s x→Ba ss xs→Ba (s::ss) (x::xs)
theorem KH(K:Kids P T){n:Nat}{r:Reach}{B:Nat}(u:∀b,b<w.heap.size→c.bor b):∀{d:List TypeId} {vs:List Value} {e:List (DataW H)} {p:List MemPlace} {ss:List (Bool×List Sh)},(∀t∈d,T t)→d.mapM (xz P n)=some ss →
  (∀(j:Nat) t v,d[j]?=some t→vs[j]?=some v→Value.okWide P w r B t v)→DataW.TrodAll enc P w 0 (fun _=>true) true d vs e p →
  ∃xs:List aq,Ba ss xs∧xs.length=vs.length∧∀i (h:i<xs.length),∃x,vs[i]?=some x∧R M w c xs[i] x
 |[],vs,e,p,ss,_,a,_,h=>by
  obtain⟨rfl,rfl,rfl⟩:=trodAll_nil h;cases a;exact⟨[],.nil,rfl,fun i h=>absurd h (da _)⟩
 |t::d,vs,e,p,ss,q,a,z,h=>by
  obtain⟨A,L,N,C,O,Q,rfl,rfl,rfl,D,I⟩:=trodAll_cons h;rw[List.mapM_cons]at a;simp only[bind,aL,pure,aK]at a;obtain⟨s,l,J,m,rfl⟩:=a;obtain⟨x,G,E⟩:=Yq (M:=M) (c:=c) K u (q t (dH ..)) l (z 0 t A rfl rfl) D;obtain⟨xs,o,F,k⟩:=KH K u (fun t h=>q t (cd _ h)) m (fun j t v f g=>z (j+1) t v (by simpa using f) (by simpa using g)) I;refine⟨x::xs,.cons G o,by simp[F],fun i h=>?_⟩;cases i with
  |zero=>exact⟨A,rfl,E⟩
  |succ i=>
   obtain⟨y,f,g⟩:=k i (by simpa using h);exact⟨y,by simpa using f,g⟩
end
end Go.AM
namespace Go.AM
open Go.ChangeShapes Go.WideShapes Go.RowKit
section
variable {H:Type} {enc:TypeId×Value→H} {P:Program} {W W':World}
theorem AT{base:Nat}{g:Nat→Bool}{a:Bool}:∀{i:List TypeId} {vs:List Value} {d:List (DataW H)} {c:List MemPlace},DataW.TrodAll enc P W base g a i vs d c→(∀p∈c,W.sameAt W' p) →
  DataW.TrodAll enc P W' base g a i vs d c
 |[],[],[],_,h,_=>h
 |_::_,_::_,_::_,_,⟨p,q,⟨n,j⟩,k,e⟩,f=>⟨p,q,⟨n,DataW.trod_carry n _ _ _ j fun x b=>f x (by rw[e];exact List.mem_append_left _ b)⟩,AT k fun x b=>f x (by rw[e];exact List.mem_append_right _ b),e⟩
theorem JL{f:Func}{s:ChangeSpec}{args:Array Value}{l gs:List (DataW H)}{a:List MemPlace}{tb:TypeId}(B:Kids P (· < P.types.size))(D:∀t e,t<P.types.size→P.underlying t=some (.slice e)→0<P.cellsOf e)
  (A:∀t∈f.params.toList,t<P.types.size) (m:DataW.Whole enc P f.params.toList s.vars false W args.toList l gs a) (y:s.vars=[]) (k:f.resultTypes=#[tb]) (r:P.underlying tb=some .bool)
  (c:s.fn H l={ results:=[.lit (.bool true)],args:=l }) (w:Same W W') (C:W.heap.size≤W'.heap.size) (d:∀b,b<W.heap.size→W'.heap[b]?=W.heap[b]?) :
  s.post enc P f false true false false W args (.bool true) W':=by
 have j:=m.lt;have n:=m;obtain⟨p,q,z,v,rfl,_,_⟩:=m;rw[y]at v;obtain⟨rfl,rfl⟩:=trodVars_none v;have g:∀x∈p,W.sameAt W' x:=fun x u=>by
  have:=j x (by simpa using u);cases x with
  |cell b off=>exact p7 (d b this) off
  |map b=>exact d b this
 refine⟨l,[],p++[],[],p,[],n,?_,?_,?_,?_,fun h=>by cases h⟩
 ·rw[dK,c,k];exact trodAll_cons_mk (shut_bool r true) trodAll_mk0
 ·rw[dK,c];exact AT (DataW.TrodAll.respare B D A z fun x u=>qR (j x (by simpa using u))) g
 ·rw[y,dK,c];exact rfl
 refine⟨w.os,w.output,fun i hi=>?_⟩;rw[d i hi];cases W.heap[i]? with
 |none=>simp
 |some o=>cases o<;>simp
end
mutual
def zk{H:Type}:DataW H→Option (List Value)
 |.lit (.int k n)=>some [.int k n]
 |.lit (.bool b)=>some [.bool b]
 |.lit (.string s)=>some [.string ⟨s.toArray⟩]
 |.agg l=>NH l
 |_=>none
def NH{H:Type}:List (DataW H)→Option (List Value)
 |[]=>some []
 |d::r=>(zk d).bind fun a=>(NH r).map (a++·)
end
theorem LI:∀(l:List Nat) (a:List (List Value)) (cs:List Value),l.length=a.length→cs.length=l.sum→(∀j z p,l[j]?=some z→a[j]?=some p→(cs.drop (l.take j).sum).take z=p)→cs=a.flatten
 |[],[],cs,_,h,_=>by simpa using h
 |z::l,p::a,cs,f,h,c=>by
  have b:=c 0 z p rfl rfl;simp at b
  have:=LI l a (cs.drop z) (by simpa using f) (by simp at h ⊢;omega) fun j i g d e=>by
   have:=c (j+1) i g (by simpa using d) (by simpa using e);simpa [nh] using this
  rw[List.flatten_cons,←this,←b,pb]
 |[],_::_,_,h,_,_=>by cases h
 |_::_,[],_,h,_,_=>by cases h
theorem BL{H:Type}:∀{l:List (DataW H)} {vs:List Value},NH l=some vs→∃c:List (List Value),c.length=l.length∧vs=c.flatten∧∀(j:Nat) d,l[j]?=some d→∃p,c[j]?=some p∧zk d=some p
 |[],vs,h=>by
  simp[NH]at h;exact⟨[],rfl,by simp[h],fun j d h=>by simp at h⟩
 |d::r,vs,h=>by
  simp only[NH,aL,aT]at h;obtain⟨a,m,b,n,rfl⟩:=h;obtain⟨c,g,i,k⟩:=BL n;refine⟨a::c,by simp[g],by simp[i],fun j f e=>?_⟩;cases j with
  |zero=>simp at e;subst e;exact⟨a,rfl,m⟩
  |succ j=>simpa using k j f (by simpa using e)
theorem ab9{H:Type}{enc:TypeId×Value→H}{P:Program}{T:TypeId→Prop}{w:World}{base:Nat}{N:Nat→Bool}{l:Bool}(K:Kids P T) :
  ∀(dF:Nat) (t:TypeId) (cs:List Value) (d:DataW H) (p:List MemPlace) (vs:List Value),T t→DataW.trod enc P w base N l dF t cs=some (d,p)→zk d=some vs→cs=vs:=by
 intro dF;induction dF with
 |zero=>intro t cs d p vs _ h;simp[DataW.trod]at h
 |succ dF G=>
  intro t cs d p vs E h a;have J:=h;rw[DataW.trod_step]at h;unfold DataW.trodStep at h;split at h
  case h_1=>cases h;simpa [zk] using a
  case h_2=>split at h<;>cases h;rename_i L;obtain⟨rfl,_⟩:=L;simpa [zk] using a
  case h_4=>split at h<;>cases h;simpa [zk] using a
  case h_9 ht=>
   rename_i fs;obtain⟨xs,k,I,q,g,b,s⟩:=DataW.trod_struct ht J;cases I;obtain⟨k1,k2,k3⟩:=K.struct E ht;have r:d=.agg (xs.map (·.1)):=(Prod.mk.inj q).1;subst r;simp only[zk]at a;obtain⟨v,x,rfl,y⟩:=BL a;refine LI (fs.toList.map fun f=>P.cellsOf f.type) v _ (by rw[x,df,df,b,cR]) (by rw[g,k2]) fun j z p c u=>?_;rw[dP,aT]at c;obtain⟨f,c,rfl⟩:=c;have n:=(ak.1 c).1;have A:=s j f (by simpa using c);rw[k3 j f c,au (by rw[b];simpa using n)]at A;obtain⟨M,i,o⟩:=y j _ (by rw[dP,au (by rw[b];simpa using n)];rfl);rw[u]at i;cases i;rw[←List.map_take];exact G _ _ _ _ _ (k1 f (aN c)) A o
  case h_10 ht=>
   rename_i m e;split at h
   ·rename_i g;obtain⟨xs,F,q⟩:=aT.1 h;have r:d=.agg (xs.map (·.1)):=((Prod.mk.inj q).1).symm;subst r;obtain⟨k1,k2⟩:=K.array E ht;simp only[zk]at a;obtain⟨v,x,rfl,y⟩:=BL a;have b:xs.length=m:=by simpa using mapM_some_length F
    refine LI (List.replicate m (P.cellsOf e)) v _ (by simp[x,b]) (by rw[g,k2,rJ]) fun j z p c u=>?_;obtain⟨B,C⟩:=ak.1 c;simp at B C;subst C;rw[List.take_replicate,rJ,show min j m=j by omega];have D:=mapM_some_get F j j (by simp[B]);rw[au (by omega)]at D;obtain⟨M,i,o⟩:=y j _ (by rw[dP,au (by omega)];rfl);rw[u]at i;cases i;exact G _ _ _ _ _ k1 D o
   cases h
  all_goals first
   |(cases h;done)
   |(cases h;simp[zk]at a;done)
   |(simp only[aT]at h;obtain⟨_,_,h⟩:=h;cases h;simp[zk]at a;done)
   |(split at h<;>first|(cases h;done)|(cases h;simp[zk]at a;done)|(simp only[aL,aT]at h;obtain⟨_,_,_,_,h⟩:=h;cases h;simp[zk]at a;done)|(simp only[aT]at h;obtain⟨_,_,h⟩:=h;cases h;simp[zk]at a;done)|skip)
  split at h
  ·obtain⟨en,_,h⟩:=aL.1 h;simp only at h;split at h
   ·cases h;simp[zk]at a
   cases h
  cases h
def toV:aq→Option Value
 |.int k n=>some (.int k n)
 |.bool b=>some (.bool b)
 |.str s=>some (.string ⟨s.toArray⟩)
 |_=>none
theorem aeW{M:dm}{w:World}{c:dk}{a:aq}{v:Value}(h:toV a=some v):R M w c a v∧v.oneCell'=true:=by
 cases a<;>simp[toV]at h<;>subst h
 ·exact⟨.int,rfl⟩
 ·exact⟨.bool,rfl⟩
 exact⟨.str rfl,rfl⟩
theorem laid_mem{P:Program}{w:World}:∀{l:List (String×DataW Unit)} {b:List MemPlace},DataW.LaidVars P w l b→∀n d,(n,d)∈l →
  ∃g t cs dF p,P.globalNamed n=some g∧(P.globals[g]?).map (·.type)=some t∧w.var? P n=some cs∧DataW.trod (fun _=>()) P w 0 (fun _=>true) false dF t cs.toList=some (d,p)
 |[],_,_,n,d,h=>by cases h
 |(o,m)::r,b,h,n,d,a=>by
  obtain⟨g,t,cs,dF,p,q,c,f,i,j,k,_⟩:=h;rcases dX.1 a with e|a
  ·cases e;exact⟨g,t,cs,dF,p,c,f,i,j⟩
  exact laid_mem k n d a
theorem aaa{P:Program}{fm:Nat→FuncId}{glob:Nat→Option aq}{sites:Nat→Option uj}{W:World}{laid:List (String×DataW Unit)}{lp:mv}{T:TypeId→Prop}(K:Kids P T)(hT:∀(g:Nat) t,(P.globals[g]?).map (·.type)=some t→T t)(hL:laidMet P laid W)
  (hg:∀g a,glob g=some a→∃n d vs,(n,d)∈laid∧P.globalNamed n=some g∧zk d=some vs∧(cellsOf a).map toV=vs.map some∧aM a=vs.length∧vs≠[])
  (hu:∀ g13 g3 g4 gE,P.globalNamed "unicode.CaseRanges" = some g13→P.globalNamed "unicode/utf8.first" = some g3→P.globalNamed "unicode/utf8.acceptRanges" = some g4→P.globalNamed "strconv.ErrRange" = some gE→Lib.CaseVar g13 Lib.caseA W∧Lib.Utf8Tabs g3 g4 W∧∃ te pe,W.cell? ⟨gE,0,none⟩=some (.iface te pe)) :
  kK (dm.of P fm glob sites) W (dk.start W (fun _=>True) lp):=by
 refine⟨?_,fun g13 g3 g4 gE n1 n2 n3 n4=>?_⟩
 rotate_left
 ·obtain⟨⟨R,oR,cap,v1,v2⟩,u,te,pe,ve⟩:=hu g13 g3 g4 gE n1 n2 n3 n4;exact⟨⟨R,oR,cap,v1,v2,⟨trivial,World.block_lt_of_cell? W _ v1⟩,⟨trivial,World.block_lt_of_cell? W _ (v2 0 VY).1⟩⟩,u,⟨trivial,World.block_lt_of_cell? W _ (u.1 0 (by omega))⟩,⟨trivial,World.block_lt_of_cell? W _ (u.2 0 (by omega)).1⟩,⟨te,pe,ve⟩,⟨trivial,World.block_lt_of_cell? W _ ve⟩⟩
 intro g a ha;obtain⟨n,d,vs,h1,h2,h3,h4,h5,h6⟩:=hg g a ha;obtain⟨ps,hv,_⟩:=hL;obtain⟨g',t,cs,dF,p,e1,e2,e3,e4⟩:=laid_mem hv n d h1;obtain rfl:=dW (h2.symm.trans e1);have hcs:=ab9 K dF t cs.toList d p vs (hT g t e2) e4 h3;have hlen:(cellsOf a).length=vs.length:=by simpa using congrArg List.length h4
 have hcell:∀j (h:j<vs.length),W.cell? ⟨g,j,none⟩=some vs[j]:=fun j h=>by
  rw[World.var?_cell h2 e3 j,←Array.getElem?_toList,hcs,au h]
 have hget:∀j (h:j<vs.length) (h':j<(cellsOf a).length),toV (cellsOf a)[j]=some vs[j]:=fun j h h'=>by
  have:=congrArg (·[j]?) h4;simpa [h,h'] using this
 have hsz:g<W.heap.size:=World.block_lt_of_cell? W _ (hcell 0 (eZ.2 h6));have:=R.cptr (M:=dm.of P fm glob sites) (w:=W) (c:=dk.start W (fun _=>True) lp) (b:=false) (x:=a) (off:=0) (o:=0) (blk:=g) (fun j=>(vs[j]?).getD default) ⟨trivial,hsz⟩
  (by rw[h5];exact Nat.pos_iff_ne_zero.1 (eZ.2 h6))
  (fun j hj=>by
   rw[h5]at hj;have:=hcell j hj;simp only[au hj,cT,cE];exact⟨this,(aeW (M:=dm.of P fm glob sites) (w:=W) (c:=dk.start W (fun _=>True) lp) (hget j hj (by omega))).2⟩)
  (fun j hj=>by
   have hj':j<vs.length:=by omega
   simp only[au hj',cT];exact (aeW (hget j hj' hj)).1)
 exact this
def HQ:Bool×List Sh→Bool
 |(true,_)=>true
 |(false,[.sl _ _])=>true
 |(false,[.bool])=>true
 |_=>false
theorem OG{s:Bool×List Sh}{x:aq}(h:JY s x)(d:HQ s=true):zv x=false:=by
 obtain⟨b,g,i,f⟩:=h;obtain⟨a,l⟩:=s;have c:isAgg x=false→cellsOf x=[x]:=fun h=>by cases x<;>first|rfl|(simp[isAgg]at h)
 unfold HQ at d;split at d
 ·rename_i e;cases e;cases x<;>first|rfl|(simp[isAgg]at b;done)
 ·rename_i e;cases e;have:=f 0 (by simp) (by rw[c b];simp);simp only[c b,cX]at this;cases this;rfl
 ·rename_i e;cases e;have:=f 0 (by simp) (by rw[c b];simp);simp only[c b,cX]at this;cases this;rfl
 cases d
theorem IP:∀{ss:List (Bool×List Sh)} {xs:List aq},Ba ss xs→∀(i:Nat) s,ss[i]?=some s→∃x∈xs,JY s x
 |_,_,.nil,i,s,h=>by simp at h
 |_,_,.cons a b,i,s,h=>by
  cases i with
  |zero=>simp at h;subst h;exact⟨_,dH ..,a⟩
  |succ i=>
   obtain⟨x,d,c⟩:=IP b i s (by simpa using h);exact⟨x,cd _ d,c⟩
theorem VH{s:Sh}{x:aq}(h:JY (false,[s]) x):mG s x:=by
 obtain⟨b,d,_,c⟩:=h;have a:cellsOf x=[x]:=by
  cases x with
  |agg cs=>cases b
  |_=>rfl
 have:=c 0 (by simp) (by rw[a];simp);simpa only [a,cX] using this
theorem mG.int_inv{k:IntKind}{x:aq}(h:mG (.int k) x):∃n,x=.int k n∧(Lit.int k n).wf=true:=by cases h with|int h=>exact⟨_,rfl,h⟩
theorem mG.str_inv{x:aq}(h:mG .str x):∃s,x=.str s∧s.length≤maxLen:=by cases h with|str h=>exact⟨_,rfl,h⟩
theorem Na{P:Program}{fm:Nat→FuncId}{glob:Nat→Option aq}{sites:Nat→Option uj}{tbl:List kW}{H:Type}{enc:TypeId×Value→H}{laid:List (String×DataW Unit)}{fn:Func}{s:ChangeSpec}{tb:TypeId}{k f:Nat}{ss:List (Bool×List Sh)}
  (hc:zl (dm.of P fm glob sites) P (xH tbl) (Bu tbl)) (hl:laidOutB P=true) (hm:mapsRowed P=true)
  (hz:((List.range P.types.size).all fun t=>match P.underlying t with|some (.slice e)=>decide (0<P.cellsOf e)|_=>true)=true)
  (hT:(fn.params.toList.all fun t=>decide (t<P.types.size))=true) (hgT:(P.globals.toList.all fun g=>decide (g.type<P.types.size))=true)
  (hg:∀g a,glob g=some a→∃n d vs,(n,d)∈laid∧P.globalNamed n=some g∧zk d=some vs∧(cellsOf a).map toV=vs.map some∧aM a=vs.length∧vs≠[])
  (hss:fn.params.toList.mapM (xz P k)=some ss) (hnp:∃(i:Nat) (s:Bool×List Sh),ss[i]?=some s∧HQ s=true) (hv:s.vars=[]) (hres:fn.resultTypes=#[tb]) (htb:P.underlying tb=some .bool)
  (hfn:∀ds:List (DataW H),ds.length=fn.params.size→s.fn H ds={ results:=[.lit (.bool true)],args:=ds })
  (hu:∀ W,laidMet P laid W→∀ g13 g3 g4 gE,P.globalNamed "unicode.CaseRanges" = some g13→P.globalNamed "unicode/utf8.first" = some g3→P.globalNamed "unicode/utf8.acceptRanges" = some g4→P.globalNamed "strconv.ErrRange" = some gE→Lib.CaseVar g13 Lib.caseA W∧Lib.Utf8Tabs g3 g4 W∧∃ te pe,W.cell? ⟨gE,0,none⟩=some (.iface te pe))
  (law:∀args,Ba ss args→∃n,dV (Bu tbl) n f args []=some (.bool true,[]))
  {W:World} {base:Nat} {args:Array Value} {ds gs:List (DataW H)} {before:List MemPlace}
  (hval:∀(j:Nat) t v,fn.params[j]?=some t→args[j]?=some v→Value.okWide P W .any base t v)
  (hW:DataW.Whole enc P fn.params.toList s.vars false W args.toList ds gs before) (hL:laidMet P laid W) :
  Calls P (fm f) args W fun e W'=>∃v,e=.returned v∧s.post enc P fn false true false false W args v W':=by
 have K:Kids P (· < P.types.size):=kids_rows hl hm;have hT':∀t∈fn.params.toList,t<P.types.size:=fun t ht=>oo (bd.1 hT t ht);have hgT':∀(g:Nat) t,(P.globals[g]?).map (·.type)=some t→t<P.types.size:=fun g t h=>by
  obtain⟨x,h1,rfl⟩:=aT.1 h;exact oo (bd.1 hgT x (by simpa using vW h1))
 have hW':=hW;obtain⟨p,q,h1,h2,_,_,_⟩:=hW
 let lp:mv:=⟨0,#[],#[],.skip,.skip,0⟩
 obtain⟨xs,hxs,hxl,hxR⟩:=KH (M:=dm.of P fm glob sites) (c:=dk.start W (fun _=>True) lp) (n:=k) K (fun b hb=>hb) hT' hss (fun j t v h3 h4=>hval j t v (by simpa using h3) (by simpa using h4)) h1;obtain⟨i,s0,hi,hnp⟩:=hnp;obtain⟨x0,hx0,hx1⟩:=IP hxs i s0 hi;obtain⟨n,hrun⟩:=law xs hxs;have hds:ds.length=fn.params.size:=by
  have:∀{ts:List TypeId} {vs:List Value} {ds:List (DataW H)} {ps:List MemPlace},DataW.TrodAll enc P W 0 (fun _=>true) true ts vs ds ps→ds.length=ts.length:=by
   intro ts;induction ts with
   |nil=>intro vs ds ps h;obtain⟨_,rfl,_⟩:=trodAll_nil h;rfl
   |cons t ts ih=>
    intro vs ds ps h;obtain⟨_,_,_,_,_,_,_,rfl,_,_,r0⟩:=trodAll_cons h;simp[ih r0]
  rw[this h1,cR]
 refine (VC hc hrun ⟨x0,hx0,OG hx1 hnp⟩ (aaa K hgT' hL hg (hu W hL)) (⟨by rw[hxl,cR],fun j hj=>by
  obtain⟨y,e1,e2⟩:=hxR j hj;exact⟨y,by simpa using e1,e2⟩⟩:lU _ W _ xs args)).mono fun e W' ⟨cv,c',he,hrf,hs,hsz,hfr⟩=>?_
 have hcv:cv=.bool true:=by
  cases hrf with
  |r h=>cases h;rfl
 subst he;subst hcv;exact⟨_,rfl,JL K (slices_full_of P hz) hT' hW' hv hres htb (hfn ds hds) hs hsz hfr⟩
end Go.AM
