/- Part of the proof. -/
import Derived.Test.YtchifcbclnonbaaGreatDoorAm09
import Derived.Test.YtchifcbclnonbaaGreatDoorAm10
import Derived.Test.YtchifcbclnonbaaGreatDoorAm11
import Derived.Test.YtchifcbclnonbaaGreatDoorAm12
import Derived.Test.YtchifcbclnonbaaGreatDoorAm13
import Derived.Test.YtchifcbclnonbaaGreatDoorAm14
import Derived.Deep.Slices
import Derived.ChangeBears
import Derived.WideShapes
import Derived.Deep.DeepHandedRow
import Derived.ReadAgain
import Derived.OpenShut
import Derived.RowKit
import Derived.LaidLaws
import Derived.ChangeOld
set_option linter.unusedVariables false
set_option linter.unusedSimpArgs false
set_option linter.unusedSectionVars false
namespace Go.AM.K
set_option maxRecDepth 100000 in
theorem all:UU (XX Go.Proofs.Tryz.prog S.fm S.glob S.sites (uo P.tbl) S.em) 0 P.tbl:=QZ (n:=0) (zT (n:=0) (by decide) k1 (zT (by decide) k2 (zT (by decide) k3 (zT (by decide) k4 (zT (by decide) k5 (k6))))))
set_option maxRecDepth 100000 in
theorem site_of:∀s d,S.sites s=some d→∃g,P.tbl.getD s .none=.round g:=by
 intro s d h;unfold S.sites at h;split at h
 ·exact⟨_,rfl⟩
 ·exact⟨_,rfl⟩
 cases h
end Go.AM.K
namespace Go.AM
open Go.ChangeShapes Go.WideShapes
inductive Sh where
 |int (k:IntKind)
 |bool
 |str
 |sl (a:Bool) (cs:List Sh)
inductive gB:Sh→ap→Prop
 |int {k n}:(Lit.int k n).wf=true→gB (.int k) (.int k n)
 |bool {b}:gB .bool (.bool b)
 |str {s:List UInt8}:s.length≤maxLen→gB .str (.str s)
 |sl {a cs xs}:xs.length≤maxLen→(∀x∈xs,isAgg x=a∧(cellsOf x).length=cs.length∧aC x=cs.length) →
   (∀x∈xs,∀i (h:i<cs.length) (h':i<(cellsOf x).length),gB cs[i] (cellsOf x)[i])→gB (.sl a cs) (.aa true xs)
def uc(P:Program):Nat→TypeId→Option (Bool×List Sh)
 |0,_=>none
 |n+1,t=>match P.underlying t with
  |some .bool=>some (false,[.bool])
  |some (.int k)=>some (false,[.int k])
  |some .string=>some (false,[.str])
  |some (.slice e)=>(uc P n e).bind fun s=>if s.2.isEmpty then none else some (false,[.sl s.1 s.2])
  |some (.struct fs)=>(fs.toList.mapM fun f=>uc P n f.type).map fun l=>(true,(l.map (·.2)).flatten)
  |some (.array m e)=>(uc P n e).map fun s=>(true,(List.replicate m s.2).flatten)
  |_=>none
theorem KW{P:Program}:∀{n:Nat} {t:TypeId} {s:List Sh},uc P n t=some (false,s)→s.length=1
 |0,_,_,h=>by simp[uc]at h
 |n+1,t,s,h=>by
  unfold uc at h;split at h
  ·cases h;rfl
  ·cases h;rfl
  ·cases h;rfl
  ·obtain⟨q,_,h⟩:=aA.1 h;split at h
   ·cases h
   cases h;rfl
  ·obtain⟨q,_,h⟩:=aK.1 h;cases h
  ·obtain⟨q,_,h⟩:=aK.1 h;cases h
  cases h
inductive Rd (M:cO) (w:World) (c:cJ):List Sh→List ap→List Value→Prop
 |nil:Rd M w c [] [] []
 |cons {s a v ss es vs}:v.oneCell'=true→isAgg a=false→aC a=1→gB s a→R M w c a v→Rd M w c ss es vs→Rd M w c (s::ss) (a::es) (v::vs)
variable {M:cO} {w:World} {c:cJ}
theorem Rd.append{s1 s2:List Sh}{a1 a2:List ap}{v1 v2:List Value}(h:Rd M w c s1 a1 v1)(h':Rd M w c s2 a2 v2):Rd M w c (s1++s2) (a1++a2) (v1++v2):=by
 induction h with
 |nil=>exact h'
 |cons h1 h2 h3 h4 h5 _ ih=>exact .cons h1 h2 h3 h4 h5 ih
theorem Rd.len{s:List Sh}{a:List ap}{v:List Value}(h:Rd M w c s a v):a.length=s.length∧v.length=s.length:=by
 induction h with
 |nil=>exact⟨rfl,rfl⟩
 |cons _ _ _ _ _ _ ih=>exact⟨by simp[ih.1],by simp[ih.2]⟩
theorem Rd.get{s:List Sh}{a:List ap}{v:List Value}(h:Rd M w c s a v):∀i (hs:i<s.length) (ha:i<a.length) (hv:i<v.length),v[i].oneCell'=true∧isAgg a[i]=false∧aC a[i]=1∧gB s[i] a[i]∧R M w c a[i] v[i]:=by
 induction h with
 |nil=>intro i hs;exact absurd hs (cF _)
 |cons h1 h2 h3 h4 h5 _ ih=>
  intro i hs ha hv;cases i with
  |zero=>exact⟨h1,h2,h3,h4,h5⟩
  |succ i=>exact ih i (by simpa using hs) (by simpa using ha) (by simpa using hv)
theorem IV:∀(l:List (Nat×List Sh)) (cs:List Value),cs.length=(l.map (·.1)).sum →
  (∀j z s,l[j]?=some (z,s)→∃avs,Rd M w c s avs ((cs.drop ((l.take j).map (·.1)).sum).take z))→∃avs,Rd M w c (l.map (·.2)).flatten avs cs
 |[],cs,h,_=>⟨[],by
  obtain rfl:cs=[]:=bM (by simpa using h);exact .nil⟩
 |(z,s)::r,cs,h,hs=>by
  obtain⟨a1,h1⟩:=hs 0 z s rfl
  obtain⟨a2,h2⟩:=IV r (cs.drop z) (by simp at h ⊢;omega) fun j z' s' hj=>by
   obtain⟨avs,ha⟩:=hs (j+1) z' s' (by simpa using hj);refine⟨avs,?_⟩;rw[li];simpa using ha
  refine⟨a1++a2,?_⟩;have:=h1.append h2;simpa using this
theorem pD(m k:Nat):(List.replicate m k).sum=m*k:=by
 induction m with
 |zero=>simp
 |succ m ih=>rw[gV,List.sum_cons,ih,Nat.succ_mul,eE]
section
variable {H:Type} {enc:TypeId×Value→H} {P:Program} {T:TypeId→Prop}
theorem CF{a:Addr}{i:Nat}{v:Value}(hv:w.cell? (a.add i)=some v):a.add i=⟨a.block,a.off+i,none⟩:=by
 have hspot:(a.add i).spot=none:=by
  cases hsp:(a.add i).spot with
  |none=>rfl
  |some s=>
   simp only[World.cell?]at hv;split at hv
   ·simp[hsp]at hv
   cases hv
 unfold Addr.add at hspot ⊢;split
 ·rename_i h0;subst h0;rw[if_pos rfl]at hspot;cases a;simp_all
 rfl
theorem M6{held:Bool}(K:Kids P T):∀(n dp:Nat) (t:TypeId) (cs:List Value) (x:DataW H×List MemPlace) (c:cJ) (a:Bool) (shs:List Sh),(∀b,b<w.heap.size→c.bor b)→T t→uc P n t=some (a,shs) →
  DataW.trod enc P w 0 (fun _=>true) held dp t cs=some x→∃avs,Rd M w c shs avs cs:=by
 intro n;induction n with
 |zero=>intro dp t cs x c a shs _ _ h;simp[uc]at h
 |succ n ih=>
  intro dp t cs x c a shs hb hT h hd;unfold uc at h;split at h
  ·rename_i ht;obtain⟨b,rfl,_⟩:=DataW.trod_bool ht hd;cases h;exact⟨_,.cons rfl rfl rfl .bool .bool .nil⟩
  ·rename_i k ht;obtain⟨z,rfl,_,hw⟩:=DataW.trod_int ht hd;cases h;exact⟨_,.cons rfl rfl rfl (.int hw) .int .nil⟩
  ·rename_i ht;obtain⟨s,rfl,_,hw⟩:=DataW.trod_string ht hd;cases h;exact⟨_,.cons (a:=.str s.data.toList) rfl rfl rfl (.str (by rw[cw];exact hw)) (.str rfl) .nil⟩
  ·rename_i e ht;obtain⟨⟨ae,se⟩,hse,h⟩:=aA.1 h;split at h
   ·cases h
   rename_i hne;cases h;have hpos:0<se.length:=by
    cases se with
    |nil=>exact absurd rfl hne
    |cons _ _=>simp
   rcases Deep.open_slice ht hd with⟨rfl,_⟩|⟨ad,len,cap,m,k,D,Pl,rfl,_,hl,hm,hmm,_,hel⟩
   ·exact⟨_,.cons (a:=.aa true []) rfl rfl rfl (.sl (by simp) (by simp) (by simp)) .imm0 .nil⟩
   simp only[bU]at hmm;subst hmm;have hall:∀i,i<len→∃q:List ap×List Value,w.cells? 0 (ad.add (i*P.cellsOf e)) (P.cellsOf e)=some q.2∧Rd M w (c.still true) se q.1 q.2:=fun i hi=>by
    obtain⟨cs',h1,h2⟩:=hel i (by omega);obtain⟨avs,h3⟩:=ih _ _ _ _ (c.still true) _ _ hb (K.slice hT ht) hse h2;exact⟨(avs,cs'),h1,h3⟩
   obtain⟨F,hF⟩:=Deep.choose_lt hall
   let el (i:Nat):ap:=if ae then .agg (F i).1 else (F i).1.headD .any
   have hel1:∀i,i<len→isAgg (el i)=ae∧cellsOf (el i)=(F i).1∧aC (el i)=se.length:=fun i hi=>by
    have hr:=(hF i hi).2;cases ae with
    |true=>exact⟨rfl,rfl,hr.len.1⟩
    |false=>
     have h1:=KW hse;have h2:=hr.len.1;rw[h1]at h2
     match hq:(F i).1,h2 with
     |[y],_=>
      have hg:=hr.get 0 hpos (by rw[hq];simp) (by rw[hr.len.2];exact hpos);simp only[hq,cC]at hg;have:el i=y:=by simp[el,hq]
      rw[this,h1];refine⟨hg.2.1,?_,hg.2.2.1⟩;cases y<;>first|rfl|(simp[isAgg]at hg)
   by_cases h0:len=0
   ·subst h0;exact⟨_,.cons (a:=.aa true []) rfl rfl rfl (.sl (by simp) (by simp) (by simp)) .imm0 .nil⟩
   have hcell:∀i j,i<len→j<se.length→∃v,(F i).2[j]?=some v∧w.cell? ⟨ad.block,ad.off+i*se.length+j,none⟩=some v∧v.oneCell'=true∧P.cellsOf e=se.length:=fun i j hi hj=>by
    obtain⟨h1,h2⟩:=hF i hi;obtain⟨_,h3,h4⟩:=World.cells?_some h1;have h5:P.cellsOf e=se.length:=by rw[←h3,h2.len.2]
    have h6:=h4 j (by omega);have h7:j<(F i).2.length:=by rw[h2.len.2];exact hj
    rw[aq h7]at h6;have h8:=h6;rw[Deep.add_add]at h8;have h9:=CF h8;rw[h9,h5]at h8;exact⟨_,aq h7,by rw[cA];exact h8,(h2.get j hj (by rw[h2.len.1];exact hj) h7).1,h5⟩
   have hspot:ad.spot=none∧ad.block<w.heap.size:=by
    obtain⟨v,_,hv,_,hK⟩:=hcell 0 0 (by omega) hpos;obtain⟨h1,h2⟩:=hF 0 (by omega);obtain⟨_,h3,h4⟩:=World.cells?_some h1;have h6:=h4 0 (by omega);rw[Deep.add_add,kG,cu,aq (by omega)]at h6;have h9:=CF h6;have hlt:=World.block_lt_of_cell? w _ hv;refine⟨?_,hlt⟩;have:(ad.add 0).spot=none:=by rw[h9]
    simpa [Addr.add] using this
   refine⟨_,.cons (a:=.aa true ((List.range len).map el)) rfl rfl rfl (.sl (by simp;omega) ?_ ?_) ?_ .nil⟩
   ·intro x hx;obtain⟨i,hi,rfl⟩:=bK.1 hx;have hi:=eY.1 hi;obtain⟨h1,h2,h3⟩:=hel1 i hi;exact⟨h1,by rw[h2];exact (hF i hi).2.len.1,h3⟩
   ·intro x hx j hj hj';obtain⟨i,hi,rfl⟩:=bK.1 hx;have hi:=eY.1 hi;obtain⟨h1,h2,h3⟩:=hel1 i hi;have hr:=(hF i hi).2;have:=(hr.get j hj (by rw[hr.len.1];exact hj) (by rw[hr.len.2];exact hj)).2.2.2.1;simpa only [h2] using this
   have hlen:((List.range len).map el).length=len:=by simp
   have:=R.aa (M:=M) (w:=w) (c:=c) (b:=true) (xs:=(List.range len).map el) (cap:=m) (a:=ad) se.length (fun i j=>((F i).2[j]?).getD default) (hb _ hspot.2) hspot.1 (by rw[hlen];exact hl) (by omega)
    (fun x hx=>by
     obtain⟨i,hi,rfl⟩:=bK.1 hx;exact (hel1 i (eY.1 hi)).2.2)
    (fun i j hi hj=>by
     rw[hlen]at hi;obtain⟨v,h1,h2,h3,_⟩:=hcell i j hi hj;simp only[h1,dl];exact⟨h2,h3⟩)
    (fun i hi j hj=>by
     have hi':i<len:=by rw[hlen]at hi;exact hi
     have e1:((List.range len).map el)[i]=el i:=by simp
     have e2:=(hel1 i hi').2.1;have hr:=(hF i hi').2;simp only[e1,e2]at hj ⊢;have hj':j<se.length:=by rw[hr.len.1]at hj;exact hj
     have hv:j<(F i).2.length:=by rw[hr.len.2];exact hj'
     simp only[aq hv,dl];exact (hr.get j hj' hj hv).2.2.2.2)
   rw[hlen]at this;exact this
  ·rename_i fs ht;obtain⟨l,hl,h⟩:=aK.1 h;cases h;obtain⟨xs,k,rfl,_,hcl,hxl,hf⟩:=DataW.trod_struct ht hd;obtain⟨k1,k2,k3⟩:=K.struct hT ht;have hll:=mapM_some_length hl;have e0:((fs.toList.zip l).map fun p=>(P.cellsOf p.1.type,p.2.2)).map (·.1)=fs.toList.map fun f=>P.cellsOf f.type:=by
    rw[bD,show ((fun x:Nat×List Sh=>x.1)∘fun p:Field×Bool×List Sh=>(P.cellsOf p.1.type,p.2.2))=(fun f:Field=>P.cellsOf f.type)∘Prod.fst from rfl,←List.map_map,List.map_fst_zip (by omega)]
   have e1:((fs.toList.zip l).map fun p=>(P.cellsOf p.1.type,p.2.2)).map (·.2)=l.map (·.2):=by
    rw[bD,show ((fun x:Nat×List Sh=>x.2)∘fun p:Field×Bool×List Sh=>(P.cellsOf p.1.type,p.2.2))=(fun q:Bool×List Sh=>q.2)∘Prod.snd from rfl,←List.map_map,List.map_snd_zip (by omega)]
   have:=IV (M:=M) (w:=w) (c:=c) ((fs.toList.zip l).map fun p=>(P.cellsOf p.1.type,p.2.2)) cs (by rw[e0,hcl,k2]) (fun j z s hj=>by
    rw[dH,e0,←List.map_take];rw[dA,aK]at hj;obtain⟨⟨f,q⟩,hj,hz⟩:=hj;cases hz;rw[de]at hj;obtain⟨hj1,hj2⟩:=hj;have h1:=hf j f (by simpa using hj1);have h2:=k3 j f hj1;have h3:=mapM_some_get hl j f hj1;rw[hj2]at h3;have h4:j<xs.length:=by
     have:=(ak.1 hj1).1;rw[hxl];simpa using this
    rw[aq h4,h2]at h1;exact ih _ _ _ _ c q.1 q.2 hb (k1 f (aD hj1)) h3 h1)
   rw[e1]at this;exact this
  ·rename_i m e ht;obtain⟨⟨ae,se⟩,hse,h⟩:=aK.1 h;cases h;cases dp with
   |zero=>simp[DataW.trod]at hd
   |succ k=>
    rw[DataW.trod_step]at hd;unfold DataW.trodStep at hd;simp only[ht]at hd;split at hd
    ·rename_i hcl;obtain⟨xs,hx,_⟩:=aK.1 hd;obtain⟨k1,k2⟩:=K.array hT ht
     have:=IV (M:=M) (w:=w) (c:=c) (List.replicate m (P.cellsOf e,se)) cs (by simp[pD,hcl,k2]) (fun j z s hj=>by
      obtain⟨h1,h2⟩:=ak.1 hj;simp at h1 h2;obtain⟨rfl,rfl⟩:=h2;rw[List.take_replicate,List.map_replicate,pD,show min j m=j by omega];have h3:=mapM_some_get hx j j (by simp[h1]);have h4:j<xs.length:=by rw[mapM_some_length hx];simpa using h1
      rw[aq h4]at h3;exact ih _ _ _ _ c ae se hb k1 hse h3)
     simpa using this
    cases hd
  cases h
def Hc(s:Bool×List Sh)(x:ap):Prop:=isAgg x=s.1∧(cellsOf x).length=s.2.length∧aC x=s.2.length∧∀i (h:i<s.2.length) (h':i<(cellsOf x).length),gB s.2[i] (cellsOf x)[i]
theorem GL{r:Reach}{b0:Nat}{t:TypeId}{v:Value}{n:Nat}{shs:List Sh}(hs:uc P n t=some (true,shs))(hv:Value.okWide P w r b0 t v):∃cs,v=.agg cs:=by
 cases n with
 |zero=>simp[uc]at hs
 |succ n=>
  unfold uc at hs;unfold Value.okWide at hv;split at hs
  ·cases hs
  ·cases hs
  ·cases hs
  ·obtain⟨q,_,hs⟩:=aA.1 hs;split at hs<;>cases hs
  ·rename_i ht;rw[ht]at hv;obtain⟨cs,h,_⟩:=hv;exact⟨cs,h⟩
  ·rename_i ht;rw[ht]at hv;obtain⟨cs,h,_⟩:=hv;exact⟨cs,h⟩
  cases hs
theorem GY{r:Reach}{b0:Nat}{t:TypeId}{v:Value}{n:Nat}{shs:List Sh}(hs:uc P n t=some (false,shs))(hv:Value.okWide P w r b0 t v):v.cells=#[v]:=by
 have hno:∀cs,v≠.agg cs:=by
  rintro cs rfl;cases n with
  |zero=>simp[uc]at hs
  |succ n=>
   unfold uc at hs;unfold Value.okWide Cell.okWide at hv;split at hs
   ·rename_i ht;simp[ht,Cell.ok]at hv
   ·rename_i ht;simp[ht,Cell.ok]at hv
   ·rename_i ht;simp[ht,Cell.ok]at hv
   ·rename_i ht;simp[ht,Cell.ok]at hv
   ·obtain⟨q,_,h⟩:=aK.1 hs;cases h
   ·obtain⟨q,_,h⟩:=aK.1 hs;cases h
   cases hs
 cases v<;>first|rfl|exact absurd rfl (hno _)
theorem Xy(K:Kids P T){n:Nat}{t:TypeId}{v:Value}{d:DataW H}{ps:List MemPlace}{s:Bool×List Sh}{r:Reach}{b0:Nat}(hb:∀b,b<w.heap.size→c.bor b)(hT:T t)(hs:uc P n t=some s)
  (hv:Value.okWide P w r b0 t v) (hd:DataW.Trod enc P w 0 (fun _=>true) true t v d ps):∃x,Hc s x∧R M w c x v:=by
 obtain⟨dp,hd⟩:=hd;obtain⟨a,shs⟩:=s;obtain⟨avs,hr⟩:=M6 (M:=M) K n dp t _ _ c a shs hb hT hs hd;cases a with
 |true=>
  obtain⟨cs,rfl⟩:=GL hs hv;refine⟨.agg avs,⟨rfl,hr.len.1,hr.len.1,fun i h h'=>(hr.get i h h' (by rw[hr.len.2];exact h)).2.2.2.1⟩,?_⟩;have hl:cs.size=avs.length:=by
   have:=hr.len.2;simp[Value.cells]at this;rw[this,hr.len.1]
  have hi:∀i,i<avs.length→i<cs.size:=fun i h=>by omega
  have key:∀i (h:i<avs.length),_:=fun i h=>hr.get i (by rw[←hr.len.1];exact h) h (by simpa [Value.cells] using hi i h);refine .agg (fun i=>(cs[i]?).getD default) hl (fun i h=>?_) (fun i h=>?_) fun i h=>?_
  ·have:=(key i h).1;simp[Value.cells,hi i h]at this ⊢;exact this
  ·exact⟨by rw[(key i h).2.2.1];exact aB _,(key i h).2.1⟩
  have:=(key i h).2.2.2.2;simp[Value.cells,hi i h]at this ⊢;exact this
 |false=>
  have h1:=KW hs;have h2:=GY hs hv;rw[h2]at hr;have h3:=hr.len.1;rw[h1]at h3
  match avs,h3,hr with
  |[y],_,hr=>
   have hg:=hr.get 0 (by omega) (by simp) (by simp);simp only[cC]at hg;have hc:cellsOf y=[y]:=by
    have:=hg.2.1;cases y<;>first|rfl|(simp[isAgg]at this)
   refine⟨y,⟨hg.2.1,by rw[hc,h1];rfl,by rw[hg.2.2.1,h1],fun i h h'=>?_⟩,by simpa using hg.2.2.2.2⟩;have hi:i=0:=by rw[h1]at h;omega
   subst hi;simpa only [hc,cC] using hg.2.2.2.1
inductive zf:List (Bool×List Sh)→List ap→Prop
 |nil:zf [] []
 |cons {s x ss xs}:Hc s x→zf ss xs→zf (s::ss) (x::xs)
theorem He(K:Kids P T){n:Nat}{r:Reach}{b0:Nat}(hb:∀b,b<w.heap.size→c.bor b):∀{ts:List TypeId} {vs:List Value} {ds:List (DataW H)} {ps:List MemPlace} {ss:List (Bool×List Sh)},(∀t∈ts,T t)→ts.mapM (uc P n)=some ss →
  (∀(j:Nat) t v,ts[j]?=some t→vs[j]?=some v→Value.okWide P w r b0 t v)→DataW.TrodAll enc P w 0 (fun _=>true) true ts vs ds ps →
  ∃xs:List ap,zf ss xs∧xs.length=vs.length∧∀i (h:i<xs.length),∃x,vs[i]?=some x∧R M w c xs[i] x
 |[],vs,ds,ps,ss,_,hs,_,h=>by
  obtain⟨rfl,rfl,rfl⟩:=trodAll_nil h;cases hs;exact⟨[],.nil,rfl,fun i h=>absurd h (cF _)⟩
 |t::ts,vs,ds,ps,ss,hT,hs,hv,h=>by
  obtain⟨v0,vs0,d0,ds0,p0,q0,rfl,rfl,rfl,h0,r0⟩:=trodAll_cons h;rw[List.mapM_cons]at hs;simp only[bind,aA,pure,az]at hs;obtain⟨s,hs0,ss0,hs1,rfl⟩:=hs;obtain⟨x,hx,hR⟩:=Xy (M:=M) (c:=c) K hb (hT t (cQ ..)) hs0 (hv 0 t v0 rfl rfl) h0;obtain⟨xs,hxs,hl,hRs⟩:=He K hb (fun t h=>hT t (bq _ h)) hs1 (fun j t v h1 h2=>hv (j+1) t v (by simpa using h1) (by simpa using h2)) r0;refine⟨x::xs,.cons hx hxs,by simp[hl],fun i h=>?_⟩;cases i with
  |zero=>exact⟨v0,rfl,hR⟩
  |succ i=>
   obtain⟨y,h1,h2⟩:=hRs i (by simpa using h);exact⟨y,by simpa using h1,h2⟩
end
end Go.AM
namespace Go.AM
open Go.ChangeShapes Go.WideShapes Go.RowKit
section
variable {H:Type} {enc:TypeId×Value→H} {P:Program} {W W':World}
theorem xP{base:Nat}{sp:Nat→Bool}{held:Bool}:∀{ts:List TypeId} {vs:List Value} {ds:List (DataW H)} {ps:List MemPlace},DataW.TrodAll enc P W base sp held ts vs ds ps→(∀p∈ps,W.sameAt W' p) →
  DataW.TrodAll enc P W' base sp held ts vs ds ps
 |[],[],[],_,h,_=>h
 |_::_,_::_,_::_,_,⟨p,q,⟨n,h1⟩,h2,e⟩,hs=>⟨p,q,⟨n,DataW.trod_carry n _ _ _ h1 fun x hx=>hs x (by rw[e];exact List.mem_append_left _ hx)⟩,xP h2 fun x hx=>hs x (by rw[e];exact List.mem_append_right _ hx),e⟩
theorem GW{f:Func}{s:ChangeSpec}{args:Array Value}{ds gs:List (DataW H)}{before:List MemPlace}{tb:TypeId}(hk:Kids P (· < P.types.size))(hz:∀t e,t<P.types.size→P.underlying t=some (.slice e)→0<P.cellsOf e)
  (hT:∀t∈f.params.toList,t<P.types.size) (hW:DataW.Whole enc P f.params.toList s.vars false W args.toList ds gs before) (hv:s.vars=[]) (hres:f.resultTypes=#[tb]) (htb:P.underlying tb=some .bool)
  (hfn:s.fn H ds={ results:=[.lit (.bool true)],args:=ds }) (hs:Same W W') (hsz:W.heap.size≤W'.heap.size) (hfr:∀b,b<W.heap.size→W'.heap[b]?=W.heap[b]?) :
  s.post enc P f false true false false W args (.bool true) W':=by
 have hlt:=hW.lt;have hW':=hW;obtain⟨p,q,h1,h2,rfl,_,_⟩:=hW;rw[hv]at h2;obtain⟨rfl,rfl⟩:=trodVars_none h2;have hsame:∀x∈p,W.sameAt W' x:=fun x hx=>by
  have:=hlt x (by simpa using hx);cases x with
  |cell b off=>exact nK (hfr b this) off
  |map b=>exact hfr b this
 refine⟨ds,[],p++[],[],p,[],hW',?_,?_,?_,?_,fun h=>by cases h⟩
 ·rw[fg,hfn,hres];exact trodAll_cons_mk (shut_bool htb true) trodAll_mk0
 ·rw[fg,hfn];exact xP (DataW.TrodAll.respare hk hz hT h1 fun x hx=>nV (hlt x (by simpa using hx))) hsame
 ·rw[hv,fg,hfn];exact rfl
 refine⟨hs.os,hs.output,fun i hi=>?_⟩;rw[hfr i hi];cases W.heap[i]? with
 |none=>simp
 |some o=>cases o<;>simp
end
mutual
def wi{H:Type}:DataW H→Option (List Value)
 |.lit (.int k n)=>some [.int k n]
 |.lit (.bool b)=>some [.bool b]
 |.lit (.string s)=>some [.string ⟨s.toArray⟩]
 |.agg l=>K5 l
 |_=>none
def K5{H:Type}:List (DataW H)→Option (List Value)
 |[]=>some []
 |d::r=>(wi d).bind fun a=>(K5 r).map (a++·)
end
theorem KK:∀(l:List Nat) (ps:List (List Value)) (cs:List Value),l.length=ps.length→cs.length=l.sum→(∀j z p,l[j]?=some z→ps[j]?=some p→(cs.drop (l.take j).sum).take z=p)→cs=ps.flatten
 |[],[],cs,_,h,_=>by simpa using h
 |z::l,p::ps,cs,hl,h,hs=>by
  have h0:=hs 0 z p rfl rfl;simp at h0
  have:=KK l ps (cs.drop z) (by simpa using hl) (by simp at h ⊢;omega) fun j z' p' h1 h2=>by
   have:=hs (j+1) z' p' (by simpa using h1) (by simpa using h2);simpa [li] using this
  rw[List.flatten_cons,←this,←h0,mB]
 |[],_::_,_,h,_,_=>by cases h
 |_::_,[],_,h,_,_=>by cases h
theorem yx{H:Type}:∀{l:List (DataW H)} {vs:List Value},K5 l=some vs→∃ps:List (List Value),ps.length=l.length∧vs=ps.flatten∧∀(j:Nat) d,l[j]?=some d→∃p,ps[j]?=some p∧wi d=some p
 |[],vs,h=>by
  simp[K5]at h;exact⟨[],rfl,by simp[h],fun j d h=>by simp at h⟩
 |d::r,vs,h=>by
  simp only[K5,aA,aK]at h;obtain⟨a,h1,b,h2,rfl⟩:=h;obtain⟨ps,e1,e2,e3⟩:=yx h2;refine⟨a::ps,by simp[e1],by simp[e2],fun j d' hj=>?_⟩;cases j with
  |zero=>simp at hj;subst hj;exact⟨a,rfl,h1⟩
  |succ j=>simpa using e3 j d' (by simpa using hj)
theorem Zw{H:Type}{enc:TypeId×Value→H}{P:Program}{T:TypeId→Prop}{w:World}{base:Nat}{sp:Nat→Bool}{held:Bool}(K:Kids P T) :
  ∀(dp:Nat) (t:TypeId) (cs:List Value) (d:DataW H) (p:List MemPlace) (vs:List Value),T t→DataW.trod enc P w base sp held dp t cs=some (d,p)→wi d=some vs→cs=vs:=by
 intro dp;induction dp with
 |zero=>intro t cs d p vs _ h;simp[DataW.trod]at h
 |succ dp ih=>
  intro t cs d p vs hT h hf;have h':=h;rw[DataW.trod_step]at h;unfold DataW.trodStep at h;split at h
  case h_1=>cases h;simpa [wi] using hf
  case h_2=>split at h<;>cases h;rename_i hc;obtain⟨rfl,_⟩:=hc;simpa [wi] using hf
  case h_4=>split at h<;>cases h;simpa [wi] using hf
  case h_9 ht=>
   rename_i fs;obtain⟨xs,k,e0,e1,hcl,hxl,hfl⟩:=DataW.trod_struct ht h';cases e0;obtain⟨k1,k2,k3⟩:=K.struct hT ht;have e2:d=.agg (xs.map (·.1)):=(Prod.mk.inj e1).1;subst e2;simp only[wi]at hf;obtain⟨ps,q1,rfl,q3⟩:=yx hf;refine KK (fs.toList.map fun f=>P.cellsOf f.type) ps _ (by rw[q1,cR,cR,hxl,cw]) (by rw[hcl,k2]) fun j z p hj hp=>?_;rw[dA,aK]at hj;obtain⟨f,hj,rfl⟩:=hj;have hjl:=(ak.1 hj).1;have a1:=hfl j f (by simpa using hj);rw[k3 j f hj,aq (by rw[hxl];simpa using hjl)]at a1;obtain⟨p',a2,a3⟩:=q3 j _ (by rw[dA,aq (by rw[hxl];simpa using hjl)];rfl);rw[hp]at a2;cases a2;rw[←List.map_take];exact ih _ _ _ _ _ (k1 f (aD hj)) a1 a3
  case h_10 ht=>
   rename_i m e;split at h
   ·rename_i hcl;obtain⟨xs,hx,e1⟩:=aK.1 h;have e2:d=.agg (xs.map (·.1)):=((Prod.mk.inj e1).1).symm;subst e2;obtain⟨k1,k2⟩:=K.array hT ht;simp only[wi]at hf;obtain⟨ps,q1,rfl,q3⟩:=yx hf;have hxl:xs.length=m:=by simpa using mapM_some_length hx
    refine KK (List.replicate m (P.cellsOf e)) ps _ (by simp[q1,hxl]) (by rw[hcl,k2,pD]) fun j z p hj hp=>?_;obtain⟨b1,b2⟩:=ak.1 hj;simp at b1 b2;subst b2;rw[List.take_replicate,pD,show min j m=j by omega];have h3:=mapM_some_get hx j j (by simp[b1]);rw[aq (by omega)]at h3;obtain⟨p',a2,a3⟩:=q3 j _ (by rw[dA,aq (by omega)];rfl);rw[hp]at a2;cases a2;exact ih _ _ _ _ _ k1 h3 a3
   cases h
  all_goals first
   |(cases h;done)
   |(cases h;simp[wi]at hf;done)
   |(simp only[aK]at h;obtain⟨_,_,h⟩:=h;cases h;simp[wi]at hf;done)
   |(split at h<;>first|(cases h;done)|(cases h;simp[wi]at hf;done)|(simp only[aA,aK]at h;obtain⟨_,_,_,_,h⟩:=h;cases h;simp[wi]at hf;done)|(simp only[aK]at h;obtain⟨_,_,h⟩:=h;cases h;simp[wi]at hf;done)|skip)
  split at h
  ·obtain⟨en,_,h⟩:=aA.1 h;simp only at h;split at h
   ·cases h;simp[wi]at hf
   cases h
  cases h
def toV:ap→Option Value
 |.int k n=>some (.int k n)
 |.bool b=>some (.bool b)
 |.str s=>some (.string ⟨s.toArray⟩)
 |_=>none
theorem aaT{M:cO}{w:World}{c:cJ}{a:ap}{v:Value}(h:toV a=some v):R M w c a v∧v.oneCell'=true:=by
 cases a<;>simp[toV]at h<;>subst h
 ·exact⟨.int,rfl⟩
 ·exact⟨.bool,rfl⟩
 exact⟨.str rfl,rfl⟩
theorem ML{P:Program}{w:World}:∀{l:List (String×DataW Unit)} {ps:List MemPlace},DataW.LaidVars P w l ps→∀n d,(n,d)∈l →
  ∃g t cs dp p,P.globalNamed n=some g∧(P.globals[g]?).map (·.type)=some t∧w.var? P n=some cs∧DataW.trod (fun _=>()) P w 0 (fun _=>true) false dp t cs.toList=some (d,p)
 |[],_,_,n,d,h=>by cases h
 |(n',d')::r,ps,h,n,d,hm=>by
  obtain⟨g,t,cs,dp,p,q,h1,h2,h3,h4,h5,_⟩:=h;rcases d4.1 hm with e|hm
  ·cases e;exact⟨g,t,cs,dp,p,h1,h2,h3,h4⟩
  exact ML h5 n d hm
theorem WW{P:Program}{fm:Nat→FuncId}{glob:Nat→Option ap}{sites:Nat→Option rv}{W:World}{laid:List (String×DataW Unit)}{lp:kB}{T:TypeId→Prop}(K:Kids P T)(hT:∀(g:Nat) t,(P.globals[g]?).map (·.type)=some t→T t)(hL:laidMet P laid W)
  (hg:∀g a,glob g=some a→∃n d vs,(n,d)∈laid∧P.globalNamed n=some g∧wi d=some vs∧(cellsOf a).map toV=vs.map some∧aC a=vs.length∧vs≠[])
  (hu:∀ g13 g3 g4,P.globalNamed "unicode.CaseRanges" = some g13→P.globalNamed "unicode/utf8.first" = some g3→P.globalNamed "unicode/utf8.acceptRanges" = some g4→Lib.CaseVar g13 Lib.caseA W∧Lib.Utf8Tabs g3 g4 W) :
  iR (cO.of P fm glob sites) W (cJ.start W (fun _=>True) lp):=by
 refine⟨?_,fun g13 g3 g4 n1 n2 n3=>?_⟩
 rotate_left
 ·obtain⟨⟨R,oR,cap,v1,v2⟩,u⟩:=hu g13 g3 g4 n1 n2 n3;exact⟨⟨R,oR,cap,v1,v2,⟨trivial,World.block_lt_of_cell? W _ v1⟩,⟨trivial,World.block_lt_of_cell? W _ (v2 0 Su).1⟩⟩,u,⟨trivial,World.block_lt_of_cell? W _ (u.1 0 (by omega))⟩,⟨trivial,World.block_lt_of_cell? W _ (u.2 0 (by omega)).1⟩⟩
 intro g a ha;obtain⟨n,d,vs,h1,h2,h3,h4,h5,h6⟩:=hg g a ha;obtain⟨ps,hv,_⟩:=hL;obtain⟨g',t,cs,dp,p,e1,e2,e3,e4⟩:=ML hv n d h1;obtain rfl:=dz (h2.symm.trans e1);have hcs:=Zw K dp t cs.toList d p vs (hT g t e2) e4 h3;have hlen:(cellsOf a).length=vs.length:=by simpa using congrArg List.length h4
 have hcell:∀j (h:j<vs.length),W.cell? ⟨g,j,none⟩=some vs[j]:=fun j h=>by
  rw[World.var?_cell h2 e3 j,←Array.getElem?_toList,hcs,aq h]
 have hget:∀j (h:j<vs.length) (h':j<(cellsOf a).length),toV (cellsOf a)[j]=some vs[j]:=fun j h h'=>by
  have:=congrArg (·[j]?) h4;simpa [h,h'] using this
 have hsz:g<W.heap.size:=World.block_lt_of_cell? W _ (hcell 0 (fy.2 h6));have:=R.cptr (M:=cO.of P fm glob sites) (w:=W) (c:=cJ.start W (fun _=>True) lp) (b:=false) (x:=a) (off:=0) (o:=0) (blk:=g) (fun j=>(vs[j]?).getD default) ⟨trivial,hsz⟩
  (by rw[h5];exact Nat.pos_iff_ne_zero.1 (fy.2 h6))
  (fun j hj=>by
   rw[h5]at hj;have:=hcell j hj;simp only[aq hj,dl,cu];exact⟨this,(aaT (M:=cO.of P fm glob sites) (w:=W) (c:=cJ.start W (fun _=>True) lp) (hget j hj (by omega))).2⟩)
  (fun j hj=>by
   have hj':j<vs.length:=by omega
   simp only[aq hj',dl];exact (aaT (hget j hj' hj)).1)
 exact this
def FY:Bool×List Sh→Bool
 |(true,_)=>true
 |(false,[.sl _ _])=>true
 |(false,[.bool])=>true
 |_=>false
theorem KV{s:Bool×List Sh}{x:ap}(h:Hc s x)(hs:FY s=true):wC x=false:=by
 obtain⟨h1,h2,h3,h4⟩:=h;obtain⟨a,l⟩:=s;have hc:isAgg x=false→cellsOf x=[x]:=fun h=>by cases x<;>first|rfl|(simp[isAgg]at h)
 unfold FY at hs;split at hs
 ·rename_i e;cases e;cases x<;>first|rfl|(simp[isAgg]at h1;done)
 ·rename_i e;cases e;have:=h4 0 (by simp) (by rw[hc h1];simp);simp only[hc h1,cC]at this;cases this;rfl
 ·rename_i e;cases e;have:=h4 0 (by simp) (by rw[hc h1];simp);simp only[hc h1,cC]at this;cases this;rfl
 cases hs
theorem Ep:∀{ss:List (Bool×List Sh)} {xs:List ap},zf ss xs→∀(i:Nat) s,ss[i]?=some s→∃x∈xs,Hc s x
 |_,_,.nil,i,s,h=>by simp at h
 |_,_,.cons h1 h2,i,s,h=>by
  cases i with
  |zero=>simp at h;subst h;exact⟨_,cQ ..,h1⟩
  |succ i=>
   obtain⟨x,hx,h3⟩:=Ep h2 i s (by simpa using h);exact⟨x,bq _ hx,h3⟩
theorem SS{s:Sh}{x:ap}(h:Hc (false,[s]) x):gB s x:=by
 obtain⟨h1,h2,_,h4⟩:=h;have hc:cellsOf x=[x]:=by
  cases x with
  |agg cs=>cases h1
  |_=>rfl
 have:=h4 0 (by simp) (by rw[hc];simp);simpa only [hc,cC] using this
theorem gB.int_inv{k:IntKind}{x:ap}(h:gB (.int k) x):∃n,x=.int k n∧(Lit.int k n).wf=true:=by cases h with|int h=>exact⟨_,rfl,h⟩
theorem gB.bool_inv{x:ap}(h:gB .bool x):∃b,x=.bool b:=by cases h;exact⟨_,rfl⟩
theorem gB.str_inv{x:ap}(h:gB .str x):∃s,x=.str s∧s.length≤maxLen:=by cases h with|str h=>exact⟨_,rfl,h⟩
theorem I8{P:Program}{fm:Nat→FuncId}{glob:Nat→Option ap}{sites:Nat→Option rv}{tbl:List jq}{H:Type}{enc:TypeId×Value→H}{laid:List (String×DataW Unit)}{fn:Func}{s:ChangeSpec}{tb:TypeId}{k f:Nat}{ss:List (Bool×List Sh)}
  (hc:wa (cO.of P fm glob sites) P (uo tbl) (yS tbl)) (hl:laidOutB P=true) (hm:mapsRowed P=true)
  (hz:((List.range P.types.size).all fun t=>match P.underlying t with|some (.slice e)=>decide (0<P.cellsOf e)|_=>true)=true)
  (hT:(fn.params.toList.all fun t=>decide (t<P.types.size))=true) (hgT:(P.globals.toList.all fun g=>decide (g.type<P.types.size))=true)
  (hg:∀g a,glob g=some a→∃n d vs,(n,d)∈laid∧P.globalNamed n=some g∧wi d=some vs∧(cellsOf a).map toV=vs.map some∧aC a=vs.length∧vs≠[])
  (hss:fn.params.toList.mapM (uc P k)=some ss) (hnp:∃(i:Nat) (s:Bool×List Sh),ss[i]?=some s∧FY s=true) (hv:s.vars=[]) (hres:fn.resultTypes=#[tb]) (htb:P.underlying tb=some .bool)
  (hfn:∀ds:List (DataW H),ds.length=fn.params.size→s.fn H ds={ results:=[.lit (.bool true)],args:=ds })
  (hu:∀ W,laidMet P laid W→∀ g13 g3 g4,P.globalNamed "unicode.CaseRanges" = some g13→P.globalNamed "unicode/utf8.first" = some g3→P.globalNamed "unicode/utf8.acceptRanges" = some g4→Lib.CaseVar g13 Lib.caseA W∧Lib.Utf8Tabs g3 g4 W)
  (law:∀args,zf ss args→∃n,dG (yS tbl) n f args []=some (.bool true,[]))
  {W:World} {base:Nat} {args:Array Value} {ds gs:List (DataW H)} {before:List MemPlace}
  (hval:∀(j:Nat) t v,fn.params[j]?=some t→args[j]?=some v→Value.okWide P W .any base t v)
  (hW:DataW.Whole enc P fn.params.toList s.vars false W args.toList ds gs before) (hL:laidMet P laid W) :
  Calls P (fm f) args W fun e W'=>∃v,e=.returned v∧s.post enc P fn false true false false W args v W':=by
 have K:Kids P (· < P.types.size):=kids_rows hl hm;have hT':∀t∈fn.params.toList,t<P.types.size:=fun t ht=>jd (aI.1 hT t ht);have hgT':∀(g:Nat) t,(P.globals[g]?).map (·.type)=some t→t<P.types.size:=fun g t h=>by
  obtain⟨x,h1,rfl⟩:=aK.1 h;exact jd (aI.1 hgT x (by simpa using tc h1))
 have hW':=hW;obtain⟨p,q,h1,h2,_,_,_⟩:=hW
 let lp:kB:=⟨0,#[],#[],.skip,.skip,0⟩
 obtain⟨xs,hxs,hxl,hxR⟩:=He (M:=cO.of P fm glob sites) (c:=cJ.start W (fun _=>True) lp) (n:=k) K (fun b hb=>hb) hT' hss (fun j t v h3 h4=>hval j t v (by simpa using h3) (by simpa using h4)) h1;obtain⟨i,s0,hi,hnp⟩:=hnp;obtain⟨x0,hx0,hx1⟩:=Ep hxs i s0 hi;obtain⟨n,hrun⟩:=law xs hxs;have hds:ds.length=fn.params.size:=by
  have:∀{ts:List TypeId} {vs:List Value} {ds:List (DataW H)} {ps:List MemPlace},DataW.TrodAll enc P W 0 (fun _=>true) true ts vs ds ps→ds.length=ts.length:=by
   intro ts;induction ts with
   |nil=>intro vs ds ps h;obtain⟨_,rfl,_⟩:=trodAll_nil h;rfl
   |cons t ts ih=>
    intro vs ds ps h;obtain⟨_,_,_,_,_,_,_,rfl,_,_,r0⟩:=trodAll_cons h;simp[ih r0]
  rw[this h1,cw]
 refine (Sb hc hrun ⟨x0,hx0,KV hx1 hnp⟩ (WW K hgT' hL hg (hu W hL)) (⟨by rw[hxl,cw],fun j hj=>by
  obtain⟨y,e1,e2⟩:=hxR j hj;exact⟨y,by simpa using e1,e2⟩⟩:jZ _ W _ xs args)).mono fun e W' ⟨cv,c',he,hrf,hs,hsz,hfr⟩=>?_
 have hcv:cv=.bool true:=by
  cases hrf with
  |r h=>cases h;rfl
 subst he;subst hcv;exact⟨_,rfl,GW K (slices_full_of P hz) hT' hW' hv hres htb (hfn ds hds) hs hsz hfr⟩
end Go.AM
