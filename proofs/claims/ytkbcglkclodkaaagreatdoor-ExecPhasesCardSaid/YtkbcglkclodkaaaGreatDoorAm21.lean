/- Part of the proof. -/
import Derived.Test.YtkbcglkclodkaaaGreatDoorAm20
import Derived.Test.YtkbcglkclodkaaaGreatDoorAm16
set_option linter.unusedVariables false
set_option linter.unusedSimpArgs false
namespace Go.AM
def allOk(n:LNX)(rs:List (List Val)):Prop:=∀ r∈rs,∀ a∈n.aggs,rowOkA a.tag a.arg r
abbrev filt(cols:List Int)(rs:List (List Val))(k:List Val):List (List Val):=rs.filter fun r=>decide (keyOf cols r=k)
abbrev keysOf(cols:List Int)(rs:List (List Val)):List (List Val):=(groupsF cols rs).map (·.1)
noncomputable def rowK(n:LNX)(q:List Val×List (List Val)):List Val:=q.1++n.aggs.map fun a=>pvF a.tag (valsE a.arg q.2) q.2.length
theorem gVals_map(n:LNX)(f:AggX→List (List Val)→Val×Int)(rows:List (List Val)):gVals n (fun _ a rows=>f a rows) rows=n.aggs.map fun a=>f a rows:=by
 unfold gVals
 have:(n.aggs.zipIdx.map fun p=>f p.1 rows)=(n.aggs.zipIdx.map Prod.fst).map fun a=>f a rows:=by rw[List.map_map];rfl
 rw[this,List.zipIdx_map_fst]
theorem filt_sub{cols:List Int}{rs:List (List Val)}{k:List Val}:∀ r∈filt cols rs k,r∈rs∧keyOf cols r=k:=fun r hr=>by
 obtain ⟨h1,h2⟩:=List.mem_filter.1 hr
 exact ⟨h1,by simpa using h2⟩
theorem key_iff{cols:List Int}{rs:List (List Val)}{k:List Val}:k∈keysOf cols rs↔∃ r∈rs,keyOf cols r=k:=by
 have hg:=groups_spec cols rs
 constructor
 ·intro h
  obtain ⟨g,hg',rfl⟩:=List.mem_map.1 h
  obtain ⟨hp,hne⟩:=hg.rows g hg'
  obtain ⟨r,hr⟩:=List.exists_mem_of_ne_nil _ hne
  have:=filt_sub r (hp.mem_iff.1 hr)
  exact ⟨r,this.1,this.2⟩
 ·rintro ⟨r,hr,rfl⟩
  obtain ⟨g,hg',e⟩:=hg.all r hr
  exact List.mem_map.2 ⟨g,hg',e⟩
theorem partial_ok{n:LNX}{rs:List (List Val)}(ha:∀ a∈n.aggs,AgOk a.tag a.arg)(hr:∀ r∈rs,okR r=true)(h:allOk n rs) :
  partialF n rs=(sortC cmpR ((keysOf n.keys rs).map fun k=>rowK n (k,filt n.keys rs k)),0):=by
 have hg:=groups_spec n.keys rs
 have hv:∀ g∈groupsF n.keys rs,gVals n (fun _ a rows=>partF a.tag a.arg rows) g.2=n.aggs.map fun a=>(pvF a.tag (valsE a.arg (filt n.keys rs g.1)) (filt n.keys rs g.1).length,0):=fun g hg'=>by
  obtain ⟨hp,_⟩:=hg.rows g hg'
  rw[gVals_map n (fun a rows=>partF a.tag a.arg rows)]
  refine List.map_congr_left fun a haa=>?_
  have hsub:∀ r∈g.2,r∈rs:=fun r hr'=>(filt_sub r (hp.mem_iff.1 hr')).1
  rw[partF_ok (ha a haa) (fun r hr'=>hr r (hsub r hr')) (fun r hr'=>h r (hsub r hr') a haa)]
  rw[(pvF_perm g.2.length (valsE_perm hp) valsE_k).1,hp.length_eq]
 unfold partialF
 rw[groupedF_eq,if_pos (List.all_eq_true.2 fun g hg'=>by
  unfold gOk
  rw[hv g hg',List.all_eq_true]
  intro q hq
  obtain ⟨a,_,rfl⟩:=List.mem_map.1 hq
  rfl)]
 congr 2
 rw[List.map_map]
 refine List.map_congr_left fun g hg'=>?_
 unfold gRow rowK
 rw[hv g hg',List.map_map]
 rfl
theorem partial_bad{n:LNX}{rs:List (List Val)}(ha:∀ a∈n.aggs,AgOk a.tag a.arg)(hr:∀ r∈rs,okR r=true)(h:¬allOk n rs):partialF n rs=([],140):=by
 have hg:=groups_spec n.keys rs
 obtain ⟨r,hr',a,haa,hn⟩:∃ r∈rs,∃ a∈n.aggs,¬rowOkA a.tag a.arg r:=by
  apply Classical.byContradiction
  intro hc
  exact h fun r hr' a haa=>Classical.byContradiction fun hn=>hc ⟨r,hr',a,haa,hn⟩
 obtain ⟨g,hg',hk⟩:=hg.all r hr'
 obtain ⟨hp,_⟩:=hg.rows g hg'
 have hmem:r∈g.2:=hp.mem_iff.2 (List.mem_filter.2 ⟨hr',by simp[hk]⟩)
 have hsub:∀ r∈g.2,r∈rs:=fun r hr'=>(filt_sub r (hp.mem_iff.1 hr')).1
 have hb:=partF_bad (ha a haa) (fun r hr'=>hr r (hsub r hr')) ⟨r,hmem,hn⟩
 unfold partialF
 rw[groupedF_eq,if_neg]
 intro hall
 have:=List.all_eq_true.1 hall g hg'
 unfold gOk at this
 rw[gVals_map n (fun a rows=>partF a.tag a.arg rows)]at this
 have:=List.all_eq_true.1 this _ (List.mem_map.2 ⟨a,haa,rfl⟩)
 exact hb (by simpa using this)
def mN(n:LNX):LNX:=⟨11,0,0,0,false,[],false,false,[],true,(List.range n.keys.length).map fun (i:Nat)=>(i:Int),true,n.aggs.map fun a=>⟨a.tag,false,[]⟩,false,[],false,[],0⟩
theorem take_ids{k v:List Val}{n:LNX}(h:k.length=n.keys.length):takeR (k++v) (mN n).keys=k:=by
 unfold takeR mN
 apply List.ext_getElem
 ·simp[h]
 ·intro i h1 h2
  simp only[List.getElem_map,List.getElem_range,colV]
  rw[List.getD_eq_getElem?_getD]
  simp[List.getElem?_append_left h2,h2]
structure Pcs (n:LNX) (R:List (List Val)) (Q:List (List Val×List (List Val))):Prop where
 ne:∀ q∈Q,q.2≠[]
 key:∀ q∈Q,∀ r∈q.2,keyOf n.keys r=q.1
 all:(Q.flatMap (·.2)).Perm R
theorem Pcs.mem{n:LNX}{R:List (List Val)}{Q:List (List Val×List (List Val))}(h:Pcs n R Q){q:List Val×List (List Val)}(hq:q∈Q):∀ r∈q.2,r∈R:=fun r hr=>h.all.mem_iff.1 (List.mem_flatMap.2 ⟨q,hq,hr⟩)
theorem Pcs.len{n:LNX}{R:List (List Val)}{Q:List (List Val×List (List Val))}(h:Pcs n R Q){q:List Val×List (List Val)}(hq:q∈Q):q.2.length≤R.length∧q.1.length=n.keys.length:=by
 constructor
 ·rw[← h.all.length_eq]
  obtain ⟨a,b,e⟩:=List.append_of_mem hq
  rw[e];simp;omega
 ·obtain ⟨r,hr⟩:=List.exists_mem_of_ne_nil _ (h.ne q hq)
  rw[← h.key q hq r hr,takeR_len]
theorem Pcs.filt{n:LNX}{R:List (List Val)}{Q:List (List Val×List (List Val))}(h:Pcs n R Q)(k:List Val):((Q.filter fun q=>decide (q.1=k)).flatMap (·.2)).Perm (filt n.keys R k):=by
 have h1:=h.all.filter fun r=>decide (keyOf n.keys r=k)
 refine List.Perm.trans (List.Perm.of_eq ?_) h1
 have key:∀ Q:List (List Val×List (List Val)),(∀ q∈Q,∀ r∈q.2,keyOf n.keys r=q.1)→(Q.filter fun q=>decide (q.1=k)).flatMap (·.2)=(Q.flatMap (·.2)).filter fun r=>decide (keyOf n.keys r=k):=by
  intro Q
  induction Q with
  | nil=>intro _;rfl
  | cons q Q ih=>
   intro hk
   rw[List.flatMap_cons,List.filter_append,← ih fun q' hq'=>hk q' (List.mem_cons_of_mem _ hq')]
   have hq:=hk q (by simp)
   by_cases e:q.1=k
   ·rw[List.filter_cons,if_pos (by simp[e]),List.flatMap_cons]
    congr 1
    exact (List.filter_eq_self.2 fun r hr=>by simp[hq r hr,e]).symm
   ·rw[List.filter_cons,if_neg (by simp[e])]
    have:q.2.filter (fun r=>decide (keyOf n.keys r=k))=[]:=List.filter_eq_nil_iff.2 fun r hr=>by simp[hq r hr,e]
    rw[this];rfl
 exact key Q h.key
theorem Pcs.keys{n:LNX}{R:List (List Val)}{Q:List (List Val×List (List Val))}(h:Pcs n R Q)(k:List Val):(∃ q∈Q,q.1=k)↔k∈keysOf n.keys R:=by
 rw[key_iff]
 constructor
 ·rintro ⟨q,hq,rfl⟩
  obtain ⟨r,hr⟩:=List.exists_mem_of_ne_nil _ (h.ne q hq)
  exact ⟨r,h.mem hq r hr,h.key q hq r hr⟩
 ·rintro ⟨r,hr,rfl⟩
  obtain ⟨q,hq,hrq⟩:=List.mem_flatMap.1 (h.all.mem_iff.2 hr)
  exact ⟨q,hq,(h.key q hq r hrq).symm⟩
theorem finF_perm{tag:Int}{l m:List Val}(h:l.Perm m)(hk:∀ v∈l,v.k≠0):finF tag l=finF tag m:=by
 unfold finF
 have hnil:l=[]↔m=[]:=⟨fun e=>by subst e;exact List.nil_perm.1 h,fun e=>by subst e;exact List.perm_nil.1 h⟩
 have h1:joinL l=joinL m:=by
  rw[joinL_eq,joinL_eq,sum_perm (h.map sumI)]
  by_cases e:l=[]
  ·rw[if_pos e,if_pos (hnil.1 e)]
  ·rw[if_neg e,if_neg fun e'=>e (hnil.2 e')]
 have h2:sumL (l++[intVal 0])=sumL (m++[intVal 0]):=(pvF_perm (tag:=0) 0 (h.append_right _) (fun v hv=>by
  rcases List.mem_append.1 hv with hv|hv
  ·exact hk v hv
  ·rw[List.mem_singleton.1 hv];simp[intVal])).2
 have h4:=(pvF_perm (tag:=4) 0 h hk).1
 have h5:=(pvF_perm (tag:=5) 0 h hk).1
 have e4:leastF l=leastF m:=h4
 have e5:greatestF l=greatestF m:=h5
 rw[h1,h2,e4,e5]
end Go.AM
namespace Go.AM
structure Ph (n:LNX) (R:List (List Val)):Prop where
 ag:∀ a∈n.aggs,AgOk a.tag a.arg
 ok:∀ r∈R,okR r=true
 rg:rgL R
 rgE:∀ a∈n.aggs,rgE a.arg
 small:R.length≤24
 all:allOk n R
variable {n:LNX} {R:List (List Val)} {Q:List (List Val×List (List Val))}
noncomputable def evR(R:List (List Val))(n:LNX)(k:List Val)(a:AggX):Val×Int:=evF a.tag (valsE a.arg (filt n.keys R k)) (filt n.keys R k).length
noncomputable def finRow(R:List (List Val))(n:LNX)(k:List Val):List Val:=k++n.aggs.map fun a=>(evR R n k a).1
noncomputable def finOkR(R:List (List Val))(n:LNX)(k:List Val):Bool:=n.aggs.all fun a=>(evR R n k a).2 == 0
theorem own_key(hp:Pcs n R Q){X:List (List Val)}(hX:X.Perm (Q.map (rowK n))){k:List Val}{rows:List (List Val)}(hr:rows.Perm (X.filter fun x=>decide (keyOf (mN n).keys x=k))){i:Nat}{a:AggX}(hi:n.aggs[i]?=some a) :
  (ownF (n.keys.length+i) rows).Perm (((Q.filter fun q=>decide (q.1=k)).map fun q=>pvF a.tag (valsE a.arg q.2) q.2.length).filter fun v=>v.k != 0):=by
 rw[ownF_eq]
 refine List.Perm.filter _ ?_
 have h1:rows.Perm ((Q.map (rowK n)).filter fun x=>decide (keyOf (mN n).keys x=k)):=hr.trans (hX.filter _)
 have hlen:∀ q∈Q,q.1.length=n.keys.length:=fun q hq=>(hp.len hq).2
 have h2:(Q.map (rowK n)).filter (fun x=>decide (keyOf (mN n).keys x=k))=(Q.filter fun q=>decide (q.1=k)).map (rowK n):=by
  rw[List.filter_map]
  congr 1
  refine List.filter_congr fun q hq=>?_
  have e:keyOf (mN n).keys (rowK n q)=q.1:=take_ids (hlen q hq)
  simp only[Function.comp_apply]
  rw[Bool.eq_iff_iff,decide_eq_true_iff,decide_eq_true_iff,e]
 rw[h2]at h1
 refine (h1.map _).trans (List.Perm.of_eq ?_)
 rw[List.map_map]
 refine List.map_congr_left fun q hq=>?_
 have hq':=(List.mem_filter.1 hq).1
 simp only[Function.comp_apply,rowK]
 rw[List.getD_eq_getElem?_getD,List.getElem?_append_right (by rw[hlen q hq'];omega),hlen q hq']
 rw[show n.keys.length+i - n.keys.length=i by omega,List.getElem?_map,hi]
 rfl
theorem flat_vals(e:List EN):∀ (l:List (List Val×List (List Val))),(l.map fun q=>(valsE e q.2,q.2.length)).flatMap (·.1)=valsE e (l.flatMap (·.2))
 | []=>rfl
 | q::l=>by
  have ih:=flat_vals e l
  rw[List.map_cons,List.flatMap_cons,List.flatMap_cons,ih]
  unfold valsE
  rw[List.flatMap_append]
theorem flat_n(e:List EN):∀ (l:List (List Val×List (List Val))),((l.map fun q=>(valsE e q.2,q.2.length)).map (·.2)).sum=(l.flatMap (·.2)).length
 | []=>rfl
 | q::l=>by
  have ih:=flat_n e l
  rw[List.map_cons,List.map_cons,List.sum_cons,List.flatMap_cons,List.length_append,ih]
theorem filt_len(k:List Val):(filt n.keys R k).length≤R.length:=List.length_filter_le _ _
theorem own_val(hh:Ph n R)(hp:Pcs n R Q){X:List (List Val)}(hX:X.Perm (Q.map (rowK n))){k:List Val}{rows:List (List Val)}(hr:rows.Perm (X.filter fun x=>decide (keyOf (mN n).keys x=k))){i:Nat}{a:AggX}(hi:n.aggs[i]?=some a) :
  finF a.tag (ownF (n.keys.length+i) rows)=evR R n k a:=by
 have ha:=hh.ag a (List.mem_of_getElem? hi)
 have h1:=own_key hp hX hr hi
 rw[finF_perm h1 (fun v hv=>by rw[ownF_eq]at hv;have:=(List.mem_filter.1 hv).2;simpa using this)]
 have hf:=hp.filt k
 have hl:=hf.length_eq
 have hRl:=filt_len (n:=n) (R:=R) k
 have hsm:=hh.small
 have hfv:=fin_val (tag:=a.tag) (ps:=(Q.filter fun q=>decide (q.1=k)).map fun q=>(valsE a.arg q.2,q.2.length)) ⟨ha.tag1,ha.tag5⟩ (fun p hp' v hv=>by
  obtain ⟨q,_,rfl⟩:=List.mem_map.1 hp'
  exact valsE_k v hv) (by rw[flat_n,hl];omega) (by
  rw[flat_vals]
  have:=valsE_len a.arg ((Q.filter fun q=>decide (q.1=k)).flatMap (·.2))
  omega)
 rw[List.map_map]at hfv
 have e:((Q.filter fun q=>decide (q.1=k)).map ((fun p:Piece=>pvF a.tag p.1 p.2)∘fun q=>(valsE a.arg q.2,q.2.length)))=(Q.filter fun q=>decide (q.1=k)).map fun q=>pvF a.tag (valsE a.arg q.2) q.2.length:=rfl
 rw[e]at hfv
 rw[hfv,flat_vals,flat_n]
 unfold evR evF
 rw[hl,(pvF_perm (tag:=a.tag) (filt n.keys R k).length (valsE_perm hf) valsE_k).1,(pvF_perm (tag:=a.tag) 0 (valsE_perm (e:=a.arg) hf) valsE_k).2]
theorem sum_bound{B:Nat}:∀ {l:List Val},(∀ v∈l,rg v.n)→l.length≤B→-(9223372036854775808 * (B:Int))≤(l.map (·.n)).sum∧(l.map (·.n)).sum≤9223372036854775808 * (B:Int):=by
 intro l h hl
 have key:∀ l:List Val,(∀ v∈l,rg v.n)→-(9223372036854775808 * (l.length:Int))≤(l.map (·.n)).sum∧(l.map (·.n)).sum≤9223372036854775808 * (l.length:Int):=by
  intro l
  induction l with
  | nil=>intro _;simp
  | cons v l ih=>
   intro h
   have h1:=ih fun w hw=>h w (List.mem_cons_of_mem _ hw)
   have h2:=h v (by simp)
   unfold rg at h2
   rw[List.map_cons,List.sum_cons,List.length_cons]
   omega
 have:=key l h
 omega
theorem vals_Iv{e:List EN}{rs:List (List Val)}(hr:rgL rs)(hE:rgE e):∀ v∈valsE e rs,Iv v:=fun v hv=>by
 obtain ⟨r,hr',hv⟩:=List.mem_flatMap.1 hv
 unfold valE at hv
 split at hv
 ·rename_i h
  rw[List.mem_singleton.1 hv]
  exact eval_Iv (hr r hr') hE h.1
 ·cases hv
theorem own_ok(hh:Ph n R)(hp:Pcs n R Q){X:List (List Val)}(hX:X.Perm (Q.map (rowK n))){k:List Val}{rows:List (List Val)}(hr:rows.Perm (X.filter fun x=>decide (keyOf (mN n).keys x=k))){i:Nat}{a:AggX}(hi:n.aggs[i]?=some a) :
  finOk a.tag (ownF (n.keys.length+i) rows):=by
 have ham:=List.mem_of_getElem? hi
 have ha:=hh.ag a ham
 have h1:=own_key hp hX hr hi
 have hsm:=hh.small
 have key:∀ v∈ownF (n.keys.length+i) rows,v.k≠0∧∃ q∈Q,v=pvF a.tag (valsE a.arg q.2) q.2.length:=fun v hv=>by
  obtain ⟨hv1,hv2⟩:=List.mem_filter.1 (h1.mem_iff.1 hv)
  obtain ⟨q,hq,rfl⟩:=List.mem_map.1 hv1
  exact ⟨by simpa using hv2,q,(List.mem_filter.1 hq).1,rfl⟩
 have hIv:∀ q∈Q,∀ v∈valsE a.arg q.2,Iv v:=fun q hq=>vals_Iv (fun r hr'=>hh.rg r (hp.mem hq r hr')) (hh.rgE a ham)
 refine ⟨fun t3 v hv=>?_,fun t12 v hv=>?_,fun v hv=>?_⟩
 ·obtain ⟨h0,q,hq,rfl⟩:=key v hv
  rw[t3]at h0 ⊢
  have e:pvF 3 (valsE a.arg q.2) q.2.length=stV (sumL (valsE a.arg q.2)):=rfl
  rw[e,sumL_eq valsE_k]at h0 ⊢
  by_cases hn:valsE a.arg q.2=[]
  ·rw[if_pos hn]at h0;exact absurd rfl h0
  ·rw[if_neg hn]
   have hb:=sum_bound (B:=24) (l:=valsE a.arg q.2) (fun v hv=>(hIv q hq v hv).2) (by
    have:=valsE_len a.arg q.2
    have:=(hp.len hq).1
    omega)
   show IsSum (sumV _)
   unfold IsSum
   rw[sumI_sumV]
   exact ⟨rfl,by omega,by omega⟩
 ·obtain ⟨h0,q,hq,rfl⟩:=key v hv
  have hl:=(hp.len hq).1
  have hl2:=valsE_len a.arg q.2
  have hint:∀ m:Nat,m≤24→badS (intVal m)=0∧rg (intVal m).n:=fun m hm=>⟨by simp[badS,okV_int];simp[intVal],by simp[intVal,rg];omega⟩
  rcases t12 with t|t<;>rw[t]
  ·exact hint _ (by omega)
  ·exact hint _ (by omega)
 ·obtain ⟨_,q,hq,rfl⟩:=key v hv
  have hv:=hIv q hq
  unfold pvF
  repeat' split
  all_goals first|exact okV_int _|exact okV_st _|exact okV_least fun v hv'=>Iv_ok (hv v hv')|exact okV_greatest fun v hv'=>Iv_ok (hv v hv')
theorem final_eq(hh:Ph n R)(hp:Pcs n R Q){X:List (List Val)}(hX:X.Perm (Q.map (rowK n))) :
  finalF (mN n) X=if (keysOf n.keys R).all (finOkR R n) then (sortC cmpR ((keysOf n.keys R).map (finRow R n)),0) else ([],140):=by
 have hg:=groups_spec (mN n).keys X
 have hlen:∀ q∈Q,q.1.length=n.keys.length:=fun q hq=>(hp.len hq).2
 have hkeys:keysOf (mN n).keys X=keysOf n.keys R:=by
  refine up_unique hg.up (groups_spec n.keys R).up fun k=>?_
  rw[← hp.keys k,key_iff]
  constructor
  ·rintro ⟨x,hx,rfl⟩
   obtain ⟨q,hq,rfl⟩:=List.mem_map.1 (hX.mem_iff.1 hx)
   exact ⟨q,hq,(show keyOf (mN n).keys (rowK n q)=q.1 from take_ids (hlen q hq)).symm⟩
  ·rintro ⟨q,hq,rfl⟩
   exact ⟨rowK n q,hX.mem_iff.2 (List.mem_map.2 ⟨q,hq,rfl⟩),take_ids (hlen q hq)⟩
 have hkl:(mN n).keys.length=n.keys.length:=by simp[mN]
 have hv:∀ g∈groupsF (mN n).keys X,gVals (mN n) (fun i a rows=>finF a.tag (ownF ((mN n).keys.length+i) rows)) g.2=n.aggs.map fun a=>evR R n g.1 a:=fun g hg'=>by
  obtain ⟨hp',_⟩:=hg.rows g hg'
  unfold gVals
  apply List.ext_getElem
  ·simp[mN]
  ·intro i h1 h2
   have hia:i < n.aggs.length:=by simpa using h2
   have hi:n.aggs[i]?=some n.aggs[i]:=List.getElem?_eq_getElem hia
   have:=own_val hh hp hX hp' hi
   simp only[List.getElem_map,List.getElem_zipIdx,hkl,Nat.zero_add]
   simp only[mN,List.getElem_map]
   exact this
 unfold finalF
 rw[groupedF_eq]
 have h1:(groupsF (mN n).keys X).all (gOk (mN n) fun i a rows=>finF a.tag (ownF ((mN n).keys.length+i) rows))=(keysOf n.keys R).all (finOkR R n):=by
  rw[← hkeys,List.all_map,Bool.eq_iff_iff,List.all_eq_true,List.all_eq_true]
  refine forall_congr' fun g=>forall_congr' fun hg'=>?_
  unfold gOk
  rw[hv g hg',List.all_map]
  rfl
 have h2:(groupsF (mN n).keys X).map (gRow (mN n) fun i a rows=>finF a.tag (ownF ((mN n).keys.length+i) rows))=(keysOf n.keys R).map (finRow R n):=by
  rw[← hkeys,List.map_map]
  refine List.map_congr_left fun g hg'=>?_
  unfold gRow
  rw[hv g hg',List.map_map]
  rfl
 rw[h1,h2]
end Go.AM
namespace Go.AM
variable {n:LNX} {R:List (List Val)}
theorem perm_flatMap{α β:Type}{f g:α→List β}:∀ {l:List α},(∀ a∈l,(f a).Perm (g a))→(l.flatMap f).Perm (l.flatMap g)
 | [],_=>List.Perm.refl _
 | a::l,h=>by
  rw[List.flatMap_cons,List.flatMap_cons]
  exact (h a (by simp)).append (perm_flatMap fun b hb=>h b (List.mem_cons_of_mem _ hb))
theorem runs_flat(cols:List Int):∀ (m:Nat) (S:List (List Val)),S.length≤m→(runsG cols m S).flatMap (·.2)=S
 | 0,S,h=>by
  have:S=[]:=List.eq_nil_of_length_eq_zero (by omega)
  subst this;rfl
 | m+1,[],_=>rfl
 | m+1,a::t,h=>by
  have hs:=(List.dropWhile_suffix (l:=t) (alikeG cols a)).length_le
  simp only[runsG,List.flatMap_cons]
  rw[runs_flat cols m _ (by simp at h;omega),List.cons_append,List.takeWhile_append_dropWhile]
theorem filt_flat(cols:List Int)(rs:List (List Val)):((keysOf cols rs).flatMap fun k=>filt cols rs k).Perm rs:=by
 have hg:=groups_spec cols rs
 have h1:(groupsF cols rs).flatMap (·.2)=sortC (cmpG cols) rs:=runs_flat cols rs.length _ (by rw[sortC_length];exact Nat.le_refl _)
 have h2:((groupsF cols rs).flatMap fun g=>filt cols rs g.1).Perm ((groupsF cols rs).flatMap (·.2)):=perm_flatMap fun g hg'=>((hg.rows g hg').1).symm
 rw[List.flatMap_map]
 exact (h2.trans (List.Perm.of_eq h1)).trans (sortC_perm rs)
noncomputable def pcs(cols:List Int)(rs:List (List Val)):List (List Val×List (List Val)):=(keysOf cols rs).map fun k=>(k,filt cols rs k)
theorem pcs_flat(cols:List Int)(rs:List (List Val)):((pcs cols rs).flatMap (·.2)).Perm rs:=by
 unfold pcs
 rw[List.flatMap_map]
 exact filt_flat cols rs
theorem pcs_mem{cols:List Int}{rs:List (List Val)}{q:List Val×List (List Val)}(h:q∈pcs cols rs):q.2≠[]∧∀ r∈q.2,keyOf cols r=q.1:=by
 obtain ⟨k,hk,rfl⟩:=List.mem_map.1 h
 obtain ⟨r,hr,e⟩:=key_iff.1 hk
 refine ⟨List.ne_nil_of_mem (List.mem_filter.2 ⟨hr,by simp[e]⟩),fun r hr=>(filt_sub r hr).2⟩
theorem pcs_all(n:LNX)(R:List (List Val)):Pcs n R (pcs n.keys R):=⟨fun q hq=>(pcs_mem hq).1,fun q hq=>(pcs_mem hq).2,pcs_flat _ _⟩
theorem flatMap_flatMap'{α β γ:Type}(f:α→List β)(g:β→List γ):∀ l:List α,(l.flatMap f).flatMap g=l.flatMap fun a=>(f a).flatMap g
 | []=>rfl
 | a::l=>by rw[List.flatMap_cons,List.flatMap_append,flatMap_flatMap' f g l,List.flatMap_cons]
theorem pcs_parts{P:List (List (List Val))}(hP:P.flatten.Perm R):Pcs n R (P.flatMap (pcs n.keys)):=by
 refine ⟨fun q hq=>?_,fun q hq=>?_,?_⟩
 ·obtain ⟨p,_,hq⟩:=List.mem_flatMap.1 hq
  exact (pcs_mem hq).1
 ·obtain ⟨p,_,hq⟩:=List.mem_flatMap.1 hq
  exact (pcs_mem hq).2
 ·rw[flatMap_flatMap']
  refine (perm_flatMap fun p _=>pcs_flat n.keys p).trans ?_
  refine (List.Perm.of_eq ?_).trans hP
  induction P with
  | nil=>rfl
  | cons p P ih=>simp[List.flatMap_cons,List.flatMap_id']
noncomputable def phG(n:LNX)(_:Nat)(p:List (List Val))(s:Int×List (List Val)):(Int×List (List Val))⊕Unit:=
 if p=[] then .inl s else if (PartialF n p).2=2 then .inr () else .inl (if (PartialF n p).2=0 then s.1 else (PartialF n p).2,s.2++(PartialF n p).1)
theorem part_val(ha:∀ a∈n.aggs,AgOk a.tag a.arg){rs:List (List Val)}(hr:∀ r∈rs,okR r=true)(hq:askedF n 10 rs=true):(allOk n rs∧(PartialF n rs).2=0∧(PartialF n rs).1.Perm ((pcs n.keys rs).map (rowK n)))∨(¬allOk n rs∧PartialF n rs=([],140)):=by
 unfold PartialF
 rw[if_pos hq]
 by_cases h:allOk n rs
 ·left
  rw[partial_ok ha hr h]
  refine ⟨h,rfl,(sortC_perm _).trans (List.Perm.of_eq ?_)⟩
  simp[pcs,Function.comp_def]
 ·exact .inr ⟨h,partial_bad ha hr h⟩
theorem phG_fold(ha:∀ a∈n.aggs,AgOk a.tag a.arg):∀ (P:List (List (List Val))) (k:Nat) (b:Int) (acc:List (List Val)) (s:Int×List (List Val)),(∀ p∈P,∀ r∈p,okR r=true)→foldL (phG n) P k (b,acc)=.inl s →
  ((∀ p∈P,allOk n p)∧s.1=b∧s.2.Perm (acc++(P.flatMap (pcs n.keys)).map (rowK n)))∨((∃ p∈P,¬allOk n p)∧(s.1=140))
 | [],k,b,acc,s,_,h=>by
  cases h
  left;simp
 | p::P,k,b,acc,s,hr,h=>by
  simp only[foldL,phG]at h
  have hrp:=hr p (by simp)
  have hrP:=fun q hq=>hr q (List.mem_cons_of_mem _ hq)
  by_cases hp:p=[]
  ·rw[if_pos hp]at h
   simp only at h
   have hpa:allOk n p:=fun r hr=>by rw[hp]at hr;cases hr
   have hpc:pcs n.keys p=[]:=by rw[hp];rfl
   rcases phG_fold ha P (k+1) b acc s hrP h with ⟨h1,h2,h3⟩|⟨⟨q,hq,hn⟩,h2⟩
   ·left
    refine ⟨fun q hq=>?_,h2,?_⟩
    ·rcases List.mem_cons.1 hq with rfl|hq
     ·exact hpa
     ·exact h1 q hq
    ·rw[List.flatMap_cons,hpc,List.nil_append];exact h3
   ·exact .inr ⟨⟨q,List.mem_cons_of_mem _ hq,hn⟩,h2⟩
  ·rw[if_neg hp]at h
   cases hq:askedF n 10 p with
   | false=>
    have:(PartialF n p).2=2:=by unfold PartialF;rw[hq];rfl
    rw[if_pos this]at h;cases h
   | true=>
    rcases part_val ha hrp hq with ⟨h1,h2,h3⟩|⟨h1,h2⟩
    ·rw[if_neg (by rw[h2];decide),if_pos h2]at h
     simp only at h
     rcases phG_fold ha P (k+1) b _ s hrP h with ⟨g1,g2,g3⟩|⟨⟨q,hq,hn⟩,g2⟩
     ·left
      refine ⟨fun q hq=>?_,g2,?_⟩
      ·rcases List.mem_cons.1 hq with rfl|hq
       ·exact h1
       ·exact g1 q hq
      ·refine g3.trans ?_
       rw[List.flatMap_cons,List.map_append,List.append_assoc]
       exact List.Perm.append_left _ (h3.append_right _)
     ·exact .inr ⟨⟨q,List.mem_cons_of_mem _ hq,hn⟩,g2⟩
    ·rw[h2]at h
     simp only at h
     rw[if_neg (by decide),if_neg (by decide)]at h
     simp only at h
     right
     refine ⟨⟨p,by simp,h1⟩,?_⟩
     rcases phG_fold ha P (k+1) 140 _ s hrP h with ⟨_,g2,_⟩|⟨_,g2⟩
     ·exact g2
     ·exact g2
theorem cmpR_append{k k':List Val}(a b:List Val):k.length=k'.length→cmpR k k' < 0→cmpR (k++a) (k'++b) < 0:=by
 induction k generalizing k' with
 | nil=>
  intro hl h
  have:k'=[]:=List.eq_nil_of_length_eq_zero (by simpa using hl.symm)
  subst this
  rw[cmpR_ok.self]at h;omega
 | cons x k ih=>
  intro hl h
  cases k' with
  | nil=>simp at hl
  | cons y k'=>
   simp only[List.cons_append,cmpR]at h ⊢
   unfold lex at h ⊢
   by_cases hc:cmpV x y≠0
   ·rw[if_pos hc]at h ⊢;exact h
   ·rw[if_neg hc]at h ⊢
    exact ih (by simpa using hl) h
theorem key_len{k:List Val}(h:k∈keysOf n.keys R):k.length=n.keys.length:=by
 obtain ⟨r,_,rfl⟩:=key_iff.1 h
 exact takeR_len r n.keys
theorem finRow_sorted:sortC cmpR ((keysOf n.keys R).map (finRow R n))=(keysOf n.keys R).map (finRow R n):=by
 have hup:=(groups_spec n.keys R).up
 refine sorted_unique (fun a b=>cmpR_zero) cmpR_ok (sortC_sorted cmpR_ok _) ?_ (sortC_perm _)
 rw[List.pairwise_map]
 refine hup.imp_of_mem fun {a b} ha hb h=>Int.le_of_lt ?_
 unfold finRow
 exact cmpR_append _ _ (by rw[key_len ha,key_len hb]) h
theorem mkPh(hag:∀ a∈n.aggs,rgE a.arg)(hq:askedF n 10 R=true)(hg:rgL R)(hs:R.length≤24)(hall:allOk n R):Ph n R:=
 have h:=askOk hq
 ⟨agOk_of (partOk h.op h.kinds),fun r hr=>(h.row r hr).1,hg,hag,hs,hall⟩
theorem phases_bad(hq:askedF n 10 R=true){P:List (List (List Val))}(hP:P.flatten.Perm R){s:Int×List (List Val)}(hf:foldL (phG n) P 0 (0,[])=.inl s):s.1=(PartialF n R).2∧((PartialF n R).2=0→allOk n R∧(PartialF n R).1.Perm ((pcs n.keys R).map (rowK n))∧s.2.Perm ((P.flatMap (pcs n.keys)).map (rowK n))):=by
 have h:=askOk hq
 have ha:=agOk_of (partOk h.op h.kinds)
 have hok:∀ r∈R,okR r=true:=fun r hr=>(h.row r hr).1
 have hmem:∀ p∈P,∀ r∈p,r∈R:=fun p hp r hr=>hP.mem_iff.1 (List.mem_flatten.2 ⟨p,hp,hr⟩)
 have hfo:=phG_fold ha P 0 0 [] s (fun p hp r hr=>hok r (hmem p hp r hr)) hf
 have hiff:(∀ p∈P,allOk n p)↔allOk n R:=⟨fun h r hr=>by
   obtain ⟨p,hp,hr'⟩:=List.mem_flatten.1 (hP.mem_iff.2 hr)
   exact h p hp r hr',fun h p hp r hr=>h r (hmem p hp r hr)⟩
 rcases part_val ha hok hq with ⟨h1,h2,h3⟩|⟨h1,h2⟩
 ·rcases hfo with ⟨g1,g2,g3⟩|⟨⟨p,hp,hn⟩,_⟩
  ·exact ⟨by rw[g2,h2],fun _=>⟨h1,h3,by simpa using g3⟩⟩
  ·exact absurd (hiff.2 h1 p hp) hn
 ·rcases hfo with ⟨g1,_,_⟩|⟨_,g2⟩
  ·exact absurd (hiff.1 g1) h1
  ·rw[h2]
   exact ⟨g2,fun h=>by cases h⟩
theorem phases_all(hh:Ph n R)(hk:(keysOf n.keys R).all (finOkR R n)=true):((keysOf n.keys R).map (finRow R n)).length=(groupsF n.keys R).length ∧
  ∀ (i:Nat) g,(groupsF n.keys R)[i]?=some g→∀ (k:Nat) a,n.aggs[k]?=some a→(AggF a.tag a.arg g.2).2=0∧∃ row,((keysOf n.keys R).map (finRow R n))[i]?=some row∧row[n.keys.length+k]?=some (AggF a.tag a.arg g.2).1:=by
 refine ⟨by simp,fun i g hi k a hka=>?_⟩
 have hg:=groups_spec n.keys R
 have hgm:=List.mem_of_getElem? hi
 have ham:=List.mem_of_getElem? hka
 obtain ⟨hp,hne⟩:=hg.rows g hgm
 have hsub:∀ r∈g.2,r∈R:=fun r hr=>(filt_sub r (hp.mem_iff.1 hr)).1
 have hA:AggF a.tag a.arg g.2=evR R n g.1 a:=by
  rw[AggF_val (hh.ag a ham) (fun r hr=>hh.ok r (hsub r hr)) (fun r hr=>hh.all r (hsub r hr) a ham)]
  unfold evR evF
  rw[(pvF_perm (tag:=a.tag) g.2.length (valsE_perm hp) valsE_k).1,(pvF_perm (tag:=a.tag) 0 (valsE_perm (e:=a.arg) hp) valsE_k).2,hp.length_eq]
 rw[hA]
 have hkm:g.1∈keysOf n.keys R:=List.mem_map.2 ⟨g,hgm,rfl⟩
 have h0:=List.all_eq_true.1 (List.all_eq_true.1 hk g.1 hkm) a ham
 refine ⟨by simpa using h0,finRow R n g.1,by simp[hi],?_⟩
 unfold finRow
 rw[List.getElem?_append_right (by rw[key_len hkm];omega),key_len hkm]
 rw[show n.keys.length+k - n.keys.length=k by omega,List.getElem?_map,hka]
 rfl
end Go.AM
section
namespace Go.AM
open P
set_option maxHeartbeats 8000000
set_option maxRecDepth 40000
attribute [local simp] condRun_if when_if
theorem PartialF_len(n:LNX)(rs:List (List Val)):(PartialF n rs).1.length≤rs.length:=by
 unfold PartialF
 split
 ·unfold partialF
  rw[groupedF_eq]
  split
  ·simp only
   rw[sortC_length,List.length_map]
   exact groupsF_len _ _
  ·simp
 ·simp
def epX(ys:List (List Val)):Nat:=if ys=[] then 0 else 1
theorem app_X(acc ys:List (List Val))(ep:Nat)(A:Obj)(T:Store)(h:acc.length+ys.length≤most) :
  append 1 (.sl 1 ep 0 acc.length) (ys.map rowX) (A::.arr 1 ep (acc.map rowX)::T)=some (.sl 1 (ep+epX ys) 0 (acc++ys).length,A::.arr 1 (ep+epX ys) ((acc++ys).map rowX)::T):=by
 unfold epX
 by_cases he:ys=[]
 ·subst he
  simp[append]
 ·have h1:ys.map rowX≠[]:=by simpa using he
  have h7:=all_nc (f:=rowX) ys
  simp at h7
  simp[append,he,h]
abbrev pEnv(x0 x1 x2 own W:AVal)(e:Int)(e4 e8 e9 e10 e11 e12 e28 e29 e30 e31 e32 e33 e34:AVal):List AVal:=
 [x0,x1,x2,.ptr 0 0 0 0,e4,own,W,.int .i64 e,e8,e9,e10,e11,e12,.any,.any,.any,.any,.any,.any,.any,.any,.any,.any,.any,.any,.any,.bool false,.bool false,e28,e29,e30,e31,e32,e33,e34,.any,.any,.any,.any,.any,.any,.any,.any,.any,.any,.any,.any,.any,.any,.any,.any,.any,.any,.any,.any,.any,.any]
abbrev pStore(N:LNX)(P:List (List (List Val)))(ep:Nat)(acc:List (List Val)):Store:=.arr 12 0 [N.a]::.arr 1 ep (acc.map rowX)::.arr 1 0 (cellsP 3 P)::objsP P
theorem parts_loop(x0 x1 x2 own W:AVal)(e:Int)(N:LNX)(P:List (List (List Val)))(hN:NFit N)(hA:agF N)(hP:P.length=4)(hp:∀ p∈P,p.length≤8000∧rgL p∧∀ r∈p,r.length≤m32) :
  (∃ s,foldL (phG N) P 0 (0,[])=.inl s∧∃ ep,rounds code 7 [4,10,11,12,31,32,33,34] l_qt_4 ⟨pEnv x0 x1 x2 own W e .any (.sl 1 0 0 0) (.int .i64 0) .any .any .any (.sl 2 0 0 4) (.int .i64 4) (.int .i64 0) .any .any .any .any,pStore N P 0 []⟩ =
    some (.ext 0,⟨pEnv x0 x1 x2 own W e .any (.sl 1 ep 0 s.2.length) (.int .i64 s.1) .any .any .any (.sl 2 0 0 4) (.int .i64 4) (.int .i64 4) (.bool false) .any .any .any,pStore N P ep s.2⟩)) ∨
  (foldL (phG N) P 0 (0,[])=.inr ()∧∃ s,rounds code 7 [4,10,11,12,31,32,33,34] l_qt_4 ⟨pEnv x0 x1 x2 own W e .any (.sl 1 0 0 0) (.int .i64 0) .any .any .any (.sl 2 0 0 4) (.int .i64 4) (.int .i64 0) .any .any .any .any,pStore N P 0 []⟩=some (.ret,s) ∧
    thenLeave .pure [.env 4] (some (.ret,s))=some (.bool true)):=by
 have hnz:∀ base σ m,fz true false base σ (m+3) N.a=N.a:=fun base σ m=>Ft.ft true false base σ m N rfl
 have hnn:ncells N.a=12∧isAgg N.a=true:=⟨rfl,rfl⟩
 have key:=rounds_listR (base:=7) (clr:=[4,10,11,12,31,32,33,34]) (b:=l_qt_4) P
  (fun k (s:Int×List (List Val)) t=>s.2.length≤k * 8000∧∃ ep,t=⟨pEnv x0 x1 x2 own W e .any (.sl 1 ep 0 s.2.length) (.int .i64 s.1) .any .any .any (.sl 2 0 0 4) (.int .i64 4) (.int .i64 k) .any .any .any .any,pStore N P ep s.2⟩)
  (phG N)
  (fun s o=>∃ ep,o=(.ext 0,⟨pEnv x0 x1 x2 own W e .any (.sl 1 ep 0 s.2.length) (.int .i64 s.1) .any .any .any (.sl 2 0 0 4) (.int .i64 4) (.int .i64 4) (.bool false) .any .any .any,pStore N P ep s.2⟩))
  (fun (_:Unit) o=>∃ s,o=(.ret,s)∧thenLeave .pure [.env 4] (some (.ret,s))=some (.bool true))
  (fun k p s t hk hy ht=>by
   obtain ⟨hacc,ep,rfl⟩:=ht
   obtain ⟨bad,acc⟩:=s
   simp only at hacc
   have hlt:((k:Int) < 4):=by omega
   have hk4:k < 4:=by omega
   have hc:=cellsP_get (j:=3) hy
   have ho:=objsP_get hy
   obtain ⟨_,hcg⟩:=List.getElem?_eq_some_iff.1 hc
   obtain ⟨_,hog⟩:=List.getElem?_eq_some_iff.1 ho
   obtain ⟨hp1,hp2,hp3⟩:=hp p (List.mem_of_getElem? hy)
   have hw:IntKind.i64.wrap ((k:Int)+1)=(k:Int)+1:=wrap64_id (by omega)
   unfold phG
   by_cases h0:p=[]
   ·subst h0
    rw[if_pos rfl]
    refine ⟨_,?_,by simp only;omega,ep,rfl⟩
    simp[l_qt_4,pEnv,pStore,hlt,hk4,hc,hcg,ho,hog,hw,hP,roundEnd_same]
   ·rw[if_neg h0]
    have hl0:¬((p.length:Int)=0):=fun h=>h0 (List.eq_nil_of_length_eq_zero (by omega))
    have hPt:=fun b=>Partial_v N b p hN hA hp2 hp3
    have hlen:=PartialF_len N p
    have hsl:∀ A B C n,fz true false 0 (A::B::C::objsP P) (n+4) (.sl (k+3) p.length 0 p.length)=.imm true (p.map rowX):=fun A B C n=>by
     simp[ho]
    by_cases h2:(PartialF N p).2=2
    ·rw[if_pos h2]
     simp only
     generalize PartialF N p=q at *
     obtain ⟨Y,f⟩:=q
     simp only at h2
     subst h2
     exact ⟨_,by simp[-fz_sl,l_qt_4,pEnv,pStore,hlt,hk4,hc,hcg,ho,hog,hl0,beq_f hl0,hP,hnz,hnn,hsl,hPt];rfl,_,rfl,by simp⟩
    ·rw[if_neg h2]
     simp only
     generalize PartialF N p=q at *
     obtain ⟨Y,f⟩:=q
     simp only at h2 hlen hPt
     have happ:=app_X acc Y ep (.arr 12 0 [N.a]) (.arr 1 0 (cellsP 3 P)::objsP P) (by unfold most;omega)
     by_cases hf:f=0
     ·subst hf
      refine ⟨_,?_,by simp;omega,ep+epX Y,rfl⟩
      simp[-fz_sl,l_qt_4,pEnv,pStore,hlt,hk4,hc,hcg,ho,hog,hl0,beq_f hl0,hP,hnz,hnn,hsl,hPt,happ,hw,roundEnd_same]
     ·refine ⟨_,?_,by simp;omega,ep+epX Y,rfl⟩
      simp[-fz_sl,l_qt_4,pEnv,pStore,hlt,hk4,hc,hcg,ho,hog,hl0,beq_f hl0,hP,hnz,hnn,hsl,hPt,happ,hw,hf,beq_f hf,beq_f h2,roundEnd_same])
  (fun s t ht=>by
   obtain ⟨_,ep,rfl⟩:=ht
   rw[hP]
   exact ⟨_,by simp[l_qt_4],ep,rfl⟩) (0,[]) _ ⟨by simp,0,rfl⟩
 rcases hf:foldL (phG N) P 0 (0,[]) with s|u
 ·rw[hf]at key
  obtain ⟨o,h1,ep,rfl⟩:=key
  exact .inl ⟨s,rfl,ep,h1⟩
 ·rw[hf]at key
  obtain ⟨o,h1,s,rfl,h2⟩:=key
  exact .inr ⟨rfl,s,h1,h2⟩
end Go.AM
end
section
namespace Go.AM
open P
set_option maxHeartbeats 16000000
set_option maxRecDepth 40000
attribute [local simp] condRun_if when_if
structure PH where
 x0:AVal
 b1:Bool
 l1:List AVal
 b2:Bool
 l2:List AVal
 R:List (List Val)
 Y:List (List Val)
 e:Int
 ep:Nat
 acc:List (List Val)
 bad:Int
 p0:List (List Val)
 p1:List (List Val)
 p2:List (List Val)
 p3:List (List Val)
 N:LNX
abbrev qStore(E:PH)(r:List Obj):Store:=.arr 12 0 [E.N.a]::.arr 1 E.ep (E.acc.map rowX)::.arr 1 0 [.sl 3 E.p0.length 0 E.p0.length,.sl 4 E.p1.length 0 E.p1.length,.sl 5 E.p2.length 0 E.p2.length,.sl 6 E.p3.length 0 E.p3.length]::.arr 1 E.p0.length (E.p0.map rowX)::.arr 1 E.p1.length (E.p1.map rowX)::.arr 1 E.p2.length (E.p2.map rowX)::.arr 1 E.p3.length (E.p3.map rowX)::r
abbrev mCell(k8 a9:AVal):AVal:=.agg [.int .i64 11,.int .i64 0,.int .i64 0,.int .i64 0,.nil0,.bool false,.nil0,k8,a9,.nil0,.nil0,.int .i64 0]
def natI(k:Nat):AVal:=.int .i64 (k:Int)
instance:Nc natI 1 false:=⟨fun _=>rfl,fun _=>rfl⟩
instance:Fx natI:=⟨fun _ _ _ _ _ _=>rfl⟩
def tagA(a:AggX):AVal:=.agg [.int .i64 a.tag,.nil0]
instance:Nc tagA 2 true:=⟨fun _=>rfl,fun _=>rfl⟩
@[simp] theorem tagA_fr(base:Nat)(σ:Store)(n:Nat)(l:List AggX):List.map (fz false true base σ (n+3)∘tagA) l=List.map tagA l:=
 List.map_congr_left fun y _=>by simp[tagA]
@[simp] theorem tagA_freeze(base:Nat)(σ:Store)(l:List AggX):List.map (freeze base σ∘tagA) l=List.map tagA l:=
 List.map_congr_left fun y _=>by simp[tagA,freeze,fuel]
def tagL(a:AggX):AVal:=.agg [.int .i64 a.tag,.imm false []]
instance:Nc tagL 2 true:=⟨fun _=>rfl,fun _=>rfl⟩
@[simp] theorem tagA_lent(base:Nat)(σ:Store)(n:Nat)(l:List AggX):List.map (fz true false base σ (n+3)∘tagA) l=List.map tagL l:=
 List.map_congr_left fun y _=>by simp[tagA,tagL]
abbrev env3(E:PH)(k e39:AVal):List AVal:=[E.x0,.imm E.b1 E.l1,.imm E.b2 E.l2,.ptr 0 0 0 0,.any,.imm false (E.R.map rowX),.imm false (E.Y.map rowX),.int .i64 E.e,.sl 1 E.ep 0 E.acc.length,.int .i64 E.bad,.any,.any,.any,.ptr 7 0 0 0,.any,.any,.any,.any,.any,.any,.any,.any,.any,.any,.any,.any,.bool false,.bool false,.sl 2 0 0 4,.int .i64 4,.int .i64 4,.bool false,.any,.any,.any,.bool false,.bool false,.int .i64 E.N.keys.length,k,e39,.any,.any,.any,.any,.any,.any,.any,.any,.any,.any,.any,.any,.any,.any,.any,.any,.any]
abbrev env2(E:PH)(nk k e43:AVal):List AVal:=[E.x0,.imm E.b1 E.l1,.imm E.b2 E.l2,.ptr 0 0 0 0,.any,.imm false (E.R.map rowX),.imm false (E.Y.map rowX),.int .i64 E.e,.sl 1 E.ep 0 E.acc.length,.int .i64 E.bad,.any,.any,.any,.ptr 7 0 0 0,.any,.any,.any,.any,.any,.any,.any,.any,.any,.any,.any,.any,.bool false,.bool false,.sl 2 0 0 4,.int .i64 4,.int .i64 4,.bool false,.any,.any,.any,.bool false,.bool false,nk,nk,.bool false,.imm E.N.bg (E.N.aggs.map AggX.a),.int .i64 E.N.aggs.length,k,e43,.any,.any,.any,.any,.any,.any,.any,.any,.any,.any,.any,.any,.any]
theorem keys_loop(E:PH)(hn:E.N.keys.length≤8000):∃ ep,rounds code 9 [14,39] l_qt_3 ⟨env3 E (.int .i64 0) .any,qStore E [.arr 12 0 [mCell (.sl 8 0 0 0) .nil0],.arr 1 0 []]⟩ =
   some (.ext 2,⟨env3 E (.int .i64 E.N.keys.length) (.bool false),qStore E [.arr 12 0 [mCell (.sl 8 ep 0 E.N.keys.length) .nil0],.arr 1 ep ((List.range E.N.keys.length).map natI)]⟩):=by
 have hm:E.N.keys.length≤most:=by unfold most;omega
 have h:=rounds_listR (ρ:=Empty) (base:=9) (clr:=[14,39]) (b:=l_qt_3) (List.range E.N.keys.length)
  (fun k (_:Unit) t=>∃ ep,t=⟨env3 E (.int .i64 k) .any,qStore E [.arr 12 0 [mCell (.sl 8 ep 0 k) .nil0],.arr 1 ep ((List.range k).map natI)]⟩)
  (fun _ _ _=>.inl ())
  (fun _ o=>∃ ep,o=(.ext 2,⟨env3 E (.int .i64 E.N.keys.length) (.bool false),qStore E [.arr 12 0 [mCell (.sl 8 ep 0 E.N.keys.length) .nil0],.arr 1 ep ((List.range E.N.keys.length).map natI)]⟩))
  (fun _ _=>True)
  (fun k y s t hk hy ht=>by
   obtain ⟨ep,rfl⟩:=ht
   rw[List.length_range]at hk
   have hlt:((k:Int) < (E.N.keys.length:Int)):=by omega
   have hl1:k+1≤most:=by omega
   refine ⟨⟨env3 E (.int .i64 (k+1:Nat)) .any,qStore E [.arr 12 0 [mCell (.sl 8 (ep+1) 0 (k+1)) .nil0],.arr 1 (ep+1) ((List.range (k+1)).map natI)]⟩,?_,ep+1,rfl⟩
   rw[List.range_succ]
   have htk:List.take k (List.map natI (List.range k))=List.map natI (List.range k):=List.take_of_length_le (by simp)
   simp[htk,l_qt_3,hlt,append,hl1,wrap_lt hk hm,roundEnd_same]
   simp[natI])
  (fun s t ht=>by
   obtain ⟨ep,rfl⟩:=ht
   rw[List.length_range]
   exact ⟨_,by simp[l_qt_3],ep,rfl⟩) () _ ⟨0,rfl⟩
 rcases hf:foldL (fun (_:Nat) (_:Nat) (_:Unit)=>(Sum.inl ():Unit⊕Empty)) (List.range E.N.keys.length) 0 () with s|u
 ·rw[hf]at h
  obtain ⟨o,h1,ep,rfl⟩:=h
  exact ⟨ep,h1⟩
 ·exact u.elim
theorem tags_loop(E:PH)(nk ek:Nat)(hx:∀ base σ m,fz false true base σ (m+3) E.x0=E.x0)(hn:E.N.aggs.length≤8000):∃ ep,rounds code 10 [15,43] l_qt_2 ⟨env2 E (.int .i64 nk) (.int .i64 0) .any,qStore E [.arr 12 0 [mCell (.sl 8 ek 0 nk) (.sl 9 0 0 0)],.arr 1 ek ((List.range nk).map natI),.arr 2 0 []]⟩ =
   some (.ext 4,⟨env2 E (.int .i64 nk) (.int .i64 E.N.aggs.length) (.bool false),qStore E [.arr 12 0 [mCell (.sl 8 ek 0 nk) (.sl 9 ep 0 E.N.aggs.length)],.arr 1 ek ((List.range nk).map natI),.arr 2 ep (E.N.aggs.map tagA)]⟩):=by
 have hm:E.N.aggs.length≤most:=by unfold most;omega
 have hnz:∀ base σ m,fz false true base σ (m+3) E.N.a=E.N.a:=fun base σ m=>Ft.ft false true base σ m E.N rfl
 have hnc:ncells E.N.a=12:=rfl
 have h:=rounds_listR (ρ:=Empty) (base:=10) (clr:=[15,43]) (b:=l_qt_2) E.N.aggs
  (fun k (_:Unit) t=>∃ ep,t=⟨env2 E (.int .i64 nk) (.int .i64 k) .any,qStore E [.arr 12 0 [mCell (.sl 8 ek 0 nk) (.sl 9 ep 0 k)],.arr 1 ek ((List.range nk).map natI),.arr 2 ep ((E.N.aggs.take k).map tagA)]⟩)
  (fun _ _ _=>.inl ())
  (fun _ o=>∃ ep,o=(.ext 4,⟨env2 E (.int .i64 nk) (.int .i64 E.N.aggs.length) (.bool false),qStore E [.arr 12 0 [mCell (.sl 8 ek 0 nk) (.sl 9 ep 0 E.N.aggs.length)],.arr 1 ek ((List.range nk).map natI),.arr 2 ep (E.N.aggs.map tagA)]⟩))
  (fun _ _=>True)
  (fun k y s t hk' hy ht=>by
   obtain ⟨ep,rfl⟩:=ht
   have hlt:((k:Int) < (E.N.aggs.length:Int)):=by omega
   have hl1:k+1≤most:=by omega
   have htk:(E.N.aggs.take k).length=k:=by rw[List.length_take];omega
   refine ⟨⟨env2 E (.int .i64 nk) (.int .i64 (k+1:Nat)) .any,qStore E [.arr 12 0 [mCell (.sl 8 ek 0 nk) (.sl 9 (ep+1) 0 (k+1))],.arr 1 ek ((List.range nk).map natI),.arr 2 (ep+1) ((E.N.aggs.take (k+1)).map tagA)]⟩,?_,ep+1,rfl⟩
   rw[List.take_add_one,hy]
   generalize E.N.aggs.take k=T at *
   subst htk
   simp[-List.length_take,-List.map_take,l_qt_2,hlt,hy,AggX.a,append,hl1,wrap_lt hk' hm,roundEnd,freezeObj,hnz,hnc,hx]
   simp[tagA])
  (fun s t ht=>by
   obtain ⟨ep,rfl⟩:=ht
   rw[List.take_length]
   exact ⟨_,by simp[l_qt_2],ep,rfl⟩) () _ ⟨0,rfl⟩
 rcases hf:foldL (fun (_:Nat) (_:AggX) (_:Unit)=>(Sum.inl ():Unit⊕Empty)) E.N.aggs 0 () with s|u
 ·rw[hf]at h
  obtain ⟨o,h1,ep,rfl⟩:=h
  exact ⟨ep,h1⟩
 ·exact u.elim
end Go.AM
end
section
namespace Go.AM
open P
set_option maxHeartbeats 16000000
set_option maxRecDepth 40000
attribute [local simp] condRun_if when_if
structure PG where
 ek:Nat
 ea:Nat
 two:List (List Val)
 one:List (List Val)
 G:List (List Val×List (List Val))
abbrev gStore(E:PH)(D:PG)(r:List Obj):Store:=qStore E (.arr 12 0 [mCell (.sl 8 D.ek 0 E.N.keys.length) (.sl 9 D.ea 0 E.N.aggs.length)]::.arr 1 D.ek ((List.range E.N.keys.length).map natI)::.arr 2 D.ea (E.N.aggs.map tagA)::r)
abbrev env1(E:PH)(D:PG)(i e51 e20 e21 e52 e53 e54 e55:AVal):List AVal:=[E.x0,.imm E.b1 E.l1,.imm E.b2 E.l2,.ptr 0 0 0 0,.any,.imm false (E.R.map rowX),.imm false (E.Y.map rowX),.int .i64 0,.sl 1 E.ep 0 E.acc.length,.int .i64 E.bad,.any,.any,.any,.ptr 7 0 0 0,.any,.any,.imm false (D.one.map rowX),.imm false (D.two.map rowX),.int .i64 0,.imm false (D.G.map grpA),e20,e21,.any,.any,.any,.any,.bool false,.bool false,.sl 2 0 0 4,.int .i64 4,.int .i64 4,.bool false,.any,.any,.any,.bool false,.bool false,.int .i64 E.N.keys.length,.int .i64 E.N.keys.length,.bool false,.imm E.N.bg (E.N.aggs.map AggX.a),.int .i64 E.N.aggs.length,.int .i64 E.N.aggs.length,.bool false,.bool false,.bool false,.bool false,.bool false,.imm false (D.G.map grpA),.int .i64 D.G.length,i,e51,e52,e53,e54,e55,.any]
structure SameG (E:PH) (D:PG):Prop where
 len:D.two.length=D.G.length
 at':∀ (i:Nat) g,D.G[i]?=some g→∀ (k:Nat) a,E.N.aggs[k]?=some a→(AggF a.tag a.arg g.2).2=0∧∃ row,D.two[i]?=some row∧row[E.N.keys.length+k]?=some (AggF a.tag a.arg g.2).1
 go:∀ g∈D.G,∀ a∈E.N.aggs,∀ b,pcall I.qay [a.a,.imm b (g.2.map rowX)]=some (.tup [(AggF a.tag a.arg g.2).1.a,.int .i64 (AggF a.tag a.arg g.2).2])
 nk:E.N.keys.length≤8000
 na:E.N.aggs.length≤8000
 nG:D.G.length≤8000
 x0:∀ base σ m,fz false true base σ (m+3) E.x0=E.x0
theorem same_0{E:PH}{D:PG}(h:SameG E D)(i:Nat)(g:List Val×List (List Val))(hi:D.G[i]?=some g) :
  rounds code 11 [4,22,23,24,25,55,56] l_qt_0 ⟨env1 E D (.int .i64 i) (.bool true) (.int .i64 i) (.ptr 10 0 0 0) (.imm E.N.bg (E.N.aggs.map AggX.a)) (.int .i64 E.N.aggs.length) (.int .i64 0) .any,gStore E D [.arr 2 0 [grpA g]]⟩ =
   some (.ext 8,⟨env1 E D (.int .i64 i) (.bool true) (.int .i64 i) (.ptr 10 0 0 0) (.imm E.N.bg (E.N.aggs.map AggX.a)) (.int .i64 E.N.aggs.length) (.int .i64 E.N.aggs.length) (.bool false),gStore E D [.arr 2 0 [grpA g]]⟩):=by
 have hnk:=h.nk
 have hna:=h.na
 have hnG:=h.nG
 have hm:E.N.aggs.length≤most:=by unfold most;omega
 have hnz:∀ base σ m,fz false true base σ (m+3) E.N.a=E.N.a:=fun base σ m=>Ft.ft false true base σ m E.N rfl
 have hnc:ncells E.N.a=12:=rfl
 have hx:=h.x0
 have hgm:=List.mem_of_getElem? hi
 have key:=rounds_fold (base:=11) (clr:=[4,22,23,24,25,55,56]) (b:=l_qt_0) E.N.aggs
  (fun k (_:Unit)=>⟨env1 E D (.int .i64 i) (.bool true) (.int .i64 i) (.ptr 10 0 0 0) (.imm E.N.bg (E.N.aggs.map AggX.a)) (.int .i64 E.N.aggs.length) (.int .i64 k) .any,gStore E D [.arr 2 0 [grpA g]]⟩)
  (fun _ _=>True) (fun _ _=>())
  (fun _=>(.ext 8,⟨env1 E D (.int .i64 i) (.bool true) (.int .i64 i) (.ptr 10 0 0 0) (.imm E.N.bg (E.N.aggs.map AggX.a)) (.int .i64 E.N.aggs.length) (.int .i64 E.N.aggs.length) (.bool false),gStore E D [.arr 2 0 [grpA g]]⟩))
  (fun k a _ hk hy _=>by
   have hlt:((k:Int) < (E.N.aggs.length:Int)):=by omega
   obtain ⟨h0,row,hr1,hr2⟩:=h.at' i g hi k a hy
   have hA:=h.go g hgm a (List.mem_of_getElem? hy)
   rw[h0]at hA
   generalize (AggF a.tag a.arg g.2).1=v at *
   simp only[AggX.a,Val.a]at hA
   have hwk:IntKind.i64.wrap ((E.N.keys.length:Int)+(k:Int))=((E.N.keys.length+k:Nat):Int):=by rw[wrap64_id (by omega)];omega
   obtain ⟨j,hj⟩:∃ j,j=E.N.keys.length+k:=⟨_,rfl⟩
   rw[← hj]at hwk hr2
   have hir:i < D.two.length:=by rw[h.len];exact (List.getElem?_eq_some_iff.1 hi).1
   obtain ⟨_,hr1'⟩:=List.getElem?_eq_some_iff.1 hr1
   obtain ⟨hr2l,hr2'⟩:=List.getElem?_eq_some_iff.1 hr2
   refine ⟨?_,trivial⟩
   simp[env1,gStore,qStore,mCell,l_qt_0,hlt,hy,AggX.a,Val.a,grpA,hA,hr1,hr2,hir,hr1',hr2l,hr2',hwk,rowX,hnc,hnz,hx,LNX.a,wrap_lt hk hm,roundEnd,freezeObj])
  (fun _ _=>by simp[l_qt_0]) () trivial
 exact key.1
theorem same_1{E:PH}{D:PG}(h:SameG E D) :
  rounds code 10 [4,20,21,22,23,24,25,51,52,53,54,55,56] l_qt_1 ⟨env1 E D (.int .i64 0) .any .any .any .any .any .any .any,gStore E D []⟩ =
   some (.ext 6,⟨env1 E D (.int .i64 D.G.length) (.bool false) .any .any .any .any .any .any,gStore E D []⟩):=by
 have hnk:=h.nk
 have hna:=h.na
 have hnG:=h.nG
 have hm:D.G.length≤most:=by unfold most;omega
 have hnz:∀ base σ m,fz false true base σ (m+3) E.N.a=E.N.a:=fun base σ m=>Ft.ft false true base σ m E.N rfl
 have hnc:ncells E.N.a=12:=rfl
 have hx:=h.x0
 have key:=rounds_fold (base:=10) (clr:=[4,20,21,22,23,24,25,51,52,53,54,55,56]) (b:=l_qt_1) D.G
  (fun i (_:Unit)=>⟨env1 E D (.int .i64 i) .any .any .any .any .any .any .any,gStore E D []⟩)
  (fun _ _=>True) (fun _ _=>())
  (fun _=>(.ext 6,⟨env1 E D (.int .i64 D.G.length) (.bool false) .any .any .any .any .any .any,gStore E D []⟩))
  (fun i g _ hk hy _=>by
   have hlt:((i:Int) < (D.G.length:Int)):=by omega
   have hl:=same_0 h i g hy
   refine ⟨?_,trivial⟩
   have hbg:E.N.a=.agg [.int .i64 E.N.op,.int .i64 E.N.l,.int .i64 E.N.r,.int .i64 E.N.tab,.imm E.N.bk (E.N.kinds.map (.int .i64)),.bool E.N.left,.imm E.N.bc (E.N.cond.map EN.a),.imm E.N.by' (E.N.keys.map (.int .i64)),.imm E.N.bg (E.N.aggs.map AggX.a),.imm E.N.bi (E.N.items.map ExX.a),.imm E.N.bo (E.N.ords.map ordA),.int .i64 E.N.limit]:=rfl
   simp only[env1,gStore,qStore,mCell,grpA,hbg,rowX]at hl
   simp[env1,gStore,qStore,mCell,l_qt_1,hlt,hy,grpA,rowX,hl,hnc,hnz,hx,hbg,wrap_lt hk hm,roundEnd,freezeObj]
   )
  (fun _ _=>by simp[l_qt_1]) () trivial
 exact key.1
end Go.AM
end
section
namespace Go.AM
open P
set_option maxHeartbeats 4000000
set_option maxRecDepth 8000
theorem take_nil_len{α:Type}{l:List α}{n:Nat}(h:n < l.length)(h0:n≠0):l.take n≠[]:=List.ne_nil_of_length_pos (by simp;omega)
theorem cutLNode{α:Type}{enc:α→AVal}[Nc enc 12 true](b:Bool)(l:List α)(n:Nat)(h0:n≠0)(hn:n≤1000)(σ:Store) :
  ∃ ep,acall code I.qy [.imm b (l.map enc),.int .i64 (n:Int)] σ=some (.sl σ.length ep 0 (l.take n).length,σ++[.arr 12 ep ((l.take n).map enc)]):=by
 rw[acall_keep c_qy rfl]
 have hnc:∀ (k:List α),∀ a∈k.map enc,ncells a=12:=fun k a ha=>by
  obtain ⟨y,_,rfl⟩:=List.mem_map.1 ha
  exact Nc.nc y
 have hnx:∀ x:α,ncells (enc x)=12:=fun x=>Nc.nc x
 have hng:¬((n:Int) < 0):=by omega
 by_cases h:n < l.length
 ·have hi:((n:Int) < l.length):=by omega
  have h1:min n l.length=n:=by omega
  have h2:l.take n≠[]:=take_nil_len h h0
  have h4:n≤l.length:=by omega
  have h7:=hnc l
  have h8:=hnc (l.take n)
  have h9:n≤most:=by unfold most;omega
  have h10:l≠[]:=by intro e;simp[e]at h
  refine ⟨1,?_⟩
  simp only[List.map_take]at h8
  simp[f_qy,b_qy,hi,hnx,hng,append,h0,h1,h2,h4,h9,h10,if_pos h7,if_pos h8]
 ·have hi:¬((n:Int) < l.length):=by omega
  have e0:l.take n=l:=List.take_of_length_le (by omega)
  have h7:=hnc l
  rw[e0]
  by_cases he:l=[]
  ·subst he
   refine ⟨0,?_⟩
   simp[f_qy,b_qy,append,hnx,hng]
  ·have h9:l.length≤most:=by unfold most;omega
   refine ⟨1,?_⟩
   simp[f_qy,b_qy,hi,hnx,hng,append,he,if_pos h7,h9]
theorem cutAgg{α:Type}{enc:α→AVal}[Nc enc 2 true](b:Bool)(l:List α)(n:Nat)(h0:n≠0)(hn:n≤1000)(σ:Store) :
  ∃ ep,acall code I.qv [.imm b (l.map enc),.int .i64 (n:Int)] σ=some (.sl σ.length ep 0 (l.take n).length,σ++[.arr 2 ep ((l.take n).map enc)]):=by
 rw[acall_keep c_qv rfl]
 have hnc:∀ (k:List α),∀ a∈k.map enc,ncells a=2:=fun k a ha=>by
  obtain ⟨y,_,rfl⟩:=List.mem_map.1 ha
  exact Nc.nc y
 have hnx:∀ x:α,ncells (enc x)=2:=fun x=>Nc.nc x
 have hng:¬((n:Int) < 0):=by omega
 by_cases h:n < l.length
 ·have hi:((n:Int) < l.length):=by omega
  have h1:min n l.length=n:=by omega
  have h2:l.take n≠[]:=take_nil_len h h0
  have h4:n≤l.length:=by omega
  have h7:=hnc l
  have h8:=hnc (l.take n)
  have h9:n≤most:=by unfold most;omega
  have h10:l≠[]:=by intro e;simp[e]at h
  refine ⟨1,?_⟩
  simp only[List.map_take]at h8
  simp[f_qv,b_qv,hi,hnx,hng,append,h0,h1,h2,h4,h9,h10,if_pos h7,if_pos h8]
 ·have hi:¬((n:Int) < l.length):=by omega
  have e0:l.take n=l:=List.take_of_length_le (by omega)
  have h7:=hnc l
  rw[e0]
  by_cases he:l=[]
  ·subst he
   refine ⟨0,?_⟩
   simp[f_qv,b_qv,append,hnx,hng]
  ·have h9:l.length≤most:=by unfold most;omega
   refine ⟨1,?_⟩
   simp[f_qv,b_qv,hi,hnx,hng,append,he,if_pos h7,h9]
theorem cutExpr{α:Type}{enc:α→AVal}[Nc enc 1 true](b:Bool)(l:List α)(n:Nat)(h0:n≠0)(hn:n≤1000)(σ:Store) :
  ∃ ep,acall code I.qx [.imm b (l.map enc),.int .i64 (n:Int)] σ=some (.sl σ.length ep 0 (l.take n).length,σ++[.arr 1 ep ((l.take n).map enc)]):=by
 rw[acall_keep c_qx rfl]
 have hnc:∀ (k:List α),∀ a∈k.map enc,ncells a=1:=fun k a ha=>by
  obtain ⟨y,_,rfl⟩:=List.mem_map.1 ha
  exact Nc.nc y
 have hnx:∀ x:α,ncells (enc x)=1:=fun x=>Nc.nc x
 have hng:¬((n:Int) < 0):=by omega
 by_cases h:n < l.length
 ·have hi:((n:Int) < l.length):=by omega
  have h1:min n l.length=n:=by omega
  have h2:l.take n≠[]:=take_nil_len h h0
  have h4:n≤l.length:=by omega
  have h7:=hnc l
  have h8:=hnc (l.take n)
  have h9:n≤most:=by unfold most;omega
  have h10:l≠[]:=by intro e;simp[e]at h
  refine ⟨1,?_⟩
  simp only[List.map_take]at h8
  simp[f_qx,b_qx,hi,hnx,hng,append,h0,h1,h2,h4,h9,h10,if_pos h7,if_pos h8]
 ·have hi:¬((n:Int) < l.length):=by omega
  have e0:l.take n=l:=List.take_of_length_le (by omega)
  have h7:=hnc l
  rw[e0]
  by_cases he:l=[]
  ·subst he
   refine ⟨0,?_⟩
   simp[f_qx,b_qx,append,hnx,hng]
  ·have h9:l.length≤most:=by unfold most;omega
   refine ⟨1,?_⟩
   simp[f_qx,b_qx,hi,hnx,hng,append,he,if_pos h7,h9]
theorem cutRowN{α:Type}{enc:α→AVal}[Nc enc 1 false](b:Bool)(l:List α)(n:Nat)(h0:n≠0)(hn:n≤1000)(σ:Store) :
  ∃ ep,acall code I.qaa [.imm b (l.map enc),.int .i64 (n:Int)] σ=some (.sl σ.length ep 0 (l.take n).length,σ++[.arr 1 ep ((l.take n).map enc)]):=by
 rw[acall_keep c_qaa rfl]
 have hnc:∀ (k:List α),∀ a∈k.map enc,ncells a=1:=fun k a ha=>by
  obtain ⟨y,_,rfl⟩:=List.mem_map.1 ha
  exact Nc.nc y
 have hnx:∀ x:α,ncells (enc x)=1:=fun x=>Nc.nc x
 have hng:¬((n:Int) < 0):=by omega
 by_cases h:n < l.length
 ·have hi:((n:Int) < l.length):=by omega
  have h1:min n l.length=n:=by omega
  have h2:l.take n≠[]:=take_nil_len h h0
  have h4:n≤l.length:=by omega
  have h7:=hnc l
  have h8:=hnc (l.take n)
  have h9:n≤most:=by unfold most;omega
  have h10:l≠[]:=by intro e;simp[e]at h
  refine ⟨1,?_⟩
  simp only[List.map_take]at h8
  simp[f_qaa,b_qaa,hi,hnx,hng,append,h0,h1,h2,h4,h9,h10,if_pos h7,if_pos h8]
 ·have hi:¬((n:Int) < l.length):=by omega
  have e0:l.take n=l:=List.take_of_length_le (by omega)
  have h7:=hnc l
  rw[e0]
  by_cases he:l=[]
  ·subst he
   refine ⟨0,?_⟩
   simp[f_qaa,b_qaa,append,hnx,hng]
  ·have h9:l.length≤most:=by unfold most;omega
   refine ⟨1,?_⟩
   simp[f_qaa,b_qaa,hi,hnx,hng,append,he,if_pos h7,h9]
theorem cutInt{α:Type}{enc:α→AVal}[Nc enc 1 false][Fx enc](b:Bool)(l:List α)(n:Nat)(h0:n≠0)(hn:n≤1000) :
  pcall I.qac [.imm b (l.map enc),.int .i64 (n:Int)]=some (.imm false ((l.take n).map enc)):=by
 rw[pcall_eq c_qac rfl]
 have hnc:∀ (k:List α),∀ a∈k.map enc,ncells a=1:=fun k a ha=>by
  obtain ⟨y,_,rfl⟩:=List.mem_map.1 ha
  exact Nc.nc y
 have hfx:∀ (k:List α) fl top base σ m,∀ a∈k.map enc,fz fl top base σ (m+3) a=a:=fun k fl top base σ m a ha=>by
  obtain ⟨y,_,rfl⟩:=List.mem_map.1 ha
  exact Fx.fx fl top base σ m y
 have hfr:=fun (k:List α) (σ:Store) (ep:Nat) (h:σ[0]?=some (.arr 1 ep (k.map enc)))=>fresh_map (f:=enc) (m:=1) k 0 ep σ h
 have hnx:∀ x:α,ncells (enc x)=1:=fun x=>Nc.nc x
 have hng:¬((n:Int) < 0):=by omega
 by_cases h:n < l.length
 ·have hi:((n:Int) < l.length):=by omega
  have h1:min n l.length=n:=by omega
  have h2:l.take n≠[]:=take_nil_len h h0
  have h4:n≤l.length:=by omega
  have h7:=hnc l
  have h8:=hnc (l.take n)
  have h9:n≤most:=by unfold most;omega
  have h10:l≠[]:=by intro e;simp[e]at h
  have h11:=hfr (l.take n) [.arr 1 1 ((l.take n).map enc)] 1 rfl
  have h12:=hfx (l.take n)
  have h13:((l.take n).map enc).take n=(l.take n).map enc:=List.take_of_length_le (by simp;omega)
  rw[show (l.take n).length=n by simp;omega]at h11
  simp only[List.map_take]at h8 h11 h12 h13
  have h14:∀ top base σ m,List.map (fz false top base σ (m+3)) (List.take n (List.map enc l))=List.take n (List.map enc l):=fun top base σ m=>by
   conv=>rhs;rw[← List.map_id (List.take n (List.map enc l))]
   exact List.map_congr_left fun a ha=>h12 false top base σ m a ha
  simp[f_qac,b_qac,hi,hnx,hng,append,h0,h1,h2,h4,h9,h10,if_pos h7,if_pos h8,h11,h13,h14]
  exact fun a ha=>by rw[h12 _ _ _ _ 16 a ha]
 ·have hi:¬((n:Int) < l.length):=by omega
  have e0:l.take n=l:=List.take_of_length_le (by omega)
  have h7:=hnc l
  rw[e0]
  by_cases he:l=[]
  ·subst he
   have h11:=hfr [] [.arr 1 0 []] 0 rfl
   simp at h11
   simp[f_qac,b_qac,append,hnx,hng,h11]
  ·have h9:l.length≤most:=by unfold most;omega
   have h11:=hfr l [.arr 1 1 (l.map enc)] 1 rfl
   simp[f_qac,b_qac,hi,hnx,hng,append,he,if_pos h7,h9,h11]
   exact fun a ha=>by rw[hfx l _ _ _ _ 16 (enc a) (List.mem_map_of_mem ha),hnx]
theorem cutOrdN{α:Type}{enc:α→AVal}[Nc enc 2 true][Fx enc](b:Bool)(l:List α)(n:Nat)(h0:n≠0)(hn:n≤1000) :
  pcall I.qz [.imm b (l.map enc),.int .i64 (n:Int)]=some (.imm false ((l.take n).map enc)):=by
 rw[pcall_eq c_qz rfl]
 have hnc:∀ (k:List α),∀ a∈k.map enc,ncells a=2:=fun k a ha=>by
  obtain ⟨y,_,rfl⟩:=List.mem_map.1 ha
  exact Nc.nc y
 have hfx:∀ (k:List α) fl top base σ m,∀ a∈k.map enc,fz fl top base σ (m+3) a=a:=fun k fl top base σ m a ha=>by
  obtain ⟨y,_,rfl⟩:=List.mem_map.1 ha
  exact Fx.fx fl top base σ m y
 have hfr:=fun (k:List α) (σ:Store) (ep:Nat) (h:σ[0]?=some (.arr 2 ep (k.map enc)))=>fresh_map (f:=enc) (m:=2) k 0 ep σ h
 have hnx:∀ x:α,ncells (enc x)=2:=fun x=>Nc.nc x
 have hng:¬((n:Int) < 0):=by omega
 by_cases h:n < l.length
 ·have hi:((n:Int) < l.length):=by omega
  have h1:min n l.length=n:=by omega
  have h2:l.take n≠[]:=take_nil_len h h0
  have h4:n≤l.length:=by omega
  have h7:=hnc l
  have h8:=hnc (l.take n)
  have h9:n≤most:=by unfold most;omega
  have h10:l≠[]:=by intro e;simp[e]at h
  have h11:=hfr (l.take n) [.arr 2 1 ((l.take n).map enc)] 1 rfl
  have h12:=hfx (l.take n)
  have h13:((l.take n).map enc).take n=(l.take n).map enc:=List.take_of_length_le (by simp;omega)
  rw[show (l.take n).length=n by simp;omega]at h11
  simp only[List.map_take]at h8 h11 h12 h13
  have h14:∀ top base σ m,List.map (fz false top base σ (m+3)) (List.take n (List.map enc l))=List.take n (List.map enc l):=fun top base σ m=>by
   conv=>rhs;rw[← List.map_id (List.take n (List.map enc l))]
   exact List.map_congr_left fun a ha=>h12 false top base σ m a ha
  simp[f_qz,b_qz,hi,hnx,hng,append,h0,h1,h2,h4,h9,h10,if_pos h7,if_pos h8,h11,h13,h14]
  exact fun a ha=>by rw[h12 _ _ _ _ 16 a ha]
 ·have hi:¬((n:Int) < l.length):=by omega
  have e0:l.take n=l:=List.take_of_length_le (by omega)
  have h7:=hnc l
  rw[e0]
  by_cases he:l=[]
  ·subst he
   have h11:=hfr [] [.arr 2 0 []] 0 rfl
   simp at h11
   simp[f_qz,b_qz,append,hnx,hng,h11]
  ·have h9:l.length≤most:=by unfold most;omega
   have h11:=hfr l [.arr 2 1 (l.map enc)] 1 rfl
   simp[f_qz,b_qz,hi,hnx,hng,append,he,if_pos h7,h9,h11]
   exact fun a ha=>by rw[hfx l _ _ _ _ 16 (enc a) (List.mem_map_of_mem ha),hnx]
theorem cutENode{α:Type}{enc:α→AVal}[Nc enc 8 true][Fx enc](b:Bool)(l:List α)(n:Nat)(h0:n≠0)(hn:n≤1000) :
  pcall I.qw [.imm b (l.map enc),.int .i64 (n:Int)]=some (.frs 8 ((l.take n).map enc)):=by
 rw[pcall_eq c_qw rfl]
 have hnc:∀ (k:List α),∀ a∈k.map enc,ncells a=8:=fun k a ha=>by
  obtain ⟨y,_,rfl⟩:=List.mem_map.1 ha
  exact Nc.nc y
 have hfx:∀ (k:List α) fl top base σ m,∀ a∈k.map enc,fz fl top base σ (m+3) a=a:=fun k fl top base σ m a ha=>by
  obtain ⟨y,_,rfl⟩:=List.mem_map.1 ha
  exact Fx.fx fl top base σ m y
 have hfr:=fun (k:List α) (σ:Store) (ep:Nat) (h:σ[0]?=some (.arr 8 ep (k.map enc)))=>fresh_map (f:=enc) (m:=8) k 0 ep σ h
 have hnx:∀ x:α,ncells (enc x)=8:=fun x=>Nc.nc x
 have hng:¬((n:Int) < 0):=by omega
 by_cases h:n < l.length
 ·have hi:((n:Int) < l.length):=by omega
  have h1:min n l.length=n:=by omega
  have h2:l.take n≠[]:=take_nil_len h h0
  have h4:n≤l.length:=by omega
  have h7:=hnc l
  have h8:=hnc (l.take n)
  have h9:n≤most:=by unfold most;omega
  have h10:l≠[]:=by intro e;simp[e]at h
  have h11:=hfr (l.take n) [.arr 8 1 ((l.take n).map enc)] 1 rfl
  have h12:=hfx (l.take n)
  have h13:((l.take n).map enc).take n=(l.take n).map enc:=List.take_of_length_le (by simp;omega)
  rw[show (l.take n).length=n by simp;omega]at h11
  simp only[List.map_take]at h8 h11 h12 h13
  have h14:∀ top base σ m,List.map (fz false top base σ (m+3)) (List.take n (List.map enc l))=List.take n (List.map enc l):=fun top base σ m=>by
   conv=>rhs;rw[← List.map_id (List.take n (List.map enc l))]
   exact List.map_congr_left fun a ha=>h12 false top base σ m a ha
  simp[f_qw,b_qw,hi,hnx,hng,append,h0,h1,h2,h4,h9,h10,if_pos h7,if_pos h8,h11,h13,h14]
 ·have hi:¬((n:Int) < l.length):=by omega
  have e0:l.take n=l:=List.take_of_length_le (by omega)
  have h7:=hnc l
  rw[e0]
  by_cases he:l=[]
  ·subst he
   have h11:=hfr [] [.arr 8 0 []] 0 rfl
   simp at h11
   simp[f_qw,b_qw,append,hnx,hng,h11]
  ·have h9:l.length≤most:=by unfold most;omega
   have h11:=hfr l [.arr 8 1 (l.map enc)] 1 rfl
   simp[f_qw,b_qw,hi,hnx,hng,append,he,if_pos h7,h9,h11]
end Go.AM
end
section
namespace Go.AM
open P
set_option maxHeartbeats 4000000
set_option maxRecDepth 4000
def cutV(v:Val):Val:={ v with s:=v.s.take 41 }
def ownR(r:List Val):List Val:=(r.take 17).map cutV
def midR(R:List Val)(i:Nat):List Val:=(R.take i).map cutV++R.drop i
theorem midR_zero(R:List Val):midR R 0=R:=by simp[midR]
theorem midR_all(R:List Val):midR R R.length=R.map cutV:=by simp[midR]
theorem midR_length(R:List Val)(i:Nat):(midR R i).length=R.length:=by simp[midR];omega
theorem midR_get{R:List Val}{i:Nat}(h:i < R.length):(rowA (midR R i))[i]?=some R[i].a:=by
 unfold midR rowA
 rw[List.map_append,List.getElem?_append_right (by simp;omega)]
 simp[show i - min i R.length=0 by omega,h]
theorem midR_set{R:List Val}{i:Nat}(h:i < R.length):(rowA (midR R i)).set i (cutV R[i]).a=rowA (midR R (i+1)):=by
 have e1:R.drop i=R[i]::R.drop (i+1):=List.drop_eq_getElem_cons h
 have e2:R.take (i+1)=R.take i++[R[i]]:=List.take_succ_eq_append_getElem h
 unfold midR rowA
 rw[e1,e2]
 simp only[List.map_append,List.map_cons,List.map_nil]
 rw[List.set_append_right _ _ (by simp;omega)]
 simp[show i - min i R.length=0 by omega]
theorem rows0(e0 e1 e2 e3 e4 e7 e8 e9 e10:AVal)(A B:Obj)(R:List Val)(hn:R.length≤most) :
  rounds code 3 [6,13] l_qaf_0 ⟨[e0,e1,e2,e3,e4,.sl 2 0 0 R.length,.any,e7,e8,e9,e10,.int .i64 R.length,.int .i64 0,.any],[A,B,.arr 4 0 (rowA R)]⟩ =
   some (.ext 2,⟨[e0,e1,e2,e3,e4,.sl 2 0 0 R.length,.any,e7,e8,e9,e10,.int .i64 R.length,.int .i64 R.length,.bool false],[A,B,.arr 4 0 (rowA (R.map cutV))]⟩):=by
 have:=rounds_iter (base:=3) (clr:=[6,13]) (b:=l_qaf_0) (fun i=>⟨[e0,e1,e2,e3,e4,.sl 2 0 0 R.length,.any,e7,e8,e9,e10,.int .i64 R.length,.int .i64 i,.any],[A,B,.arr 4 0 (rowA (midR R i))]⟩) R.length
  (.ext 2,⟨[e0,e1,e2,e3,e4,.sl 2 0 0 R.length,.any,e7,e8,e9,e10,.int .i64 R.length,.int .i64 R.length,.bool false],[A,B,.arr 4 0 (rowA (R.map cutV))]⟩)
  (fun i hi=>by
   have hlt:((i:Int) < (R.length:Int)):=by omega
   have h1:=midR_get hi
   have h2:=midR_set hi
   unfold cutV Val.a at h2
   unfold Val.a at h1
   have h3:=midR_length R i
   simp only at h2
   by_cases hs:41 < R[i].s.length
   ·have is:((41:Int) < R[i].s.length):=by omega
    have is':(41:Nat)≤R[i].s.length:=by omega
    simp[l_qaf_0,hlt,h1,h2,hi,is,is',wrap_lt hi hn,roundEnd_same]
   ·have is:¬((41:Int) < R[i].s.length):=by omega
    rw[List.take_of_length_le (by omega)]at h2
    simp[l_qaf_0,hlt,h1,h2,hi,is,wrap_lt hi hn,roundEnd_same])
  (by simp[l_qaf_0,midR_all])
 simpa [midR_zero] using this
theorem rowsA_getE{b:Bool}{rs:List (List Val)}{k:Nat}(h:k < (rowsA b rs).length):(rowsA b rs)[k]=.imm b (rowA (rs[k]'(by simpa using h))):=by simp[rowsA]
end Go.AM
end
section
namespace Go.AM
open P
set_option maxHeartbeats 8000000
set_option maxRecDepth 8000
attribute [local simp] condRun_if when_if
def mid{α:Type}(f:α→α)(l:List α)(i:Nat):List α:=(l.take i).map f++l.drop i
section
variable {α:Type} (f:α→α)
theorem mid_zero(l:List α):mid f l 0=l:=by simp[mid]
theorem mid_all(l:List α):mid f l l.length=l.map f:=by simp[mid]
@[simp] theorem mid_length(l:List α)(i:Nat):(mid f l i).length=l.length:=by simp[mid];omega
theorem mid_get{l:List α}{i:Nat}{y:α}(enc:α→AVal)(h:l[i]?=some y):((mid f l i).map enc)[i]?=some (enc y):=by
 obtain ⟨hl,hy⟩:=List.getElem?_eq_some_iff.1 h
 unfold mid
 rw[List.map_append,List.getElem?_append_right (by simp;omega)]
 simp[show i - min i l.length=0 by omega,hl,hy]
theorem mid_set{l:List α}{i:Nat}{y:α}(enc:α→AVal)(h:l[i]?=some y):((mid f l i).map enc).set i (enc (f y))=(mid f l (i+1)).map enc:=by
 obtain ⟨hl,hy⟩:=List.getElem?_eq_some_iff.1 h
 have e1:l.drop i=y::l.drop (i+1):=by rw[← hy];exact List.drop_eq_getElem_cons hl
 have e2:l.take (i+1)=l.take i++[y]:=by rw[← hy];exact List.take_succ_eq_append_getElem hl
 unfold mid
 rw[e1,e2]
 simp only[List.map_append,List.map_cons,List.map_nil]
 rw[List.set_append_right _ _ (by simp;omega)]
 simp[show i - min i l.length=0 by omega]
end
def cutE(e:EN):EN:={ e with v:=cutV e.v }
def shortE(l:List EN):List EN:=(l.take 60).map cutE
theorem short_loop(e0:AVal)(A B:Obj)(R:List EN)(hn:R.length≤most) :
  rounds code 4 [4,5,8] l_qag_0 ⟨[e0,.ptr 0 0 0 0,.ptr 1 0 0 0,.ptr 3 0 0 0,.any,.any,.int .i64 R.length,.int .i64 0,.any],[A,B,.arr 8 0 (R.map EN.a),.arr 1 0 [.agg [.sl 2 0 0 R.length]]]⟩ =
   some (.ext 0,⟨[e0,.ptr 0 0 0 0,.ptr 1 0 0 0,.ptr 3 0 0 0,.any,.any,.int .i64 R.length,.int .i64 R.length,.bool false],[A,B,.arr 8 0 ((R.map cutE).map EN.a),.arr 1 0 [.agg [.sl 2 0 0 R.length]]]⟩):=by
 have h:=rounds_fold (base:=4) (clr:=[4,5,8]) (b:=l_qag_0) R (fun i (_:Unit)=>⟨[e0,.ptr 0 0 0 0,.ptr 1 0 0 0,.ptr 3 0 0 0,.any,.any,.int .i64 R.length,.int .i64 i,.any],[A,B,.arr 8 0 ((mid cutE R i).map EN.a),.arr 1 0 [.agg [.sl 2 0 0 R.length]]]⟩)
  (fun _ _=>True) (fun _ _=>()) (fun _=>(.ext 0,⟨[e0,.ptr 0 0 0 0,.ptr 1 0 0 0,.ptr 3 0 0 0,.any,.any,.int .i64 R.length,.int .i64 R.length,.bool false],[A,B,.arr 8 0 ((R.map cutE).map EN.a),.arr 1 0 [.agg [.sl 2 0 0 R.length]]]⟩))
  (fun i y _ hi hy _=>by
   have hlt:((i:Int) < (R.length:Int)):=by omega
   have h1:=mid_get cutE EN.a hy
   have h2:=mid_set cutE EN.a hy
   rw[← h2]
   obtain ⟨hlm,h1⟩:=List.getElem?_eq_some_iff.1 h1
   have hlm':i < R.length:=hi
   obtain ⟨t,l,r,c,⟨k,n,u,s⟩⟩:=y
   generalize (mid cutE R i).map EN.a=M at *
   simp only[EN.a,cutE,cutV]at h1 ⊢
   refine ⟨?_,trivial⟩
   by_cases hs:41 < s.length
   ·have is:((41:Int) < (s.length:Int)):=by omega
    have is':(41:Nat)≤s.length:=by omega
    simp[l_qag_0,hlt,h1,hlm,hlm',is,is',wrap_lt hi hn,roundEnd]
   ·have is:¬((41:Int) < (s.length:Int)):=by omega
    have e3:s.take 41=s:=List.take_of_length_le (by omega)
    simp[l_qag_0,hlt,h1,hlm,hlm',is,e3,wrap_lt hi hn,roundEnd])
  (fun _ _=>by simp[l_qag_0,mid_all]) () trivial
 have h:=h.1
 rw[mid_zero]at h
 simpa using h
theorem short_spec(b:Bool)(l:List EN):pcall I.qag [.agg [.imm b (l.map EN.a)]]=some (.agg [.imm false ((shortE l).map EN.a)]):=by
 rw[pcall_eq c_qag rfl]
 have hc:=cutENode (enc:=EN.a) b l 60 (by decide) (by decide)
 have hn:(l.take 60).length≤most:=by simp;unfold most;omega
 unfold shortE
 generalize l.take 60=R at hc hn ⊢
 have hl:=fun A B e0=>short_loop e0 A B R hn
 have hlen:(R.map cutE).length=R.length:=by simp
 generalize R.map cutE=R' at hl hlen ⊢
 have htk:List.take R.length (R'.map EN.a)=R'.map EN.a:=by rw[← hlen];exact take_map_all R' EN.a
 simp at hc hl
 simp[f_qag,b_qag,hc,hl,hlen,htk]
end Go.AM
end
section
namespace Go.AM
open P
set_option maxHeartbeats 16000000
set_option maxRecDepth 8000
attribute [local simp] condRun_if when_if
def agO(g:AggX):AggX:=⟨g.tag,false,shortE g.arg⟩
def exO(e:ExX):ExX:=⟨false,shortE e.l⟩
def ownN(n:LNX):LNX:={ n with bk:=false,kinds:=n.kinds.take 17,bc:=false,cond:=shortE n.cond,by':=false,keys:=n.keys.take 6,bg:=false,aggs:=(n.aggs.take 14).map agO,bi:=false,items:=(n.items.take 17).map exO,bo:=false,ords:=n.ords.take 5 }
abbrev boxN(n:LNX)(ep2 m2 ep3 m3:Nat):Obj:=.arr 12 0 [.agg [.int .i64 n.op,.int .i64 n.l,.int .i64 n.r,.int .i64 n.tab,.imm false ((n.kinds.take 17).map (.int .i64)),.bool n.left,.imm n.bc (n.cond.map EN.a),.imm false ((n.keys.take 6).map (.int .i64)),.sl 2 ep2 0 m2,.sl 3 ep3 0 m3,.imm false ((n.ords.take 5).map ordA),.int .i64 n.limit]]
theorem nodes_aggs(e0 e1 e2 e3 e4 e10 e11 e12 e13 e18 e19 e20 e21:AVal)(h:∀ x∈[e0,e1,e2,e3,e4,e10,e11,e12,e13,e18,e19,e20,e21],∀ σ,fz false true 4 σ 20 x=x)(L:List LNX)(ep:Nat)(n:LNX)(ep2 ep3:Nat)(G:List AggX)(I:List ExX)(hn:G.length≤most) :
  rounds code 4 [6,7,17] l_qad_1 ⟨[e0,e1,e2,e3,e4,.ptr 1 0 0 0,.any,.any,.any,.any,e10,e11,e12,e13,.sl 2 ep2 0 G.length,.int .i64 G.length,.int .i64 0,.any,e18,e19,e20,e21],[.arr 12 ep (L.map LNX.a),boxN n ep2 G.length ep3 I.length,.arr 2 ep2 (G.map AggX.a),.arr 1 ep3 (I.map ExX.a)]⟩ =
   some (.ext 2,⟨[e0,e1,e2,e3,e4,.ptr 1 0 0 0,.any,.any,.any,.any,e10,e11,e12,e13,.sl 2 ep2 0 G.length,.int .i64 G.length,.int .i64 G.length,.bool false,e18,e19,e20,e21],[.arr 12 ep (L.map LNX.a),boxN n ep2 G.length ep3 I.length,.arr 2 ep2 ((G.map agO).map AggX.a),.arr 1 ep3 (I.map ExX.a)]⟩):=by
 have hk:=rounds_fold (base:=4) (clr:=[6,7,17]) (b:=l_qad_1) G (fun i (_:Unit)=>⟨[e0,e1,e2,e3,e4,.ptr 1 0 0 0,.any,.any,.any,.any,e10,e11,e12,e13,.sl 2 ep2 0 G.length,.int .i64 G.length,.int .i64 i,.any,e18,e19,e20,e21],[.arr 12 ep (L.map LNX.a),boxN n ep2 G.length ep3 I.length,.arr 2 ep2 ((mid agO G i).map AggX.a),.arr 1 ep3 (I.map ExX.a)]⟩)
  (fun _ _=>True) (fun _ _=>()) (fun _=>(.ext 2,⟨[e0,e1,e2,e3,e4,.ptr 1 0 0 0,.any,.any,.any,.any,e10,e11,e12,e13,.sl 2 ep2 0 G.length,.int .i64 G.length,.int .i64 G.length,.bool false,e18,e19,e20,e21],[.arr 12 ep (L.map LNX.a),boxN n ep2 G.length ep3 I.length,.arr 2 ep2 ((G.map agO).map AggX.a),.arr 1 ep3 (I.map ExX.a)]⟩))
  (fun i y _ hi hy _=>by
   have hlt:((i:Int) < (G.length:Int)):=by omega
   have h1:=mid_get agO AggX.a hy
   have h2:=mid_set agO AggX.a hy
   obtain ⟨hlm,h1⟩:=List.getElem?_eq_some_iff.1 h1
   obtain ⟨t,bb,arg⟩:=y
   have hs:=fun b=>short_spec b arg
   simp at h
   refine ⟨?_,trivial⟩
   have hlm':i < G.length:=hi
   have hset:∀ x,List.map (freeze 4 x) (List.map AggX.a (mid agO G (i+1)))=List.map AggX.a (mid agO G (i+1)):=fun x=>by simp
   rw[← h2]at hset
   rw[← h2]
   generalize (mid agO G i).map AggX.a=M at *
   simp only[AggX.a,agO]at h1 hset ⊢
   simp[l_qad_1,hlt,h1,hlm,hlm',hs,wrap_lt hi hn,roundEnd,freezeObj,h,hset,boxN])
  (fun _ _=>by simp[l_qad_1,mid_all]) () trivial
 have hk:=hk.1
 rw[mid_zero]at hk
 simpa using hk
theorem nodes_items(e0 e1 e2 e3 e4 e10 e11 e12 e13 e14 e15 e16 e17:AVal)(h:∀ x∈[e0,e1,e2,e3,e4,e10,e11,e12,e13,e14,e15,e16,e17],∀ σ,fz false true 4 σ 20 x=x)(L:List LNX)(ep:Nat)(n:LNX)(ep2 ep3:Nat)(G:List AggX)(I:List ExX)(hn:I.length≤most) :
  rounds code 4 [8,9,21] l_qad_0 ⟨[e0,e1,e2,e3,e4,.ptr 1 0 0 0,.any,.any,.any,.any,e10,e11,e12,e13,e14,e15,e16,e17,.sl 3 ep3 0 I.length,.int .i64 I.length,.int .i64 0,.any],[.arr 12 ep (L.map LNX.a),boxN n ep2 G.length ep3 I.length,.arr 2 ep2 (G.map AggX.a),.arr 1 ep3 (I.map ExX.a)]⟩ =
   some (.ext 4,⟨[e0,e1,e2,e3,e4,.ptr 1 0 0 0,.any,.any,.any,.any,e10,e11,e12,e13,e14,e15,e16,e17,.sl 3 ep3 0 I.length,.int .i64 I.length,.int .i64 I.length,.bool false],[.arr 12 ep (L.map LNX.a),boxN n ep2 G.length ep3 I.length,.arr 2 ep2 (G.map AggX.a),.arr 1 ep3 ((I.map exO).map ExX.a)]⟩):=by
 have hk:=rounds_fold (base:=4) (clr:=[8,9,21]) (b:=l_qad_0) I (fun i (_:Unit)=>⟨[e0,e1,e2,e3,e4,.ptr 1 0 0 0,.any,.any,.any,.any,e10,e11,e12,e13,e14,e15,e16,e17,.sl 3 ep3 0 I.length,.int .i64 I.length,.int .i64 i,.any],[.arr 12 ep (L.map LNX.a),boxN n ep2 G.length ep3 I.length,.arr 2 ep2 (G.map AggX.a),.arr 1 ep3 ((mid exO I i).map ExX.a)]⟩)
  (fun _ _=>True) (fun _ _=>()) (fun _=>(.ext 4,⟨[e0,e1,e2,e3,e4,.ptr 1 0 0 0,.any,.any,.any,.any,e10,e11,e12,e13,e14,e15,e16,e17,.sl 3 ep3 0 I.length,.int .i64 I.length,.int .i64 I.length,.bool false],[.arr 12 ep (L.map LNX.a),boxN n ep2 G.length ep3 I.length,.arr 2 ep2 (G.map AggX.a),.arr 1 ep3 ((I.map exO).map ExX.a)]⟩))
  (fun i y _ hi hy _=>by
   have hlt:((i:Int) < (I.length:Int)):=by omega
   have h1:=mid_get exO ExX.a hy
   have h2:=mid_set exO ExX.a hy
   obtain ⟨hlm,h1⟩:=List.getElem?_eq_some_iff.1 h1
   obtain ⟨bb,arg⟩:=y
   have hs:=fun b=>short_spec b arg
   simp at h
   refine ⟨?_,trivial⟩
   have hlm':i < I.length:=hi
   have hset:∀ x,List.map (freeze 4 x) (List.map ExX.a (mid exO I (i+1)))=List.map ExX.a (mid exO I (i+1)):=fun x=>by simp
   rw[← h2]at hset
   rw[← h2]
   generalize (mid exO I i).map ExX.a=M at *
   simp only[ExX.a,exO]at h1 hset ⊢
   simp[l_qad_0,hlt,h1,hlm,hlm',hs,wrap_lt hi hn,roundEnd,freezeObj,h,hset,boxN])
  (fun _ _=>by simp[l_qad_0,mid_all]) () trivial
 have hk:=hk.1
 rw[mid_zero]at hk
 simpa using hk
theorem agO_fz(l:List AggX)(top:Bool)(base:Nat)(σ:Store)(m:Nat):List.map (fz false top base σ (m+3)) ((l.map agO).map AggX.a)=(l.map agO).map AggX.a:=by
 rw[List.map_map,List.map_map,List.map_map]
 exact List.map_congr_left fun y _=>by simp[AggX.a,agO]
theorem exO_fz(l:List ExX)(top:Bool)(base:Nat)(σ:Store)(m:Nat):List.map (fz false top base σ (m+3)) ((l.map exO).map ExX.a)=(l.map exO).map ExX.a:=by
 rw[List.map_map,List.map_map,List.map_map]
 exact List.map_congr_left fun y _=>by simp[ExX.a,exO]
theorem aggX_nc(g:AggX)(fl top:Bool)(base:Nat)(σ:Store)(m:Nat):ncells (fz fl top base σ (m+1) (AggX.a g))=ncells (AggX.a g):=by simp[AggX.a]
theorem exX_nc(g:ExX)(fl top:Bool)(base:Nat)(σ:Store)(m:Nat):ncells (fz fl top base σ (m+1) (ExX.a g))=ncells (ExX.a g):=by simp[ExX.a]
theorem nodes_round(b:Bool)(l:List LNX)(mo:Nat)(L:List LNX)(ep:Nat)(hL:L.length≤most)(i:Nat)(n:LNX)(hi:i < L.length)(hy:L[i]?=some n) :
  thenLoop 1 [4,5,6,7,8,9,13,14,15,16,17,18,19,20,21] l_qad_2 (run code l_qad_2 ⟨[.imm b (l.map LNX.a),.int .i64 (mo:Int),.nil0,.sl 0 ep 0 L.length,.any,.any,.any,.any,.any,.any,.sl 0 ep 0 L.length,.int .i64 L.length,.int .i64 i,.any,.any,.any,.any,.any,.any,.any,.any,.any],[.arr 12 ep ((mid ownN L i).map LNX.a)]⟩) =
  rounds code 1 [4,5,6,7,8,9,13,14,15,16,17,18,19,20,21] l_qad_2 ⟨[.imm b (l.map LNX.a),.int .i64 (mo:Int),.nil0,.sl 0 ep 0 L.length,.any,.any,.any,.any,.any,.any,.sl 0 ep 0 L.length,.int .i64 L.length,.int .i64 (i+1:Nat),.any,.any,.any,.any,.any,.any,.any,.any,.any],[.arr 12 ep ((mid ownN L (i+1)).map LNX.a)]⟩:=by
 have hlt:((i:Int) < (L.length:Int)):=by omega
 have h1:=mid_get ownN LNX.a hy
 have h2:=mid_set ownN LNX.a hy
 obtain ⟨hlm,h1⟩:=List.getElem?_eq_some_iff.1 h1
 have hck:=cutInt (enc:=.int .i64) n.bk n.kinds 17 (by decide) (by decide)
 have hcy:=cutInt (enc:=.int .i64) n.by' n.keys 6 (by decide) (by decide)
 have hco:=cutOrdN (enc:=ordA) n.bo n.ords 5 (by decide) (by decide)
 obtain ⟨ep2,hca⟩:=cutAgg (enc:=AggX.a) n.bg n.aggs 14 (by decide) (by decide) [.arr 12 ep ((mid ownN L i).map LNX.a),.arr 12 0 [n.a]]
 obtain ⟨ep3,hci⟩:=cutExpr (enc:=ExX.a) n.bi n.items 17 (by decide) (by decide) [.arr 12 ep ((mid ownN L i).map LNX.a),.arr 12 0 [n.a],.arr 2 ep2 ((n.aggs.take 14).map AggX.a)]
 have hl1:=nodes_aggs (.imm b (l.map LNX.a)) (.int .i64 (mo:Int)) .nil0 (.sl 0 ep 0 L.length) (.int .i64 i) (.sl 0 ep 0 L.length) (.int .i64 L.length) (.int .i64 i) (.bool true) .any .any .any .any (by simp) (mid ownN L i) ep n ep2 ep3 (n.aggs.take 14) (n.items.take 17) (by simp;unfold most;omega)
 have hl2:=nodes_items (.imm b (l.map LNX.a)) (.int .i64 (mo:Int)) .nil0 (.sl 0 ep 0 L.length) (.int .i64 i) (.sl 0 ep 0 L.length) (.int .i64 L.length) (.int .i64 i) (.bool true) (.sl 2 ep2 0 (n.aggs.take 14).length) (.int .i64 (n.aggs.take 14).length) (.int .i64 (n.aggs.take 14).length) (.bool false) (by simp) (mid ownN L i) ep n ep2 ep3 ((n.aggs.take 14).map agO) (n.items.take 17) (by simp;unfold most;omega)
 have hs:=short_spec n.bc n.cond
 have hfa:=agO_fz (n.aggs.take 14)
 have hfi:=exO_fz (n.items.take 17)
 have hla:((n.aggs.take 14).map agO).length=(n.aggs.take 14).length:=by simp
 have hli:((n.items.take 17).map exO).length=(n.items.take 17).length:=by simp
 have hM:∀ σ,List.map (freeze 1 σ) ((mid ownN L i).map LNX.a)=(mid ownN L i).map LNX.a:=fun σ=>by simp
 rw[← h2]
 have hown:(ownN n).a=.agg [.int .i64 n.op,.int .i64 n.l,.int .i64 n.r,.int .i64 n.tab,.imm false ((n.kinds.take 17).map (.int .i64)),.bool n.left,.imm false ((shortE n.cond).map EN.a),.imm false ((n.keys.take 6).map (.int .i64)),.imm false (((n.aggs.take 14).map agO).map AggX.a),.imm false (((n.items.take 17).map exO).map ExX.a),.imm false ((n.ords.take 5).map ordA),.int .i64 n.limit]:=rfl
 rw[hown]
 generalize (n.aggs.take 14).map agO=G' at *
 generalize (n.items.take 17).map exO=I' at *
 generalize (mid ownN L i).map LNX.a=M at *
 have htG:List.take (n.aggs.take 14).length (G'.map AggX.a)=G'.map AggX.a:=by rw[← hla];exact take_map_all G' AggX.a
 have htI:List.take (n.items.take 17).length (I'.map ExX.a)=I'.map ExX.a:=by rw[← hli];exact take_map_all I' ExX.a
 rw[hla]at hl2
 simp only[LNX.a]at h1 hca hci
 simp[boxN,-List.length_take]at hck hcy hco hca hci hl1 hl2
 simp[l_qad_2,hlt,h1,hlm,hi,hck,hcy,hco,hca,hci,hl1,hl2,hs,wrap_lt hi hL,roundEnd,freezeObj,hM,hfa,hfi,hla,hli,htG,htI,aggX_nc,exX_nc,-List.length_take]
end Go.AM
end
section
namespace Go.AM
open P
set_option maxHeartbeats 8000000
set_option maxRecDepth 8000
attribute [local simp] condRun_if when_if
theorem ownN_fz(l:List LNX)(fl top:Bool)(base:Nat)(σ:Store)(m:Nat):List.map (fz fl top base σ (m+3)) ((l.map ownN).map LNX.a)=(l.map ownN).map LNX.a:=by
 rw[List.map_map,List.map_map,List.map_map]
 exact List.map_congr_left fun y _=>by simp[LNX.a,ownN]
theorem lnx_nc(g:LNX)(fl top:Bool)(base:Nat)(σ:Store)(m:Nat):ncells (fz fl top base σ (m+1) (LNX.a g))=ncells (LNX.a g):=by simp[LNX.a]
theorem nodes_spec(b:Bool)(l:List LNX)(mo:Nat)(h0:mo≠0)(hm:mo≤1000):pcall I.qad [.imm b (l.map LNX.a),.int .i64 (mo:Int)]=some (.imm false (((l.take mo).map ownN).map LNX.a)):=by
 rw[pcall_eq c_qad rfl]
 obtain ⟨ep,hc⟩:=cutLNode (enc:=LNX.a) b l mo h0 hm []
 have hL:(l.take mo).length≤most:=by simp;unfold most;omega
 generalize l.take mo=L at hc hL ⊢
 have h:=rounds_fold (base:=1) (clr:=[4,5,6,7,8,9,13,14,15,16,17,18,19,20,21]) (b:=l_qad_2) L (fun i (_:Unit)=>⟨[.imm b (l.map LNX.a),.int .i64 (mo:Int),.nil0,.sl 0 ep 0 L.length,.any,.any,.any,.any,.any,.any,.sl 0 ep 0 L.length,.int .i64 L.length,.int .i64 i,.any,.any,.any,.any,.any,.any,.any,.any,.any],[.arr 12 ep ((mid ownN L i).map LNX.a)]⟩)
  (fun _ _=>True) (fun _ _=>()) (fun _=>(.ext 0,⟨[.imm b (l.map LNX.a),.int .i64 (mo:Int),.nil0,.sl 0 ep 0 L.length,.any,.any,.any,.any,.any,.any,.sl 0 ep 0 L.length,.int .i64 L.length,.int .i64 L.length,.bool false,.any,.any,.any,.any,.any,.any,.any,.any],[.arr 12 ep ((L.map ownN).map LNX.a)]⟩))
  (fun i n _ hi hy _=>⟨nodes_round b l mo L ep hL i n hi hy,trivial⟩)
  (fun _ _=>by simp[l_qad_2,mid_all]) () trivial
 have h:=h.1
 rw[mid_zero]at h
 have hfz:=ownN_fz L
 have hlen:(L.map ownN).length=L.length:=by simp
 generalize L.map ownN=L' at *
 have htk:List.take L.length (L'.map LNX.a)=L'.map LNX.a:=by rw[← hlen];exact take_map_all L' LNX.a
 simp at hc h
 simp[f_qad,b_qad,hc,h,hlen,htk,hfz,lnx_nc]
end Go.AM
end
section
namespace Go.AM
open P
set_option maxHeartbeats 8000000
set_option maxRecDepth 8000
instance:Nc (fun r=>AVal.imm true (rowA r)) 1 false:=⟨fun _=>rfl,fun _=>rfl⟩
theorem rows1N(mo:Int)(b c:Bool)(L:List AVal)(ep:Nat)(rs:List (List Val))(hn:rs.length≤most) :
  rounds code 2 [4,5,6,10,11,12,13] l_qaf_1 ⟨[.imm b L,.int .i64 mo,.nil0,.sl 0 0 0 0,.any,.any,.any,.sl 1 ep 0 rs.length,.int .i64 rs.length,.int .i64 0,.any,.any,.any,.any],[.arr 1 0 [],.arr 1 ep (rowsA true rs)]⟩ =
   some (.ext 0,⟨[.imm b L,.int .i64 mo,.nil0,.sl 0 rs.length 0 rs.length,.any,.any,.any,.sl 1 ep 0 rs.length,.int .i64 rs.length,.int .i64 rs.length,.bool false,.any,.any,.any],[.arr 1 rs.length (rowsA false (rs.map ownR)),.arr 1 ep (rowsA true rs)]⟩):=by
 have:=rounds_iter (base:=2) (clr:=[4,5,6,10,11,12,13]) (b:=l_qaf_1) (fun k=>⟨[.imm b L,.int .i64 mo,.nil0,.sl 0 k 0 k,.any,.any,.any,.sl 1 ep 0 rs.length,.int .i64 rs.length,.int .i64 k,.any,.any,.any,.any],[.arr 1 k (rowsA false ((rs.map ownR).take k)),.arr 1 ep (rowsA true rs)]⟩) rs.length
  (.ext 0,⟨[.imm b L,.int .i64 mo,.nil0,.sl 0 rs.length 0 rs.length,.any,.any,.any,.sl 1 ep 0 rs.length,.int .i64 rs.length,.int .i64 rs.length,.bool false,.any,.any,.any],[.arr 1 rs.length (rowsA false (rs.map ownR)),.arr 1 ep (rowsA true rs)]⟩)
  (fun k hk=>by
   have h1:=rowsA_get (b:=true) hk
   have hlt:((k:Int) < (rs.length:Int)):=by omega
   have h3:=cutVal_spec true rs[k]
   have hk':k < (rs.map ownR).length:=by simpa using hk
   have h4:min k rs.length=k:=by omega
   have h5:k+1≤most:=by omega
   have h6:=rowsA_succ hk'
   have h6':(rs.map ownR)[k]=ownR rs[k]:=by simp
   rw[h6']at h6
   have h9:(rowsA false ((rs.map ownR).take k)).take k=rowsA false ((rs.map ownR).take k):=List.take_of_length_le (by simp;omega)
   have h8:=fun top base σ n=>rowsA_fz ((rs.map ownR).take k) top base σ n
   have h10:=rowsA_freeze ((rs.map ownR).take k) 2
   have h11:=rowsA_nc ((rs.map ownR).take k) 2
   have h0:=fun e0 e1 e2 e3 e4 e7 e8 e9 e10 A B=>rows0 e0 e1 e2 e3 e4 e7 e8 e9 e10 A B (rs[k].take 17) (by simp;unfold most;omega)
   have h12:(rowA (ownR rs[k])).take (ownR rs[k]).length=rowA (ownR rs[k]):=List.take_of_length_le (by simp)
   have h13:=rowA_nc (ownR rs[k])
   have h14:(rs[k].take 17).length=(ownR rs[k]).length:=by simp[ownR]
   have h15:((rs[k].take 17).map cutV)=ownR rs[k]:=rfl
   have h16:∀ base σ n,(rowsA true rs).map (fz false true base σ (n+1))=rowsA true rs:=fun base σ n=>by
    unfold rowsA
    rw[List.map_map]
    exact List.map_congr_left fun r _=>by simp
   have h17:∀ σ,(rowsA true rs).map (freeze 2 σ)=rowsA true rs:=fun σ=>h16 2 σ 19
   have h18:∀ (base:Nat) (σ:Store) (n:Nat),(∀ a,a∈rowsA true rs→ncells (fz false true base σ (n+1) a)=ncells a)↔True:=fun base σ n=>⟨fun _=>trivial,fun _ a ha=>by
    obtain ⟨r,_,rfl⟩:=List.mem_map.1 ha
    simp⟩
   rw[h15]at h0
   generalize hR:rs[k].take 17=R at *
   rw[h14]at h0
   simp[l_qaf_1,h1,rowsA_getE,hlt,hk,h3,h4,h5,h0,h6,h8,h9,h10,h11,h12,h13,h14,h16,h17,h18,append,wrap_lt hk hn,roundEnd,freezeObj])
  (by simp[l_qaf_1];exact congrArg (rowsA false) (List.take_of_length_le (by simp)))
 simpa [show rowsA false []=[] from rfl] using this
theorem rowsN_spec(mo:Nat)(h0:mo≠0)(hm:mo≤1000)(b:Bool)(rs:List (List Val)):pcall I.qaf [.imm b (rowsA true rs),.int .i64 (mo:Int)]=some (.imm false (rowsA false (((rs.take mo).map ownR)))):=by
 rw[pcall_eq c_qaf rfl]
 obtain ⟨ep,hc⟩:=cutRowN (enc:=fun r=>.imm true (rowA r)) b rs mo h0 hm [.arr 1 0 []]
 change acall code I.qaa [.imm b (rowsA true rs),.int .i64 (mo:Int)] _=some (_,[.arr 1 0 []]++[.arr 1 ep (rowsA true (rs.take mo))]) at hc
 have hl:=rows1N mo b true (rowsA true rs) ep (rs.take mo) (by simp;unfold most;omega)
 have h8:=fun rs top base σ n=>rowsA_fz rs top base σ n
 have h9:(rowsA false ((rs.take mo).map ownR)).take (rs.take mo).length=rowsA false ((rs.take mo).map ownR):=List.take_of_length_le (by simp)
 skip
 generalize rs.take mo=R at *
 simp at hc
 simp[f_qaf,b_qaf,hc,hl,h8,h9,rowsA_nc']
theorem rowsX_spec(mo:Nat)(h0:mo≠0)(hm:mo≤1000)(b:Bool)(rs:List (List Val)):pcall I.qaf [.imm b (rowsA true rs),.int .i64 (mo:Int)]=some (.imm false (((rs.take mo).map ownR).map rowX)):=rowsN_spec mo h0 hm b rs
end Go.AM
end
