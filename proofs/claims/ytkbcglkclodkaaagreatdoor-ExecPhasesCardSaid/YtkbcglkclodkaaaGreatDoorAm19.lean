/- Part of the proof. -/
import Derived.Test.YtkbcglkclodkaaaGreatDoorAm18
set_option linter.unusedVariables false
set_option linter.unusedSimpArgs false
section
namespace Go.AM
open P
set_option maxHeartbeats 8000000
set_option maxRecDepth 8000
attribute [local simp] condRun_if when_if
theorem ecmp_v(v w:Val)(hv:okV v=true)(hw:okV w=true):pcall I.qbu [v.a,w.a]=some (.int .i64 (cmpV v w)):=by
 rw[pcall_eq c_qbu rfl]
 have h:=fun b b'=>Compare_spec b b' [v] [w] (by simp[okR,hv]) (by simp[okR,hw])
 have e:cmpR [v] [w]=cmpV v w:=by
  simp only[cmpR]
  unfold lex
  split
  ·rfl
  ·omega
 rw[e]at h
 simp only[rowA,List.map_cons,List.map_nil]at h
 simp[f_qbu,b_qbu,h]
noncomputable def partG(e:List EN)(_:Nat)(r:List Val)(s:Option Int):Option Int⊕(Val×Int):=
 if (evalF e r).2≠0 then .inr (stV s,(evalF e r).2) else if badS (evalF e r).1≠0 then .inr (zeroV,badS (evalF e r).1) else .inl (sumF s (evalF e r).1)
noncomputable def partS(e:List EN)(rs:List (List Val)):Val×Int:=
 match foldL (partG e) rs 0 none with
 | .inl s=>(stV s,0)
 | .inr p=>p
noncomputable def partF(tag:Int)(e:List EN)(rs:List (List Val)):Val×Int:=if tag=3 then partS e rs else AggF tag e rs
theorem partial1_v(i:Int)(a:AggX)(b:Bool)(rs:List (List Val))(hn:rs.length≤8000)(ha:a.arg.length≤most)(hr:rgL rs)(hE:rgE a.arg) :
  pcall I.qcf [.int .i64 i,a.a,.imm b (rs.map rowX)]=some (.tup [(partF a.tag a.arg rs).1.a,.int .i64 (partF a.tag a.arg rs).2]):=by
 rw[pcall_eq c_qcf rfl]
 have hm:rs.length≤most:=by unfold most;omega
 unfold partF
 by_cases t3:a.tag=3
 ·rw[if_pos t3]
  have hev:∀ c,∀ r∈rs,pcall I.qcw [.agg [.imm c (a.arg.map EN.a)],rowX r]=some (.tup [(evalF a.arg r).1.a,.int .i64 (evalF a.arg r).2]):=fun c r h=>eval_v c a.arg false r ha (hr r h) hE
  have h:=rounds_list (base:=3) (clr:=[5,7,8,9,14,15,16]) (b:=l_qcf_0) rs
   (fun k (s:Option Int)=>⟨[.int .i64 i,a.a,.imm b (rs.map rowX),.ptr 0 0 0 0,.ptr 1 0 0 0,.any,.ptr 2 0 0 0,.any,.any,.any,.bool false,.imm b (rs.map rowX),.int .i64 rs.length,.int .i64 k,.any,.any,.any],[.arr 2 0 [a.a],.arr 4 0 [zeroV.a],.arr 4 0 [(stV s).a]]⟩)
   (fun k s=>-(9223372036854775808 * (k:Int))≤s.getD 0∧s.getD 0≤9223372036854775808 * (k:Int)) (partG a.arg)
   (fun s=>(.ext 0,⟨[.int .i64 i,a.a,.imm b (rs.map rowX),.ptr 0 0 0 0,.ptr 1 0 0 0,.any,.ptr 2 0 0 0,.any,.any,.any,.bool false,.imm b (rs.map rowX),.int .i64 rs.length,.int .i64 rs.length,.bool false,.any,.any],[.arr 2 0 [a.a],.arr 4 0 [zeroV.a],.arr 4 0 [(stV s).a]]⟩))
   (fun (p:Val×Int) o=>∃ s,o=(.ret,s)∧thenLeave .pure [.cell true 4 4,.env 5] (some (.ret,s))=some (.tup [p.1.a,.int .i64 p.2]))
   (fun k r s hk hy hs=>by
    have hlt:((k:Int) < (rs.length:Int)):=by omega
    have h2:=fun c=>hev c r (List.mem_of_getElem? hy)
    have hI:=eval_Iv (hr r (List.mem_of_getElem? hy)) hE
    unfold partG
    generalize evalF a.arg r=p at *
    obtain ⟨v,no⟩:=p
    simp only at *
    by_cases c1:no=0
    ·rw[if_neg (by simp[c1])]
     have hI:=hI c1
     have h3:=Sum_v s v (szO_of (by omega) hs) hI.2
     have h4:=sumF_sz hs hI.2
     subst c1
     by_cases c2:badS v=0
     ·rw[if_neg (by simp[c2])]
      rw[c2]at h3
      simp only[if_true]at h3
      refine ⟨?_,h4⟩
      generalize stV s=S at *
      generalize stV (sumF s v)=S' at *
      simp only[AggX.a,Val.a]at *
      simp[l_qcf_0,hlt,hy,h2,h3,wrap_lt hk hm,roundEnd,freezeObj,Val.a]
     ·rw[if_pos c2]
      rw[if_neg c2]at h3
      generalize stV s=S at *
      simp only[AggX.a,Val.a,zeroV]at *
      exact ⟨_,by simp[l_qcf_0,hlt,hy,h2,h3,bne_t c2,c2];rfl,_,rfl,by simp⟩
    ·rw[if_pos c1]
     generalize stV s=S at *
     simp only[AggX.a,Val.a,zeroV]at *
     exact ⟨_,by simp[l_qcf_0,hlt,hy,h2,bne_t c1,beq_f c1,c1];rfl,_,rfl,by simp⟩)
   (fun s _=>by simp[l_qcf_0]) none (by simp)
  unfold partS
  cases hf:foldL (partG a.arg) rs 0 none with
  | inl s=>
   rw[hf]at h
   have h:=h.2
   simp only at h ⊢
   generalize stV s=S at *
   simp only[stV]at *
   simp only[AggX.a,Val.a,zeroV,t3]at *
   simp at h
   simp[f_qcf,b_qcf,h,zeroV,Val.a]
  | inr p=>
   rw[hf]at h
   obtain ⟨o,h1,s,rfl,h2⟩:=h
   simp only at h2 ⊢
   simp only[stV]at *
   simp only[AggX.a,Val.a,zeroV,t3]at *
   simp at h1
   simp[f_qcf,b_qcf,h1,zeroV,Val.a,-thenLeave_ret]
   exact h2
 ·rw[if_neg t3]
  have h1:=fun b=>Aggregate_v a b rs hn ha hr hE
  simp only[AggX.a,Val.a]at *
  simp[f_qcf,b_qcf,h1,bne_t t3]
end Go.AM
end
section
namespace Go.AM
open P
set_option maxHeartbeats 8000000
set_option maxRecDepth 8000
attribute [local simp] condRun_if when_if
theorem summed_v(b:Bool)(l:List Val)(g:Nat)(hp:PureAt g)(step:Option Int→Val→Option Int)(Inv:Nat→Option Int→Prop)(hn:l.length≤most)(h0:Inv 0 none)
  (hs:∀ k v s,k < l.length→l[k]?=some v→Inv k s→pcall g [(stV s).a,v.a]=some (.tup [(stV (step s v)).a,.int .i64 0])∧Inv (k+1) (step s v)) (he:∀ s,Inv l.length s→szO s) :
  pcall I.qct [.imm b (l.map Val.a),.fn g [] []]=some (.tup [(endF (l.foldl step none)).1.a,.int .i64 (endF (l.foldl step none)).2]):=by
 rw[pcall_eq c_qct rfl]
 have h:=rounds_fold (base:=2) (clr:=[3,5,6,7,11,12]) (b:=l_qct_0) l
  (fun k (s:Option Int)=>⟨[.imm b (l.map Val.a),.fn g [] [],.ptr 0 0 0 0,.any,.ptr 1 0 0 0,.any,.any,.any,.imm b (l.map Val.a),.int .i64 l.length,.int .i64 k,.any,.any],[.arr 4 0 [zeroV.a],.arr 4 0 [(stV s).a]]⟩)
  Inv step
  (fun s=>(.ext 0,⟨[.imm b (l.map Val.a),.fn g [] [],.ptr 0 0 0 0,.any,.ptr 1 0 0 0,.any,.any,.any,.imm b (l.map Val.a),.int .i64 l.length,.int .i64 l.length,.bool false,.any],[.arr 4 0 [zeroV.a],.arr 4 0 [(stV s).a]]⟩))
  (fun k v s hk hy hi=>by
   have hlt:((k:Int) < (l.length:Int)):=by omega
   obtain ⟨h1,h2⟩:=hs k v s hk hy hi
   refine ⟨?_,h2⟩
   generalize stV s=S at *
   generalize stV (step s v)=S' at *
   simp only[Val.a]at h1
   simp[l_qct_0,hlt,hy,hp _ _,h1,wrap_lt hk hn,roundEnd,freezeObj,Val.a])
  (fun s _=>by simp[l_qct_0]) none h0
 obtain ⟨h1,h2⟩:=h
 have h3:=End_v (l.foldl step none) (he _ h2)
 generalize l.foldl step none=s at *
 generalize stV s=S at *
 simp only[stV]at *
 simp only[Val.a,zeroV]at *
 simp at h1
 simp[f_qct,b_qct,h1,h3,Val.a,zeroV]
def ownF(j:Nat)(rs:List (List Val)):List Val:=rs.flatMap fun r=>if (r.getD j zeroV).k=0 then [] else [r.getD j zeroV]
theorem ownF_len(j:Nat):∀ rs:List (List Val),(ownF j rs).length≤rs.length
 | []=>Nat.le_refl _
 | r::rs=>by
  have ih:=ownF_len j rs
  unfold ownF at *
  rw[List.flatMap_cons,List.length_append,List.length_cons]
  have:∀ (c:Prop) [Decidable c] (v:Val),(if c then ([]:List Val) else [v]).length≤1:=fun c _ v=>by split<;>simp
  have:=this ((r.getD j zeroV).k=0) (r.getD j zeroV)
  omega
def sumI(v:Val):Int:=v.n * 18446744073709551616+v.u
def IsSum(v:Val):Prop:=v=sumV (sumI v)∧-221360928884514619392≤sumI v∧sumI v≤221360928884514619392
def joinL(l:List Val):Option Int:=l.foldl (fun s v=>addO s (some (sumI v))) none
def finF(tag:Int)(own:List Val):Val×Int:=
 if tag=3 then endF (joinL own) else if tag=1∨tag=2 then endF (sumL (own++[intVal 0])) else if tag=4 then (leastF own,0) else (greatestF own,0)
def finOk(tag:Int)(own:List Val):Prop:=(tag=3→∀ v∈own,IsSum v)∧(tag=1∨tag=2→∀ v∈own,badS v=0∧rg v.n)∧∀ v∈own,okV v=true
theorem join_v(b:Bool)(own:List Val)(hn:own.length≤8000)(ho:∀ v∈own,IsSum v):pcall I.qct [.imm b (own.map Val.a),.fn I.qg [] []]=some (.tup [(endF (joinL own)).1.a,.int .i64 (endF (joinL own)).2]):=by
 refine summed_v b own I.qg a_qg _ (fun k s=>-(221360928884514619392 * (k:Int))≤s.getD 0∧s.getD 0≤221360928884514619392 * (k:Int)) (by unfold most;omega) (by simp) (fun k v s hk hv hi=>?_) (fun s hi=>by unfold szO sz;omega)
 obtain ⟨h1,h2,h3⟩:=ho v (List.mem_of_getElem? hv)
 have h4:=Join_v s (some (sumI v)) (by unfold szO sz;omega) (by unfold szO sz;simp only[Option.getD_some];omega)
 refine ⟨?_,?_⟩
 ·have e:(stV (some (sumI v))).a=v.a:=by rw[show stV (some (sumI v))=sumV (sumI v) from rfl,← h1]
  rw[e]at h4
  exact h4
 ·cases s<;>simp only[addO,Option.getD_some,Option.getD_none]at hi ⊢<;>omega
theorem count_v(b:Bool)(l:List Val)(hn:l.length≤8001)(ho:∀ v∈l,badS v=0∧rg v.n):pcall I.qct [.imm b (l.map Val.a),.fn I.qm [] []]=some (.tup [(endF (sumL l)).1.a,.int .i64 (endF (sumL l)).2]):=by
 refine summed_v b l I.qm a_qm sumF (fun k s=>-(9223372036854775808 * (k:Int))≤s.getD 0∧s.getD 0≤9223372036854775808 * (k:Int)) (by unfold most;omega) (by simp) (fun k v s hk hv hi=>?_) (fun s hi=>by unfold szO sz;omega)
 obtain ⟨h1,h2⟩:=ho v (List.mem_of_getElem? hv)
 have h3:=Sum_v s v (szO_of (k:=k) (by unfold most;omega) hi) h2
 rw[h1]at h3
 simp only[if_true]at h3
 exact ⟨h3,sumF_sz hi h2⟩
theorem cptr_fz(t:Bool)(n:LNX)(fl top:Bool)(base:Nat)(σ:Store)(m:Nat)(h:(fl || top)=true):fz fl top base σ (m+4) (.cptr t n.a 0)=.cptr t n.a 0:=by
 have h1:∀ fl top,(fl || top)=true→fz fl top base σ (m+3) n.a=n.a:=fun fl top h=>Ft.ft fl top base σ m n h
 have h2:=h1 true false rfl
 have h3:=h1 false true rfl
 cases t<;>cases fl<;>cases top<;>simp_all
theorem final1_v(n:LNX)(t:Bool)(i:Nat)(a:AggX)(b:Bool)(rs:List (List Val))(hn:rs.length≤8000)(hk:n.keys.length+i≤most)(hr:∀ r∈rs,n.keys.length+i < r.length)(ho:finOk a.tag (ownF (n.keys.length+i) rs)) :
  pcall I.qbt [.int .i64 i,a.a,.imm b (rs.map rowX),.cptr t n.a 0]=some (.tup [(finF a.tag (ownF (n.keys.length+i) rs)).1.a,.int .i64 (finF a.tag (ownF (n.keys.length+i) rs)).2]):=by
 rw[pcall_eq c_qbt rfl]
 have hm:rs.length≤most:=by unfold most;omega
 have hz:=fun fl top base σ m (h:(fl || top)=true)=>cptr_fz t n fl top base σ m h
 have hkey:(cellsOf n.a)[7]?=some (.imm n.by' (n.keys.map (.int .i64))):=rfl
 have hnc:ncells n.a=12∧isAgg n.a=true:=⟨rfl,rfl⟩
 have hw:IntKind.i64.wrap ((n.keys.length:Int)+(i:Int))=((n.keys.length+i:Nat):Int):=by rw[wrap64_id (by unfold most at hk;omega)];omega
 obtain ⟨ep,h⟩:=rounds_acc (base:=3) (clr:=[8,9,14,15]) (b:=l_qbt_0) rs
  (fun k ep (acc:List Val)=>⟨[.int .i64 i,a.a,.imm b (rs.map rowX),.cptr t n.a 0,.ptr 0 0 0 0,.ptr 1 0 0 0,.int .i64 0,.sl 2 ep 0 acc.length,.any,.any,.any,.imm b (rs.map rowX),.int .i64 rs.length,.int .i64 k,.any,.any,.any,.any,.any,.any],[.arr 2 0 [a.a],.arr 4 0 [zeroV.a],.arr 4 ep (acc.map Val.a)]⟩)
  (fun r=>if (r.getD (n.keys.length+i) zeroV).k=0 then [] else [r.getD (n.keys.length+i) zeroV])
  (fun ep acc=>(.ext 0,⟨[.int .i64 i,a.a,.imm b (rs.map rowX),.cptr t n.a 0,.ptr 0 0 0 0,.ptr 1 0 0 0,.int .i64 0,.sl 2 ep 0 acc.length,.any,.any,.any,.imm b (rs.map rowX),.int .i64 rs.length,.int .i64 rs.length,.bool false,.any,.any,.any,.any,.any],[.arr 2 0 [a.a],.arr 4 0 [zeroV.a],.arr 4 ep (acc.map Val.a)]⟩)) 1
  (fun r _=>by split<;>simp)
  (fun k r ep acc hk hy hacc=>by
   have hlt:((k:Int) < (rs.length:Int)):=by omega
   have hl:=hr r (List.mem_of_getElem? hy)
   have hg:r[n.keys.length+i]?=some r[n.keys.length+i]:=List.getElem?_eq_getElem hl
   have hd:r.getD (n.keys.length+i) zeroV=r[n.keys.length+i]:=by rw[List.getD_eq_getElem?_getD,hg];rfl
   have hm1:acc.length+1≤most:=by omega
   rw[hd]
   generalize r[n.keys.length+i]=w at *
   have h0:(0:Int)≤(n.keys.length:Int)+(i:Int):=by omega
   have ht:((n.keys.length:Int)+(i:Int)).toNat=n.keys.length+i:=by omega
   by_cases hk0:w.k=0
   ·refine ⟨ep,?_⟩
    rw[if_pos hk0]
    simp only[AggX.a,Val.a,zeroV]
    simp[l_qbt_0,hz,hkey,hnc,hlt,hy,rowX,hw,hg,h0,ht,hk0,wrap_lt hk hm,roundEnd,freezeObj,Val.a]
   ·refine ⟨ep+1,?_⟩
    rw[if_neg hk0]
    simp only[AggX.a,Val.a,zeroV]
    simp[l_qbt_0,hz,hkey,hnc,hlt,hy,rowX,hw,hg,h0,ht,hk0,bne_t hk0,append,hm1,wrap_lt hk hm,roundEnd,freezeObj,Val.a])
  (fun ep acc _=>by simp[l_qbt_0]) 0
 have hown:rs.flatMap (fun r=>if (r.getD (n.keys.length+i) zeroV).k=0 then [] else [r.getD (n.keys.length+i) zeroV])=ownF (n.keys.length+i) rs:=rfl
 rw[hown]at h
 obtain ⟨ho1,ho2,ho3⟩:=ho
 have hlen:=ownF_len (n.keys.length+i) rs
 generalize ownF (n.keys.length+i) rs=own at *
 have hol:own.length+1≤most:=by unfold most;omega
 simp only[zeroV,Val.a,List.map_nil,List.length_nil,show ((0:Nat):Int)=0 from rfl]at h
 unfold finF
 by_cases t3:a.tag=3
 ·rw[if_pos t3]
  have hj:=fun b=>join_v b own (by omega) (ho1 t3)
  simp only[AggX.a,t3]at *
  try simp at h
  simp[f_qbt,b_qbt,hz,hkey,hnc,h,hj,Val.a]
 ·rw[if_neg t3]
  by_cases t12:a.tag=1∨a.tag=2
  ·rw[if_pos t12]
   have hj:=fun b=>count_v b (own++[intVal 0]) (by simp;omega) (fun v hv=>by
    rcases List.mem_append.1 hv with hv|hv
    ·exact ho2 t12 v hv
    ·rw[List.mem_singleton.1 hv]
     exact ⟨by decide,by simp[intVal,rg]⟩)
   simp only[List.map_append,List.map_cons,List.map_nil]at hj
   have hi0:(intVal 0).a=.agg [.int .i64 2,.int .i64 0,.int .u64 0,.str []]:=rfl
   rw[hi0]at hj
   have htk:List.take (own.length+1) (List.map Val.a own++[AVal.agg [.int .i64 2,.int .i64 0,.int .u64 0,.str []]])=List.map Val.a own++[AVal.agg [.int .i64 2,.int .i64 0,.int .u64 0,.str []]]:=List.take_of_length_le (by simp)
   have hncs:∀ σ,(∀ x,x∈List.map Val.a own++[AVal.agg [.int .i64 2,.int .i64 0,.int .u64 0,.str []]]→ncells (fz true false 0 σ 19 x)=ncells x)↔True:=fun σ=>⟨fun _=>trivial,fun _ x hx=>by
    rcases List.mem_append.1 hx with hx|hx
    ·obtain ⟨v,_,rfl⟩:=List.mem_map.1 hx
     simp
    ·rw[List.mem_singleton.1 hx];simp⟩
   rcases t12 with t1|t2
   ·simp only[AggX.a,t1]at *
    try simp at h
    simp[f_qbt,b_qbt,hz,hkey,hnc,h,hj,intVal,append,hol,htk,hncs,Val.a,-List.mem_append]
   ·simp only[AggX.a,t2]at *
    try simp at h
    simp[f_qbt,b_qbt,hz,hkey,hnc,h,hj,intVal,append,hol,htk,hncs,Val.a,-List.mem_append]
  ·rw[if_neg t12]
   have t1:¬a.tag=1:=fun h=>t12 (.inl h)
   have t2:¬a.tag=2:=fun h=>t12 (.inr h)
   cases own with
   | nil=>
    simp only[AggX.a,leastF,greatestF]at *
    try simp at h
    simp[f_qbt,b_qbt,hz,hkey,hnc,h,beq_f t1,beq_f t2,beq_f t3,zeroV,Val.a]
   | cons v l=>
    have hl0:((l.length:Int)+1 == 0)=false:=by rw[beq_eq_false_iff_ne];omega
    have hcmp:∀ x∈v::l,∀ y∈v::l,∀ σ,acallV code (.fn I.qbu [] []) [x.a,y.a] σ=some (.int .i64 (cmpV x y),σ):=fun x hx y hy σ=>by
     have:=ecmp_v x y (ho3 x hx) (ho3 y hy)
     simp[this]
    have hMin:=fun b=>MinFunc_v b v l (.fn I.qbu [] []) cmpV (fun σ=>by simp) (by simp at hol;omega) hcmp
    have hMax:=fun b=>MaxFunc_v b v l (.fn I.qbu [] []) cmpV (fun σ=>by simp) (by simp at hol;omega) hcmp
    simp only[leastF,greatestF]
    generalize minF cmpV v l=vm at *
    generalize maxF cmpV v l=vM at *
    simp only[List.map_cons,Val.a]at hMin hMax
    by_cases t4:a.tag=4
    ·rw[if_pos t4]
     simp only[AggX.a,t4]at *
     try simp at h
     simp[f_qbt,b_qbt,hz,hkey,hnc,h,hMin,hl0,Val.a]
    ·rw[if_neg t4]
     simp only[AggX.a]at *
     try simp at h
     simp[f_qbt,b_qbt,hz,hkey,hnc,h,beq_f t1,beq_f t2,beq_f t3,beq_f t4,hMax,hl0,Val.a]
end Go.AM
end
section
namespace Go.AM
open P
set_option maxHeartbeats 8000000
set_option maxRecDepth 8000
attribute [local simp] condRun_if when_if
theorem rounds_listR{α σ ρ:Type}{base:Nat}{clr:List Nat}{b:ACode}(l:List α)(R:Nat→σ→St→Prop)(g:Nat→α→σ→σ⊕ρ)(E:σ→Ex×St→Prop)(Q:ρ→Ex×St→Prop)
  (hstep:∀ k y s t,k < l.length→l[k]?=some y→R k s t→match g k y s with
   | .inl s'=>∃ t',thenLoop base clr b (run code b t)=rounds code base clr b t'∧R (k+1) s' t'
   | .inr r=>∃ o,thenLoop base clr b (run code b t)=some o∧Q r o)
  (hend:∀ s t,R l.length s t→∃ o,thenLoop base clr b (run code b t)=some o∧E s o) (s:σ) (t:St) (h:R 0 s t) :
  match foldL g l 0 s with
   | .inl s'=>∃ o,rounds code base clr b t=some o∧E s' o
   | .inr r=>∃ o,rounds code base clr b t=some o∧Q r o:=by
 have key:∀ (m:List α) k s t,l.drop k=m→k≤l.length→R k s t→match foldL g m k s with
   | .inl s'=>∃ o,rounds code base clr b t=some o∧E s' o
   | .inr r=>∃ o,rounds code base clr b t=some o∧Q r o:=by
  intro m
  induction m with
  | nil=>
   intro k s t hd hk hi
   have:k=l.length:=by
    have:=congrArg List.length hd
    simp at this;omega
   subst this
   simp only[foldL]
   obtain ⟨o,h1,h2⟩:=hend s t hi
   exact ⟨o,by rw[rounds_go0];exact h1,h2⟩
  | cons y m ih=>
   intro k s t hd hk hi
   have hlt:k < l.length:=by
    have:=congrArg List.length hd
    simp at this;omega
   have hy:l[k]?=some y:=by
    have:=congrArg (·[0]?) hd
    simpa using this
   have hm:l.drop (k+1)=m:=by
    have:=congrArg List.tail hd
    simpa [List.tail_drop] using this
   have hs:=hstep k y s t hlt hy hi
   rw[rounds_go0]
   simp only[foldL]
   cases hg:g k y s with
   | inl s'=>
    rw[hg]at hs
    obtain ⟨t',h1,h2⟩:=hs
    simp only
    rw[h1]
    exact ih (k+1) s' t' hm (by omega) h2
   | inr r=>
    rw[hg]at hs
    exact hs
 exact key l 0 s t (by simp) (Nat.zero_le _) h
structure DoOk (n:LNX) (DO:AVal) (doF:Nat→AggX→List (List Val)→Val×Int) (rows:List (List Val)):Prop where
 fz:∀ base σ m,fz false true base σ (m+5) DO=DO
 nc:ncells DO=1∧isAgg DO=false
 go:∀ (i:Nat) a σ,n.aggs[i]?=some a→acallV code DO [.int .i64 i,a.a,.imm false (rows.map rowX)] σ=some (.tup [(doF i a rows).1.a,.int .i64 (doF i a rows).2],σ)
def aggG(doF:Nat→AggX→List (List Val)→Val×Int)(rows:List (List Val))(i:Nat)(a:AggX)(vals:List Val):List Val⊕Unit:=
 if (doF i a rows).2=0 then .inl (vals++[(doF i a rows).1]) else .inr ()
abbrev envH(b:Bool)(rs:List (List Val))(n:LNX)(one:Bool)(DO:AVal)(e9 e10 e11 e12 e13 e14 e16 e17 e18 e19 e20 e21:AVal):List AVal:=
 [.imm b (rs.map rowX),n.a,.bool one,DO,.ptr 0 0 0 0,.ptr 1 0 0 0,.ptr 2 0 0 0,.ptr 3 0 0 0,.ptr 4 0 0 0,e9,e10,e11,e12,e13,e14,.fn 280 [] [.ptr 6 0 0 0,.ptr 7 0 0 0,.ptr 8 0 0 0],e16,e17,e18,e19,e20,e21]
abbrev stH(b:Bool)(rs:List (List Val))(n:LNX)(one:Bool)(DO r2 r3:AVal)(ep:Nat)(C:List AVal)(o:Obj)(r:List Obj):Store:=
 .arr 12 0 [n.a]::.arr 1 0 [DO]::.arr 1 0 [r2]::.arr 1 0 [r3]::.arr 1 0 [.sl 5 ep 0 C.length]::.arr 1 ep C::.arr 1 0 [.imm b (rs.map rowX)]::.arr 1 0 [.imm n.by' (intC n.keys)]::.arr 1 0 [.bool one]::o::r
theorem aggs_H(b:Bool)(rs:List (List Val))(n:LNX)(one:Bool)(DO:AVal)(doF:Nat→AggX→List (List Val)→Val×Int)(g:List Val×List (List Val))(hD:DoOk n DO doF g.2)(ep:Nat)(O:List (List Val))(hn:n.aggs.length≤8000)(hk:g.1.length≤8000)(e11 e12 e13 e14 e21:AVal) :
  (∃ vals,foldL (aggG doF g.2) n.aggs 0 g.1=.inl vals∧∃ ep2 e11' e12' e13' e14' e19 e20 e21',rounds code 13 [20] l_qby_0 ⟨envH b rs n one DO (.ptr 11 0 0 0) (.sl 12 0 0 g.1.length) e11 e12 e13 e14 (grpA g) (.imm n.bg (n.aggs.map AggX.a)) (.int .i64 n.aggs.length) (.int .i64 0) .any e21,stH b rs n one DO .nil0 (.int .i64 0) ep (O.map rowX) (.pend true none) [.arr 2 0 [grpA g],.arr 2 0 [grpA g],.arr 4 0 (g.1.map Val.a)]⟩ =
    some (.ext 2,⟨envH b rs n one DO (.ptr 11 0 0 0) (.sl 12 ep2 0 vals.length) e11' e12' e13' e14' (grpA g) (.imm n.bg (n.aggs.map AggX.a)) (.int .i64 n.aggs.length) e19 e20 e21',stH b rs n one DO .nil0 (.int .i64 0) ep (O.map rowX) (.pend true none) [.arr 2 0 [grpA g],.arr 2 0 [grpA g],.arr 4 ep2 (vals.map Val.a)]⟩)) ∨
  (foldL (aggG doF g.2) n.aggs 0 g.1=.inr ()∧∃ env τ,rounds code 13 [20] l_qby_0 ⟨envH b rs n one DO (.ptr 11 0 0 0) (.sl 12 0 0 g.1.length) e11 e12 e13 e14 (grpA g) (.imm n.bg (n.aggs.map AggX.a)) (.int .i64 n.aggs.length) (.int .i64 0) .any e21,stH b rs n one DO .nil0 (.int .i64 0) ep (O.map rowX) (.pend true none) [.arr 2 0 [grpA g],.arr 2 0 [grpA g],.arr 4 0 (g.1.map Val.a)]⟩=some (.ret,⟨env,stH b rs n one DO .nil0 (.int .i64 140) ep (O.map rowX) (.pend true none) τ⟩)):=by
 have hm:n.aggs.length≤most:=by unfold most;omega
 have key:=rounds_listR (base:=13) (clr:=[20]) (b:=l_qby_0) n.aggs
  (fun k (vals:List Val) t=>vals.length=g.1.length+k∧∃ ep2 e11 e12 e13 e14 e21,t=⟨envH b rs n one DO (.ptr 11 0 0 0) (.sl 12 ep2 0 vals.length) e11 e12 e13 e14 (grpA g) (.imm n.bg (n.aggs.map AggX.a)) (.int .i64 n.aggs.length) (.int .i64 k) .any e21,stH b rs n one DO .nil0 (.int .i64 0) ep (O.map rowX) (.pend true none) [.arr 2 0 [grpA g],.arr 2 0 [grpA g],.arr 4 ep2 (vals.map Val.a)]⟩)
  (aggG doF g.2)
  (fun vals o=>∃ ep2 e11 e12 e13 e14 e19 e20 e21,o=(.ext 2,⟨envH b rs n one DO (.ptr 11 0 0 0) (.sl 12 ep2 0 vals.length) e11 e12 e13 e14 (grpA g) (.imm n.bg (n.aggs.map AggX.a)) (.int .i64 n.aggs.length) e19 e20 e21,stH b rs n one DO .nil0 (.int .i64 0) ep (O.map rowX) (.pend true none) [.arr 2 0 [grpA g],.arr 2 0 [grpA g],.arr 4 ep2 (vals.map Val.a)]⟩))
  (fun _ o=>∃ env τ,o=(.ret,⟨env,stH b rs n one DO .nil0 (.int .i64 140) ep (O.map rowX) (.pend true none) τ⟩))
  (fun k a vals t hk' hy ht=>by
   obtain ⟨hl,ep2,e11,e12,e13,e14,e21,rfl⟩:=ht
   have hlt:((k:Int) < (n.aggs.length:Int)):=by omega
   have hgo:=fun σ=>hD.go k a σ hy
   have hz:=hD.fz
   have hnc:=hD.nc
   have hnz:∀ base σ m,fz false true base σ (m+3) n.a=n.a:=fun base σ m=>Ft.ft false true base σ m n rfl
   have hl1:vals.length+1≤most:=by unfold most;omega
   unfold aggG
   by_cases h0:(doF k a g.2).2=0
   ·rw[if_pos h0]
    simp only
    rw[h0]at hgo
    generalize (doF k a g.2).1=v at *
    simp only[Val.a,AggX.a]at hgo
    refine ⟨⟨envH b rs n one DO (.ptr 11 0 0 0) (.sl 12 (ep2+1) 0 (vals++[v]).length) (.int .i64 k) (freeze 13 (stH b rs n one DO .nil0 (.int .i64 0) ep (O.map rowX) (.pend true none) [.arr 2 0 [grpA g],.arr 2 0 [grpA g],.arr 4 (ep2+1) ((vals++[v]).map Val.a),.arr 2 0 [a.a],.arr 4 0 [v.a]]) (.ptr 13 0 0 0)) (freeze 13 (stH b rs n one DO .nil0 (.int .i64 0) ep (O.map rowX) (.pend true none) [.arr 2 0 [grpA g],.arr 2 0 [grpA g],.arr 4 (ep2+1) ((vals++[v]).map Val.a),.arr 2 0 [a.a],.arr 4 0 [v.a]]) (.ptr 14 0 0 0)) (.int .i64 0) (grpA g) (.imm n.bg (n.aggs.map AggX.a)) (.int .i64 n.aggs.length) (.int .i64 (k+1:Nat)) .any (.bool false),stH b rs n one DO .nil0 (.int .i64 0) ep (O.map rowX) (.pend true none) [.arr 2 0 [grpA g],.arr 2 0 [grpA g],.arr 4 (ep2+1) ((vals++[v]).map Val.a)]⟩,?_,by simp[hl];omega,ep2+1,_,_,_,_,_,rfl⟩
    simp[l_qby_0,envH,stH,hlt,hy,grpA,AggX.a,hgo,hz,hnc,hnz,append,hl1,wrap_lt hk' hm,roundEnd,freezeObj,Val.a]
   ·rw[if_neg h0]
    simp only
    generalize doF k a g.2=q at *
    obtain ⟨v,no⟩:=q
    simp only at h0 hgo
    simp only[Val.a,AggX.a]at hgo
    exact ⟨_,by simp[l_qby_0,envH,stH,hlt,hy,grpA,AggX.a,hgo,bne_t h0,hnc,Val.a];and_intros<;>rfl,_,_,rfl⟩) (fun vals t ht=>by
   obtain ⟨hl,ep2,e11,e12,e13,e14,e21,rfl⟩:=ht
   exact ⟨_,by simp[l_qby_0,envH,stH];and_intros<;>rfl,ep2,e11,e12,e13,e14,_,_,e21,rfl⟩) g.1 _ ⟨rfl,0,e11,e12,e13,e14,e21,rfl⟩
 cases hf:foldL (aggG doF g.2) n.aggs 0 g.1 with
 | inl vals=>
  rw[hf]at key
  obtain ⟨o,h1,ep2,f11,f12,f13,f14,f19,f20,f21,rfl⟩:=key
  exact .inl ⟨vals,rfl,ep2,f11,f12,f13,f14,f19,f20,f21,h1⟩
 | inr u=>
  rw[hf]at key
  obtain ⟨o,h1,env,τ,rfl⟩:=key
  exact .inr ⟨rfl,env,τ,h1⟩
end Go.AM
end
section
namespace Go.AM
open P
set_option maxHeartbeats 8000000
set_option maxRecDepth 8000
attribute [local simp] condRun_if when_if
abbrev env0(b:Bool)(rs:List (List Val))(n:LNX)(one:Bool)(DO:AVal):List AVal:=envH b rs n one DO .any .any .any .any .any .any .any .any .any .any .any .any
theorem round_H(b:Bool)(rs:List (List Val))(n:LNX)(one:Bool)(DO:AVal)(doF:Nat→AggX→List (List Val)→Val×Int)(g:List Val×List (List Val))(hD:DoOk n DO doF g.2)(ep:Nat)(O:List (List Val))(hn:n.aggs.length≤8000)(hk:g.1.length≤8000)(hO:O.length≤8000) :
  (∃ vals,foldL (aggG doF g.2) n.aggs 0 g.1=.inl vals∧∃ ep2,acall code 199 (.frs 9 []::(env0 b rs n one DO++[grpA g])) (stH b rs n one DO .nil0 (.int .i64 0) ep (O.map rowX) (.pend false none) [.arr 2 0 [grpA g]]) =
    some (.bool true,stH b rs n one DO .nil0 (.int .i64 0) (ep+1) (O.map rowX++[.sl 12 ep2 0 vals.length]) (.pend false none) [.arr 2 0 [grpA g],.arr 2 0 [grpA g],.arr 4 ep2 (vals.map Val.a)])) ∨
  (foldL (aggG doF g.2) n.aggs 0 g.1=.inr ()∧∃ τ,acall code 199 (.frs 9 []::(env0 b rs n one DO++[grpA g])) (stH b rs n one DO .nil0 (.int .i64 0) ep (O.map rowX) (.pend false none) [.arr 2 0 [grpA g]]) =
    some (.bool false,stH b rs n one DO .nil0 (.int .i64 140) ep (O.map rowX) (.pend false (some .ret)) τ)):=by
 rw[acall_round good (g:=r_exec_grouped_0) rfl]
 have hcl:∀ σ,acall code 114 [rowX g.1] σ=some (.frs 4 (g.1.map Val.a),σ):=fun σ=>by
  have:=Clone_api_Row_api_Value (enc:=Val.a) false g.1 (by unfold most;omega)
  show acall code I.qfl [.imm false (g.1.map Val.a)] σ=_
  rw[acall_nil c_qfl rfl,this];rfl
 have hag:(cellsOf n.a)[8]?=some (.imm n.bg (n.aggs.map AggX.a)):=rfl
 have hnc:ncells n.a=12∧isAgg n.a=true:=⟨rfl,rfl⟩
 have hm:O.length+1≤most:=by unfold most;omega
 rcases aggs_H b rs n one DO doF g hD ep O hn hk .any .any .any .any .any with ⟨vals,hf,ep2,f11,f12,f13,f14,f19,f20,f21,h⟩|⟨hf,env,τ,h⟩
 ·refine .inl ⟨vals,hf,ep2,?_⟩
  simp only[envH,stH,List.length_map,grpA]at h
  simp[r_exec_grouped_0,q_exec_grouped_0p,q_exec_grouped_0,putEnv,runRound,roundOver,stH,envH,hcl,hag,hnc,append,hm,grpA,h]
 ·refine .inr ⟨hf,?_⟩
  simp only[envH,stH,List.length_map,grpA]at h
  exact ⟨_,by simp[r_exec_grouped_0,q_exec_grouped_0p,q_exec_grouped_0,putEnv,runRound,roundOver,stH,envH,hcl,hag,hnc,append,hm,grpA,h];rfl⟩
end Go.AM
end
section
namespace Go.AM
open P
set_option maxHeartbeats 8000000
set_option maxRecDepth 8000
attribute [local simp] condRun_if when_if
def grpG(n:LNX)(doF:Nat→AggX→List (List Val)→Val×Int)(_:Nat)(g:List Val×List (List Val))(O:List (List Val)):List (List Val)⊕Unit:=
 match foldL (aggG doF g.2) n.aggs 0 g.1 with
 | .inl vals=>.inl (O++[vals])
 | .inr _=>.inr ()
abbrev yH(b:Bool)(rs:List (List Val))(n:LNX)(one:Bool)(DO:AVal):AVal:=.yld 9 199 (env0 b rs n one DO)
theorem loop_H(b:Bool)(rs:List (List Val))(n:LNX)(one:Bool)(DO:AVal)(doF:Nat→AggX→List (List Val)→Val×Int)(G:List (List Val×List (List Val)))(hD:∀ g∈G,DoOk n DO doF g.2)(hn:n.aggs.length≤8000)(hk:∀ g∈G,g.1.length≤8000)(hG:G.length≤8000)(hG0:G≠[]) :
  (∃ O,foldL (grpG n doF) G 0 []=.inl O∧∃ ep,rounds code 10 [5,10,11] l_qca_0 ⟨[yH b rs n one DO,.ptr 6 0 0 0,.ptr 7 0 0 0,.ptr 8 0 0 0,.imm false (G.map grpA),.any,.bool false,.imm false (G.map grpA),.int .i64 G.length,.int .i64 0,.any,.any],stH b rs n one DO .nil0 (.int .i64 0) 0 [] (.pend false none) []⟩ =
    some (.ext 0,⟨[yH b rs n one DO,.ptr 6 0 0 0,.ptr 7 0 0 0,.ptr 8 0 0 0,.imm false (G.map grpA),.any,.bool false,.imm false (G.map grpA),.int .i64 G.length,.int .i64 G.length,.bool false,.any],stH b rs n one DO .nil0 (.int .i64 0) ep (O.map rowX) (.pend false none) []⟩)) ∨
  (foldL (grpG n doF) G 0 []=.inr ()∧∃ env ep C τ,rounds code 10 [5,10,11] l_qca_0 ⟨[yH b rs n one DO,.ptr 6 0 0 0,.ptr 7 0 0 0,.ptr 8 0 0 0,.imm false (G.map grpA),.any,.bool false,.imm false (G.map grpA),.int .i64 G.length,.int .i64 0,.any,.any],stH b rs n one DO .nil0 (.int .i64 0) 0 [] (.pend false none) []⟩ =
    some (.ret,⟨env,stH b rs n one DO .nil0 (.int .i64 140) ep C (.pend false (some .ret)) τ⟩)):=by
 have hm:G.length≤most:=by unfold most;omega
 obtain ⟨g0,hg0⟩:∃ g0,g0∈G:=List.exists_mem_of_ne_nil G hG0
 have hz:=(hD g0 hg0).fz
 have hnc:=(hD g0 hg0).nc
 have hnz:∀ base σ m,fz false true base σ (m+3) n.a=n.a:=fun base σ m=>Ft.ft false true base σ m n rfl
 have key:=rounds_list (base:=10) (clr:=[5,10,11]) (b:=l_qca_0) G
  (fun k (O:List (List Val))=>⟨[yH b rs n one DO,.ptr 6 0 0 0,.ptr 7 0 0 0,.ptr 8 0 0 0,.imm false (G.map grpA),.any,.bool false,.imm false (G.map grpA),.int .i64 G.length,.int .i64 k,.any,.any],stH b rs n one DO .nil0 (.int .i64 0) k (O.map rowX) (.pend false none) []⟩)
  (fun k O=>O.length=k) (grpG n doF)
  (fun O=>(.ext 0,⟨[yH b rs n one DO,.ptr 6 0 0 0,.ptr 7 0 0 0,.ptr 8 0 0 0,.imm false (G.map grpA),.any,.bool false,.imm false (G.map grpA),.int .i64 G.length,.int .i64 G.length,.bool false,.any],stH b rs n one DO .nil0 (.int .i64 0) G.length (O.map rowX) (.pend false none) []⟩))
  (fun (_:Unit) o=>∃ env ep C τ,o=(.ret,⟨env,stH b rs n one DO .nil0 (.int .i64 140) ep C (.pend false (some .ret)) τ⟩))
  (fun k g O hk' hy hO=>by
   have hlt:((k:Int) < (G.length:Int)):=by omega
   have hgm:=List.mem_of_getElem? hy
   have hR:=round_H b rs n one DO doF g (hD g hgm) k O hn (hk g hgm) (by omega)
   unfold grpG
   rcases hR with ⟨vals,hf,ep2,h⟩|⟨hf,τ,h⟩
   ·rw[hf]
    refine ⟨?_,by simp[hO]⟩
    have htk:(vals.map Val.a).take vals.length=vals.map Val.a:=List.take_of_length_le (by simp)
    simp only[env0,envH,stH,grpA,List.length_map,List.length_append,List.length_cons,List.length_nil,Nat.zero_add,List.cons_append,List.nil_append]at h
    simp[l_qca_0,yH,envH,stH,hlt,hy,grpA,h,pendAt,roundEnd,freezeObj,fz_yld,hz,hnz,wrap_lt hk' hm]
    rfl
   ·rw[hf]
    simp only[env0,envH,stH,grpA,List.length_map,List.cons_append,List.nil_append]at h
    exact ⟨_,by simp[l_qca_0,yH,envH,stH,hlt,hy,grpA,h,pendAt];rfl,_,k,O.map rowX,τ,by simp only[stH,List.length_map];rfl⟩)
  (fun O _=>by simp[l_qca_0]) [] rfl
 simp only[List.map_nil,show ((0:Nat):Int)=0 from rfl]at key
 cases hf:foldL (grpG n doF) G 0 [] with
 | inl O=>
  rw[hf]at key
  exact .inl ⟨O,rfl,G.length,key.2⟩
 | inr u=>
  rw[hf]at key
  obtain ⟨o,h1,env,ep,C,τ,rfl⟩:=key
  exact .inr ⟨rfl,env,ep,C,τ,h1⟩
theorem esorted_X(b:Bool)(rs:List (List Val))(hn:rs.length≤8000)(hr:∀ r∈rs,okR r=true):pcall I.qcs [.imm b (rs.map rowX)]=some (.tup [.imm false ((sortC cmpR rs).map rowX),.int .i64 0]):=by
 rw[pcall_eq c_qcs rfl]
 have h:=fun b=>Sorted_X b rs hn hr
 have hl:¬((8000:Int) < rs.length):=by omega
 simp[f_qcs,b_qcs,h,hl]
def groupedF(n:LNX)(doF:Nat→AggX→List (List Val)→Val×Int)(rs:List (List Val)):List (List Val)×Int:=
 match foldL (grpG n doF) (groupsF n.keys rs) 0 [] with
 | .inl O=>(sortC cmpR O,0)
 | .inr _=>([],140)
theorem groups_call(x y z:AVal)(hx:ncells x=1∧isAgg x=false)(hy:ncells y=1∧isAgg y=false)(hz:ncells z=1∧isAgg z=false)(σ:Store) :
  acall code I.qbz [x,y,z] σ=some (.fn 280 [] [.ptr σ.length 0 0 0,.ptr (σ.length+1) 0 0 0,.ptr (σ.length+2) 0 0 0],σ++[.arr 1 0 [x],.arr 1 0 [y],.arr 1 0 [z]]):=by
 rw[acall_keep c_qbz rfl]
 simp[f_qbz,b_qbz,hx,hy,hz]
theorem foldL_len{n:LNX}{doF:Nat→AggX→List (List Val)→Val×Int}:∀ {l:List (List Val×List (List Val))} {k:Nat} {O O':List (List Val)},foldL (grpG n doF) l k O=.inl O'→O'.length=O.length+l.length
 | [],k,O,O',h=>by cases h;simp
 | g::l,k,O,O',h=>by
  simp only[foldL]at h
  unfold grpG at h
  cases hf:foldL (aggG doF g.2) n.aggs 0 g.1 with
  | inl vals=>
   rw[hf]at h
   have:=foldL_len (l:=l) h
   simp at this ⊢;omega
  | inr u=>rw[hf]at h;cases h
theorem grouped_v(b:Bool)(rs:List (List Val))(n:LNX)(one:Bool)(DO:AVal)(doF:Nat→AggX→List (List Val)→Val×Int)(hrs:rs.length≤8000)(hr:∀ r∈rs,okR r=true)(hh:∀ r∈rs,hasC r n.keys=true)(hc:n.keys.length≤16)(h0:∀ c∈n.keys,0≤c)
  (hG0:groupsF n.keys rs≠[]) (hk:∀ g∈groupsF n.keys rs,g.1.length≤8000) (hD:∀ g∈groupsF n.keys rs,DoOk n DO doF g.2) (hDs:fz true false 0 [] 20 DO=DO) (hn:n.aggs.length≤8000)
  (hO:∀ O,foldL (grpG n doF) (groupsF n.keys rs) 0 []=.inl O→∀ r∈O,okR r=true) :
  pcall I.qby [.imm b (rs.map rowX),n.a,.bool one,DO]=some (.tup [.imm false ((groupedF n doF rs).1.map rowX),.int .i64 (groupedF n doF rs).2]):=by
 rw[pcall_eq c_qby rfl]
 have hGl:=groupsF_len n.keys rs
 have hgr:=fun b=>Groups_v b n.by' rs n.keys hrs hr hh hc h0
 have hL:=loop_H b rs n one DO doF (groupsF n.keys rs) hD hn hk (by omega) hG0
 obtain ⟨g0,hg0⟩:∃ g0,g0∈groupsF n.keys rs:=List.exists_mem_of_ne_nil _ hG0
 have hz:=(hD g0 hg0).fz
 have hnc:=(hD g0 hg0).nc
 have hnz:∀ m,fz true false 0 [] (m+3) n.a=n.a:=fun m=>Ft.ft true false 0 [] m n rfl
 have hkey:(cellsOf n.a)[7]?=some (.imm n.by' (intC n.keys)):=rfl
 have hnn:ncells n.a=12∧isAgg n.a=true:=⟨rfl,rfl⟩
 have hcall:=fun σ=>groups_call (.imm b (rs.map rowX)) (.imm n.by' (intC n.keys)) (.bool one) ⟨rfl,rfl⟩ ⟨rfl,rfl⟩ ⟨rfl,rfl⟩ σ
 unfold groupedF
 have hl0:(((groupsF n.keys rs).length:Int) == 0)=false:=by
  have:(groupsF n.keys rs).length≠0:=fun h=>hG0 (List.eq_nil_of_length_eq_zero h)
  rw[beq_eq_false_iff_ne];omega
 rcases hL with ⟨O,hf,ep,h⟩|⟨hf,env,ep,C,τ,h⟩
 ·rw[hf]
  have hOl:O.length≤8000:=by
   have:=foldL_len hf
   simp at this;omega
  have hs:=fun b=>esorted_X b O hOl (hO O hf)
  have hit:acall code 280 [yH b rs n one DO,.ptr 6 0 0 0,.ptr 7 0 0 0,.ptr 8 0 0 0] (stH b rs n one DO .nil0 (.int .i64 0) 0 [] (.pend false none) []) =
    some (.tup [],stH b rs n one DO .nil0 (.int .i64 0) ep (O.map rowX) (.pend false none) []):=by
   rw[acall_keep c_qca rfl]
   simp only[yH,stH,List.length_nil,List.length_map]at h
   simp[f_qca,b_qca,hgr,hl0,h,yH,stH]
  simp only[yH,env0,envH,stH,List.length_nil,List.length_map]at hit
  simp[f_qby,b_qby,hnz,hDs,hnc,hkey,hnn,hcall,hit,hs,jumped]
 ·rw[hf]
  have hit:acall code 280 [yH b rs n one DO,.ptr 6 0 0 0,.ptr 7 0 0 0,.ptr 8 0 0 0] (stH b rs n one DO .nil0 (.int .i64 0) 0 [] (.pend false none) []) =
    some (.tup [],stH b rs n one DO .nil0 (.int .i64 140) ep C (.pend false (some .ret)) τ):=by
   rw[acall_keep c_qca rfl]
   simp only[yH,stH,List.length_nil,List.length_map]at h
   simp[f_qca,b_qca,hgr,hl0,h,yH,stH]
  simp only[yH,env0,envH,stH,List.length_nil]at hit
  simp[f_qby,b_qby,hnz,hDs,hnc,hkey,hnn,hcall,hit,jumped]
end Go.AM
end
section
namespace Go.AM
open P
set_option maxHeartbeats 8000000
set_option maxRecDepth 8000
attribute [local simp] condRun_if when_if
def truthF(e:List EN)(kinds:List Int):Bool:=(kindF e kinds).2 == 0&&((kindF e kinds).1 == 0 || (kindF e kinds).1 == 1)
theorem truth18_spec(b:Bool)(e:List EN)(bk:Bool)(kinds:List Int)(hn:e.length≤most)(hk:kinds.length≤most) :
  pcall I.qem [.agg [.imm b (e.map EN.a)],.imm bk (intsA kinds)]=some (.bool (truthF e kinds)):=by
 rw[pcall_eq c_qem rfl]
 have h:=fun b bk=>kind_spec b e bk kinds hn hk
 unfold truthF
 simp[f_qem,b_qem,h]
 repeat' (split<;>(try simp_all))
abbrev laidO(nd c1 c2:AVal)(n:LNX)(a b r:AVal):Obj:=.arr 18 0 [.agg [nd,c1,c2,.int .i64 n.op,.int .i64 n.l,.int .i64 n.r,.int .i64 n.tab,.imm n.bk (n.kinds.map (.int .i64)),.bool n.left,.imm n.bc (n.cond.map EN.a),.imm n.by' (n.keys.map (.int .i64)),.imm n.bg (n.aggs.map AggX.a),.imm n.bi (n.items.map ExX.a),.imm n.bo (n.ords.map ordA),.int .i64 n.limit,a,b,r]]
def scanF(n:LNX):Bool:=!(n.kinds.any fun k=>decide (k < 1) || decide (3 < k))&&decide (0≤n.tab)&&decide (n.tab < 4)&&decide (0 < n.kinds.length)&&decide (n.kinds.length≤4)
def inputF(n:LNX):Bool:=!(n.kinds.any fun k=>decide (k < 0) || decide (4 < k))&&decide (0≤n.tab)&&decide (n.tab < 30)&&decide (0 < n.kinds.length)&&decide (n.kinds.length≤16)
theorem scan1_spec(k:Int):pcall I.qeg [.int .i64 k]=some (.bool (decide (k < 1) || decide (3 < k))):=by
 rw[pcall_eq c_qeg rfl]
 simp[f_qeg,b_qeg]
 repeat' (split<;>(try simp_all))
 all_goals omega
theorem input1_spec(k:Int):pcall I.qea [.int .i64 k]=some (.bool (decide (k < 0) || decide (4 < k))):=by
 rw[pcall_eq c_qea rfl]
 simp[f_qea,b_qea]
 repeat' (split<;>(try simp_all))
 all_goals omega
theorem scan_spec(nd c1 c2:AVal)(n:LNX)(a b r:AVal)(τ:Store)(hk:n.kinds.length≤most) :
  acall code I.qef [.ptr 0 0 0 0] (laidO nd c1 c2 n a b r::τ)=some (.bool (scanF n),laidO nd c1 c2 n a b (.imm n.bk (n.kinds.map (.int .i64)))::τ):=by
 rw[acall_keep c_qef rfl]
 have hc:=fun b=>Contains_int_int (enc:=.int .i64) (b:=b) (l:=n.kinds) (f:=.fn 272 [] []) (p:=fun k=>decide (k < 1) || decide (3 < k)) hk (fun _=>⟨rfl,rfl⟩) (fun σ=>by simp) (fun k _=>by simp[scan1_spec])
 unfold scanF
 cases hA:n.kinds.any fun k=>decide (k < 1) || decide (3 < k)<;>rw[hA]at hc<;>simp[f_qef,b_qef,hc]
 repeat' (split<;>(try simp_all))
 all_goals omega
theorem input_spec(nd c1 c2:AVal)(n:LNX)(a b r:AVal)(τ:Store)(hk:n.kinds.length≤most) :
  acall code I.qdz [.ptr 0 0 0 0] (laidO nd c1 c2 n a b r::τ)=some (.bool (inputF n),laidO nd c1 c2 n a b (.imm n.bk (n.kinds.map (.int .i64)))::τ):=by
 rw[acall_keep c_qdz rfl]
 have hc:=fun b=>Contains_int_int (enc:=.int .i64) (b:=b) (l:=n.kinds) (f:=.fn 273 [] []) (p:=fun k=>decide (k < 0) || decide (4 < k)) hk (fun _=>⟨rfl,rfl⟩) (fun σ=>by simp) (fun k _=>by simp[input1_spec])
 unfold inputF
 cases hA:n.kinds.any fun k=>decide (k < 0) || decide (4 < k)<;>rw[hA]at hc<;>simp[f_qdz,b_qdz,hc]
 repeat' (split<;>(try simp_all))
 all_goals omega
theorem filter_spec(nd c1 c2:AVal)(n:LNX)(ba:Bool)(a:List Int)(b r:AVal)(τ:Store)(hc:n.cond.length≤most)(ha:a.length≤most) :
  acall code I.qdw [.ptr 0 0 0 0] (laidO nd c1 c2 n (.imm ba (intsA a)) b r::τ)=some (.bool (truthF n.cond a),laidO nd c1 c2 n (.imm ba (intsA a)) b (.imm ba (intsA a))::τ):=by
 rw[acall_keep c_qdw rfl]
 have h:=fun b bk=>truth18_spec b n.cond bk a hc ha
 simp[f_qdw,b_qdw,h]
theorem keeps_spec(nd c1 c2:AVal)(n:LNX)(ba:Bool)(a:List Int)(b r:AVal)(τ:Store) :
  acall code I.qec [.ptr 0 0 0 0] (laidO nd c1 c2 n (.imm ba (intsA a)) b r::τ)=some (.bool true,laidO nd c1 c2 n (.imm ba (intsA a)) b (.imm ba (intsA a))::τ):=by
 rw[acall_keep c_qec rfl]
 simp[f_qec,b_qec]
theorem join_spec(nd c1 c2:AVal)(n:LNX)(ba bb:Bool)(a b:List Int)(r:AVal)(τ:Store)(hc:n.cond.length≤most)(ha:a.length+b.length≤most) :
  acall code I.qeb [.ptr 0 0 0 0] (laidO nd c1 c2 n (.imm ba (intsA a)) (.imm bb (intsA b)) r::τ)=some (.bool (truthF n.cond (a++b)),laidO nd c1 c2 n (.imm ba (intsA a)) (.imm bb (intsA b)) (.imm false (intsA (a++b)))::τ):=by
 rw[acall_keep c_qeb rfl]
 have h:=fun b' bk=>truth18_spec b' n.cond bk (a++b) hc (by simpa using ha)
 have hcc:∀ t,pcall I.qft [.imm t [.imm ba (intsA a),.imm bb (intsA b)]]=some (.imm false (intsA (a++b))):=fun t=>by
  have:=Concat_int_int (enc:=.int .i64) t [⟨ba,a⟩,⟨bb,b⟩] (by simpa using ha) (by simp[most])
  simpa using this
 simp only[intsA,List.map_append]at h hcc
 simp[f_qeb,b_qeb,h,hcc]
def sortF(n:LNX)(a:List Int):Bool:=!(n.ords.any fun o=>decide (o.1 < 0) || decide ((a.length:Int)≤o.1))&&decide (n.ords.length≤3)&&decide (-1≤n.limit)&&decide (n.limit≤2147483647)
theorem sort1_spec(o:Int×Bool)(t t':Bool)(x0 x1 x2 x3 x4 x5 x6 x7 x8 x9 x10 x11 x12 x13 x14 x16 x17:AVal)(ba:Bool)(a:List Int) :
  pcall I.qei [ordA o,.cptr t (.cptr t' (.agg [x0,x1,x2,x3,x4,x5,x6,x7,x8,x9,x10,x11,x12,x13,x14,.imm ba (intsA a),x16,x17]) 0) 0]=some (.bool (decide (o.1 < 0) || decide ((a.length:Int)≤o.1))):=by
 rw[pcall_eq c_qei rfl]
 obtain ⟨c,d⟩:=o
 cases t<;>cases t'<;>simp[f_qei,b_qei,ordA]<;>(repeat' (split<;>(try simp_all)))<;>omega
theorem lsort_spec(nd c1 c2:AVal)(n:LNX)(ba:Bool)(a:List Int)(b r:AVal)(τ:Store)(ho:n.ords.length≤most) :
  ∃ X,acall code I.qeh [.ptr 0 0 0 0] (laidO nd c1 c2 n (.imm ba (intsA a)) b r::τ)=some (.bool (sortF n a),laidO nd c1 c2 n (.imm ba (intsA a)) b (.imm ba (intsA a))::(τ++[X])):=by
 rw[acall_keep c_qeh rfl]
 refine ⟨.arr 1 0 [.ptr 0 0 0 0],?_⟩
 unfold sortF
 have hC:=Contains_api_Ord_api_Ord (enc:=ordA) (b:=n.bo) (l:=n.ords) (f:=snap (laidO nd c1 c2 n (.imm ba (intsA a)) b (.imm ba (intsA a))::(τ++[.arr 1 0 [.ptr 0 0 0 0]])) (.fn 277 [] [.ptr (τ.length+1) 0 0 0])) (p:=fun o=>decide (o.1 < 0) || decide ((a.length:Int)≤o.1)) ho (fun _=>⟨rfl,rfl⟩) (fun σ=>snap_idem _ _ _) (fun o _=>by
  have hz:∀ σ,fz true false 0 σ 20 (ordA o)=ordA o:=fun σ=>Fx.fx true false 0 σ 17 o
  simp[hz,sort1_spec])
 simp at hC
 cases hA:(n.ords.any fun o=>decide (o.1 < 0) || decide ((a.length:Int)≤o.1))<;>rw[hA]at hC<;>simp[f_qeh,b_qeh,hC]
 clear hC
 repeat' (split<;>(try simp_all))
 all_goals omega
end Go.AM
end
section
namespace Go.AM
open P
set_option maxHeartbeats 8000000
set_option maxRecDepth 8000
attribute [local simp] condRun_if when_if
@[simp] theorem set_concat{α:Type}(τ:List α)(a b:α):(τ++[a]).set τ.length b=τ++[b]:=by
 rw[List.set_append_right _ _ (Nat.le_refl _)];simp
@[simp] theorem set_concat2{α:Type}(τ:List α)(a c b:α):(τ++[a,c]).set τ.length b=τ++[b,c]:=by
 rw[List.set_append_right _ _ (Nat.le_refl _)];simp
@[simp] theorem set_concat2'{α:Type}(τ:List α)(a c b:α):(τ++[a,c]).set (τ.length+1) b=τ++[a,b]:=by
 rw[List.set_append_right _ _ (by omega)];simp
@[simp] theorem set_concat3{α:Type}(τ:List α)(a c d b:α):(τ++[a,c,d]).set (τ.length+1) b=τ++[a,b,d]:=by
 rw[List.set_append_right _ _ (by omega)];simp
@[simp] theorem set_concat3'{α:Type}(τ:List α)(a c d b:α):(τ++[a,c,d]).set (τ.length+2) b=τ++[a,c,b]:=by
 rw[List.set_append_right _ _ (by omega)];simp
@[simp] theorem get_concat2{α:Type}(τ:List α)(a b:α):(τ++[a,b])[τ.length]?=some a:=by simp
@[simp] theorem get_concat2'{α:Type}(τ:List α)(a b:α):(τ++[a,b])[τ.length+1]?=some b:=by simp
@[simp] theorem get_concat3{α:Type}(τ:List α)(a b c:α):(τ++[a,b,c])[τ.length+1]?=some b:=by simp
@[simp] theorem get_concat3'{α:Type}(τ:List α)(a b c:α):(τ++[a,b,c])[τ.length+2]?=some c:=by simp
@[simp] theorem take_concat1{α:Type}(τ:List α)(a:α)(t:List α):List.take (τ.length+1) (τ++a::t)=τ++[a]:=by
 rw[List.take_append];simp
 exact List.take_of_length_le (by omega)
@[simp] theorem take_concat2{α:Type}(τ:List α)(a b:α)(t:List α):List.take (τ.length+2) (τ++a::b::t)=τ++[a,b]:=by
 rw[List.take_append];simp
 exact List.take_of_length_le (by omega)
abbrev laidX(bn:Bool)(nodes:List LNX)(ep1 m1 ep2 m2:Nat)(n:LNX)(a b r:AVal):Obj:=laidO (.imm bn (nodes.map LNX.a)) (.sl 1 ep1 0 m1) (.sl 2 ep2 0 m2) n a b r
abbrev Fzs(τ:Store):Prop:=∀ base σ,τ.map (freezeObj base σ)=τ
def itemsF(a:List Int):List ExX→Option (List Int)
 | []=>some []
 | e::r=>if (kindF e.l a).2=0 then (itemsF a r).map ((kindF e.l a).1::·) else none
def itemG(a:List Int)(_:Nat)(e:ExX)(acc:Nat×List Int):Nat×List Int⊕Unit:=if (kindF e.l a).2=0 then .inl (acc.1+1,acc.2++[(kindF e.l a).1]) else .inr ()
theorem itemG_fold(a:List Int):∀ (l:List ExX) (k ep:Nat) (acc:List Int),foldL (itemG a) l k (ep,acc)=match itemsF a l with
  | some r=>.inl (ep+l.length,acc++r)
  | none=>.inr ()
 | [],k,ep,acc=>by simp[foldL,itemsF]
 | e::l,k,ep,acc=>by
  by_cases h:(kindF e.l a).2=0
  ·simp only[foldL,itemG,itemsF,if_pos h]
   rw[itemG_fold a l (k+1) (ep+1)]
   cases itemsF a l<;>simp[Nat.add_assoc,Nat.add_comm 1]
  ·simp only[foldL,itemG,itemsF,if_neg h]
theorem project_spec(bn:Bool)(nodes:List LNX)(ep1 m1 ep2 m2:Nat)(n:LNX)(ba:Bool)(a:List Int)(r:AVal)(τ:Store)(hτ:Fzs τ)(hl:2≤τ.length)(hi:n.items.length≤most)(he:∀ e∈n.items,e.l.length≤most)(ha:a.length≤most) :
  match itemsF a n.items with
  | none=>∃ σ',acall code I.qee [.ptr 0 0 0 0] (laidX bn nodes ep1 m1 ep2 m2 n (.imm ba (intsA a)) .nil0 r::τ)=some (.bool false,σ')
  | some ks=>acall code I.qee [.ptr 0 0 0 0] (laidX bn nodes ep1 m1 ep2 m2 n (.imm ba (intsA a)) .nil0 r::τ) =
    some (.bool (decide (0 < ks.length)),laidX bn nodes ep1 m1 ep2 m2 n (.imm ba (intsA a)) .nil0 (.sl (τ.length+1) n.items.length 0 ks.length)::(τ++[.arr 1 n.items.length (intsA ks)])):=by
 have h:=rounds_list (base:=τ.length+2) (clr:=[1,2,3,4,8,9]) (b:=l_qee_0) n.items
  (fun k (s:Nat×List Int)=>⟨[.ptr 0 0 0 0,.any,.any,.any,.any,.imm n.bi (n.items.map ExX.a),.int .i64 n.items.length,.int .i64 k,.any,.any],laidX bn nodes ep1 m1 ep2 m2 n (.imm ba (intsA a)) .nil0 (.sl (τ.length+1) s.1 0 s.2.length)::(τ++[.arr 1 s.1 (intsA s.2)])⟩)
  (fun k s=>s.2.length≤k) (itemG a)
  (fun s=>(.ext 0,⟨[.ptr 0 0 0 0,.any,.any,.any,.any,.imm n.bi (n.items.map ExX.a),.int .i64 n.items.length,.int .i64 n.items.length,.bool false,.any],laidX bn nodes ep1 m1 ep2 m2 n (.imm ba (intsA a)) .nil0 (.sl (τ.length+1) s.1 0 s.2.length)::(τ++[.arr 1 s.1 (intsA s.2)])⟩))
  (fun _ o=>∃ s,o=(.ret,s)∧results s [.env 1]=some (.bool false))
  (fun k e s hk hy hs=>by
   obtain ⟨ep,acc⟩:=s
   simp only at hs
   have hlt:((k:Int) < (n.items.length:Int)):=by omega
   have hkd:=fun b bk=>kind_spec b e.l bk a (he e (List.mem_of_getElem? hy)) ha
   have h5:acc.length+1≤most:=by omega
   have q1:1 < τ.length+2:=by omega
   have q2:2 < τ.length+2:=by omega
   unfold itemG
   by_cases h0:(kindF e.l a).2=0
   ·rw[if_pos h0]
    refine ⟨?_,by simp;omega⟩
    simp[l_qee_0,hlt,hy,ExX.a,hkd,h0,append,h5,wrap_lt hk hi,roundEnd,freezeObj,hτ,q1,q2]
   ·rw[if_neg h0]
    exact ⟨_,by simp[l_qee_0,hlt,hy,ExX.a,hkd,h0,bne_t h0];rfl,_,rfl,by simp⟩)
  (fun s hs=>by simp[l_qee_0]) (0,[]) (Nat.le_refl _)
 rw[itemG_fold]at h
 cases hq:itemsF a n.items with
 | none=>
  rw[hq]at h
  obtain ⟨o,h1,s,rfl,h2⟩:=h
  refine ⟨s.st,?_⟩
  rw[acall_keep c_qee rfl]
  simp at h1
  simp[f_qee,b_qee,h1,-results,h2]
 | some ks=>
  rw[hq]at h
  have h1:=h.2
  rw[acall_keep c_qee rfl]
  simp at h1
  simp[f_qee,b_qee,h1]
def unionF:List Int→List Int→Option (List Int)
 | [],_=>some []
 | _::_,[]=>none
 | k::a,o::b=>if o≠0∧o≠(if k=0 then o else k) then none else (unionF a b).map ((if k=0 then o else k)::·)
def unionG(b:List Int)(i:Nat)(k:Int)(acc:Nat×List Int):Nat×List Int⊕Unit:=
 if b.getD i 0≠0∧b.getD i 0≠(if k=0 then b.getD i 0 else k) then .inr () else .inl (acc.1+1,acc.2++[if k=0 then b.getD i 0 else k])
theorem unionG_fold(b:List Int):∀ (l:List Int) (k ep:Nat) (acc:List Int),l.length=(b.drop k).length→foldL (unionG b) l k (ep,acc)=match unionF l (b.drop k) with
  | some r=>.inl (ep+l.length,acc++r)
  | none=>.inr ()
 | [],k,ep,acc,h=>by
  cases hb:b.drop k with
  | nil=>simp[foldL,unionF]
  | cons o t=>rw[hb]at h;cases h
 | x::l,k,ep,acc,h=>by
  cases hb:b.drop k with
  | nil=>rw[hb]at h;cases h
  | cons o t=>
   have ho:b.getD k 0=o:=by
    have:=congrArg (·[0]?) hb
    simp at this
    simp[List.getD_eq_getElem?_getD,this]
   have ht:b.drop (k+1)=t:=by
    have:=congrArg List.tail hb
    simpa [List.tail_drop] using this
   rw[hb]at h
   have ih:=fun ep acc=>unionG_fold b l (k+1) ep acc (by rw[ht];simpa using h)
   rw[ht]at ih
   by_cases hc:o≠0∧o≠(if x=0 then o else x)
   ·simp only[foldL,unionG,unionF,ho,if_pos hc]
   ·simp only[foldL,unionG,unionF,ho,if_neg hc,ih]
    cases unionF l t<;>simp[Nat.add_assoc,Nat.add_comm 1]
theorem union_spec(bn:Bool)(nodes:List LNX)(ep1 m1 ep2 m2:Nat)(n:LNX)(ba bb:Bool)(a b:List Int)(r:AVal)(τ:Store)(hτ:Fzs τ)(hl:2≤τ.length)(ha:a.length≤most)(hlen:a.length=b.length) :
  match unionF a b with
  | none=>∃ σ',acall code I.qek [.ptr 0 0 0 0] (laidX bn nodes ep1 m1 ep2 m2 n (.imm ba (intsA a)) (.imm bb (intsA b)) r::τ)=some (.bool false,σ')
  | some ks=>acall code I.qek [.ptr 0 0 0 0] (laidX bn nodes ep1 m1 ep2 m2 n (.imm ba (intsA a)) (.imm bb (intsA b)) r::τ) =
    some (.bool true,laidX bn nodes ep1 m1 ep2 m2 n (.imm ba (intsA a)) (.imm bb (intsA b)) (.sl (τ.length+1) a.length 0 ks.length)::(τ++[.arr 1 a.length (intsA ks)])):=by
 have h:=rounds_list (base:=τ.length+2) (clr:=[1,2,3,4,9,10,11]) (b:=l_qek_0) a
  (fun k (s:Nat×List Int)=>⟨[.ptr 0 0 0 0,.any,.any,.any,.any,.bool false,.imm ba (intsA a),.int .i64 a.length,.int .i64 k,.any,.any,.any],laidX bn nodes ep1 m1 ep2 m2 n (.imm ba (intsA a)) (.imm bb (intsA b)) (.sl (τ.length+1) s.1 0 s.2.length)::(τ++[.arr 1 s.1 (intsA s.2)])⟩)
  (fun k s=>s.2.length≤k) (unionG b)
  (fun s=>(.ext 0,⟨[.ptr 0 0 0 0,.any,.any,.any,.any,.bool false,.imm ba (intsA a),.int .i64 a.length,.int .i64 a.length,.bool false,.any,.any],laidX bn nodes ep1 m1 ep2 m2 n (.imm ba (intsA a)) (.imm bb (intsA b)) (.sl (τ.length+1) s.1 0 s.2.length)::(τ++[.arr 1 s.1 (intsA s.2)])⟩))
  (fun _ o=>∃ s,o=(.ret,s)∧results s [.env 1]=some (.bool false))
  (fun k x s hk hy hs=>by
   obtain ⟨ep,acc⟩:=s
   simp only at hs
   have hlt:((k:Int) < (a.length:Int)):=by omega
   have hb:b[k]?=some (b.getD k 0):=by
    have:k < b.length:=by omega
    simp[List.getD_eq_getElem?_getD,this]
   have h5:acc.length+1≤most:=by omega
   unfold unionG
   generalize b.getD k 0=o at *
   by_cases hx:x=0
   ·subst hx
    simp only[if_true]
    rw[if_neg (by simp)]
    refine ⟨?_,by simp;omega⟩
    by_cases ho:o=0
    ·subst ho
     simp[l_qek_0,hlt,hy,hb,append,h5,wrap_lt hk ha,roundEnd]
    ·simp[l_qek_0,hlt,hy,hb,ho,bne_t ho,append,h5,wrap_lt hk ha,roundEnd]
   ·simp only[if_neg hx]
    by_cases ho:o=0
    ·subst ho
     rw[if_neg (by simp)]
     refine ⟨?_,by simp;omega⟩
     simp[l_qek_0,hlt,hy,hb,hx,beq_f hx,append,h5,wrap_lt hk ha,roundEnd]
    ·by_cases hox:o=x
     ·subst hox
      rw[if_neg (by simp)]
      refine ⟨?_,by simp;omega⟩
      simp[l_qek_0,hlt,hy,hb,hx,beq_f hx,bne_t hx,append,h5,wrap_lt hk ha,roundEnd]
     ·rw[if_pos ⟨ho,hox⟩]
      exact ⟨_,by simp[l_qek_0,hlt,hy,hb,hx,beq_f hx,ho,bne_t ho,bne_t hox];rfl,_,rfl,by simp⟩)
  (fun s hs=>by simp[l_qek_0]) (0,[]) (Nat.le_refl _)
 rw[unionG_fold b a 0 0 [] (by simpa using hlen)]at h
 rw[List.drop_zero]at h
 have hne:((a.length:Int) != (b.length:Int))=false:=by simp[hlen]
 cases hq:unionF a b with
 | none=>
  rw[hq]at h
  obtain ⟨o,h1,s,rfl,h2⟩:=h
  refine ⟨s.st,?_⟩
  rw[acall_keep c_qek rfl]
  simp at h1
  simp[f_qek,b_qek,hne,h1,-results,h2]
 | some ks=>
  rw[hq]at h
  have h1:=h.2
  rw[acall_keep c_qek rfl]
  simp at h1
  simp[f_qek,b_qek,hne,h1]
theorem union_bad(bn:Bool)(nodes:List LNX)(ep1 m1 ep2 m2:Nat)(n:LNX)(ba bb:Bool)(a b:List Int)(r:AVal)(τ:Store)(hlen:a.length≠b.length) :
  ∃ σ',acall code I.qek [.ptr 0 0 0 0] (laidX bn nodes ep1 m1 ep2 m2 n (.imm ba (intsA a)) (.imm bb (intsA b)) r::τ)=some (.bool false,σ'):=by
 have hne:((a.length:Int) != (b.length:Int))=true:=by simp;omega
 rw[acall_keep c_qek rfl]
 exact ⟨_,by simp[f_qek,b_qek,hne];rfl⟩
end Go.AM
end
section
namespace Go.AM
open P
set_option maxHeartbeats 16000000
set_option maxRecDepth 8000
attribute [local simp] condRun_if when_if
@[simp] theorem set_concat4{α:Type}(τ:List α)(a b c x:α):(τ++[a,b,c]).set τ.length x=τ++[x,b,c]:=by
 rw[List.set_append_right _ _ (Nat.le_refl _)];simp
@[simp] theorem get_concat4{α:Type}(τ:List α)(a b c:α):(τ++[a,b,c])[τ.length]?=some a:=by simp
def keysF(a keys:List Int):Option (List Int):=if keys.all fun k=>decide (0≤k)&&decide (k < a.length) then some (keys.map fun k=>a.getD k.toNat 0) else none
def keyG(a:List Int)(_:Nat)(x:Int)(acc:Nat×List Int):Nat×List Int⊕Unit:=if 0≤x∧x < a.length then .inl (acc.1+1,acc.2++[a.getD x.toNat 0]) else .inr ()
theorem keyG_fold(a:List Int):∀ (l:List Int) (k ep:Nat) (acc:List Int),foldL (keyG a) l k (ep,acc)=match keysF a l with
  | some r=>.inl (ep+l.length,acc++r)
  | none=>.inr ()
 | [],k,ep,acc=>by simp[foldL,keysF]
 | x::l,k,ep,acc=>by
  by_cases h:0≤x∧x < a.length
  ·simp only[foldL,keyG,if_pos h]
   rw[keyG_fold a l (k+1) (ep+1)]
   unfold keysF
   by_cases hl:(l.all fun k=>decide (0≤k)&&decide (k < (a.length:Int)))=true
   ·have:((x::l).all fun k=>decide (0≤k)&&decide (k < (a.length:Int)))=true:=by simp only[List.all_cons,hl];simp[h]
    rw[if_pos hl,if_pos this]
    simp[Nat.add_assoc,Nat.add_comm 1]
   ·have:¬((x::l).all fun k=>decide (0≤k)&&decide (k < (a.length:Int)))=true:=by
     intro hq
     simp only[List.all_cons,Bool.and_eq_true]at hq
     exact hl hq.2
    rw[if_neg hl,if_neg this]
  ·simp only[foldL,keyG,if_neg h]
   unfold keysF
   have:¬((x::l).all fun k=>decide (0≤k)&&decide (k < (a.length:Int)))=true:=by
    intro hq
    simp only[List.all_cons,Bool.and_eq_true,decide_eq_true_eq]at hq
    exact h hq.1
   rw[if_neg this]
theorem keysF_len{a l r:List Int}(h:keysF a l=some r):r.length=l.length:=by
 unfold keysF at h
 split at h
 ·cases h;simp
 ·cases h
def aggK(a:List Int)(g:AggX):Bool×Int:=
 if g.tag=1 then (g.arg.length == 0,2)
 else ((kindF g.arg a).2 == 0&&decide (1 < g.tag)&&decide (g.tag≤5)&&(g.tag != 3 || (kindF g.arg a).1 == 2 || (kindF g.arg a).1 == 0),if g.tag=4∨g.tag=5 then (kindF g.arg a).1 else 2)
def aggsOk(n:LNX)(a:List Int):Bool:=decide (n.keys.length≤3)&&decide (n.aggs.length≤12)&&decide (0 < n.keys.length+n.aggs.length)&&n.aggs.all fun g=>(aggK a g).1
def headOk(n:LNX):Bool:=decide (n.keys.length≤3)&&decide (n.aggs.length≤12)&&decide (0 < n.keys.length+n.aggs.length)
def aggsG(a:List Int)(s:Bool×Nat×List Int)(g:AggX):Bool×Nat×List Int:=(s.1&&(aggK a g).1,s.2.1+1,s.2.2++[(aggK a g).2])
theorem aggsG_fold(a:List Int):∀ (l:List AggX) (ok:Bool) (ep:Nat) (acc:List Int),l.foldl (aggsG a) (ok,ep,acc)=(ok&&l.all (fun g=>(aggK a g).1),ep+l.length,acc++l.map fun g=>(aggK a g).2)
 | [],ok,ep,acc=>by simp
 | g::l,ok,ep,acc=>by
  rw[List.foldl_cons,aggsG,aggsG_fold a l]
  simp[Bool.and_assoc,Nat.add_assoc,Nat.add_comm 1]
abbrev grpO(n:LNX):Obj:=.arr 12 0 [.agg [.int .i64 n.op,.int .i64 n.l,.int .i64 n.r,.int .i64 n.tab,.imm n.bk (n.kinds.map (.int .i64)),.bool n.left,.imm n.bc (n.cond.map EN.a),.imm n.by' (n.keys.map (.int .i64)),.imm n.bg (n.aggs.map AggX.a),.imm n.bi (n.items.map ExX.a),.imm n.bo (n.ords.map ordA),.int .i64 n.limit]]
theorem group_spec(bn:Bool)(nodes:List LNX)(ep1 m1 ep2 m2:Nat)(n:LNX)(ba:Bool)(a:List Int)(r:AVal)(τ:Store)(hτ:Fzs τ)(hl:2≤τ.length)(hk:n.keys.length≤most)(hg:n.aggs.length≤most)(hkg:n.keys.length+n.aggs.length≤most)(he:∀ g∈n.aggs,g.arg.length≤most)(ha:a.length≤most) :
  match keysF a n.keys with
  | none=>∃ σ',acall code I.qdy [.ptr 0 0 0 0] (laidX bn nodes ep1 m1 ep2 m2 n (.imm ba (intsA a)) .nil0 r::τ)=some (.bool false,σ')
  | some ks=>acall code I.qdy [.ptr 0 0 0 0] (laidX bn nodes ep1 m1 ep2 m2 n (.imm ba (intsA a)) .nil0 r::τ) =
    some (.bool (aggsOk n a),laidX bn nodes ep1 m1 ep2 m2 n (.imm ba (intsA a)) .nil0 (.sl (τ.length+2) (n.keys.length+n.aggs.length) 0 (n.keys.length+n.aggs.length))::(τ++[grpO n,.arr 1 (n.keys.length+n.aggs.length) (intsA (ks++n.aggs.map fun g=>(aggK a g).2))])):=by
 have hkg':n.keys.length+n.aggs.length≤68719476736:=hkg
 have q1:1 < τ.length+3:=by omega
 have q2:2 < τ.length+3:=by omega
 have h:=rounds_list (base:=τ.length+3) (clr:=[1,4,12,13]) (b:=l_qdy_1) n.keys
  (fun k (s:Nat×List Int)=>⟨[.ptr 0 0 0 0,.any,.ptr (τ.length+1) 0 0 0,.bool (headOk n),.any,.any,.any,.any,.any,.imm n.by' (n.keys.map (.int .i64)),.int .i64 n.keys.length,.int .i64 k,.any,.any,.any,.any,.any,.any,.any,.any,.any,.any],laidX bn nodes ep1 m1 ep2 m2 n (.imm ba (intsA a)) .nil0 (.sl (τ.length+2) s.1 0 s.2.length)::(τ++[grpO n,.arr 1 s.1 (intsA s.2)])⟩)
  (fun k s=>s.2.length≤k) (keyG a)
  (fun s=>(.ext 0,⟨[.ptr 0 0 0 0,.any,.ptr (τ.length+1) 0 0 0,.bool (headOk n),.any,.any,.any,.any,.any,.imm n.by' (n.keys.map (.int .i64)),.int .i64 n.keys.length,.int .i64 n.keys.length,.bool false,.any,.any,.any,.any,.any,.any,.any,.any,.any],laidX bn nodes ep1 m1 ep2 m2 n (.imm ba (intsA a)) .nil0 (.sl (τ.length+2) s.1 0 s.2.length)::(τ++[grpO n,.arr 1 s.1 (intsA s.2)])⟩))
  (fun _ o=>∃ s,o=(.ret,s)∧results s [.env 1]=some (.bool false))
  (fun k x s hk' hy hs=>by
   obtain ⟨ep,acc⟩:=s
   simp only at hs
   have hlt:((k:Int) < (n.keys.length:Int)):=by omega
   have h5:acc.length+1≤most:=by omega
   unfold keyG
   by_cases h1:0≤x
   ·by_cases h2:x < a.length
    ·rw[if_pos ⟨h1,h2⟩]
     refine ⟨?_,by simp;omega⟩
     have e1:¬(x < 0):=by omega
     have e2:¬((a.length:Int)≤x):=by omega
     have e3:a[x.toNat]?=some (a.getD x.toNat 0):=by
      have:x.toNat < a.length:=by omega
      simp[List.getD_eq_getElem?_getD,this]
     generalize a.getD x.toNat 0=w at *
     simp[l_qdy_1,hlt,hy,e1,e2,e3,h1,append,h5,wrap_lt hk' hk,roundEnd]
    ·rw[if_neg (fun h=>h2 h.2)]
     have e1:¬(x < 0):=by omega
     have e2:((a.length:Int)≤x):=by omega
     exact ⟨_,by simp[l_qdy_1,hlt,hy,e1,e2];rfl,_,rfl,by simp⟩
   ·rw[if_neg (fun h=>h1 h.1)]
    have e1:(x < 0):=by omega
    exact ⟨_,by simp[l_qdy_1,hlt,hy,e1];rfl,_,rfl,by simp⟩)
  (fun s hs=>by simp[l_qdy_1]) (0,[]) (Nat.le_refl _)
 rw[keyG_fold]at h
 have hw:IntKind.i64.wrap ((n.keys.length:Int)+(n.aggs.length:Int))=(n.keys.length:Int)+n.aggs.length:=w64 (by omega) (by omega)
 have g2:=fun ks:List Int=>fun hks:ks.length=n.keys.length=>(rounds_fold (base:=τ.length+3) (clr:=[5,6,7,8,17,18,19,20,21]) (b:=l_qdy_0) n.aggs
  (fun k (s:Bool×Nat×List Int)=>⟨[.ptr 0 0 0 0,.any,.ptr (τ.length+1) 0 0 0,.bool s.1,.any,.any,.any,.any,.any,.imm n.by' (n.keys.map (.int .i64)),.int .i64 n.keys.length,.int .i64 n.keys.length,.bool false,.any,.imm n.bg (n.aggs.map AggX.a),.int .i64 n.aggs.length,.int .i64 k,.any,.any,.any,.any,.any],laidX bn nodes ep1 m1 ep2 m2 n (.imm ba (intsA a)) .nil0 (.sl (τ.length+2) s.2.1 0 s.2.2.length)::(τ++[grpO n,.arr 1 s.2.1 (intsA s.2.2)])⟩)
  (fun k s=>s.2.2.length≤n.keys.length+k) (aggsG a)
  (fun s=>(.ext 2,⟨[.ptr 0 0 0 0,.any,.ptr (τ.length+1) 0 0 0,.bool s.1,.any,.any,.any,.any,.any,.imm n.by' (n.keys.map (.int .i64)),.int .i64 n.keys.length,.int .i64 n.keys.length,.bool false,.any,.imm n.bg (n.aggs.map AggX.a),.int .i64 n.aggs.length,.int .i64 n.aggs.length,.bool false,.any,.any,.any,.any],laidX bn nodes ep1 m1 ep2 m2 n (.imm ba (intsA a)) .nil0 (.sl (τ.length+2) s.2.1 0 s.2.2.length)::(τ++[grpO n,.arr 1 s.2.1 (intsA s.2.2)])⟩))
  (fun k g s hk' hy hs=>by
   obtain ⟨ok,ep,acc⟩:=s
   simp only at hs
   have hlt:((k:Int) < (n.aggs.length:Int)):=by omega
   have h5:acc.length+1≤most:=by unfold most;omega
   have hkd:=fun b bk=>kind_spec b g.arg bk a (he g (List.mem_of_getElem? hy)) ha
   refine ⟨?_,by simp[aggsG];omega⟩
   unfold aggsG aggK
   by_cases t1:g.tag=1
   ·simp only[if_pos t1]
    cases ok
    ·simp[l_qdy_0,hlt,hy,AggX.a,append,h5,wrap_lt hk' hg,roundEnd,freezeObj,hτ,q1,q2,t1]
    ·by_cases hx:g.arg=[]
     ·simp[l_qdy_0,hlt,hy,AggX.a,append,h5,wrap_lt hk' hg,roundEnd,freezeObj,hτ,q1,q2,t1,hx]
     ·have hx1:((g.arg.length:Int) == 0)=false:=by simp[hx]
      have hx2:(g.arg.length == 0)=false:=by simp[hx]
      simp[l_qdy_0,hlt,hy,AggX.a,append,h5,wrap_lt hk' hg,roundEnd,freezeObj,hτ,q1,q2,t1,hx1,hx2]
   ·simp only[if_neg t1]
    generalize (kindF g.arg a).1=kk at *
    generalize (kindF g.arg a).2=no at *
    by_cases t3:g.tag=3
    ·simp only[t3]
     cases ok
     ·simp[l_qdy_0,hlt,hy,AggX.a,append,h5,wrap_lt hk' hg,roundEnd,freezeObj,hτ,q1,q2,t3,hkd]
     ·by_cases hn0:no=0
      ·by_cases k2:kk=2
       ·simp[l_qdy_0,hlt,hy,AggX.a,append,h5,wrap_lt hk' hg,roundEnd,freezeObj,hτ,q1,q2,t3,hkd,hn0,k2]
       ·simp[l_qdy_0,hlt,hy,AggX.a,append,h5,wrap_lt hk' hg,roundEnd,freezeObj,hτ,q1,q2,t3,hkd,hn0,k2,beq_f k2]
      ·simp[l_qdy_0,hlt,hy,AggX.a,append,h5,wrap_lt hk' hg,roundEnd,freezeObj,hτ,q1,q2,t3,hkd,hn0,beq_f hn0]
    ·by_cases t45:g.tag=4∨g.tag=5
     ·simp only[if_pos t45]
      rcases t45 with t4|t4<;>simp only[t4]
      ·cases ok
       ·simp[l_qdy_0,hlt,hy,AggX.a,append,h5,wrap_lt hk' hg,roundEnd,freezeObj,hτ,q1,q2,t4,hkd]
       ·by_cases hn0:no=0
        ·simp[l_qdy_0,hlt,hy,AggX.a,append,h5,wrap_lt hk' hg,roundEnd,freezeObj,hτ,q1,q2,t4,hkd,hn0]
        ·simp[l_qdy_0,hlt,hy,AggX.a,append,h5,wrap_lt hk' hg,roundEnd,freezeObj,hτ,q1,q2,t4,hkd,hn0,beq_f hn0]
      ·cases ok
       ·simp[l_qdy_0,hlt,hy,AggX.a,append,h5,wrap_lt hk' hg,roundEnd,freezeObj,hτ,q1,q2,t4,hkd]
       ·by_cases hn0:no=0
        ·simp[l_qdy_0,hlt,hy,AggX.a,append,h5,wrap_lt hk' hg,roundEnd,freezeObj,hτ,q1,q2,t4,hkd,hn0]
        ·simp[l_qdy_0,hlt,hy,AggX.a,append,h5,wrap_lt hk' hg,roundEnd,freezeObj,hτ,q1,q2,t4,hkd,hn0,beq_f hn0]
     ·simp only[if_neg t45]
      have t4:¬g.tag=4:=fun h=>t45 (.inl h)
      have t5:¬g.tag=5:=fun h=>t45 (.inr h)
      cases ok
      ·simp[l_qdy_0,hlt,hy,AggX.a,append,h5,wrap_lt hk' hg,roundEnd,freezeObj,hτ,q1,q2,t1,t3,t4,t5,beq_f t1,beq_f t3,beq_f t4,beq_f t5,hkd]
      ·by_cases hn0:no=0
       ·by_cases l1:1 < g.tag
        ·by_cases l5:g.tag≤5
         ·simp[l_qdy_0,hlt,hy,AggX.a,append,h5,wrap_lt hk' hg,roundEnd,freezeObj,hτ,q1,q2,t1,t3,t4,t5,beq_f t1,beq_f t3,beq_f t4,beq_f t5,bne_t t3,hkd,hn0,l1,l5]
         ·simp[l_qdy_0,hlt,hy,AggX.a,append,h5,wrap_lt hk' hg,roundEnd,freezeObj,hτ,q1,q2,t1,t3,t4,t5,beq_f t1,beq_f t3,beq_f t4,beq_f t5,bne_t t3,hkd,hn0,l1,l5]
        ·simp[l_qdy_0,hlt,hy,AggX.a,append,h5,wrap_lt hk' hg,roundEnd,freezeObj,hτ,q1,q2,t1,t3,t4,t5,beq_f t1,beq_f t3,beq_f t4,beq_f t5,bne_t t3,hkd,hn0,l1]
       ·simp[l_qdy_0,hlt,hy,AggX.a,append,h5,wrap_lt hk' hg,roundEnd,freezeObj,hτ,q1,q2,t1,t3,t4,t5,beq_f t1,beq_f t3,beq_f t4,beq_f t5,hkd,hn0,beq_f hn0])
  (fun s _=>by simp[l_qdy_0]) (headOk n,n.keys.length,ks) (by simp[hks])).1
 rw[acall_keep c_qdy rfl]
 have hh1:n.keys.length≤3→n.aggs.length≤12→headOk n=decide ((0:Int) < (n.keys.length:Int)+n.aggs.length):=fun c1 c2=>by
  unfold headOk
  rw[decide_eq_true c1,decide_eq_true c2]
  exact decide_eq_decide.2 (by omega)
 have hh2:¬n.aggs.length≤12→headOk n=false:=fun c=>by
  unfold headOk
  rw[decide_eq_false c];simp
 have hh3:¬n.keys.length≤3→headOk n=false:=fun c=>by
  unfold headOk
  rw[decide_eq_false c];simp
 have hH:∀ R,(n.keys.length≤3→n.aggs.length≤12→headOk n=decide ((0:Int) < (n.keys.length:Int)+n.aggs.length)→R)→(n.keys.length≤3→¬n.aggs.length≤12→headOk n=false→R)→(¬n.keys.length≤3→headOk n=false→R)→R:=fun R r1 r2 r3=>by
  by_cases c1:n.keys.length≤3
  ·by_cases c2:n.aggs.length≤12
   ·exact r1 c1 c2 (hh1 c1 c2)
   ·exact r2 c1 c2 (hh2 c2)
  ·exact r3 c1 (hh3 c1)
 cases hq:keysF a n.keys with
 | none=>
  rw[hq]at h
  obtain ⟨o,h1,s,rfl,h2⟩:=h
  refine ⟨s.st,?_⟩
  simp at h1
  refine hH _ (fun c1 c2 hh=>?_) (fun c1 c2 hh=>?_) (fun c1 hh=>?_)<;>rw[hh]at h1
  ·have c1':((n.keys.length:Int)≤3):=by omega
   have c2':((n.aggs.length:Int)≤12):=by omega
   simp[f_qdy,b_qdy,c1',c2',hw,h1,-results,h2]
  ·have c1':((n.keys.length:Int)≤3):=by omega
   have c2':¬((n.aggs.length:Int)≤12):=by omega
   simp[f_qdy,b_qdy,c1',c2',hw,h1,-results,h2]
  ·have c1':¬((n.keys.length:Int)≤3):=by omega
   simp[f_qdy,b_qdy,c1',hw,h1,-results,h2]
 | some ks=>
  rw[hq]at h
  have h1:=h.2
  have hks:=keysF_len hq
  have h2:=g2 ks hks
  rw[aggsG_fold]at h2
  simp at h1 h2
  have hA:aggsOk n a=(headOk n&&n.aggs.all fun g=>(aggK a g).1):=rfl
  rw[hA]
  rw[hks]at h1 h2
  simp only
  refine hH _ (fun c1 c2 hh=>?_) (fun c1 c2 hh=>?_) (fun c1 hh=>?_)<;>rw[hh]at h1 h2 ⊢
  ·have c1':((n.keys.length:Int)≤3):=by omega
   have c2':((n.aggs.length:Int)≤12):=by omega
   simp[f_qdy,b_qdy,c1',c2',hw,h1,h2]
  ·have c1':((n.keys.length:Int)≤3):=by omega
   have c2':¬((n.aggs.length:Int)≤12):=by omega
   simp[f_qdy,b_qdy,c1',c2',hw,h1,h2]
  ·have c1':¬((n.keys.length:Int)≤3):=by omega
   simp[f_qdy,b_qdy,c1',hw,h1,h2]
end Go.AM
end
section
namespace Go.AM
open P
set_option maxHeartbeats 16000000
set_option maxRecDepth 8000
attribute [local simp] condRun_if when_if
def partK(a:List Int)(g:AggX):Int:=if g.tag=3 then 4 else (aggK a g).2
abbrev curP(a ks:List Int)(n:LNX)(k:Nat):List Int:=ks++((n.aggs.take k).map (partK a)++(n.aggs.drop k).map fun g=>(aggK a g).2)
theorem curP_next{a ks:List Int}{n:LNX}{k:Nat}{g:AggX}(hy:n.aggs[k]?=some g) :
  curP a ks n (k+1)=if g.tag=3 then (curP a ks n k).set (ks.length+k) 4 else curP a ks n k:=by
 obtain ⟨hk,he⟩:=List.getElem?_eq_some_iff.1 hy
 unfold curP
 rw[List.drop_eq_getElem_cons hk,he,List.take_succ_eq_append_getElem hk,he]
 by_cases h3:g.tag=3
 ·rw[if_pos h3,List.set_append_right _ _ (by omega),List.set_append_right _ _ (by simp;omega)]
  simp[partK,h3,Nat.min_eq_left (Nat.le_of_lt hk)]
 ·rw[if_neg h3]
  simp[partK,h3]
theorem partial_spec(bn:Bool)(nodes:List LNX)(ep1 m1 ep2 m2:Nat)(n:LNX)(ba:Bool)(a:List Int)(r:AVal)(τ:Store)(hτ:Fzs τ)(hl:2≤τ.length)(hk:n.keys.length≤most)(hg:n.aggs.length≤most)(hkg:n.keys.length+n.aggs.length≤most)(he:∀ g∈n.aggs,g.arg.length≤most)(ha:a.length≤most) :
  match keysF a n.keys with
  | none=>∃ σ',acall code I.qed [.ptr 0 0 0 0] (laidX bn nodes ep1 m1 ep2 m2 n (.imm ba (intsA a)) .nil0 r::τ)=some (.bool false,σ')
  | some ks=>if aggsOk n a=true then acall code I.qed [.ptr 0 0 0 0] (laidX bn nodes ep1 m1 ep2 m2 n (.imm ba (intsA a)) .nil0 r::τ) =
    some (.bool true,laidX bn nodes ep1 m1 ep2 m2 n (.imm ba (intsA a)) .nil0 (.sl (τ.length+2) (n.keys.length+n.aggs.length) 0 (n.keys.length+n.aggs.length))::(τ++[grpO n,.arr 1 (n.keys.length+n.aggs.length) (intsA (ks++n.aggs.map (partK a)))]))
   else ∃ σ',acall code I.qed [.ptr 0 0 0 0] (laidX bn nodes ep1 m1 ep2 m2 n (.imm ba (intsA a)) .nil0 r::τ)=some (.bool false,σ'):=by
 have hgr:=group_spec bn nodes ep1 m1 ep2 m2 n ba a r τ hτ hl hk hg hkg he ha
 have hkg':n.keys.length+n.aggs.length≤68719476736:=hkg
 rw[acall_keep c_qed rfl]
 cases hq:keysF a n.keys with
 | none=>
  rw[hq]at hgr
  obtain ⟨σ',hgr⟩:=hgr
  exact ⟨_,by simp[f_qed,b_qed,hgr];rfl⟩
 | some ks=>
  rw[hq]at hgr
  simp only at hgr ⊢
  cases hok:aggsOk n a with
  | false=>
   rw[hok]at hgr
   simp only[Bool.false_eq_true,if_false]
   exact ⟨_,by simp[f_qed,b_qed,hgr];rfl⟩
  | true=>
   rw[hok]at hgr
   simp only[if_true]
   have hks:=keysF_len hq
   have q1:1 < τ.length+3:=by omega
   have q2:2 < τ.length+3:=by omega
   have hloop:=rounds_iter (base:=τ.length+3) (clr:=[3,4,9,10]) (b:=l_qed_0)
    (fun k=>⟨[.ptr 0 0 0 0,.bool false,.bool true,.any,.any,.bool false,.imm n.bg (n.aggs.map AggX.a),.int .i64 n.aggs.length,.int .i64 k,.any,.any],laidX bn nodes ep1 m1 ep2 m2 n (.imm ba (intsA a)) .nil0 (.sl (τ.length+2) (n.keys.length+n.aggs.length) 0 (n.keys.length+n.aggs.length))::(τ++[grpO n,.arr 1 (n.keys.length+n.aggs.length) (intsA (curP a ks n k))])⟩) n.aggs.length
    (.ext 0,⟨[.ptr 0 0 0 0,.bool false,.bool true,.any,.any,.bool false,.imm n.bg (n.aggs.map AggX.a),.int .i64 n.aggs.length,.int .i64 n.aggs.length,.bool false,.any],laidX bn nodes ep1 m1 ep2 m2 n (.imm ba (intsA a)) .nil0 (.sl (τ.length+2) (n.keys.length+n.aggs.length) 0 (n.keys.length+n.aggs.length))::(τ++[grpO n,.arr 1 (n.keys.length+n.aggs.length) (intsA (curP a ks n n.aggs.length))])⟩)
    (fun k hk'=>by
     have hlt:((k:Int) < (n.aggs.length:Int)):=by omega
     have hy:n.aggs[k]?=some n.aggs[k]:=List.getElem?_eq_getElem hk'
     have hc:=curP_next (a:=a) (ks:=ks) hy
     have hl3:(curP a ks n k).length=n.keys.length+n.aggs.length:=by
      unfold curP
      simp[hks];omega
     rw[hc]
     generalize curP a ks n k=X at *
     rw[hks]
     generalize n.aggs[k]=g at *
     have w1:=w64 (n:=(n.keys.length:Int)+(k:Int)) (by omega) (by omega)
     have w2:(0:Int)≤(n.keys.length:Int)+(k:Int):=by omega
     have w3:((n.keys.length:Int)+(k:Int)).toNat=n.keys.length+k:=by omega
     have w4:X[n.keys.length+k]?=some (X.getD (n.keys.length+k) 0):=by
      have:n.keys.length+k < X.length:=by omega
      simp[List.getD_eq_getElem?_getD,this]
     generalize X.getD (n.keys.length+k) 0=w at *
     by_cases h3:g.tag=3
     ·rw[if_pos h3]
      simp[l_qed_0,hlt,hy,AggX.a,h3,w1,w2,w3,w4,wrap_lt hk' hg,roundEnd,freezeObj,hτ,q1,q2]
      simp[hk',w1,w2,w3,w4,wrap_lt hk' hg,roundEnd,freezeObj,hτ,q1,q2]
     ·rw[if_neg h3]
      simp[l_qed_0,hlt,hy,AggX.a,h3,beq_f h3,wrap_lt hk' hg,roundEnd,freezeObj,hτ,q1,q2])
    (by simp[l_qed_0])
   have e0:curP a ks n 0=ks++n.aggs.map fun g=>(aggK a g).2:=by simp[curP]
   have e1:curP a ks n n.aggs.length=ks++n.aggs.map (partK a):=by simp[curP]
   rw[e0,e1]at hloop
   simp at hloop
   simp at hgr
   simp[f_qed,b_qed,hgr,hloop]
def finKeys(a:List Int):Nat→List Int→Bool
 | _,[]=>true
 | i,x::r=>(x == (i:Int)&&a.getD i 0 != 4)&&finKeys a (i+1) r
def finAgg(o:Int)(g:AggX):Bool:=g.arg.length == 0&&(if g.tag=1∨g.tag=2 then o == 2 else if g.tag=3 then o == 4 else if g.tag=4∨g.tag=5 then o != 4 else false)
def finAggs(a:List Int):Nat→List AggX→Bool
 | _,[]=>true
 | i,g::r=>finAgg (a.getD i 0) g&&finAggs a (i+1) r
def finSet:Nat→List AggX→List Int→List Int
 | _,[],l=>l
 | i,g::r,l=>finSet (i+1) r (if g.tag=3 then l.set i 2 else l)
def finHead(n m:LNX)(a:List Int):Bool:=m.op == 9&&decide (n.keys.length≤3)&&decide (n.aggs.length≤12)&&n.keys.length+n.aggs.length == a.length
theorem finKeys_fold(a:List Int):∀ (l:List Int) (k:Nat) (ok:Bool),foldL (ρ:=Empty) (fun k x ok=>.inl (ok&&(x == (k:Int)&&a.getD k 0 != 4))) l k ok=.inl (ok&&finKeys a k l)
 | [],k,ok=>by simp[foldL,finKeys]
 | x::l,k,ok=>by
  simp only[foldL]
  rw[finKeys_fold a l (k+1)]
  simp[finKeys,Bool.and_assoc]
def finG(a:List Int)(K k:Nat)(g:AggX)(s:Bool×List Int):Bool×List Int⊕Empty:=.inl (s.1&&finAgg (a.getD (K+k) 0) g,if g.tag=3 then s.2.set (K+k) 2 else s.2)
theorem finG_fold(a:List Int)(K:Nat):∀ (l:List AggX) (k:Nat) (ok:Bool) (x:List Int),foldL (finG a K) l k (ok,x)=.inl (ok&&finAggs a (K+k) l,finSet (K+k) l x)
 | [],k,ok,x=>by simp[foldL,finAggs,finSet]
 | g::l,k,ok,x=>by
  simp only[foldL,finG]
  rw[finG_fold a K l (k+1)]
  simp[finAggs,finSet,Bool.and_assoc,Nat.add_assoc]
theorem finSet_len:∀ (l:List AggX) (i:Nat) (x:List Int),(finSet i l x).length=x.length
 | [],i,x=>rfl
 | g::l,i,x=>by
  rw[finSet,finSet_len l]
  split<;>simp
theorem final_bad(bn:Bool)(nodes:List LNX)(ep1 m1 ep2 m2:Nat)(n m:LNX)(ba:Bool)(a:List Int)(r:AVal)(τ:Store)(hA:0≤n.l)(hm:nodes[n.l.toNat]?=some m)(hkg:n.keys.length+n.aggs.length≤most)(hh:finHead n m a=false) :
  ∃ σ',acall code I.qdx [.ptr 0 0 0 0] (laidX bn nodes ep1 m1 ep2 m2 n (.imm ba (intsA a)) .nil0 r::τ)=some (.bool false,σ'):=by
 rw[acall_keep c_qdx rfl]
 have hkg':n.keys.length+n.aggs.length≤68719476736:=hkg
 have w1:=w64 (n:=(n.keys.length:Int)+(n.aggs.length:Int)) (by omega) (by omega)
 unfold finHead at hh
 by_cases c1:m.op=9
 ·by_cases c2:n.keys.length≤3
  ·have c2':((n.keys.length:Int)≤3):=by omega
   by_cases c3:n.aggs.length≤12
   ·have c3':((n.aggs.length:Int)≤12):=by omega
    have c4:n.keys.length+n.aggs.length≠a.length:=by
     intro h;simp[c1,c2,c3,h]at hh
    have c4':((n.keys.length:Int)+n.aggs.length == (a.length:Int))=false:=by simp;omega
    exact ⟨_,by simp[f_qdx,b_qdx,hA,hm,LNX.a,c1,c2',c3',w1,c4'];rfl⟩
   ·have c3':¬((n.aggs.length:Int)≤12):=by omega
    exact ⟨_,by simp[f_qdx,b_qdx,hA,hm,LNX.a,c1,c2',c3'];rfl⟩
  ·have c2':¬((n.keys.length:Int)≤3):=by omega
   exact ⟨_,by simp[f_qdx,b_qdx,hA,hm,LNX.a,c1,c2'];rfl⟩
 ·exact ⟨_,by simp[f_qdx,b_qdx,hA,hm,LNX.a,c1,beq_f c1];rfl⟩
theorem final_spec(bn:Bool)(nodes:List LNX)(ep1 m1 ep2 m2:Nat)(n m:LNX)(ba:Bool)(a:List Int)(r:AVal)(τ:Store)(hτ:Fzs τ)(hl:2≤τ.length)(hA:0≤n.l)(hm:nodes[n.l.toNat]?=some m)(hkg:n.keys.length+n.aggs.length≤most)(ha:a.length≤most)(hh:finHead n m a=true) :
  acall code I.qdx [.ptr 0 0 0 0] (laidX bn nodes ep1 m1 ep2 m2 n (.imm ba (intsA a)) .nil0 r::τ) =
   some (.bool (finKeys a 0 n.keys&&finAggs a n.keys.length n.aggs),laidX bn nodes ep1 m1 ep2 m2 n (.imm ba (intsA a)) .nil0 (.sl (τ.length+2) 0 0 a.length)::(τ++[grpO n,.arr 1 0 (intsA (finSet n.keys.length n.aggs a))])):=by
 have hkg':n.keys.length+n.aggs.length≤68719476736:=hkg
 have w1:=w64 (n:=(n.keys.length:Int)+(n.aggs.length:Int)) (by omega) (by omega)
 unfold finHead at hh
 simp only[Bool.and_eq_true,beq_iff_eq,decide_eq_true_eq]at hh
 obtain ⟨⟨⟨c1,c2⟩,c3⟩,c4⟩:=hh
 have c2':((n.keys.length:Int)≤3):=by omega
 have c3':((n.aggs.length:Int)≤12):=by omega
 have c4':((n.keys.length:Int)+n.aggs.length == (a.length:Int))=true:=by simp;omega
 have hk:n.keys.length≤most:=by unfold most;omega
 have hg:n.aggs.length≤most:=by unfold most;omega
 have q1:1 < τ.length+3:=by omega
 have q2:2 < τ.length+3:=by omega
 have h1:=rounds_list (base:=τ.length+3) (clr:=[5,6,14]) (b:=l_qdx_1) n.keys
  (fun k (ok:Bool)=>⟨[.ptr 0 0 0 0,.bool false,.ptr (τ.length+1) 0 0 0,.int .i64 n.keys.length,.bool ok,.any,.any,.any,.any,.any,.bool false,.imm n.by' (n.keys.map (.int .i64)),.int .i64 n.keys.length,.int .i64 k,.any,.any,.any,.any,.any,.any,.any,.any,.any],laidX bn nodes ep1 m1 ep2 m2 n (.imm ba (intsA a)) .nil0 (.sl (τ.length+2) 0 0 a.length)::(τ++[grpO n,.arr 1 0 (intsA a)])⟩)
  (fun _ _=>True) (fun k x ok=>.inl (ok&&(x == (k:Int)&&a.getD k 0 != 4)))
  (fun ok=>(.ext 0,⟨[.ptr 0 0 0 0,.bool false,.ptr (τ.length+1) 0 0 0,.int .i64 n.keys.length,.bool ok,.any,.any,.any,.any,.any,.bool false,.imm n.by' (n.keys.map (.int .i64)),.int .i64 n.keys.length,.int .i64 n.keys.length,.bool false,.any,.any,.any,.any,.any,.any,.any,.any],laidX bn nodes ep1 m1 ep2 m2 n (.imm ba (intsA a)) .nil0 (.sl (τ.length+2) 0 0 a.length)::(τ++[grpO n,.arr 1 0 (intsA a)])⟩))
  (fun (r:Empty) _=>r.elim)
  (fun k x ok hk' hy _=>by
   refine ⟨?_,trivial⟩
   have hlt:((k:Int) < (n.keys.length:Int)):=by omega
   have hof:a[k]?=some (a.getD k 0):=by
    have:k < a.length:=by omega
    simp[List.getD_eq_getElem?_getD,this]
   generalize a.getD k 0=o at *
   cases ok
   ·simp[l_qdx_1,hlt,hy,wrap_lt hk' hk,roundEnd]
   ·by_cases h0:x=(k:Int)
    ·simp[l_qdx_1,hlt,hy,h0,hof,wrap_lt hk' hk,roundEnd]
    ·simp[l_qdx_1,hlt,hy,h0,beq_f h0,wrap_lt hk' hk,roundEnd])
  (fun s _=>by simp[l_qdx_1]) true trivial
 rw[finKeys_fold]at h1
 have h1:=h1.2
 rw[Bool.true_and]at h1
 generalize finKeys a 0 n.keys=ok1 at *
 have h2:=rounds_list (base:=τ.length+3) (clr:=[7,8,9,18,19,20,21,22]) (b:=l_qdx_0) n.aggs
  (fun k (s:Bool×List Int)=>⟨[.ptr 0 0 0 0,.bool false,.ptr (τ.length+1) 0 0 0,.int .i64 n.keys.length,.bool s.1,.any,.any,.any,.any,.any,.bool false,.imm n.by' (n.keys.map (.int .i64)),.int .i64 n.keys.length,.int .i64 n.keys.length,.bool false,.imm n.bg (n.aggs.map AggX.a),.int .i64 n.aggs.length,.int .i64 k,.any,.any,.any,.any,.any],laidX bn nodes ep1 m1 ep2 m2 n (.imm ba (intsA a)) .nil0 (.sl (τ.length+2) 0 0 a.length)::(τ++[grpO n,.arr 1 0 (intsA s.2)])⟩)
  (fun _ s=>s.2.length=a.length) (finG a n.keys.length)
  (fun s=>(.ext 2,⟨[.ptr 0 0 0 0,.bool false,.ptr (τ.length+1) 0 0 0,.int .i64 n.keys.length,.bool s.1,.any,.any,.any,.any,.any,.bool false,.imm n.by' (n.keys.map (.int .i64)),.int .i64 n.keys.length,.int .i64 n.keys.length,.bool false,.imm n.bg (n.aggs.map AggX.a),.int .i64 n.aggs.length,.int .i64 n.aggs.length,.bool false,.any,.any,.any,.any],laidX bn nodes ep1 m1 ep2 m2 n (.imm ba (intsA a)) .nil0 (.sl (τ.length+2) 0 0 a.length)::(τ++[grpO n,.arr 1 0 (intsA s.2)])⟩))
  (fun (r:Empty) _=>r.elim)
  (fun k g s hk' hy hs=>by
   obtain ⟨ok,X⟩:=s
   simp only at hs
   unfold finG
   refine ⟨?_,by simp only;split<;>simp[hs]⟩
   have hlt:((k:Int) < (n.aggs.length:Int)):=by omega
   have hof:a[n.keys.length+k]?=some (a.getD (n.keys.length+k) 0):=by
    have:n.keys.length+k < a.length:=by omega
    simp[List.getD_eq_getElem?_getD,this]
   have w1:=w64 (n:=(n.keys.length:Int)+(k:Int)) (by omega) (by omega)
   have w2:(0:Int)≤(n.keys.length:Int)+(k:Int):=by omega
   have w3:((n.keys.length:Int)+(k:Int)).toNat=n.keys.length+k:=by omega
   have w4:X[n.keys.length+k]?=some (X.getD (n.keys.length+k) 0):=by
    have:n.keys.length+k < X.length:=by omega
    simp[List.getD_eq_getElem?_getD,this]
   have w5:n.keys.length+k < a.length:=by omega
   generalize X.getD (n.keys.length+k) 0=w at *
   unfold finAgg
   generalize a.getD (n.keys.length+k) 0=o at *
   have hx0:g.arg.length=0∨(((g.arg.length:Int) == 0)=false∧(g.arg.length == 0)=false):=by
    by_cases h:g.arg.length=0
    ·exact .inl h
    ·exact .inr ⟨by simp;intro h';exact h (by rw[h'];rfl),by simp;intro h';exact h (by rw[h'];rfl)⟩
   by_cases t1:g.tag=1
   ·simp only[t1]
    cases ok
    ·simp[l_qdx_0,hlt,hy,AggX.a,hof,w1,w2,w3,w4,wrap_lt hk' hg,roundEnd,freezeObj,hτ,q1,q2,t1]
    ·rcases hx0 with h0|⟨h0,h0'⟩
     ·simp[l_qdx_0,hlt,hy,AggX.a,hof,w1,w2,w3,w4,wrap_lt hk' hg,roundEnd,freezeObj,hτ,q1,q2,t1,h0]
     ·simp[l_qdx_0,hlt,hy,AggX.a,hof,w1,w2,w3,w4,wrap_lt hk' hg,roundEnd,freezeObj,hτ,q1,q2,t1,h0,h0']
   ·by_cases t2:g.tag=2
    ·simp only[t2]
     cases ok
     ·simp[l_qdx_0,hlt,hy,AggX.a,hof,w1,w2,w3,w4,wrap_lt hk' hg,roundEnd,freezeObj,hτ,q1,q2,t2]
     ·rcases hx0 with h0|⟨h0,h0'⟩
      ·simp[l_qdx_0,hlt,hy,AggX.a,hof,w1,w2,w3,w4,wrap_lt hk' hg,roundEnd,freezeObj,hτ,q1,q2,t2,h0]
      ·simp[l_qdx_0,hlt,hy,AggX.a,hof,w1,w2,w3,w4,wrap_lt hk' hg,roundEnd,freezeObj,hτ,q1,q2,t2,h0,h0']
    ·by_cases t3:g.tag=3
     ·simp only[t3]
      cases ok
      ·simp[l_qdx_0,hlt,hy,AggX.a,hof,w1,w2,w3,w4,wrap_lt hk' hg,roundEnd,freezeObj,hτ,q1,q2,t3]
       simp[w5,hof,w1,w2,w3,w4,wrap_lt hk' hg,roundEnd,freezeObj,hτ,q1,q2]
      ·rcases hx0 with h0|⟨h0,h0'⟩
       ·simp[l_qdx_0,hlt,hy,AggX.a,hof,w1,w2,w3,w4,wrap_lt hk' hg,roundEnd,freezeObj,hτ,q1,q2,t3,h0]
        simp[w5,hof,w1,w2,w3,w4,wrap_lt hk' hg,roundEnd,freezeObj,hτ,q1,q2,h0]
       ·simp[l_qdx_0,hlt,hy,AggX.a,hof,w1,w2,w3,w4,wrap_lt hk' hg,roundEnd,freezeObj,hτ,q1,q2,t3,h0,h0']
        simp[w5,hof,w1,w2,w3,w4,wrap_lt hk' hg,roundEnd,freezeObj,hτ,q1,q2,h0,h0']
     ·by_cases t4:g.tag=4
      ·simp only[t4]
       cases ok
       ·simp[l_qdx_0,hlt,hy,AggX.a,hof,w1,w2,w3,w4,wrap_lt hk' hg,roundEnd,freezeObj,hτ,q1,q2,t4]
       ·rcases hx0 with h0|⟨h0,h0'⟩
        ·simp[l_qdx_0,hlt,hy,AggX.a,hof,w1,w2,w3,w4,wrap_lt hk' hg,roundEnd,freezeObj,hτ,q1,q2,t4,h0]
        ·simp[l_qdx_0,hlt,hy,AggX.a,hof,w1,w2,w3,w4,wrap_lt hk' hg,roundEnd,freezeObj,hτ,q1,q2,t4,h0,h0']
      ·by_cases t5:g.tag=5
       ·simp only[t5]
        cases ok
        ·simp[l_qdx_0,hlt,hy,AggX.a,hof,w1,w2,w3,w4,wrap_lt hk' hg,roundEnd,freezeObj,hτ,q1,q2,t5]
        ·rcases hx0 with h0|⟨h0,h0'⟩
         ·simp[l_qdx_0,hlt,hy,AggX.a,hof,w1,w2,w3,w4,wrap_lt hk' hg,roundEnd,freezeObj,hτ,q1,q2,t5,h0]
         ·simp[l_qdx_0,hlt,hy,AggX.a,hof,w1,w2,w3,w4,wrap_lt hk' hg,roundEnd,freezeObj,hτ,q1,q2,t5,h0,h0']
       ·cases ok
        ·simp[l_qdx_0,hlt,hy,AggX.a,hof,w1,w2,w3,w4,wrap_lt hk' hg,roundEnd,freezeObj,hτ,q1,q2,t1,t2,t3,t4,t5,beq_f t1,beq_f t2,beq_f t3,beq_f t4,beq_f t5]
        ·rcases hx0 with h0|⟨h0,h0'⟩
         ·simp[l_qdx_0,hlt,hy,AggX.a,hof,w1,w2,w3,w4,wrap_lt hk' hg,roundEnd,freezeObj,hτ,q1,q2,t1,t2,t3,t4,t5,beq_f t1,beq_f t2,beq_f t3,beq_f t4,beq_f t5,h0]
         ·simp[l_qdx_0,hlt,hy,AggX.a,hof,w1,w2,w3,w4,wrap_lt hk' hg,roundEnd,freezeObj,hτ,q1,q2,t1,t2,t3,t4,t5,beq_f t1,beq_f t2,beq_f t3,beq_f t4,beq_f t5,h0,h0'])
  (fun s _=>by simp[l_qdx_0]) (ok1,a) rfl
 rw[finG_fold]at h2
 have h2:=h2.2
 rw[Nat.add_zero]at h2
 have hcl:=aClone_int_int (enc:=.int .i64) ba a ha
 rw[acall_keep c_qdx rfl]
 simp at h1 h2
 simp[f_qdx,b_qdx,hA,hm,LNX.a,c1,c2',c3',w1,c4',hcl,h1,h2]
end Go.AM
end
section
namespace Go.AM
open P
set_option maxHeartbeats 16000000
set_option maxRecDepth 8000
attribute [local simp] condRun_if when_if
theorem Index_int(b:Bool)(l:List Int)(x:Int)(hn:l.length≤most):pcall I.qgl [.imm b (intsA l),.int .i64 x]=some (.int .i64 (ixF (fun y=>x == y) l)):=by
 rw[pcall_eq c_qgl rfl]
 have hstep:∀ k,k < l.length→∀ y,l[k]?=some y→(x == y)=false→thenLoop 0 [2,3,6,7] l_qgl_0 (run code l_qgl_0 ⟨[.imm b (intsA l),.int .i64 x,.any,.any,.int .i64 l.length,.int .i64 k,.any,.any],[]⟩) =
   rounds code 0 [2,3,6,7] l_qgl_0 ⟨[.imm b (intsA l),.int .i64 x,.any,.any,.int .i64 l.length,.int .i64 (k+1:Nat),.any,.any],[]⟩:=fun k hk y hy hp=>by
  have hlt:((k:Int) < (l.length:Int)):=by omega
  simp[l_qgl_0,hy,hp,hlt,wrap_lt hk hn,roundEnd_same]
 unfold ixF
 by_cases ha:(l.any fun y=>x == y)=true
 ·have hlt:=List.findIdx_lt_length_of_exists (List.any_eq_true.1 ha)
  have hp:(x == l[l.findIdx fun y=>x == y])=true:=List.findIdx_getElem (p:=fun y=>x == y) (w:=hlt)
  have hloop:=rounds_iter (base:=0) (clr:=[2,3,6,7]) (b:=l_qgl_0) (fun k=>⟨[.imm b (intsA l),.int .i64 x,.any,.any,.int .i64 l.length,.int .i64 k,.any,.any],[]⟩) (l.findIdx fun y=>x == y)
   (.ret,⟨[.imm b (intsA l),.int .i64 x,.int .i64 (l.findIdx fun y=>x == y:Nat),.int .i64 (l.findIdx fun y=>x == y:Nat),.int .i64 l.length,.int .i64 (l.findIdx fun y=>x == y:Nat),.bool true,.bool true],[]⟩)
   (fun k hk=>hstep k (by omega) _ (List.getElem?_eq_getElem (by omega)) (by simpa using List.not_of_lt_findIdx hk))
   (by
    have h1:l[l.findIdx fun y=>x == y]?=some l[l.findIdx fun y=>x == y]:=List.getElem?_eq_getElem hlt
    have hlt':(((l.findIdx fun y=>x == y:Nat):Int) < (l.length:Int)):=by omega
    generalize hL:(l.findIdx fun y=>x == y)=L at *
    generalize l[L]=y at *
    simp[l_qgl_0,h1,hp,hlt'])
  rw[if_pos ha]
  generalize (l.findIdx fun y=>x == y)=L at *
  simp at hloop
  simp[f_qgl,b_qgl,hloop]
 ·have hall:∀ y∈l,(x == y)=false:=fun y hy=>Bool.eq_false_iff.2 (List.any_eq_false.1 (Bool.not_eq_true _ ▸ ha) y hy)
  have hloop:=rounds_iter (base:=0) (clr:=[2,3,6,7]) (b:=l_qgl_0) (fun k=>⟨[.imm b (intsA l),.int .i64 x,.any,.any,.int .i64 l.length,.int .i64 k,.any,.any],[]⟩) l.length
   (.ext 0,⟨[.imm b (intsA l),.int .i64 x,.any,.any,.int .i64 l.length,.int .i64 l.length,.bool false,.any],[]⟩)
   (fun k hk=>hstep k hk _ (List.getElem?_eq_getElem hk) (hall _ (List.getElem_mem hk)))
   (by simp[l_qgl_0])
  simp at hloop
  rw[if_neg ha]
  simp[f_qgl,b_qgl,hloop]
theorem Contains_int(b:Bool)(l:List Int)(x:Int)(hn:l.length≤most):pcall I.qfz [.imm b (intsA l),.int .i64 x]=some (.bool (l.any fun y=>x == y)):=by
 rw[pcall_eq c_qfz rfl]
 have h:=fun b=>Index_int b l x hn
 unfold ixF at h
 cases ha:(l.any fun y=>x == y)<;>rw[ha]at h<;>simp[f_qfz,b_qfz,h]
def sum4(l:List Int):Bool:=l.any fun y=>4 == y
structure ResOk (X:Store) (r:AVal) (bf:Bool) (res:List Int):Prop where
 nc:ncells r=1
 ag:isAgg r=false
 len:∀ L K O B N A,alen (L::K::O::B::N::A::X) r=some res.length
 fz:∀ L K O B N A n,fz false true 3 (L::K::O::B::N::A::X) (n+3) r=.imm bf (intsA res)
theorem res_imm(X:Store)(b:Bool)(l:List Int):ResOk X (.imm b (intsA l)) b l:=⟨rfl,rfl,fun _ _ _ _ _ _=>by simp,fun _ _ _ _ _ _ _=>by simp⟩
theorem res_sl6(ep:Nat)(l:List Int)(X:Store):ResOk (.arr 1 ep (intsA l)::X) (.sl 6 ep 0 l.length) false l:=⟨rfl,rfl,fun _ _ _ _ _ _=>by simp,fun _ _ _ _ _ _ n=>by simp⟩
theorem res_sl7(ep:Nat)(l:List Int)(Y:Obj)(X:Store):ResOk (Y::.arr 1 ep (intsA l)::X) (.sl 7 ep 0 l.length) false l:=⟨rfl,rfl,fun _ _ _ _ _ _=>by simp,fun _ _ _ _ _ _ n=>by simp⟩
def preF(n:LNX)(opn:List Nat):Option (List Nat):=
 if partsF n.op < 0∨(opn.length:Int) < partsF n.op∨blankF n=false then none else
 match opn.drop (opn.length - (partsF n.op).toNat) with
 | []=>if n.l=-1∧n.r=-1 then some [] else none
 | [p]=>if n.l=p∧n.r=-1 then some [p] else none
 | [p,q]=>if n.l=p∧n.r=q then some [p,q] else none
 | _=>none
theorem partsF_le(t:Int):-1≤partsF t∧partsF t≤2:=by
 unfold partsF
 repeat' split
 all_goals omega
abbrev natsI(l:List Nat):List AVal:=l.map fun (k:Nat)=>AVal.int .i64 (k:Int)
structure Cells12 where
 c0:AVal
 c1:AVal
 c2:AVal
 c3:AVal
 c4:AVal
 c5:AVal
 c6:AVal
 c7:AVal
 c8:AVal
 c9:AVal
 c10:AVal
 c11:AVal
abbrev LNX.z(n:LNX):Cells12:=⟨.int .i64 n.op,.int .i64 n.l,.int .i64 n.r,.int .i64 n.tab,.imm n.bk (n.kinds.map (.int .i64)),.bool n.left,.imm n.bc (n.cond.map EN.a),.imm n.by' (n.keys.map (.int .i64)),.imm n.bg (n.aggs.map AggX.a),.imm n.bi (n.items.map ExX.a),.imm n.bo (n.ords.map ordA),.int .i64 n.limit⟩
abbrev laidZ(bn:Bool)(nodes:List LNX)(ep1 m1 ep2 m2:Nat)(z:Cells12)(a b r:AVal):Obj:=.arr 18 0 [.agg [.imm bn (nodes.map LNX.a),.sl 1 ep1 0 m1,.sl 2 ep2 0 m2,z.c0,z.c1,z.c2,z.c3,z.c4,z.c5,z.c6,z.c7,z.c8,z.c9,z.c10,z.c11,a,b,r]]
abbrev stK(bn:Bool)(nodes:List LNX)(ep1 ep2:Nat)(kinds:List (SlX Int))(opn:List Nat)(n0:Cells12)(a0 b0 r0:AVal)(B:Obj):Store:=
 [laidZ bn nodes ep1 kinds.length ep2 opn.length n0 a0 b0 r0,.arr 1 ep1 (kinds.map (SlX.c (.int .i64))),.arr 1 ep2 (natsI opn),B]
theorem takes_bad0(bn:Bool)(nodes:List LNX)(ep1 ep2:Nat)(kinds:List (SlX Int))(opn:List Nat)(n0:Cells12)(n:LNX)(a0 b0 r0:AVal)(B:Obj)(ask:AVal)(i:Nat)(hi:nodes[i]?=some n)(hk1:n.keys.length≤most)(hk2:n.aggs.length≤most)
  (hb:partsF n.op < 0∨(opn.length:Int) < partsF n.op∨blankF n=false) :
  ∃ σ',acall code I.qej [.ptr 0 0 0 0,.int .i64 i,ask] (stK bn nodes ep1 ep2 kinds opn n0 a0 b0 r0 B)=some (.bool false,σ'):=by
 rw[acall_keep c_qej rfl]
 have hp:=parts18_spec n.op
 have hbl:=blank18_spec n hk1 hk2
 simp only[LNX.a]at hbl
 by_cases c1:partsF n.op < 0
 ·exact ⟨_,by simp[f_qej,b_qej,hi,LNX.a,hp,c1];rfl⟩
 ·by_cases c2:(opn.length:Int) < partsF n.op
  ·exact ⟨_,by simp[f_qej,b_qej,hi,LNX.a,hp,c1,c2];rfl⟩
  ·have c3:blankF n=false:=by rcases hb with h|h|h;exact absurd h c1;exact absurd h c2;exact h
   rw[c3]at hbl
   exact ⟨_,by simp[f_qej,b_qej,hi,LNX.a,hp,c1,c2,hbl];rfl⟩
end Go.AM
end
section
namespace Go.AM
open P
set_option maxHeartbeats 16000000
set_option maxRecDepth 8000
attribute [local simp] condRun_if when_if
theorem alen_imm(σ:Store)(b:Bool)(l:List AVal):alen σ (.imm b l)=some l.length:=rfl
theorem alen_lst(σ:Store)(l:List AVal):alen σ (.lst l)=some l.length:=rfl
theorem alen_nil0(σ:Store):alen σ .nil0=some 0:=rfl
theorem alen_sl(σ:Store)(id ep o n:Nat):alen σ (.sl id ep o n)=if fresh σ id ep then some n else none:=rfl
theorem wr1:IntKind.i64.wrap 1=1:=by decide
theorem wr2:IntKind.i64.wrap 2=2:=by decide
theorem and2{a b:Bool}(h:(a&&b)=true):a=true∧b=true:=by revert h;cases a<;>cases b<;>simp
instance:Nc (fun (k:Nat)=>AVal.int .i64 (k:Int)) 1 false:=⟨fun _=>rfl,fun _=>rfl⟩
instance:Fx (fun (k:Nat)=>AVal.int .i64 (k:Int)):=⟨fun _ _ _ _ _ _=>rfl⟩
abbrev atO(x y:Int):Obj:=.arr 2 0 [.agg [.int .i64 x,.int .i64 y]]
def rootOk(n:LNX)(i len:Nat):Bool:=!((n.op == 8 || n.op == 10)&&i != len - 1)
structure TkE where
 bn:Bool
 nodes:List LNX
 ep1:Nat
 ep2:Nat
 kinds:List (SlX Int)
 opn:List Nat
 n0:Cells12
 a0:AVal
 b0:AVal
 r0:AVal
 B:Obj
 ask:AVal
 i:Nat
 n:LNX
noncomputable abbrev TkE.call(E:TkE):Option (AVal×Store):=acall code I.qej [.ptr 0 0 0 0,.int .i64 E.i,E.ask] (stK E.bn E.nodes E.ep1 E.ep2 E.kinds E.opn E.n0 E.a0 E.b0 E.r0 E.B)
abbrev TkE.st(E:TkE)(A C r:AVal)(x y:Int):Store:=[laidX E.bn E.nodes E.ep1 E.kinds.length E.ep2 E.opn.length E.n A C r,.arr 1 E.ep1 (E.kinds.map (SlX.c (.int .i64))),.arr 1 E.ep2 (natsI E.opn),E.B,grpO E.n,atO x y]
structure Tk (E:TkE) (k:Nat) (ps:List Nat):Prop where
 hi:E.nodes[E.i]?=some E.n
 hil:E.nodes.length≤most
 hol:E.opn.length≤most
 hk1:E.n.keys.length≤most
 hk2:E.n.aggs.length≤most
 hop:partsF E.n.op=k
 hkl:k≤E.opn.length
 hd:E.opn.drop (E.opn.length - k)=ps
 hbl:blankF E.n=true
 hB:∀ base σ,freezeObj base σ E.B=E.B
abbrev RootFine(E:TkE):Prop:=((E.n.op == 8)=false∧(E.n.op == 10)=false∧True)∨((E.n.op == 8)=true∧((E.i:Int) != ((E.nodes.length:Int) - 1))=false∧True)∨((E.n.op == 8)=false∧(E.n.op == 10)=true∧((E.i:Int) != ((E.nodes.length:Int) - 1))=false)
abbrev RootBad(E:TkE):Prop:=((E.n.op == 8)=true∧((E.i:Int) != ((E.nodes.length:Int) - 1))=true∧True)∨((E.n.op == 8)=false∧(E.n.op == 10)=true∧((E.i:Int) != ((E.nodes.length:Int) - 1))=true)
theorem tk0{E:TkE}(h:Tk E 0 []):pcall I.qel [.int .i64 E.n.op]=some (.int .i64 0)∧pcall I.qdv [E.n.a]=some (.bool true)∧decide ((E.opn.length:Int) < 0)=false∧IntKind.i64.wrap ((E.opn.length:Int))=(E.opn.length:Int)∧((E.opn.length:Int)).toNat=E.opn.length∧(0:Int)≤(E.opn.length:Int)∧E.opn.length - (E.opn.length)=0∧E.opn.length≤E.opn.length∧List.take 0 (natsI [])=natsI []∧(0:Int)≤(E.opn.length:Int)∧List.drop (E.opn.length) (natsI E.opn)=natsI []∧IntKind.i64.wrap ((E.nodes.length:Int) - 1)=(E.nodes.length:Int) - 1∧E.opn.length+0=E.opn.length:=by
 obtain ⟨hi,hil,hol,hk1,hk2,hop,hkl,hd,hbl,_⟩:=h
 have hil':E.nodes.length≤68719476736:=hil
 have hol':E.opn.length≤68719476736:=hol
 have hp:=parts18_spec E.n.op
 have hbs:=blank18_spec E.n hk1 hk2
 rw[hop]at hp
 rw[hbl]at hbs
 refine ⟨hp,hbs,decide_eq_false (by omega),w64 (by omega) (by omega),by omega,by omega,by omega,by omega,rfl,by omega,?_,w64 (by omega) (by omega),by omega⟩
 ·rw[natsI,← List.map_drop]
  exact congrArg _ hd
theorem tk1{E:TkE}{p:Nat}(h:Tk E 1 [p]):pcall I.qel [.int .i64 E.n.op]=some (.int .i64 1)∧pcall I.qdv [E.n.a]=some (.bool true)∧decide ((E.opn.length:Int) < 1)=false∧IntKind.i64.wrap ((E.opn.length:Int) - 1)=(E.opn.length:Int) - 1∧((E.opn.length:Int) - 1).toNat=E.opn.length - 1∧(1:Int)≤(E.opn.length:Int)∧E.opn.length - (E.opn.length - 1)=1∧E.opn.length - 1≤E.opn.length∧List.take 1 (natsI [p])=natsI [p]∧(0:Int)≤(E.opn.length:Int)∧List.drop (E.opn.length - 1) (natsI E.opn)=natsI [p]∧IntKind.i64.wrap ((E.nodes.length:Int) - 1)=(E.nodes.length:Int) - 1∧E.opn.length - 1+1=E.opn.length∧E.opn[E.opn.length - 1]?=some p:=by
 obtain ⟨hi,hil,hol,hk1,hk2,hop,hkl,hd,hbl,_⟩:=h
 have hil':E.nodes.length≤68719476736:=hil
 have hol':E.opn.length≤68719476736:=hol
 have hp:=parts18_spec E.n.op
 have hbs:=blank18_spec E.n hk1 hk2
 rw[hop]at hp
 rw[hbl]at hbs
 refine ⟨hp,hbs,decide_eq_false (by omega),w64 (by omega) (by omega),by omega,by omega,by omega,by omega,rfl,by omega,?_,w64 (by omega) (by omega),by omega,?_⟩
 ·rw[natsI,← List.map_drop]
  exact congrArg _ hd
 ·have:=congrArg (·[0]?) hd
  simpa using this
theorem tk2{E:TkE}{p q:Nat}(h:Tk E 2 [p,q]):pcall I.qel [.int .i64 E.n.op]=some (.int .i64 2)∧pcall I.qdv [E.n.a]=some (.bool true)∧decide ((E.opn.length:Int) < 2)=false∧IntKind.i64.wrap ((E.opn.length:Int) - 2)=(E.opn.length:Int) - 2∧((E.opn.length:Int) - 2).toNat=E.opn.length - 2∧(2:Int)≤(E.opn.length:Int)∧E.opn.length - (E.opn.length - 2)=2∧E.opn.length - 2≤E.opn.length∧List.take 2 (natsI [p,q])=natsI [p,q]∧(0:Int)≤(E.opn.length:Int)∧List.drop (E.opn.length - 2) (natsI E.opn)=natsI [p,q]∧IntKind.i64.wrap ((E.nodes.length:Int) - 1)=(E.nodes.length:Int) - 1∧E.opn.length - 2+2=E.opn.length∧E.opn[E.opn.length - 2]?=some p∧E.opn[E.opn.length - 2+1]?=some q:=by
 obtain ⟨hi,hil,hol,hk1,hk2,hop,hkl,hd,hbl,_⟩:=h
 have hil':E.nodes.length≤68719476736:=hil
 have hol':E.opn.length≤68719476736:=hol
 have hp:=parts18_spec E.n.op
 have hbs:=blank18_spec E.n hk1 hk2
 rw[hop]at hp
 rw[hbl]at hbs
 refine ⟨hp,hbs,decide_eq_false (by omega),w64 (by omega) (by omega),by omega,by omega,by omega,by omega,rfl,by omega,?_,w64 (by omega) (by omega),by omega,?_,?_⟩
 ·rw[natsI,← List.map_drop]
  exact congrArg _ hd
 ·have:=congrArg (·[0]?) hd
  simpa using this
 ·have:=congrArg (·[1]?) hd
  simpa using this
theorem takes0_bad(E:TkE)(h:Tk E 0 [])(hb:¬(E.n.l=-1∧E.n.r=-1)):∃ σ',E.call=some (.bool false,σ'):=by
 unfold TkE.call
 rw[acall_keep c_qej rfl]
 obtain ⟨hp,hbs,z1,z2,z3,z4,z5,z7,z8,z9,hd',zw,z6⟩:=tk0 h
 have hi:=h.hi
 have hB:=h.hB
 simp only[LNX.a]at hbs
 by_cases c:E.n.l=(-1)
 ·have c1:((-1) == E.n.l)=true:=by simp[c]
  have c2:((-1) == E.n.r)=false:=beq_f (Ne.symm fun h=>hb ⟨c,h⟩)
  exact ⟨_,by simp[f_qej,b_qej,hi,LNX.a,hp,hbs,c1,c2,z1,z2,z3,z4,z5,z6,z7,z8,z9,hd'];rfl⟩
 ·have c1:((-1) == E.n.l)=false:=beq_f (Ne.symm c)
  exact ⟨_,by simp[f_qej,b_qej,hi,LNX.a,hp,hbs,c1,z1,z2,z3,z4,z5,z6,z7,z8,z9,hd'];rfl⟩
theorem takes1_bad(E:TkE)(p:Nat)(h:Tk E 1 [p])(hb:¬(E.n.l=(p:Int)∧E.n.r=-1)):∃ σ',E.call=some (.bool false,σ'):=by
 unfold TkE.call
 rw[acall_keep c_qej rfl]
 obtain ⟨hp,hbs,z1,z2,z3,z4,z5,z7,z8,z9,hd',zw,z6,y0⟩:=tk1 h
 have hi:=h.hi
 have hB:=h.hB
 simp only[LNX.a]at hbs
 by_cases c:E.n.l=(p:Int)
 ·have c1:((p:Int) == E.n.l)=true:=by simp[c]
  have c2:((-1) == E.n.r)=false:=beq_f (Ne.symm fun h=>hb ⟨c,h⟩)
  exact ⟨_,by simp[f_qej,b_qej,hi,LNX.a,hp,hbs,c1,c2,z1,z2,z3,z4,z5,z6,z7,z8,z9,hd'];rfl⟩
 ·have c1:((p:Int) == E.n.l)=false:=beq_f (Ne.symm c)
  exact ⟨_,by simp[f_qej,b_qej,hi,LNX.a,hp,hbs,c1,z1,z2,z3,z4,z5,z6,z7,z8,z9,hd'];rfl⟩
theorem takes2_bad(E:TkE)(p q:Nat)(h:Tk E 2 [p,q])(hb:¬(E.n.l=(p:Int)∧E.n.r=(q:Int))):∃ σ',E.call=some (.bool false,σ'):=by
 unfold TkE.call
 rw[acall_keep c_qej rfl]
 obtain ⟨hp,hbs,z1,z2,z3,z4,z5,z7,z8,z9,hd',zw,z6,y0,y1⟩:=tk2 h
 have hi:=h.hi
 have hB:=h.hB
 simp only[LNX.a]at hbs
 by_cases c:E.n.l=(p:Int)
 ·have c1:((p:Int) == E.n.l)=true:=by simp[c]
  have c2:((q:Int) == E.n.r)=false:=beq_f (Ne.symm fun h=>hb ⟨c,h⟩)
  exact ⟨_,by simp[f_qej,b_qej,hi,LNX.a,hp,hbs,c1,c2,z1,z2,z3,z4,z5,z6,z7,z8,z9,hd'];rfl⟩
 ·have c1:((p:Int) == E.n.l)=false:=beq_f (Ne.symm c)
  exact ⟨_,by simp[f_qej,b_qej,hi,LNX.a,hp,hbs,c1,z1,z2,z3,z4,z5,z6,z7,z8,z9,hd'];rfl⟩
end Go.AM
end
section
namespace Go.AM
open P
set_option maxHeartbeats 16000000
set_option maxRecDepth 8000
attribute [local simp] condRun_if when_if
theorem takes0_no(E:TkE)(h:Tk E 0 [])(hA:E.n.l=-1∧E.n.r=-1)(hc:RootFine E)(σ1:Store)
  (hask:acallV code E.ask [.ptr 0 0 0 0] (E.st .nil0 .nil0 E.r0 (-1) (-1))=some (.bool false,σ1)):∃ σ',E.call=some (.bool false,σ'):=by
 unfold TkE.call
 rw[acall_keep c_qej rfl]
 obtain ⟨hp,hbs,z1,z2,z3,z4,z5,z7,z8,z9,hd',zw,z6⟩:=tk0 h
 have hi:=h.hi
 have hB:=h.hB
 simp only[LNX.a]at hbs
 have c1:((-1) == E.n.l)=true:=by simp[hA.1]
 have c2:((-1) == E.n.r)=true:=by simp[hA.2]
 rcases hc with ⟨q1,q2,q3⟩|⟨q1,q2,q3⟩|⟨q1,q2,q3⟩<;>exact ⟨_,by simp[f_qej,b_qej,hi,LNX.a,hp,hbs,c1,c2,z1,z2,z3,z4,z5,z6,z7,z8,z9,hd',zw,l_qej_0,rounds_go0,roundEnd,freezeObj,hB,wr1,wr2,q1,q2,q3,hask];rfl⟩
theorem takes0_root(E:TkE)(h:Tk E 0 [])(hA:E.n.l=-1∧E.n.r=-1)(hc:RootBad E):∃ σ',E.call=some (.bool false,σ'):=by
 unfold TkE.call
 rw[acall_keep c_qej rfl]
 obtain ⟨hp,hbs,z1,z2,z3,z4,z5,z7,z8,z9,hd',zw,z6⟩:=tk0 h
 have hi:=h.hi
 have hB:=h.hB
 simp only[LNX.a]at hbs
 have c1:((-1) == E.n.l)=true:=by simp[hA.1]
 have c2:((-1) == E.n.r)=true:=by simp[hA.2]
 rcases hc with ⟨q1,q2,q3⟩|⟨q1,q2,q3⟩<;>exact ⟨_,by simp[f_qej,b_qej,hi,LNX.a,hp,hbs,c1,c2,z1,z2,z3,z4,z5,z6,z7,z8,z9,hd',zw,l_qej_0,rounds_go0,roundEnd,freezeObj,hB,wr1,wr2,q1,q2,q3];rfl⟩
theorem takes1_no(E:TkE)(p:Nat)(h:Tk E 1 [p])(hA:E.n.l=(p:Int)∧E.n.r=-1)(ka:SlX Int)(hka:E.kinds[p]?=some ka)(hla:ka.l.length≤most)(h4:((E.n.op != 11)&&sum4 ka.l)=false)(hc:RootFine E)(σ1:Store)
  (hask:acallV code E.ask [.ptr 0 0 0 0] (E.st (.imm ka.b (intsA ka.l)) .nil0 E.r0 (p:Int) (-1))=some (.bool false,σ1)):∃ σ',E.call=some (.bool false,σ'):=by
 unfold TkE.call
 rw[acall_keep c_qej rfl]
 obtain ⟨hp,hbs,z1,z2,z3,z4,z5,z7,z8,z9,hd',zw,z6,y0⟩:=tk1 h
 have hi:=h.hi
 have hB:=h.hB
 simp only[LNX.a]at hbs
 have c1:((p:Int) == E.n.l)=true:=by simp[hA.1]
 have c2:((-1) == E.n.r)=true:=by simp[hA.2]
 obtain ⟨hla0,hga⟩:=List.getElem?_eq_some_iff.1 hka
 have ga:(E.n.op != 11)=true→∀ b,pcall I.qfz [.imm b (intsA ka.l),.int .i64 4]=some (.bool false):=fun e b=>by
  have:=Contains_int b ka.l 4 hla
  rwa [show (ka.l.any fun y=>4 == y)=false by rw[e]at h4;exact h4]at this
 rcases hc with ⟨q1,q2,q3⟩|⟨q1,q2,q3⟩|⟨q1,q2,q3⟩<;>cases h12:(E.n.op != 11)<;>first|(have ga:=ga h12;exact ⟨_,by simp[f_qej,b_qej,hi,LNX.a,hp,hbs,c1,c2,z1,z2,z3,z4,z5,z6,z7,z8,z9,hd',zw,l_qej_0,rounds_go0,roundEnd,freezeObj,hB,wr1,wr2,y0,hga,hla0,q1,q2,q3,hask,h12,ga];rfl⟩)|exact ⟨_,by simp[f_qej,b_qej,hi,LNX.a,hp,hbs,c1,c2,z1,z2,z3,z4,z5,z6,z7,z8,z9,hd',zw,l_qej_0,rounds_go0,roundEnd,freezeObj,hB,wr1,wr2,y0,hga,hla0,q1,q2,q3,hask,h12];rfl⟩
theorem takes1_root(E:TkE)(p:Nat)(h:Tk E 1 [p])(hA:E.n.l=(p:Int)∧E.n.r=-1)(ka:SlX Int)(hka:E.kinds[p]?=some ka)(hla:ka.l.length≤most)(h4:((E.n.op != 11)&&sum4 ka.l)=false)(hc:RootBad E):∃ σ',E.call=some (.bool false,σ'):=by
 unfold TkE.call
 rw[acall_keep c_qej rfl]
 obtain ⟨hp,hbs,z1,z2,z3,z4,z5,z7,z8,z9,hd',zw,z6,y0⟩:=tk1 h
 have hi:=h.hi
 have hB:=h.hB
 simp only[LNX.a]at hbs
 have c1:((p:Int) == E.n.l)=true:=by simp[hA.1]
 have c2:((-1) == E.n.r)=true:=by simp[hA.2]
 obtain ⟨hla0,hga⟩:=List.getElem?_eq_some_iff.1 hka
 have ga:(E.n.op != 11)=true→∀ b,pcall I.qfz [.imm b (intsA ka.l),.int .i64 4]=some (.bool false):=fun e b=>by
  have:=Contains_int b ka.l 4 hla
  rwa [show (ka.l.any fun y=>4 == y)=false by rw[e]at h4;exact h4]at this
 rcases hc with ⟨q1,q2,q3⟩|⟨q1,q2,q3⟩<;>cases h12:(E.n.op != 11)<;>first|(have ga:=ga h12;exact ⟨_,by simp[f_qej,b_qej,hi,LNX.a,hp,hbs,c1,c2,z1,z2,z3,z4,z5,z6,z7,z8,z9,hd',zw,l_qej_0,rounds_go0,roundEnd,freezeObj,hB,wr1,wr2,y0,hga,hla0,q1,q2,q3,h12,ga];rfl⟩)|exact ⟨_,by simp[f_qej,b_qej,hi,LNX.a,hp,hbs,c1,c2,z1,z2,z3,z4,z5,z6,z7,z8,z9,hd',zw,l_qej_0,rounds_go0,roundEnd,freezeObj,hB,wr1,wr2,y0,hga,hla0,q1,q2,q3,h12];rfl⟩
theorem takes2_no(E:TkE)(p q:Nat)(h:Tk E 2 [p,q])(hA:E.n.l=(p:Int)∧E.n.r=(q:Int))(ka:SlX Int)(hka:E.kinds[p]?=some ka)(hla:ka.l.length≤most)(kb:SlX Int)(hkb:E.kinds[q]?=some kb)(hlb:kb.l.length≤most)(h4:((E.n.op != 11)&&sum4 ka.l)=false)(h5:((E.n.op != 11)&&sum4 kb.l)=false)(hc:RootFine E)(σ1:Store)
  (hask:acallV code E.ask [.ptr 0 0 0 0] (E.st (.imm ka.b (intsA ka.l)) (.imm kb.b (intsA kb.l)) E.r0 (p:Int) (q:Int))=some (.bool false,σ1)):∃ σ',E.call=some (.bool false,σ'):=by
 unfold TkE.call
 rw[acall_keep c_qej rfl]
 obtain ⟨hp,hbs,z1,z2,z3,z4,z5,z7,z8,z9,hd',zw,z6,y0,y1⟩:=tk2 h
 have hi:=h.hi
 have hB:=h.hB
 simp only[LNX.a]at hbs
 have c1:((p:Int) == E.n.l)=true:=by simp[hA.1]
 have c2:((q:Int) == E.n.r)=true:=by simp[hA.2]
 obtain ⟨hla0,hga⟩:=List.getElem?_eq_some_iff.1 hka
 obtain ⟨hlb0,hgb⟩:=List.getElem?_eq_some_iff.1 hkb
 have ga:(E.n.op != 11)=true→∀ b,pcall I.qfz [.imm b (intsA ka.l),.int .i64 4]=some (.bool false):=fun e b=>by
  have:=Contains_int b ka.l 4 hla
  rwa [show (ka.l.any fun y=>4 == y)=false by rw[e]at h4;exact h4]at this
 have gb:(E.n.op != 11)=true→∀ b,pcall I.qfz [.imm b (intsA kb.l),.int .i64 4]=some (.bool false):=fun e b=>by
  have:=Contains_int b kb.l 4 hlb
  rwa [show (kb.l.any fun y=>4 == y)=false by rw[e]at h5;exact h5]at this
 rcases hc with ⟨q1,q2,q3⟩|⟨q1,q2,q3⟩|⟨q1,q2,q3⟩<;>cases h12:(E.n.op != 11)<;>first|(have ga:=ga h12;have gb:=gb h12;exact ⟨_,by simp[f_qej,b_qej,hi,LNX.a,hp,hbs,c1,c2,z1,z2,z3,z4,z5,z6,z7,z8,z9,hd',zw,l_qej_0,rounds_go0,roundEnd,freezeObj,hB,wr1,wr2,y0,y1,hga,hla0,hgb,hlb0,q1,q2,q3,hask,h12,ga,gb];rfl⟩)|exact ⟨_,by simp[f_qej,b_qej,hi,LNX.a,hp,hbs,c1,c2,z1,z2,z3,z4,z5,z6,z7,z8,z9,hd',zw,l_qej_0,rounds_go0,roundEnd,freezeObj,hB,wr1,wr2,y0,y1,hga,hla0,hgb,hlb0,q1,q2,q3,hask,h12];rfl⟩
theorem takes2_root(E:TkE)(p q:Nat)(h:Tk E 2 [p,q])(hA:E.n.l=(p:Int)∧E.n.r=(q:Int))(ka:SlX Int)(hka:E.kinds[p]?=some ka)(hla:ka.l.length≤most)(kb:SlX Int)(hkb:E.kinds[q]?=some kb)(hlb:kb.l.length≤most)(h4:((E.n.op != 11)&&sum4 ka.l)=false)(h5:((E.n.op != 11)&&sum4 kb.l)=false)(hc:RootBad E):∃ σ',E.call=some (.bool false,σ'):=by
 unfold TkE.call
 rw[acall_keep c_qej rfl]
 obtain ⟨hp,hbs,z1,z2,z3,z4,z5,z7,z8,z9,hd',zw,z6,y0,y1⟩:=tk2 h
 have hi:=h.hi
 have hB:=h.hB
 simp only[LNX.a]at hbs
 have c1:((p:Int) == E.n.l)=true:=by simp[hA.1]
 have c2:((q:Int) == E.n.r)=true:=by simp[hA.2]
 obtain ⟨hla0,hga⟩:=List.getElem?_eq_some_iff.1 hka
 obtain ⟨hlb0,hgb⟩:=List.getElem?_eq_some_iff.1 hkb
 have ga:(E.n.op != 11)=true→∀ b,pcall I.qfz [.imm b (intsA ka.l),.int .i64 4]=some (.bool false):=fun e b=>by
  have:=Contains_int b ka.l 4 hla
  rwa [show (ka.l.any fun y=>4 == y)=false by rw[e]at h4;exact h4]at this
 have gb:(E.n.op != 11)=true→∀ b,pcall I.qfz [.imm b (intsA kb.l),.int .i64 4]=some (.bool false):=fun e b=>by
  have:=Contains_int b kb.l 4 hlb
  rwa [show (kb.l.any fun y=>4 == y)=false by rw[e]at h5;exact h5]at this
 rcases hc with ⟨q1,q2,q3⟩|⟨q1,q2,q3⟩<;>cases h12:(E.n.op != 11)<;>first|(have ga:=ga h12;have gb:=gb h12;exact ⟨_,by simp[f_qej,b_qej,hi,LNX.a,hp,hbs,c1,c2,z1,z2,z3,z4,z5,z6,z7,z8,z9,hd',zw,l_qej_0,rounds_go0,roundEnd,freezeObj,hB,wr1,wr2,y0,y1,hga,hla0,hgb,hlb0,q1,q2,q3,h12,ga,gb];rfl⟩)|exact ⟨_,by simp[f_qej,b_qej,hi,LNX.a,hp,hbs,c1,c2,z1,z2,z3,z4,z5,z6,z7,z8,z9,hd',zw,l_qej_0,rounds_go0,roundEnd,freezeObj,hB,wr1,wr2,y0,y1,hga,hla0,hgb,hlb0,q1,q2,q3,h12];rfl⟩
theorem takes1_four0(E:TkE)(p:Nat)(h:Tk E 1 [p])(hA:E.n.l=(p:Int)∧E.n.r=-1)(ka:SlX Int)(hka:E.kinds[p]?=some ka)(hla:ka.l.length≤most)(h4:((E.n.op != 11)&&sum4 ka.l)=true):∃ σ',E.call=some (.bool false,σ'):=by
 unfold TkE.call
 rw[acall_keep c_qej rfl]
 obtain ⟨hp,hbs,z1,z2,z3,z4,z5,z7,z8,z9,hd',zw,z6,y0⟩:=tk1 h
 have hi:=h.hi
 have hB:=h.hB
 simp only[LNX.a]at hbs
 have c1:((p:Int) == E.n.l)=true:=by simp[hA.1]
 have c2:((-1) == E.n.r)=true:=by simp[hA.2]
 obtain ⟨hla0,hga⟩:=List.getElem?_eq_some_iff.1 hka
 have h12:(E.n.op != 11)=true:=(and2 h4).1
 have ga:=fun b=>Contains_int b ka.l 4 hla
 rw[show (ka.l.any fun y=>4 == y)=true from (and2 h4).2]at ga
 exact ⟨_,by simp[f_qej,b_qej,hi,LNX.a,hp,hbs,c1,c2,z1,z2,z3,z4,z5,z6,z7,z8,z9,hd',l_qej_0,rounds_go0,roundEnd,freezeObj,hB,wr1,wr2,y0,hga,hla0,h12,ga];rfl⟩
theorem takes2_four0(E:TkE)(p q:Nat)(h:Tk E 2 [p,q])(hA:E.n.l=(p:Int)∧E.n.r=(q:Int))(ka:SlX Int)(hka:E.kinds[p]?=some ka)(hla:ka.l.length≤most)(kb:SlX Int)(hkb:E.kinds[q]?=some kb)(hlb:kb.l.length≤most)(h4:((E.n.op != 11)&&sum4 ka.l)=true):∃ σ',E.call=some (.bool false,σ'):=by
 unfold TkE.call
 rw[acall_keep c_qej rfl]
 obtain ⟨hp,hbs,z1,z2,z3,z4,z5,z7,z8,z9,hd',zw,z6,y0,y1⟩:=tk2 h
 have hi:=h.hi
 have hB:=h.hB
 simp only[LNX.a]at hbs
 have c1:((p:Int) == E.n.l)=true:=by simp[hA.1]
 have c2:((q:Int) == E.n.r)=true:=by simp[hA.2]
 obtain ⟨hla0,hga⟩:=List.getElem?_eq_some_iff.1 hka
 obtain ⟨hlb0,hgb⟩:=List.getElem?_eq_some_iff.1 hkb
 have h12:(E.n.op != 11)=true:=(and2 h4).1
 have ga:=fun b=>Contains_int b ka.l 4 hla
 rw[show (ka.l.any fun y=>4 == y)=true from (and2 h4).2]at ga
 exact ⟨_,by simp[f_qej,b_qej,hi,LNX.a,hp,hbs,c1,c2,z1,z2,z3,z4,z5,z6,z7,z8,z9,hd',l_qej_0,rounds_go0,roundEnd,freezeObj,hB,wr1,wr2,y0,y1,hga,hla0,hgb,hlb0,h12,ga];rfl⟩
theorem takes2_four1(E:TkE)(p q:Nat)(h:Tk E 2 [p,q])(hA:E.n.l=(p:Int)∧E.n.r=(q:Int))(ka:SlX Int)(hka:E.kinds[p]?=some ka)(hla:ka.l.length≤most)(kb:SlX Int)(hkb:E.kinds[q]?=some kb)(hlb:kb.l.length≤most)(h4:((E.n.op != 11)&&sum4 ka.l)=false)(h5:((E.n.op != 11)&&sum4 kb.l)=true):∃ σ',E.call=some (.bool false,σ'):=by
 unfold TkE.call
 rw[acall_keep c_qej rfl]
 obtain ⟨hp,hbs,z1,z2,z3,z4,z5,z7,z8,z9,hd',zw,z6,y0,y1⟩:=tk2 h
 have hi:=h.hi
 have hB:=h.hB
 simp only[LNX.a]at hbs
 have c1:((p:Int) == E.n.l)=true:=by simp[hA.1]
 have c2:((q:Int) == E.n.r)=true:=by simp[hA.2]
 obtain ⟨hla0,hga⟩:=List.getElem?_eq_some_iff.1 hka
 obtain ⟨hlb0,hgb⟩:=List.getElem?_eq_some_iff.1 hkb
 have h12:(E.n.op != 11)=true:=(and2 h5).1
 have ga:=fun b=>Contains_int b ka.l 4 hla
 rw[show (ka.l.any fun y=>4 == y)=false by rw[h12]at h4;exact h4]at ga
 have gb:=fun b=>Contains_int b kb.l 4 hlb
 rw[show (kb.l.any fun y=>4 == y)=true from (and2 h5).2]at gb
 exact ⟨_,by simp[f_qej,b_qej,hi,LNX.a,hp,hbs,c1,c2,z1,z2,z3,z4,z5,z6,z7,z8,z9,hd',l_qej_0,rounds_go0,roundEnd,freezeObj,hB,wr1,wr2,y0,y1,hga,hla0,hgb,hlb0,h12,ga,gb];rfl⟩
end Go.AM
end
