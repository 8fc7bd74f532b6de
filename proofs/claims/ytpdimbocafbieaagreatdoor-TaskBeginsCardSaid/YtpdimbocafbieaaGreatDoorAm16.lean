/- Part of the proof. -/
import Derived.Test.YtpdimbocafbieaaGreatDoorAm15
set_option linter.unusedVariables false
set_option linter.unusedSimpArgs false
section
namespace Go.AM
open P
set_option maxHeartbeats 16000000
set_option maxRecDepth 8000
attribute [local simp] condRun_if when_if
def keysF(a keys:List Int):Option (List Int):=if keys.all fun k=>decide (0≤k)&&decide (k < a.length) then some (keys.map fun k=>a.getD k.toNat 0) else none
def keyG(a:List Int)(_:Nat)(x:Int)(acc:Nat×List Int):Nat×List Int⊕Unit:=if 0≤x∧x < a.length then .inl (acc.1+1,acc.2++[a.getD x.toNat 0]) else .inr ()
theorem keyG_fold(a:List Int):∀ (l:List Int) (k ep:Nat) (acc:List Int),foldL (keyG a) l k (ep,acc)=match keysF a l with
  | some r=>.inl (ep+l.length,acc++r)
  | none=>.inr ()
 | [],k,ep,acc=>by simp[foldL,keysF]
 | x::l,k,ep,acc=>by
  by_cases h:0≤x∧x < a.length
  ·simp only[foldL,keyG,if_pos h]
   rw[keyG_fold a l (k+1) (ep+1)]
   unfold keysF
   by_cases hl:(l.all fun k=>decide (0≤k)&&decide (k < (a.length:Int)))=true
   ·have:((x::l).all fun k=>decide (0≤k)&&decide (k < (a.length:Int)))=true:=by simp only[List.all_cons,hl];simp[h]
    rw[if_pos hl,if_pos this]
    simp[Nat.add_assoc,Nat.add_comm 1]
   ·have:¬((x::l).all fun k=>decide (0≤k)&&decide (k < (a.length:Int)))=true:=by
     intro hq
     simp only[List.all_cons,Bool.and_eq_true]at hq
     exact hl hq.2
    rw[if_neg hl,if_neg this]
  ·simp only[foldL,keyG,if_neg h]
   unfold keysF
   have:¬((x::l).all fun k=>decide (0≤k)&&decide (k < (a.length:Int)))=true:=by
    intro hq
    simp only[List.all_cons,Bool.and_eq_true,decide_eq_true_eq]at hq
    exact h hq.1
   rw[if_neg this]
theorem keysF_len{a l r:List Int}(h:keysF a l=some r):r.length=l.length:=by
 unfold keysF at h
 split at h
 ·cases h;simp
 ·cases h
def aggK(a:List Int)(g:AggX):Bool×Int:=
 if g.tag=1 then (g.arg.length == 0,2)
 else ((kindF g.arg a).2 == 0&&decide (1 < g.tag)&&decide (g.tag≤5)&&(g.tag != 3 || (kindF g.arg a).1 == 2 || (kindF g.arg a).1 == 0),if g.tag=4∨g.tag=5 then (kindF g.arg a).1 else 2)
def aggsOk(n:LNX)(a:List Int):Bool:=decide (n.keys.length≤3)&&decide (n.aggs.length≤12)&&decide (0 < n.keys.length+n.aggs.length)&&n.aggs.all fun g=>(aggK a g).1
def headOk(n:LNX):Bool:=decide (n.keys.length≤3)&&decide (n.aggs.length≤12)&&decide (0 < n.keys.length+n.aggs.length)
def aggsG(a:List Int)(s:Bool×Nat×List Int)(g:AggX):Bool×Nat×List Int:=(s.1&&(aggK a g).1,s.2.1+1,s.2.2++[(aggK a g).2])
theorem aggsG_fold(a:List Int):∀ (l:List AggX) (ok:Bool) (ep:Nat) (acc:List Int),l.foldl (aggsG a) (ok,ep,acc)=(ok&&l.all (fun g=>(aggK a g).1),ep+l.length,acc++l.map fun g=>(aggK a g).2)
 | [],ok,ep,acc=>by simp
 | g::l,ok,ep,acc=>by
  rw[List.foldl_cons,aggsG,aggsG_fold a l]
  simp[Bool.and_assoc,Nat.add_assoc,Nat.add_comm 1]
abbrev grpO(n:LNX):Obj:=.arr 12 0 [.agg [.int .i64 n.op,.int .i64 n.l,.int .i64 n.r,.int .i64 n.tab,.imm n.bk (n.kinds.map (.int .i64)),.bool n.left,.imm n.bc (n.cond.map EN.a),.imm n.by' (n.keys.map (.int .i64)),.imm n.bg (n.aggs.map AggX.a),.imm n.bi (n.items.map ExX.a),.imm n.bo (n.ords.map ordA),.int .i64 n.limit]]
theorem group_spec(bn:Bool)(nodes:List LNX)(ep1 m1 ep2 m2:Nat)(n:LNX)(ba:Bool)(a:List Int)(r:AVal)(τ:Store)(hτ:Fzs τ)(hl:2≤τ.length)(hk:n.keys.length≤most)(hg:n.aggs.length≤most)(hkg:n.keys.length+n.aggs.length≤most)(he:∀ g∈n.aggs,g.arg.length≤most)(ha:a.length≤most) :
  match keysF a n.keys with
  | none=>∃ σ',acall code I.qdn [.ptr 0 0 0 0] (laidX bn nodes ep1 m1 ep2 m2 n (.imm ba (intsA a)) .nil0 r::τ)=some (.bool false,σ')
  | some ks=>acall code I.qdn [.ptr 0 0 0 0] (laidX bn nodes ep1 m1 ep2 m2 n (.imm ba (intsA a)) .nil0 r::τ) =
    some (.bool (aggsOk n a),laidX bn nodes ep1 m1 ep2 m2 n (.imm ba (intsA a)) .nil0 (.sl (τ.length+2) (n.keys.length+n.aggs.length) 0 (n.keys.length+n.aggs.length))::(τ++[grpO n,.arr 1 (n.keys.length+n.aggs.length) (intsA (ks++n.aggs.map fun g=>(aggK a g).2))])):=by
 have hkg':n.keys.length+n.aggs.length≤68719476736:=hkg
 have q1:1 < τ.length+3:=by omega
 have q2:2 < τ.length+3:=by omega
 have h:=rounds_list (base:=τ.length+3) (clr:=[1,4,12,13]) (b:=l_qdn_1) n.keys
  (fun k (s:Nat×List Int)=>⟨[.ptr 0 0 0 0,.any,.ptr (τ.length+1) 0 0 0,.bool (headOk n),.any,.any,.any,.any,.any,.imm n.by' (n.keys.map (.int .i64)),.int .i64 n.keys.length,.int .i64 k,.any,.any,.any,.any,.any,.any,.any,.any,.any,.any],laidX bn nodes ep1 m1 ep2 m2 n (.imm ba (intsA a)) .nil0 (.sl (τ.length+2) s.1 0 s.2.length)::(τ++[grpO n,.arr 1 s.1 (intsA s.2)])⟩)
  (fun k s=>s.2.length≤k) (keyG a)
  (fun s=>(.ext 0,⟨[.ptr 0 0 0 0,.any,.ptr (τ.length+1) 0 0 0,.bool (headOk n),.any,.any,.any,.any,.any,.imm n.by' (n.keys.map (.int .i64)),.int .i64 n.keys.length,.int .i64 n.keys.length,.bool false,.any,.any,.any,.any,.any,.any,.any,.any,.any],laidX bn nodes ep1 m1 ep2 m2 n (.imm ba (intsA a)) .nil0 (.sl (τ.length+2) s.1 0 s.2.length)::(τ++[grpO n,.arr 1 s.1 (intsA s.2)])⟩))
  (fun _ o=>∃ s,o=(.ret,s)∧results s [.env 1]=some (.bool false))
  (fun k x s hk' hy hs=>by
   obtain ⟨ep,acc⟩:=s
   simp only at hs
   have hlt:((k:Int) < (n.keys.length:Int)):=by omega
   have h5:acc.length+1≤most:=by omega
   unfold keyG
   by_cases h1:0≤x
   ·by_cases h2:x < a.length
    ·rw[if_pos ⟨h1,h2⟩]
     refine ⟨?_,by simp;omega⟩
     have e1:¬(x < 0):=by omega
     have e2:¬((a.length:Int)≤x):=by omega
     have e3:a[x.toNat]?=some (a.getD x.toNat 0):=by
      have:x.toNat < a.length:=by omega
      simp[List.getD_eq_getElem?_getD,this]
     generalize a.getD x.toNat 0=w at *
     simp[l_qdn_1,hlt,hy,e1,e2,e3,h1,append,h5,wrap_lt hk' hk,roundEnd]
    ·rw[if_neg (fun h=>h2 h.2)]
     have e1:¬(x < 0):=by omega
     have e2:((a.length:Int)≤x):=by omega
     exact ⟨_,by simp[l_qdn_1,hlt,hy,e1,e2];rfl,_,rfl,by simp⟩
   ·rw[if_neg (fun h=>h1 h.1)]
    have e1:(x < 0):=by omega
    exact ⟨_,by simp[l_qdn_1,hlt,hy,e1];rfl,_,rfl,by simp⟩)
  (fun s hs=>by simp[l_qdn_1]) (0,[]) (Nat.le_refl _)
 rw[keyG_fold]at h
 have hw:IntKind.i64.wrap ((n.keys.length:Int)+(n.aggs.length:Int))=(n.keys.length:Int)+n.aggs.length:=w64 (by omega) (by omega)
 have g2:=fun ks:List Int=>fun hks:ks.length=n.keys.length=>(rounds_fold (base:=τ.length+3) (clr:=[5,6,7,8,17,18,19,20,21]) (b:=l_qdn_0) n.aggs
  (fun k (s:Bool×Nat×List Int)=>⟨[.ptr 0 0 0 0,.any,.ptr (τ.length+1) 0 0 0,.bool s.1,.any,.any,.any,.any,.any,.imm n.by' (n.keys.map (.int .i64)),.int .i64 n.keys.length,.int .i64 n.keys.length,.bool false,.any,.imm n.bg (n.aggs.map AggX.a),.int .i64 n.aggs.length,.int .i64 k,.any,.any,.any,.any,.any],laidX bn nodes ep1 m1 ep2 m2 n (.imm ba (intsA a)) .nil0 (.sl (τ.length+2) s.2.1 0 s.2.2.length)::(τ++[grpO n,.arr 1 s.2.1 (intsA s.2.2)])⟩)
  (fun k s=>s.2.2.length≤n.keys.length+k) (aggsG a)
  (fun s=>(.ext 2,⟨[.ptr 0 0 0 0,.any,.ptr (τ.length+1) 0 0 0,.bool s.1,.any,.any,.any,.any,.any,.imm n.by' (n.keys.map (.int .i64)),.int .i64 n.keys.length,.int .i64 n.keys.length,.bool false,.any,.imm n.bg (n.aggs.map AggX.a),.int .i64 n.aggs.length,.int .i64 n.aggs.length,.bool false,.any,.any,.any,.any],laidX bn nodes ep1 m1 ep2 m2 n (.imm ba (intsA a)) .nil0 (.sl (τ.length+2) s.2.1 0 s.2.2.length)::(τ++[grpO n,.arr 1 s.2.1 (intsA s.2.2)])⟩))
  (fun k g s hk' hy hs=>by
   obtain ⟨ok,ep,acc⟩:=s
   simp only at hs
   have hlt:((k:Int) < (n.aggs.length:Int)):=by omega
   have h5:acc.length+1≤most:=by unfold most;omega
   have hkd:=fun b bk=>kind_spec b g.arg bk a (he g (List.mem_of_getElem? hy)) ha
   refine ⟨?_,by simp[aggsG];omega⟩
   unfold aggsG aggK
   by_cases t1:g.tag=1
   ·simp only[if_pos t1]
    cases ok
    ·simp[l_qdn_0,hlt,hy,AggX.a,append,h5,wrap_lt hk' hg,roundEnd,freezeObj,hτ,q1,q2,t1]
    ·by_cases hx:g.arg=[]
     ·simp[l_qdn_0,hlt,hy,AggX.a,append,h5,wrap_lt hk' hg,roundEnd,freezeObj,hτ,q1,q2,t1,hx]
     ·have hx1:((g.arg.length:Int) == 0)=false:=by simp[hx]
      have hx2:(g.arg.length == 0)=false:=by simp[hx]
      simp[l_qdn_0,hlt,hy,AggX.a,append,h5,wrap_lt hk' hg,roundEnd,freezeObj,hτ,q1,q2,t1,hx1,hx2]
   ·simp only[if_neg t1]
    generalize (kindF g.arg a).1=kk at *
    generalize (kindF g.arg a).2=no at *
    by_cases t3:g.tag=3
    ·simp only[t3]
     cases ok
     ·simp[l_qdn_0,hlt,hy,AggX.a,append,h5,wrap_lt hk' hg,roundEnd,freezeObj,hτ,q1,q2,t3,hkd]
     ·by_cases hn0:no=0
      ·by_cases k2:kk=2
       ·simp[l_qdn_0,hlt,hy,AggX.a,append,h5,wrap_lt hk' hg,roundEnd,freezeObj,hτ,q1,q2,t3,hkd,hn0,k2]
       ·simp[l_qdn_0,hlt,hy,AggX.a,append,h5,wrap_lt hk' hg,roundEnd,freezeObj,hτ,q1,q2,t3,hkd,hn0,k2,beq_f k2]
      ·simp[l_qdn_0,hlt,hy,AggX.a,append,h5,wrap_lt hk' hg,roundEnd,freezeObj,hτ,q1,q2,t3,hkd,hn0,beq_f hn0]
    ·by_cases t45:g.tag=4∨g.tag=5
     ·simp only[if_pos t45]
      rcases t45 with t4|t4<;>simp only[t4]
      ·cases ok
       ·simp[l_qdn_0,hlt,hy,AggX.a,append,h5,wrap_lt hk' hg,roundEnd,freezeObj,hτ,q1,q2,t4,hkd]
       ·by_cases hn0:no=0
        ·simp[l_qdn_0,hlt,hy,AggX.a,append,h5,wrap_lt hk' hg,roundEnd,freezeObj,hτ,q1,q2,t4,hkd,hn0]
        ·simp[l_qdn_0,hlt,hy,AggX.a,append,h5,wrap_lt hk' hg,roundEnd,freezeObj,hτ,q1,q2,t4,hkd,hn0,beq_f hn0]
      ·cases ok
       ·simp[l_qdn_0,hlt,hy,AggX.a,append,h5,wrap_lt hk' hg,roundEnd,freezeObj,hτ,q1,q2,t4,hkd]
       ·by_cases hn0:no=0
        ·simp[l_qdn_0,hlt,hy,AggX.a,append,h5,wrap_lt hk' hg,roundEnd,freezeObj,hτ,q1,q2,t4,hkd,hn0]
        ·simp[l_qdn_0,hlt,hy,AggX.a,append,h5,wrap_lt hk' hg,roundEnd,freezeObj,hτ,q1,q2,t4,hkd,hn0,beq_f hn0]
     ·simp only[if_neg t45]
      have t4:¬g.tag=4:=fun h=>t45 (.inl h)
      have t5:¬g.tag=5:=fun h=>t45 (.inr h)
      cases ok
      ·simp[l_qdn_0,hlt,hy,AggX.a,append,h5,wrap_lt hk' hg,roundEnd,freezeObj,hτ,q1,q2,t1,t3,t4,t5,beq_f t1,beq_f t3,beq_f t4,beq_f t5,hkd]
      ·by_cases hn0:no=0
       ·by_cases l1:1 < g.tag
        ·by_cases l5:g.tag≤5
         ·simp[l_qdn_0,hlt,hy,AggX.a,append,h5,wrap_lt hk' hg,roundEnd,freezeObj,hτ,q1,q2,t1,t3,t4,t5,beq_f t1,beq_f t3,beq_f t4,beq_f t5,bne_t t3,hkd,hn0,l1,l5]
         ·simp[l_qdn_0,hlt,hy,AggX.a,append,h5,wrap_lt hk' hg,roundEnd,freezeObj,hτ,q1,q2,t1,t3,t4,t5,beq_f t1,beq_f t3,beq_f t4,beq_f t5,bne_t t3,hkd,hn0,l1,l5]
        ·simp[l_qdn_0,hlt,hy,AggX.a,append,h5,wrap_lt hk' hg,roundEnd,freezeObj,hτ,q1,q2,t1,t3,t4,t5,beq_f t1,beq_f t3,beq_f t4,beq_f t5,bne_t t3,hkd,hn0,l1]
       ·simp[l_qdn_0,hlt,hy,AggX.a,append,h5,wrap_lt hk' hg,roundEnd,freezeObj,hτ,q1,q2,t1,t3,t4,t5,beq_f t1,beq_f t3,beq_f t4,beq_f t5,hkd,hn0,beq_f hn0])
  (fun s _=>by simp[l_qdn_0]) (headOk n,n.keys.length,ks) (by simp[hks])).1
 rw[acall_keep c_qdn rfl]
 have hh1:n.keys.length≤3→n.aggs.length≤12→headOk n=decide ((0:Int) < (n.keys.length:Int)+n.aggs.length):=fun c1 c2=>by
  unfold headOk
  rw[decide_eq_true c1,decide_eq_true c2]
  exact decide_eq_decide.2 (by omega)
 have hh2:¬n.aggs.length≤12→headOk n=false:=fun c=>by
  unfold headOk
  rw[decide_eq_false c];simp
 have hh3:¬n.keys.length≤3→headOk n=false:=fun c=>by
  unfold headOk
  rw[decide_eq_false c];simp
 have hH:∀ R,(n.keys.length≤3→n.aggs.length≤12→headOk n=decide ((0:Int) < (n.keys.length:Int)+n.aggs.length)→R)→(n.keys.length≤3→¬n.aggs.length≤12→headOk n=false→R)→(¬n.keys.length≤3→headOk n=false→R)→R:=fun R r1 r2 r3=>by
  by_cases c1:n.keys.length≤3
  ·by_cases c2:n.aggs.length≤12
   ·exact r1 c1 c2 (hh1 c1 c2)
   ·exact r2 c1 c2 (hh2 c2)
  ·exact r3 c1 (hh3 c1)
 cases hq:keysF a n.keys with
 | none=>
  rw[hq]at h
  obtain ⟨o,h1,s,rfl,h2⟩:=h
  refine ⟨s.st,?_⟩
  simp at h1
  refine hH _ (fun c1 c2 hh=>?_) (fun c1 c2 hh=>?_) (fun c1 hh=>?_)<;>rw[hh]at h1
  ·have c1':((n.keys.length:Int)≤3):=by omega
   have c2':((n.aggs.length:Int)≤12):=by omega
   simp[f_qdn,b_qdn,c1',c2',hw,h1,-results,h2]
  ·have c1':((n.keys.length:Int)≤3):=by omega
   have c2':¬((n.aggs.length:Int)≤12):=by omega
   simp[f_qdn,b_qdn,c1',c2',hw,h1,-results,h2]
  ·have c1':¬((n.keys.length:Int)≤3):=by omega
   simp[f_qdn,b_qdn,c1',hw,h1,-results,h2]
 | some ks=>
  rw[hq]at h
  have h1:=h.2
  have hks:=keysF_len hq
  have h2:=g2 ks hks
  rw[aggsG_fold]at h2
  simp at h1 h2
  have hA:aggsOk n a=(headOk n&&n.aggs.all fun g=>(aggK a g).1):=rfl
  rw[hA]
  rw[hks]at h1 h2
  simp only
  refine hH _ (fun c1 c2 hh=>?_) (fun c1 c2 hh=>?_) (fun c1 hh=>?_)<;>rw[hh]at h1 h2 ⊢
  ·have c1':((n.keys.length:Int)≤3):=by omega
   have c2':((n.aggs.length:Int)≤12):=by omega
   simp[f_qdn,b_qdn,c1',c2',hw,h1,h2]
  ·have c1':((n.keys.length:Int)≤3):=by omega
   have c2':¬((n.aggs.length:Int)≤12):=by omega
   simp[f_qdn,b_qdn,c1',c2',hw,h1,h2]
  ·have c1':¬((n.keys.length:Int)≤3):=by omega
   simp[f_qdn,b_qdn,c1',hw,h1,h2]
end Go.AM
end
section
namespace Go.AM
open P
set_option maxHeartbeats 16000000
set_option maxRecDepth 8000
attribute [local simp] condRun_if when_if
def partK(a:List Int)(g:AggX):Int:=if g.tag=3 then 4 else (aggK a g).2
abbrev curP(a ks:List Int)(n:LNX)(k:Nat):List Int:=ks++((n.aggs.take k).map (partK a)++(n.aggs.drop k).map fun g=>(aggK a g).2)
theorem curP_next{a ks:List Int}{n:LNX}{k:Nat}{g:AggX}(hy:n.aggs[k]?=some g) :
  curP a ks n (k+1)=if g.tag=3 then (curP a ks n k).set (ks.length+k) 4 else curP a ks n k:=by
 obtain ⟨hk,he⟩:=List.getElem?_eq_some_iff.1 hy
 unfold curP
 rw[List.drop_eq_getElem_cons hk,he,List.take_succ_eq_append_getElem hk,he]
 by_cases h3:g.tag=3
 ·rw[if_pos h3,List.set_append_right _ _ (by omega),List.set_append_right _ _ (by simp;omega)]
  simp[partK,h3,Nat.min_eq_left (Nat.le_of_lt hk)]
 ·rw[if_neg h3]
  simp[partK,h3]
theorem partial_spec(bn:Bool)(nodes:List LNX)(ep1 m1 ep2 m2:Nat)(n:LNX)(ba:Bool)(a:List Int)(r:AVal)(τ:Store)(hτ:Fzs τ)(hl:2≤τ.length)(hk:n.keys.length≤most)(hg:n.aggs.length≤most)(hkg:n.keys.length+n.aggs.length≤most)(he:∀ g∈n.aggs,g.arg.length≤most)(ha:a.length≤most) :
  match keysF a n.keys with
  | none=>∃ σ',acall code I.qds [.ptr 0 0 0 0] (laidX bn nodes ep1 m1 ep2 m2 n (.imm ba (intsA a)) .nil0 r::τ)=some (.bool false,σ')
  | some ks=>if aggsOk n a=true then acall code I.qds [.ptr 0 0 0 0] (laidX bn nodes ep1 m1 ep2 m2 n (.imm ba (intsA a)) .nil0 r::τ) =
    some (.bool true,laidX bn nodes ep1 m1 ep2 m2 n (.imm ba (intsA a)) .nil0 (.sl (τ.length+2) (n.keys.length+n.aggs.length) 0 (n.keys.length+n.aggs.length))::(τ++[grpO n,.arr 1 (n.keys.length+n.aggs.length) (intsA (ks++n.aggs.map (partK a)))]))
   else ∃ σ',acall code I.qds [.ptr 0 0 0 0] (laidX bn nodes ep1 m1 ep2 m2 n (.imm ba (intsA a)) .nil0 r::τ)=some (.bool false,σ'):=by
 have hgr:=group_spec bn nodes ep1 m1 ep2 m2 n ba a r τ hτ hl hk hg hkg he ha
 have hkg':n.keys.length+n.aggs.length≤68719476736:=hkg
 rw[acall_keep c_qds rfl]
 cases hq:keysF a n.keys with
 | none=>
  rw[hq]at hgr
  obtain ⟨σ',hgr⟩:=hgr
  exact ⟨_,by simp[f_qds,b_qds,hgr];rfl⟩
 | some ks=>
  rw[hq]at hgr
  simp only at hgr ⊢
  cases hok:aggsOk n a with
  | false=>
   rw[hok]at hgr
   simp only[Bool.false_eq_true,if_false]
   exact ⟨_,by simp[f_qds,b_qds,hgr];rfl⟩
  | true=>
   rw[hok]at hgr
   simp only[if_true]
   have hks:=keysF_len hq
   have q1:1 < τ.length+3:=by omega
   have q2:2 < τ.length+3:=by omega
   have hloop:=rounds_iter (base:=τ.length+3) (clr:=[3,4,9,10]) (b:=l_qds_0)
    (fun k=>⟨[.ptr 0 0 0 0,.bool false,.bool true,.any,.any,.bool false,.imm n.bg (n.aggs.map AggX.a),.int .i64 n.aggs.length,.int .i64 k,.any,.any],laidX bn nodes ep1 m1 ep2 m2 n (.imm ba (intsA a)) .nil0 (.sl (τ.length+2) (n.keys.length+n.aggs.length) 0 (n.keys.length+n.aggs.length))::(τ++[grpO n,.arr 1 (n.keys.length+n.aggs.length) (intsA (curP a ks n k))])⟩) n.aggs.length
    (.ext 0,⟨[.ptr 0 0 0 0,.bool false,.bool true,.any,.any,.bool false,.imm n.bg (n.aggs.map AggX.a),.int .i64 n.aggs.length,.int .i64 n.aggs.length,.bool false,.any],laidX bn nodes ep1 m1 ep2 m2 n (.imm ba (intsA a)) .nil0 (.sl (τ.length+2) (n.keys.length+n.aggs.length) 0 (n.keys.length+n.aggs.length))::(τ++[grpO n,.arr 1 (n.keys.length+n.aggs.length) (intsA (curP a ks n n.aggs.length))])⟩)
    (fun k hk'=>by
     have hlt:((k:Int) < (n.aggs.length:Int)):=by omega
     have hy:n.aggs[k]?=some n.aggs[k]:=List.getElem?_eq_getElem hk'
     have hc:=curP_next (a:=a) (ks:=ks) hy
     have hl3:(curP a ks n k).length=n.keys.length+n.aggs.length:=by
      unfold curP
      simp[hks];omega
     rw[hc]
     generalize curP a ks n k=X at *
     rw[hks]
     generalize n.aggs[k]=g at *
     have w1:=w64 (n:=(n.keys.length:Int)+(k:Int)) (by omega) (by omega)
     have w2:(0:Int)≤(n.keys.length:Int)+(k:Int):=by omega
     have w3:((n.keys.length:Int)+(k:Int)).toNat=n.keys.length+k:=by omega
     have w4:X[n.keys.length+k]?=some (X.getD (n.keys.length+k) 0):=by
      have:n.keys.length+k < X.length:=by omega
      simp[List.getD_eq_getElem?_getD,this]
     generalize X.getD (n.keys.length+k) 0=w at *
     by_cases h3:g.tag=3
     ·rw[if_pos h3]
      simp[l_qds_0,hlt,hy,AggX.a,h3,w1,w2,w3,w4,wrap_lt hk' hg,roundEnd,freezeObj,hτ,q1,q2]
      simp[hk',w1,w2,w3,w4,wrap_lt hk' hg,roundEnd,freezeObj,hτ,q1,q2]
     ·rw[if_neg h3]
      simp[l_qds_0,hlt,hy,AggX.a,h3,beq_f h3,wrap_lt hk' hg,roundEnd,freezeObj,hτ,q1,q2])
    (by simp[l_qds_0])
   have e0:curP a ks n 0=ks++n.aggs.map fun g=>(aggK a g).2:=by simp[curP]
   have e1:curP a ks n n.aggs.length=ks++n.aggs.map (partK a):=by simp[curP]
   rw[e0,e1]at hloop
   simp at hloop
   simp at hgr
   simp[f_qds,b_qds,hgr,hloop]
def finKeys(a:List Int):Nat→List Int→Bool
 | _,[]=>true
 | i,x::r=>(x == (i:Int)&&a.getD i 0 != 4)&&finKeys a (i+1) r
def finAgg(o:Int)(g:AggX):Bool:=g.arg.length == 0&&(if g.tag=1∨g.tag=2 then o == 2 else if g.tag=3 then o == 4 else if g.tag=4∨g.tag=5 then o != 4 else false)
def finAggs(a:List Int):Nat→List AggX→Bool
 | _,[]=>true
 | i,g::r=>finAgg (a.getD i 0) g&&finAggs a (i+1) r
def finSet:Nat→List AggX→List Int→List Int
 | _,[],l=>l
 | i,g::r,l=>finSet (i+1) r (if g.tag=3 then l.set i 2 else l)
def finHead(n m:LNX)(a:List Int):Bool:=m.op == 9&&decide (n.keys.length≤3)&&decide (n.aggs.length≤12)&&n.keys.length+n.aggs.length == a.length
theorem finKeys_fold(a:List Int):∀ (l:List Int) (k:Nat) (ok:Bool),foldL (ρ:=Empty) (fun k x ok=>.inl (ok&&(x == (k:Int)&&a.getD k 0 != 4))) l k ok=.inl (ok&&finKeys a k l)
 | [],k,ok=>by simp[foldL,finKeys]
 | x::l,k,ok=>by
  simp only[foldL]
  rw[finKeys_fold a l (k+1)]
  simp[finKeys,Bool.and_assoc]
def finG(a:List Int)(K k:Nat)(g:AggX)(s:Bool×List Int):Bool×List Int⊕Empty:=.inl (s.1&&finAgg (a.getD (K+k) 0) g,if g.tag=3 then s.2.set (K+k) 2 else s.2)
theorem finG_fold(a:List Int)(K:Nat):∀ (l:List AggX) (k:Nat) (ok:Bool) (x:List Int),foldL (finG a K) l k (ok,x)=.inl (ok&&finAggs a (K+k) l,finSet (K+k) l x)
 | [],k,ok,x=>by simp[foldL,finAggs,finSet]
 | g::l,k,ok,x=>by
  simp only[foldL,finG]
  rw[finG_fold a K l (k+1)]
  simp[finAggs,finSet,Bool.and_assoc,Nat.add_assoc]
theorem finSet_len:∀ (l:List AggX) (i:Nat) (x:List Int),(finSet i l x).length=x.length
 | [],i,x=>rfl
 | g::l,i,x=>by
  rw[finSet,finSet_len l]
  split<;>simp
theorem final_bad(bn:Bool)(nodes:List LNX)(ep1 m1 ep2 m2:Nat)(n m:LNX)(ba:Bool)(a:List Int)(r:AVal)(τ:Store)(hA:0≤n.l)(hm:nodes[n.l.toNat]?=some m)(hkg:n.keys.length+n.aggs.length≤most)(hh:finHead n m a=false) :
  ∃ σ',acall code I.qdm [.ptr 0 0 0 0] (laidX bn nodes ep1 m1 ep2 m2 n (.imm ba (intsA a)) .nil0 r::τ)=some (.bool false,σ'):=by
 rw[acall_keep c_qdm rfl]
 have hkg':n.keys.length+n.aggs.length≤68719476736:=hkg
 have w1:=w64 (n:=(n.keys.length:Int)+(n.aggs.length:Int)) (by omega) (by omega)
 unfold finHead at hh
 by_cases c1:m.op=9
 ·by_cases c2:n.keys.length≤3
  ·have c2':((n.keys.length:Int)≤3):=by omega
   by_cases c3:n.aggs.length≤12
   ·have c3':((n.aggs.length:Int)≤12):=by omega
    have c4:n.keys.length+n.aggs.length≠a.length:=by
     intro h;simp[c1,c2,c3,h]at hh
    have c4':((n.keys.length:Int)+n.aggs.length == (a.length:Int))=false:=by simp;omega
    exact ⟨_,by simp[f_qdm,b_qdm,hA,hm,LNX.a,c1,c2',c3',w1,c4'];rfl⟩
   ·have c3':¬((n.aggs.length:Int)≤12):=by omega
    exact ⟨_,by simp[f_qdm,b_qdm,hA,hm,LNX.a,c1,c2',c3'];rfl⟩
  ·have c2':¬((n.keys.length:Int)≤3):=by omega
   exact ⟨_,by simp[f_qdm,b_qdm,hA,hm,LNX.a,c1,c2'];rfl⟩
 ·exact ⟨_,by simp[f_qdm,b_qdm,hA,hm,LNX.a,c1,beq_f c1];rfl⟩
theorem final_spec(bn:Bool)(nodes:List LNX)(ep1 m1 ep2 m2:Nat)(n m:LNX)(ba:Bool)(a:List Int)(r:AVal)(τ:Store)(hτ:Fzs τ)(hl:2≤τ.length)(hA:0≤n.l)(hm:nodes[n.l.toNat]?=some m)(hkg:n.keys.length+n.aggs.length≤most)(ha:a.length≤most)(hh:finHead n m a=true) :
  acall code I.qdm [.ptr 0 0 0 0] (laidX bn nodes ep1 m1 ep2 m2 n (.imm ba (intsA a)) .nil0 r::τ) =
   some (.bool (finKeys a 0 n.keys&&finAggs a n.keys.length n.aggs),laidX bn nodes ep1 m1 ep2 m2 n (.imm ba (intsA a)) .nil0 (.sl (τ.length+2) 0 0 a.length)::(τ++[grpO n,.arr 1 0 (intsA (finSet n.keys.length n.aggs a))])):=by
 have hkg':n.keys.length+n.aggs.length≤68719476736:=hkg
 have w1:=w64 (n:=(n.keys.length:Int)+(n.aggs.length:Int)) (by omega) (by omega)
 unfold finHead at hh
 simp only[Bool.and_eq_true,beq_iff_eq,decide_eq_true_eq]at hh
 obtain ⟨⟨⟨c1,c2⟩,c3⟩,c4⟩:=hh
 have c2':((n.keys.length:Int)≤3):=by omega
 have c3':((n.aggs.length:Int)≤12):=by omega
 have c4':((n.keys.length:Int)+n.aggs.length == (a.length:Int))=true:=by simp;omega
 have hk:n.keys.length≤most:=by unfold most;omega
 have hg:n.aggs.length≤most:=by unfold most;omega
 have q1:1 < τ.length+3:=by omega
 have q2:2 < τ.length+3:=by omega
 have h1:=rounds_list (base:=τ.length+3) (clr:=[5,6,14]) (b:=l_qdm_1) n.keys
  (fun k (ok:Bool)=>⟨[.ptr 0 0 0 0,.bool false,.ptr (τ.length+1) 0 0 0,.int .i64 n.keys.length,.bool ok,.any,.any,.any,.any,.any,.bool false,.imm n.by' (n.keys.map (.int .i64)),.int .i64 n.keys.length,.int .i64 k,.any,.any,.any,.any,.any,.any,.any,.any,.any],laidX bn nodes ep1 m1 ep2 m2 n (.imm ba (intsA a)) .nil0 (.sl (τ.length+2) 0 0 a.length)::(τ++[grpO n,.arr 1 0 (intsA a)])⟩)
  (fun _ _=>True) (fun k x ok=>.inl (ok&&(x == (k:Int)&&a.getD k 0 != 4)))
  (fun ok=>(.ext 0,⟨[.ptr 0 0 0 0,.bool false,.ptr (τ.length+1) 0 0 0,.int .i64 n.keys.length,.bool ok,.any,.any,.any,.any,.any,.bool false,.imm n.by' (n.keys.map (.int .i64)),.int .i64 n.keys.length,.int .i64 n.keys.length,.bool false,.any,.any,.any,.any,.any,.any,.any,.any],laidX bn nodes ep1 m1 ep2 m2 n (.imm ba (intsA a)) .nil0 (.sl (τ.length+2) 0 0 a.length)::(τ++[grpO n,.arr 1 0 (intsA a)])⟩))
  (fun (r:Empty) _=>r.elim)
  (fun k x ok hk' hy _=>by
   refine ⟨?_,trivial⟩
   have hlt:((k:Int) < (n.keys.length:Int)):=by omega
   have hof:a[k]?=some (a.getD k 0):=by
    have:k < a.length:=by omega
    simp[List.getD_eq_getElem?_getD,this]
   generalize a.getD k 0=o at *
   cases ok
   ·simp[l_qdm_1,hlt,hy,wrap_lt hk' hk,roundEnd]
   ·by_cases h0:x=(k:Int)
    ·simp[l_qdm_1,hlt,hy,h0,hof,wrap_lt hk' hk,roundEnd]
    ·simp[l_qdm_1,hlt,hy,h0,beq_f h0,wrap_lt hk' hk,roundEnd])
  (fun s _=>by simp[l_qdm_1]) true trivial
 rw[finKeys_fold]at h1
 have h1:=h1.2
 rw[Bool.true_and]at h1
 generalize finKeys a 0 n.keys=ok1 at *
 have h2:=rounds_list (base:=τ.length+3) (clr:=[7,8,9,18,19,20,21,22]) (b:=l_qdm_0) n.aggs
  (fun k (s:Bool×List Int)=>⟨[.ptr 0 0 0 0,.bool false,.ptr (τ.length+1) 0 0 0,.int .i64 n.keys.length,.bool s.1,.any,.any,.any,.any,.any,.bool false,.imm n.by' (n.keys.map (.int .i64)),.int .i64 n.keys.length,.int .i64 n.keys.length,.bool false,.imm n.bg (n.aggs.map AggX.a),.int .i64 n.aggs.length,.int .i64 k,.any,.any,.any,.any,.any],laidX bn nodes ep1 m1 ep2 m2 n (.imm ba (intsA a)) .nil0 (.sl (τ.length+2) 0 0 a.length)::(τ++[grpO n,.arr 1 0 (intsA s.2)])⟩)
  (fun _ s=>s.2.length=a.length) (finG a n.keys.length)
  (fun s=>(.ext 2,⟨[.ptr 0 0 0 0,.bool false,.ptr (τ.length+1) 0 0 0,.int .i64 n.keys.length,.bool s.1,.any,.any,.any,.any,.any,.bool false,.imm n.by' (n.keys.map (.int .i64)),.int .i64 n.keys.length,.int .i64 n.keys.length,.bool false,.imm n.bg (n.aggs.map AggX.a),.int .i64 n.aggs.length,.int .i64 n.aggs.length,.bool false,.any,.any,.any,.any],laidX bn nodes ep1 m1 ep2 m2 n (.imm ba (intsA a)) .nil0 (.sl (τ.length+2) 0 0 a.length)::(τ++[grpO n,.arr 1 0 (intsA s.2)])⟩))
  (fun (r:Empty) _=>r.elim)
  (fun k g s hk' hy hs=>by
   obtain ⟨ok,X⟩:=s
   simp only at hs
   unfold finG
   refine ⟨?_,by simp only;split<;>simp[hs]⟩
   have hlt:((k:Int) < (n.aggs.length:Int)):=by omega
   have hof:a[n.keys.length+k]?=some (a.getD (n.keys.length+k) 0):=by
    have:n.keys.length+k < a.length:=by omega
    simp[List.getD_eq_getElem?_getD,this]
   have w1:=w64 (n:=(n.keys.length:Int)+(k:Int)) (by omega) (by omega)
   have w2:(0:Int)≤(n.keys.length:Int)+(k:Int):=by omega
   have w3:((n.keys.length:Int)+(k:Int)).toNat=n.keys.length+k:=by omega
   have w4:X[n.keys.length+k]?=some (X.getD (n.keys.length+k) 0):=by
    have:n.keys.length+k < X.length:=by omega
    simp[List.getD_eq_getElem?_getD,this]
   have w5:n.keys.length+k < a.length:=by omega
   generalize X.getD (n.keys.length+k) 0=w at *
   unfold finAgg
   generalize a.getD (n.keys.length+k) 0=o at *
   have hx0:g.arg.length=0∨(((g.arg.length:Int) == 0)=false∧(g.arg.length == 0)=false):=by
    by_cases h:g.arg.length=0
    ·exact .inl h
    ·exact .inr ⟨by simp;intro h';exact h (by rw[h'];rfl),by simp;intro h';exact h (by rw[h'];rfl)⟩
   by_cases t1:g.tag=1
   ·simp only[t1]
    cases ok
    ·simp[l_qdm_0,hlt,hy,AggX.a,hof,w1,w2,w3,w4,wrap_lt hk' hg,roundEnd,freezeObj,hτ,q1,q2,t1]
    ·rcases hx0 with h0|⟨h0,h0'⟩
     ·simp[l_qdm_0,hlt,hy,AggX.a,hof,w1,w2,w3,w4,wrap_lt hk' hg,roundEnd,freezeObj,hτ,q1,q2,t1,h0]
     ·simp[l_qdm_0,hlt,hy,AggX.a,hof,w1,w2,w3,w4,wrap_lt hk' hg,roundEnd,freezeObj,hτ,q1,q2,t1,h0,h0']
   ·by_cases t2:g.tag=2
    ·simp only[t2]
     cases ok
     ·simp[l_qdm_0,hlt,hy,AggX.a,hof,w1,w2,w3,w4,wrap_lt hk' hg,roundEnd,freezeObj,hτ,q1,q2,t2]
     ·rcases hx0 with h0|⟨h0,h0'⟩
      ·simp[l_qdm_0,hlt,hy,AggX.a,hof,w1,w2,w3,w4,wrap_lt hk' hg,roundEnd,freezeObj,hτ,q1,q2,t2,h0]
      ·simp[l_qdm_0,hlt,hy,AggX.a,hof,w1,w2,w3,w4,wrap_lt hk' hg,roundEnd,freezeObj,hτ,q1,q2,t2,h0,h0']
    ·by_cases t3:g.tag=3
     ·simp only[t3]
      cases ok
      ·simp[l_qdm_0,hlt,hy,AggX.a,hof,w1,w2,w3,w4,wrap_lt hk' hg,roundEnd,freezeObj,hτ,q1,q2,t3]
       simp[w5,hof,w1,w2,w3,w4,wrap_lt hk' hg,roundEnd,freezeObj,hτ,q1,q2]
      ·rcases hx0 with h0|⟨h0,h0'⟩
       ·simp[l_qdm_0,hlt,hy,AggX.a,hof,w1,w2,w3,w4,wrap_lt hk' hg,roundEnd,freezeObj,hτ,q1,q2,t3,h0]
        simp[w5,hof,w1,w2,w3,w4,wrap_lt hk' hg,roundEnd,freezeObj,hτ,q1,q2,h0]
       ·simp[l_qdm_0,hlt,hy,AggX.a,hof,w1,w2,w3,w4,wrap_lt hk' hg,roundEnd,freezeObj,hτ,q1,q2,t3,h0,h0']
        simp[w5,hof,w1,w2,w3,w4,wrap_lt hk' hg,roundEnd,freezeObj,hτ,q1,q2,h0,h0']
     ·by_cases t4:g.tag=4
      ·simp only[t4]
       cases ok
       ·simp[l_qdm_0,hlt,hy,AggX.a,hof,w1,w2,w3,w4,wrap_lt hk' hg,roundEnd,freezeObj,hτ,q1,q2,t4]
       ·rcases hx0 with h0|⟨h0,h0'⟩
        ·simp[l_qdm_0,hlt,hy,AggX.a,hof,w1,w2,w3,w4,wrap_lt hk' hg,roundEnd,freezeObj,hτ,q1,q2,t4,h0]
        ·simp[l_qdm_0,hlt,hy,AggX.a,hof,w1,w2,w3,w4,wrap_lt hk' hg,roundEnd,freezeObj,hτ,q1,q2,t4,h0,h0']
      ·by_cases t5:g.tag=5
       ·simp only[t5]
        cases ok
        ·simp[l_qdm_0,hlt,hy,AggX.a,hof,w1,w2,w3,w4,wrap_lt hk' hg,roundEnd,freezeObj,hτ,q1,q2,t5]
        ·rcases hx0 with h0|⟨h0,h0'⟩
         ·simp[l_qdm_0,hlt,hy,AggX.a,hof,w1,w2,w3,w4,wrap_lt hk' hg,roundEnd,freezeObj,hτ,q1,q2,t5,h0]
         ·simp[l_qdm_0,hlt,hy,AggX.a,hof,w1,w2,w3,w4,wrap_lt hk' hg,roundEnd,freezeObj,hτ,q1,q2,t5,h0,h0']
       ·cases ok
        ·simp[l_qdm_0,hlt,hy,AggX.a,hof,w1,w2,w3,w4,wrap_lt hk' hg,roundEnd,freezeObj,hτ,q1,q2,t1,t2,t3,t4,t5,beq_f t1,beq_f t2,beq_f t3,beq_f t4,beq_f t5]
        ·rcases hx0 with h0|⟨h0,h0'⟩
         ·simp[l_qdm_0,hlt,hy,AggX.a,hof,w1,w2,w3,w4,wrap_lt hk' hg,roundEnd,freezeObj,hτ,q1,q2,t1,t2,t3,t4,t5,beq_f t1,beq_f t2,beq_f t3,beq_f t4,beq_f t5,h0]
         ·simp[l_qdm_0,hlt,hy,AggX.a,hof,w1,w2,w3,w4,wrap_lt hk' hg,roundEnd,freezeObj,hτ,q1,q2,t1,t2,t3,t4,t5,beq_f t1,beq_f t2,beq_f t3,beq_f t4,beq_f t5,h0,h0'])
  (fun s _=>by simp[l_qdm_0]) (ok1,a) rfl
 rw[finG_fold]at h2
 have h2:=h2.2
 rw[Nat.add_zero]at h2
 have hcl:=aClone_int_int (enc:=.int .i64) ba a ha
 rw[acall_keep c_qdm rfl]
 simp at h1 h2
 simp[f_qdm,b_qdm,hA,hm,LNX.a,c1,c2',c3',w1,c4',hcl,h1,h2]
end Go.AM
end
section
namespace Go.AM
open P
set_option maxHeartbeats 16000000
set_option maxRecDepth 8000
attribute [local simp] condRun_if when_if
theorem Index_int(b:Bool)(l:List Int)(x:Int)(hn:l.length≤most):pcall I.qfl [.imm b (intsA l),.int .i64 x]=some (.int .i64 (ixF (fun y=>x == y) l)):=by
 rw[pcall_eq c_qfl rfl]
 have hstep:∀ k,k < l.length→∀ y,l[k]?=some y→(x == y)=false→thenLoop 0 [2,3,6,7] l_qfl_0 (run code l_qfl_0 ⟨[.imm b (intsA l),.int .i64 x,.any,.any,.int .i64 l.length,.int .i64 k,.any,.any],[]⟩) =
   rounds code 0 [2,3,6,7] l_qfl_0 ⟨[.imm b (intsA l),.int .i64 x,.any,.any,.int .i64 l.length,.int .i64 (k+1:Nat),.any,.any],[]⟩:=fun k hk y hy hp=>by
  have hlt:((k:Int) < (l.length:Int)):=by omega
  simp[l_qfl_0,hy,hp,hlt,wrap_lt hk hn,roundEnd_same]
 unfold ixF
 by_cases ha:(l.any fun y=>x == y)=true
 ·have hlt:=List.findIdx_lt_length_of_exists (List.any_eq_true.1 ha)
  have hp:(x == l[l.findIdx fun y=>x == y])=true:=List.findIdx_getElem (p:=fun y=>x == y) (w:=hlt)
  have hloop:=rounds_iter (base:=0) (clr:=[2,3,6,7]) (b:=l_qfl_0) (fun k=>⟨[.imm b (intsA l),.int .i64 x,.any,.any,.int .i64 l.length,.int .i64 k,.any,.any],[]⟩) (l.findIdx fun y=>x == y)
   (.ret,⟨[.imm b (intsA l),.int .i64 x,.int .i64 (l.findIdx fun y=>x == y:Nat),.int .i64 (l.findIdx fun y=>x == y:Nat),.int .i64 l.length,.int .i64 (l.findIdx fun y=>x == y:Nat),.bool true,.bool true],[]⟩)
   (fun k hk=>hstep k (by omega) _ (List.getElem?_eq_getElem (by omega)) (by simpa using List.not_of_lt_findIdx hk))
   (by
    have h1:l[l.findIdx fun y=>x == y]?=some l[l.findIdx fun y=>x == y]:=List.getElem?_eq_getElem hlt
    have hlt':(((l.findIdx fun y=>x == y:Nat):Int) < (l.length:Int)):=by omega
    generalize hL:(l.findIdx fun y=>x == y)=L at *
    generalize l[L]=y at *
    simp[l_qfl_0,h1,hp,hlt'])
  rw[if_pos ha]
  generalize (l.findIdx fun y=>x == y)=L at *
  simp at hloop
  simp[f_qfl,b_qfl,hloop]
 ·have hall:∀ y∈l,(x == y)=false:=fun y hy=>Bool.eq_false_iff.2 (List.any_eq_false.1 (Bool.not_eq_true _ ▸ ha) y hy)
  have hloop:=rounds_iter (base:=0) (clr:=[2,3,6,7]) (b:=l_qfl_0) (fun k=>⟨[.imm b (intsA l),.int .i64 x,.any,.any,.int .i64 l.length,.int .i64 k,.any,.any],[]⟩) l.length
   (.ext 0,⟨[.imm b (intsA l),.int .i64 x,.any,.any,.int .i64 l.length,.int .i64 l.length,.bool false,.any],[]⟩)
   (fun k hk=>hstep k hk _ (List.getElem?_eq_getElem hk) (hall _ (List.getElem_mem hk)))
   (by simp[l_qfl_0])
  simp at hloop
  rw[if_neg ha]
  simp[f_qfl,b_qfl,hloop]
theorem Contains_int(b:Bool)(l:List Int)(x:Int)(hn:l.length≤most):pcall I.qfb [.imm b (intsA l),.int .i64 x]=some (.bool (l.any fun y=>x == y)):=by
 rw[pcall_eq c_qfb rfl]
 have h:=fun b=>Index_int b l x hn
 unfold ixF at h
 cases ha:(l.any fun y=>x == y)<;>rw[ha]at h<;>simp[f_qfb,b_qfb,h]
def sum4(l:List Int):Bool:=l.any fun y=>4 == y
structure ResOk (X:Store) (r:AVal) (bf:Bool) (res:List Int):Prop where
 nc:ncells r=1
 ag:isAgg r=false
 len:∀ L K O B N A,alen (L::K::O::B::N::A::X) r=some res.length
 fz:∀ L K O B N A n,fz false true 3 (L::K::O::B::N::A::X) (n+3) r=.imm bf (intsA res)
theorem res_imm(X:Store)(b:Bool)(l:List Int):ResOk X (.imm b (intsA l)) b l:=⟨rfl,rfl,fun _ _ _ _ _ _=>by simp,fun _ _ _ _ _ _ _=>by simp⟩
theorem res_sl6(ep:Nat)(l:List Int)(X:Store):ResOk (.arr 1 ep (intsA l)::X) (.sl 6 ep 0 l.length) false l:=⟨rfl,rfl,fun _ _ _ _ _ _=>by simp,fun _ _ _ _ _ _ n=>by simp⟩
theorem res_sl7(ep:Nat)(l:List Int)(Y:Obj)(X:Store):ResOk (Y::.arr 1 ep (intsA l)::X) (.sl 7 ep 0 l.length) false l:=⟨rfl,rfl,fun _ _ _ _ _ _=>by simp,fun _ _ _ _ _ _ n=>by simp⟩
def preF(n:LNX)(opn:List Nat):Option (List Nat):=
 if partsF n.op < 0∨(opn.length:Int) < partsF n.op∨blankF n=false then none else
 match opn.drop (opn.length - (partsF n.op).toNat) with
 | []=>if n.l=-1∧n.r=-1 then some [] else none
 | [p]=>if n.l=p∧n.r=-1 then some [p] else none
 | [p,q]=>if n.l=p∧n.r=q then some [p,q] else none
 | _=>none
theorem partsF_le(t:Int):-1≤partsF t∧partsF t≤2:=by
 unfold partsF
 repeat' split
 all_goals omega
abbrev natsI(l:List Nat):List AVal:=l.map fun (k:Nat)=>AVal.int .i64 (k:Int)
structure Cells12 where
 c0:AVal
 c1:AVal
 c2:AVal
 c3:AVal
 c4:AVal
 c5:AVal
 c6:AVal
 c7:AVal
 c8:AVal
 c9:AVal
 c10:AVal
 c11:AVal
abbrev LNX.z(n:LNX):Cells12:=⟨.int .i64 n.op,.int .i64 n.l,.int .i64 n.r,.int .i64 n.tab,.imm n.bk (n.kinds.map (.int .i64)),.bool n.left,.imm n.bc (n.cond.map EN.a),.imm n.by' (n.keys.map (.int .i64)),.imm n.bg (n.aggs.map AggX.a),.imm n.bi (n.items.map ExX.a),.imm n.bo (n.ords.map ordA),.int .i64 n.limit⟩
abbrev laidZ(bn:Bool)(nodes:List LNX)(ep1 m1 ep2 m2:Nat)(z:Cells12)(a b r:AVal):Obj:=.arr 18 0 [.agg [.imm bn (nodes.map LNX.a),.sl 1 ep1 0 m1,.sl 2 ep2 0 m2,z.c0,z.c1,z.c2,z.c3,z.c4,z.c5,z.c6,z.c7,z.c8,z.c9,z.c10,z.c11,a,b,r]]
abbrev stK(bn:Bool)(nodes:List LNX)(ep1 ep2:Nat)(kinds:List (SlX Int))(opn:List Nat)(n0:Cells12)(a0 b0 r0:AVal)(B:Obj):Store:=
 [laidZ bn nodes ep1 kinds.length ep2 opn.length n0 a0 b0 r0,.arr 1 ep1 (kinds.map (SlX.c (.int .i64))),.arr 1 ep2 (natsI opn),B]
theorem takes_bad0(bn:Bool)(nodes:List LNX)(ep1 ep2:Nat)(kinds:List (SlX Int))(opn:List Nat)(n0:Cells12)(n:LNX)(a0 b0 r0:AVal)(B:Obj)(ask:AVal)(i:Nat)(hi:nodes[i]?=some n)(hk1:n.keys.length≤most)(hk2:n.aggs.length≤most)
  (hb:partsF n.op < 0∨(opn.length:Int) < partsF n.op∨blankF n=false) :
  ∃ σ',acall code I.qdy [.ptr 0 0 0 0,.int .i64 i,ask] (stK bn nodes ep1 ep2 kinds opn n0 a0 b0 r0 B)=some (.bool false,σ'):=by
 rw[acall_keep c_qdy rfl]
 have hp:=parts18_spec n.op
 have hbl:=blank18_spec n hk1 hk2
 simp only[LNX.a]at hbl
 by_cases c1:partsF n.op < 0
 ·exact ⟨_,by simp[f_qdy,b_qdy,hi,LNX.a,hp,c1];rfl⟩
 ·by_cases c2:(opn.length:Int) < partsF n.op
  ·exact ⟨_,by simp[f_qdy,b_qdy,hi,LNX.a,hp,c1,c2];rfl⟩
  ·have c3:blankF n=false:=by rcases hb with h|h|h;exact absurd h c1;exact absurd h c2;exact h
   rw[c3]at hbl
   exact ⟨_,by simp[f_qdy,b_qdy,hi,LNX.a,hp,c1,c2,hbl];rfl⟩
end Go.AM
end
section
namespace Go.AM
open P
set_option maxHeartbeats 16000000
set_option maxRecDepth 8000
attribute [local simp] condRun_if when_if
theorem alen_imm(σ:Store)(b:Bool)(l:List AVal):alen σ (.imm b l)=some l.length:=rfl
theorem alen_lst(σ:Store)(l:List AVal):alen σ (.lst l)=some l.length:=rfl
theorem alen_nil0(σ:Store):alen σ .nil0=some 0:=rfl
theorem alen_sl(σ:Store)(id ep o n:Nat):alen σ (.sl id ep o n)=if fresh σ id ep then some n else none:=rfl
theorem wr1:IntKind.i64.wrap 1=1:=by decide
theorem wr2:IntKind.i64.wrap 2=2:=by decide
theorem and2{a b:Bool}(h:(a&&b)=true):a=true∧b=true:=by revert h;cases a<;>cases b<;>simp
instance:Nc (fun (k:Nat)=>AVal.int .i64 (k:Int)) 1 false:=⟨fun _=>rfl,fun _=>rfl⟩
instance:Fx (fun (k:Nat)=>AVal.int .i64 (k:Int)):=⟨fun _ _ _ _ _ _=>rfl⟩
abbrev atO(x y:Int):Obj:=.arr 2 0 [.agg [.int .i64 x,.int .i64 y]]
def rootOk(n:LNX)(i len:Nat):Bool:=!((n.op == 8 || n.op == 10)&&i != len - 1)
structure TkE where
 bn:Bool
 nodes:List LNX
 ep1:Nat
 ep2:Nat
 kinds:List (SlX Int)
 opn:List Nat
 n0:Cells12
 a0:AVal
 b0:AVal
 r0:AVal
 B:Obj
 ask:AVal
 i:Nat
 n:LNX
noncomputable abbrev TkE.call(E:TkE):Option (AVal×Store):=acall code I.qdy [.ptr 0 0 0 0,.int .i64 E.i,E.ask] (stK E.bn E.nodes E.ep1 E.ep2 E.kinds E.opn E.n0 E.a0 E.b0 E.r0 E.B)
abbrev TkE.st(E:TkE)(A C r:AVal)(x y:Int):Store:=[laidX E.bn E.nodes E.ep1 E.kinds.length E.ep2 E.opn.length E.n A C r,.arr 1 E.ep1 (E.kinds.map (SlX.c (.int .i64))),.arr 1 E.ep2 (natsI E.opn),E.B,grpO E.n,atO x y]
structure Tk (E:TkE) (k:Nat) (ps:List Nat):Prop where
 hi:E.nodes[E.i]?=some E.n
 hil:E.nodes.length≤most
 hol:E.opn.length≤most
 hk1:E.n.keys.length≤most
 hk2:E.n.aggs.length≤most
 hop:partsF E.n.op=k
 hkl:k≤E.opn.length
 hd:E.opn.drop (E.opn.length - k)=ps
 hbl:blankF E.n=true
 hB:∀ base σ,freezeObj base σ E.B=E.B
abbrev RootFine(E:TkE):Prop:=((E.n.op == 8)=false∧(E.n.op == 10)=false∧True)∨((E.n.op == 8)=true∧((E.i:Int) != ((E.nodes.length:Int) - 1))=false∧True)∨((E.n.op == 8)=false∧(E.n.op == 10)=true∧((E.i:Int) != ((E.nodes.length:Int) - 1))=false)
abbrev RootBad(E:TkE):Prop:=((E.n.op == 8)=true∧((E.i:Int) != ((E.nodes.length:Int) - 1))=true∧True)∨((E.n.op == 8)=false∧(E.n.op == 10)=true∧((E.i:Int) != ((E.nodes.length:Int) - 1))=true)
theorem tk0{E:TkE}(h:Tk E 0 []):pcall I.qea [.int .i64 E.n.op]=some (.int .i64 0)∧pcall I.qdi [E.n.a]=some (.bool true)∧decide ((E.opn.length:Int) < 0)=false∧IntKind.i64.wrap ((E.opn.length:Int))=(E.opn.length:Int)∧((E.opn.length:Int)).toNat=E.opn.length∧(0:Int)≤(E.opn.length:Int)∧E.opn.length - (E.opn.length)=0∧E.opn.length≤E.opn.length∧List.take 0 (natsI [])=natsI []∧(0:Int)≤(E.opn.length:Int)∧List.drop (E.opn.length) (natsI E.opn)=natsI []∧IntKind.i64.wrap ((E.nodes.length:Int) - 1)=(E.nodes.length:Int) - 1∧E.opn.length+0=E.opn.length:=by
 obtain ⟨hi,hil,hol,hk1,hk2,hop,hkl,hd,hbl,_⟩:=h
 have hil':E.nodes.length≤68719476736:=hil
 have hol':E.opn.length≤68719476736:=hol
 have hp:=parts18_spec E.n.op
 have hbs:=blank18_spec E.n hk1 hk2
 rw[hop]at hp
 rw[hbl]at hbs
 refine ⟨hp,hbs,decide_eq_false (by omega),w64 (by omega) (by omega),by omega,by omega,by omega,by omega,rfl,by omega,?_,w64 (by omega) (by omega),by omega⟩
 ·rw[natsI,← List.map_drop]
  exact congrArg _ hd
theorem tk1{E:TkE}{p:Nat}(h:Tk E 1 [p]):pcall I.qea [.int .i64 E.n.op]=some (.int .i64 1)∧pcall I.qdi [E.n.a]=some (.bool true)∧decide ((E.opn.length:Int) < 1)=false∧IntKind.i64.wrap ((E.opn.length:Int) - 1)=(E.opn.length:Int) - 1∧((E.opn.length:Int) - 1).toNat=E.opn.length - 1∧(1:Int)≤(E.opn.length:Int)∧E.opn.length - (E.opn.length - 1)=1∧E.opn.length - 1≤E.opn.length∧List.take 1 (natsI [p])=natsI [p]∧(0:Int)≤(E.opn.length:Int)∧List.drop (E.opn.length - 1) (natsI E.opn)=natsI [p]∧IntKind.i64.wrap ((E.nodes.length:Int) - 1)=(E.nodes.length:Int) - 1∧E.opn.length - 1+1=E.opn.length∧E.opn[E.opn.length - 1]?=some p:=by
 obtain ⟨hi,hil,hol,hk1,hk2,hop,hkl,hd,hbl,_⟩:=h
 have hil':E.nodes.length≤68719476736:=hil
 have hol':E.opn.length≤68719476736:=hol
 have hp:=parts18_spec E.n.op
 have hbs:=blank18_spec E.n hk1 hk2
 rw[hop]at hp
 rw[hbl]at hbs
 refine ⟨hp,hbs,decide_eq_false (by omega),w64 (by omega) (by omega),by omega,by omega,by omega,by omega,rfl,by omega,?_,w64 (by omega) (by omega),by omega,?_⟩
 ·rw[natsI,← List.map_drop]
  exact congrArg _ hd
 ·have:=congrArg (·[0]?) hd
  simpa using this
theorem tk2{E:TkE}{p q:Nat}(h:Tk E 2 [p,q]):pcall I.qea [.int .i64 E.n.op]=some (.int .i64 2)∧pcall I.qdi [E.n.a]=some (.bool true)∧decide ((E.opn.length:Int) < 2)=false∧IntKind.i64.wrap ((E.opn.length:Int) - 2)=(E.opn.length:Int) - 2∧((E.opn.length:Int) - 2).toNat=E.opn.length - 2∧(2:Int)≤(E.opn.length:Int)∧E.opn.length - (E.opn.length - 2)=2∧E.opn.length - 2≤E.opn.length∧List.take 2 (natsI [p,q])=natsI [p,q]∧(0:Int)≤(E.opn.length:Int)∧List.drop (E.opn.length - 2) (natsI E.opn)=natsI [p,q]∧IntKind.i64.wrap ((E.nodes.length:Int) - 1)=(E.nodes.length:Int) - 1∧E.opn.length - 2+2=E.opn.length∧E.opn[E.opn.length - 2]?=some p∧E.opn[E.opn.length - 2+1]?=some q:=by
 obtain ⟨hi,hil,hol,hk1,hk2,hop,hkl,hd,hbl,_⟩:=h
 have hil':E.nodes.length≤68719476736:=hil
 have hol':E.opn.length≤68719476736:=hol
 have hp:=parts18_spec E.n.op
 have hbs:=blank18_spec E.n hk1 hk2
 rw[hop]at hp
 rw[hbl]at hbs
 refine ⟨hp,hbs,decide_eq_false (by omega),w64 (by omega) (by omega),by omega,by omega,by omega,by omega,rfl,by omega,?_,w64 (by omega) (by omega),by omega,?_,?_⟩
 ·rw[natsI,← List.map_drop]
  exact congrArg _ hd
 ·have:=congrArg (·[0]?) hd
  simpa using this
 ·have:=congrArg (·[1]?) hd
  simpa using this
theorem takes0_bad(E:TkE)(h:Tk E 0 [])(hb:¬(E.n.l=-1∧E.n.r=-1)):∃ σ',E.call=some (.bool false,σ'):=by
 unfold TkE.call
 rw[acall_keep c_qdy rfl]
 obtain ⟨hp,hbs,z1,z2,z3,z4,z5,z7,z8,z9,hd',zw,z6⟩:=tk0 h
 have hi:=h.hi
 have hB:=h.hB
 simp only[LNX.a]at hbs
 by_cases c:E.n.l=(-1)
 ·have c1:((-1) == E.n.l)=true:=by simp[c]
  have c2:((-1) == E.n.r)=false:=beq_f (Ne.symm fun h=>hb ⟨c,h⟩)
  exact ⟨_,by simp[f_qdy,b_qdy,hi,LNX.a,hp,hbs,c1,c2,z1,z2,z3,z4,z5,z6,z7,z8,z9,hd'];rfl⟩
 ·have c1:((-1) == E.n.l)=false:=beq_f (Ne.symm c)
  exact ⟨_,by simp[f_qdy,b_qdy,hi,LNX.a,hp,hbs,c1,z1,z2,z3,z4,z5,z6,z7,z8,z9,hd'];rfl⟩
theorem takes1_bad(E:TkE)(p:Nat)(h:Tk E 1 [p])(hb:¬(E.n.l=(p:Int)∧E.n.r=-1)):∃ σ',E.call=some (.bool false,σ'):=by
 unfold TkE.call
 rw[acall_keep c_qdy rfl]
 obtain ⟨hp,hbs,z1,z2,z3,z4,z5,z7,z8,z9,hd',zw,z6,y0⟩:=tk1 h
 have hi:=h.hi
 have hB:=h.hB
 simp only[LNX.a]at hbs
 by_cases c:E.n.l=(p:Int)
 ·have c1:((p:Int) == E.n.l)=true:=by simp[c]
  have c2:((-1) == E.n.r)=false:=beq_f (Ne.symm fun h=>hb ⟨c,h⟩)
  exact ⟨_,by simp[f_qdy,b_qdy,hi,LNX.a,hp,hbs,c1,c2,z1,z2,z3,z4,z5,z6,z7,z8,z9,hd'];rfl⟩
 ·have c1:((p:Int) == E.n.l)=false:=beq_f (Ne.symm c)
  exact ⟨_,by simp[f_qdy,b_qdy,hi,LNX.a,hp,hbs,c1,z1,z2,z3,z4,z5,z6,z7,z8,z9,hd'];rfl⟩
theorem takes2_bad(E:TkE)(p q:Nat)(h:Tk E 2 [p,q])(hb:¬(E.n.l=(p:Int)∧E.n.r=(q:Int))):∃ σ',E.call=some (.bool false,σ'):=by
 unfold TkE.call
 rw[acall_keep c_qdy rfl]
 obtain ⟨hp,hbs,z1,z2,z3,z4,z5,z7,z8,z9,hd',zw,z6,y0,y1⟩:=tk2 h
 have hi:=h.hi
 have hB:=h.hB
 simp only[LNX.a]at hbs
 by_cases c:E.n.l=(p:Int)
 ·have c1:((p:Int) == E.n.l)=true:=by simp[c]
  have c2:((q:Int) == E.n.r)=false:=beq_f (Ne.symm fun h=>hb ⟨c,h⟩)
  exact ⟨_,by simp[f_qdy,b_qdy,hi,LNX.a,hp,hbs,c1,c2,z1,z2,z3,z4,z5,z6,z7,z8,z9,hd'];rfl⟩
 ·have c1:((p:Int) == E.n.l)=false:=beq_f (Ne.symm c)
  exact ⟨_,by simp[f_qdy,b_qdy,hi,LNX.a,hp,hbs,c1,z1,z2,z3,z4,z5,z6,z7,z8,z9,hd'];rfl⟩
end Go.AM
end
section
namespace Go.AM
open P
set_option maxHeartbeats 16000000
set_option maxRecDepth 8000
attribute [local simp] condRun_if when_if
theorem takes0_no(E:TkE)(h:Tk E 0 [])(hA:E.n.l=-1∧E.n.r=-1)(hc:RootFine E)(σ1:Store)
  (hask:acallV code E.ask [.ptr 0 0 0 0] (E.st .nil0 .nil0 E.r0 (-1) (-1))=some (.bool false,σ1)):∃ σ',E.call=some (.bool false,σ'):=by
 unfold TkE.call
 rw[acall_keep c_qdy rfl]
 obtain ⟨hp,hbs,z1,z2,z3,z4,z5,z7,z8,z9,hd',zw,z6⟩:=tk0 h
 have hi:=h.hi
 have hB:=h.hB
 simp only[LNX.a]at hbs
 have c1:((-1) == E.n.l)=true:=by simp[hA.1]
 have c2:((-1) == E.n.r)=true:=by simp[hA.2]
 rcases hc with ⟨q1,q2,q3⟩|⟨q1,q2,q3⟩|⟨q1,q2,q3⟩<;>exact ⟨_,by simp[f_qdy,b_qdy,hi,LNX.a,hp,hbs,c1,c2,z1,z2,z3,z4,z5,z6,z7,z8,z9,hd',zw,l_qdy_0,rounds_go0,roundEnd,freezeObj,hB,wr1,wr2,q1,q2,q3,hask];rfl⟩
theorem takes0_root(E:TkE)(h:Tk E 0 [])(hA:E.n.l=-1∧E.n.r=-1)(hc:RootBad E):∃ σ',E.call=some (.bool false,σ'):=by
 unfold TkE.call
 rw[acall_keep c_qdy rfl]
 obtain ⟨hp,hbs,z1,z2,z3,z4,z5,z7,z8,z9,hd',zw,z6⟩:=tk0 h
 have hi:=h.hi
 have hB:=h.hB
 simp only[LNX.a]at hbs
 have c1:((-1) == E.n.l)=true:=by simp[hA.1]
 have c2:((-1) == E.n.r)=true:=by simp[hA.2]
 rcases hc with ⟨q1,q2,q3⟩|⟨q1,q2,q3⟩<;>exact ⟨_,by simp[f_qdy,b_qdy,hi,LNX.a,hp,hbs,c1,c2,z1,z2,z3,z4,z5,z6,z7,z8,z9,hd',zw,l_qdy_0,rounds_go0,roundEnd,freezeObj,hB,wr1,wr2,q1,q2,q3];rfl⟩
theorem takes1_no(E:TkE)(p:Nat)(h:Tk E 1 [p])(hA:E.n.l=(p:Int)∧E.n.r=-1)(ka:SlX Int)(hka:E.kinds[p]?=some ka)(hla:ka.l.length≤most)(h4:((E.n.op != 11)&&sum4 ka.l)=false)(hc:RootFine E)(σ1:Store)
  (hask:acallV code E.ask [.ptr 0 0 0 0] (E.st (.imm ka.b (intsA ka.l)) .nil0 E.r0 (p:Int) (-1))=some (.bool false,σ1)):∃ σ',E.call=some (.bool false,σ'):=by
 unfold TkE.call
 rw[acall_keep c_qdy rfl]
 obtain ⟨hp,hbs,z1,z2,z3,z4,z5,z7,z8,z9,hd',zw,z6,y0⟩:=tk1 h
 have hi:=h.hi
 have hB:=h.hB
 simp only[LNX.a]at hbs
 have c1:((p:Int) == E.n.l)=true:=by simp[hA.1]
 have c2:((-1) == E.n.r)=true:=by simp[hA.2]
 obtain ⟨hla0,hga⟩:=List.getElem?_eq_some_iff.1 hka
 have ga:(E.n.op != 11)=true→∀ b,pcall I.qfb [.imm b (intsA ka.l),.int .i64 4]=some (.bool false):=fun e b=>by
  have:=Contains_int b ka.l 4 hla
  rwa [show (ka.l.any fun y=>4 == y)=false by rw[e]at h4;exact h4]at this
 rcases hc with ⟨q1,q2,q3⟩|⟨q1,q2,q3⟩|⟨q1,q2,q3⟩<;>cases h12:(E.n.op != 11)<;>first|(have ga:=ga h12;exact ⟨_,by simp[f_qdy,b_qdy,hi,LNX.a,hp,hbs,c1,c2,z1,z2,z3,z4,z5,z6,z7,z8,z9,hd',zw,l_qdy_0,rounds_go0,roundEnd,freezeObj,hB,wr1,wr2,y0,hga,hla0,q1,q2,q3,hask,h12,ga];rfl⟩)|exact ⟨_,by simp[f_qdy,b_qdy,hi,LNX.a,hp,hbs,c1,c2,z1,z2,z3,z4,z5,z6,z7,z8,z9,hd',zw,l_qdy_0,rounds_go0,roundEnd,freezeObj,hB,wr1,wr2,y0,hga,hla0,q1,q2,q3,hask,h12];rfl⟩
theorem takes1_root(E:TkE)(p:Nat)(h:Tk E 1 [p])(hA:E.n.l=(p:Int)∧E.n.r=-1)(ka:SlX Int)(hka:E.kinds[p]?=some ka)(hla:ka.l.length≤most)(h4:((E.n.op != 11)&&sum4 ka.l)=false)(hc:RootBad E):∃ σ',E.call=some (.bool false,σ'):=by
 unfold TkE.call
 rw[acall_keep c_qdy rfl]
 obtain ⟨hp,hbs,z1,z2,z3,z4,z5,z7,z8,z9,hd',zw,z6,y0⟩:=tk1 h
 have hi:=h.hi
 have hB:=h.hB
 simp only[LNX.a]at hbs
 have c1:((p:Int) == E.n.l)=true:=by simp[hA.1]
 have c2:((-1) == E.n.r)=true:=by simp[hA.2]
 obtain ⟨hla0,hga⟩:=List.getElem?_eq_some_iff.1 hka
 have ga:(E.n.op != 11)=true→∀ b,pcall I.qfb [.imm b (intsA ka.l),.int .i64 4]=some (.bool false):=fun e b=>by
  have:=Contains_int b ka.l 4 hla
  rwa [show (ka.l.any fun y=>4 == y)=false by rw[e]at h4;exact h4]at this
 rcases hc with ⟨q1,q2,q3⟩|⟨q1,q2,q3⟩<;>cases h12:(E.n.op != 11)<;>first|(have ga:=ga h12;exact ⟨_,by simp[f_qdy,b_qdy,hi,LNX.a,hp,hbs,c1,c2,z1,z2,z3,z4,z5,z6,z7,z8,z9,hd',zw,l_qdy_0,rounds_go0,roundEnd,freezeObj,hB,wr1,wr2,y0,hga,hla0,q1,q2,q3,h12,ga];rfl⟩)|exact ⟨_,by simp[f_qdy,b_qdy,hi,LNX.a,hp,hbs,c1,c2,z1,z2,z3,z4,z5,z6,z7,z8,z9,hd',zw,l_qdy_0,rounds_go0,roundEnd,freezeObj,hB,wr1,wr2,y0,hga,hla0,q1,q2,q3,h12];rfl⟩
theorem takes2_no(E:TkE)(p q:Nat)(h:Tk E 2 [p,q])(hA:E.n.l=(p:Int)∧E.n.r=(q:Int))(ka:SlX Int)(hka:E.kinds[p]?=some ka)(hla:ka.l.length≤most)(kb:SlX Int)(hkb:E.kinds[q]?=some kb)(hlb:kb.l.length≤most)(h4:((E.n.op != 11)&&sum4 ka.l)=false)(h5:((E.n.op != 11)&&sum4 kb.l)=false)(hc:RootFine E)(σ1:Store)
  (hask:acallV code E.ask [.ptr 0 0 0 0] (E.st (.imm ka.b (intsA ka.l)) (.imm kb.b (intsA kb.l)) E.r0 (p:Int) (q:Int))=some (.bool false,σ1)):∃ σ',E.call=some (.bool false,σ'):=by
 unfold TkE.call
 rw[acall_keep c_qdy rfl]
 obtain ⟨hp,hbs,z1,z2,z3,z4,z5,z7,z8,z9,hd',zw,z6,y0,y1⟩:=tk2 h
 have hi:=h.hi
 have hB:=h.hB
 simp only[LNX.a]at hbs
 have c1:((p:Int) == E.n.l)=true:=by simp[hA.1]
 have c2:((q:Int) == E.n.r)=true:=by simp[hA.2]
 obtain ⟨hla0,hga⟩:=List.getElem?_eq_some_iff.1 hka
 obtain ⟨hlb0,hgb⟩:=List.getElem?_eq_some_iff.1 hkb
 have ga:(E.n.op != 11)=true→∀ b,pcall I.qfb [.imm b (intsA ka.l),.int .i64 4]=some (.bool false):=fun e b=>by
  have:=Contains_int b ka.l 4 hla
  rwa [show (ka.l.any fun y=>4 == y)=false by rw[e]at h4;exact h4]at this
 have gb:(E.n.op != 11)=true→∀ b,pcall I.qfb [.imm b (intsA kb.l),.int .i64 4]=some (.bool false):=fun e b=>by
  have:=Contains_int b kb.l 4 hlb
  rwa [show (kb.l.any fun y=>4 == y)=false by rw[e]at h5;exact h5]at this
 rcases hc with ⟨q1,q2,q3⟩|⟨q1,q2,q3⟩|⟨q1,q2,q3⟩<;>cases h12:(E.n.op != 11)<;>first|(have ga:=ga h12;have gb:=gb h12;exact ⟨_,by simp[f_qdy,b_qdy,hi,LNX.a,hp,hbs,c1,c2,z1,z2,z3,z4,z5,z6,z7,z8,z9,hd',zw,l_qdy_0,rounds_go0,roundEnd,freezeObj,hB,wr1,wr2,y0,y1,hga,hla0,hgb,hlb0,q1,q2,q3,hask,h12,ga,gb];rfl⟩)|exact ⟨_,by simp[f_qdy,b_qdy,hi,LNX.a,hp,hbs,c1,c2,z1,z2,z3,z4,z5,z6,z7,z8,z9,hd',zw,l_qdy_0,rounds_go0,roundEnd,freezeObj,hB,wr1,wr2,y0,y1,hga,hla0,hgb,hlb0,q1,q2,q3,hask,h12];rfl⟩
theorem takes2_root(E:TkE)(p q:Nat)(h:Tk E 2 [p,q])(hA:E.n.l=(p:Int)∧E.n.r=(q:Int))(ka:SlX Int)(hka:E.kinds[p]?=some ka)(hla:ka.l.length≤most)(kb:SlX Int)(hkb:E.kinds[q]?=some kb)(hlb:kb.l.length≤most)(h4:((E.n.op != 11)&&sum4 ka.l)=false)(h5:((E.n.op != 11)&&sum4 kb.l)=false)(hc:RootBad E):∃ σ',E.call=some (.bool false,σ'):=by
 unfold TkE.call
 rw[acall_keep c_qdy rfl]
 obtain ⟨hp,hbs,z1,z2,z3,z4,z5,z7,z8,z9,hd',zw,z6,y0,y1⟩:=tk2 h
 have hi:=h.hi
 have hB:=h.hB
 simp only[LNX.a]at hbs
 have c1:((p:Int) == E.n.l)=true:=by simp[hA.1]
 have c2:((q:Int) == E.n.r)=true:=by simp[hA.2]
 obtain ⟨hla0,hga⟩:=List.getElem?_eq_some_iff.1 hka
 obtain ⟨hlb0,hgb⟩:=List.getElem?_eq_some_iff.1 hkb
 have ga:(E.n.op != 11)=true→∀ b,pcall I.qfb [.imm b (intsA ka.l),.int .i64 4]=some (.bool false):=fun e b=>by
  have:=Contains_int b ka.l 4 hla
  rwa [show (ka.l.any fun y=>4 == y)=false by rw[e]at h4;exact h4]at this
 have gb:(E.n.op != 11)=true→∀ b,pcall I.qfb [.imm b (intsA kb.l),.int .i64 4]=some (.bool false):=fun e b=>by
  have:=Contains_int b kb.l 4 hlb
  rwa [show (kb.l.any fun y=>4 == y)=false by rw[e]at h5;exact h5]at this
 rcases hc with ⟨q1,q2,q3⟩|⟨q1,q2,q3⟩<;>cases h12:(E.n.op != 11)<;>first|(have ga:=ga h12;have gb:=gb h12;exact ⟨_,by simp[f_qdy,b_qdy,hi,LNX.a,hp,hbs,c1,c2,z1,z2,z3,z4,z5,z6,z7,z8,z9,hd',zw,l_qdy_0,rounds_go0,roundEnd,freezeObj,hB,wr1,wr2,y0,y1,hga,hla0,hgb,hlb0,q1,q2,q3,h12,ga,gb];rfl⟩)|exact ⟨_,by simp[f_qdy,b_qdy,hi,LNX.a,hp,hbs,c1,c2,z1,z2,z3,z4,z5,z6,z7,z8,z9,hd',zw,l_qdy_0,rounds_go0,roundEnd,freezeObj,hB,wr1,wr2,y0,y1,hga,hla0,hgb,hlb0,q1,q2,q3,h12];rfl⟩
theorem takes1_four0(E:TkE)(p:Nat)(h:Tk E 1 [p])(hA:E.n.l=(p:Int)∧E.n.r=-1)(ka:SlX Int)(hka:E.kinds[p]?=some ka)(hla:ka.l.length≤most)(h4:((E.n.op != 11)&&sum4 ka.l)=true):∃ σ',E.call=some (.bool false,σ'):=by
 unfold TkE.call
 rw[acall_keep c_qdy rfl]
 obtain ⟨hp,hbs,z1,z2,z3,z4,z5,z7,z8,z9,hd',zw,z6,y0⟩:=tk1 h
 have hi:=h.hi
 have hB:=h.hB
 simp only[LNX.a]at hbs
 have c1:((p:Int) == E.n.l)=true:=by simp[hA.1]
 have c2:((-1) == E.n.r)=true:=by simp[hA.2]
 obtain ⟨hla0,hga⟩:=List.getElem?_eq_some_iff.1 hka
 have h12:(E.n.op != 11)=true:=(and2 h4).1
 have ga:=fun b=>Contains_int b ka.l 4 hla
 rw[show (ka.l.any fun y=>4 == y)=true from (and2 h4).2]at ga
 exact ⟨_,by simp[f_qdy,b_qdy,hi,LNX.a,hp,hbs,c1,c2,z1,z2,z3,z4,z5,z6,z7,z8,z9,hd',l_qdy_0,rounds_go0,roundEnd,freezeObj,hB,wr1,wr2,y0,hga,hla0,h12,ga];rfl⟩
theorem takes2_four0(E:TkE)(p q:Nat)(h:Tk E 2 [p,q])(hA:E.n.l=(p:Int)∧E.n.r=(q:Int))(ka:SlX Int)(hka:E.kinds[p]?=some ka)(hla:ka.l.length≤most)(kb:SlX Int)(hkb:E.kinds[q]?=some kb)(hlb:kb.l.length≤most)(h4:((E.n.op != 11)&&sum4 ka.l)=true):∃ σ',E.call=some (.bool false,σ'):=by
 unfold TkE.call
 rw[acall_keep c_qdy rfl]
 obtain ⟨hp,hbs,z1,z2,z3,z4,z5,z7,z8,z9,hd',zw,z6,y0,y1⟩:=tk2 h
 have hi:=h.hi
 have hB:=h.hB
 simp only[LNX.a]at hbs
 have c1:((p:Int) == E.n.l)=true:=by simp[hA.1]
 have c2:((q:Int) == E.n.r)=true:=by simp[hA.2]
 obtain ⟨hla0,hga⟩:=List.getElem?_eq_some_iff.1 hka
 obtain ⟨hlb0,hgb⟩:=List.getElem?_eq_some_iff.1 hkb
 have h12:(E.n.op != 11)=true:=(and2 h4).1
 have ga:=fun b=>Contains_int b ka.l 4 hla
 rw[show (ka.l.any fun y=>4 == y)=true from (and2 h4).2]at ga
 exact ⟨_,by simp[f_qdy,b_qdy,hi,LNX.a,hp,hbs,c1,c2,z1,z2,z3,z4,z5,z6,z7,z8,z9,hd',l_qdy_0,rounds_go0,roundEnd,freezeObj,hB,wr1,wr2,y0,y1,hga,hla0,hgb,hlb0,h12,ga];rfl⟩
theorem takes2_four1(E:TkE)(p q:Nat)(h:Tk E 2 [p,q])(hA:E.n.l=(p:Int)∧E.n.r=(q:Int))(ka:SlX Int)(hka:E.kinds[p]?=some ka)(hla:ka.l.length≤most)(kb:SlX Int)(hkb:E.kinds[q]?=some kb)(hlb:kb.l.length≤most)(h4:((E.n.op != 11)&&sum4 ka.l)=false)(h5:((E.n.op != 11)&&sum4 kb.l)=true):∃ σ',E.call=some (.bool false,σ'):=by
 unfold TkE.call
 rw[acall_keep c_qdy rfl]
 obtain ⟨hp,hbs,z1,z2,z3,z4,z5,z7,z8,z9,hd',zw,z6,y0,y1⟩:=tk2 h
 have hi:=h.hi
 have hB:=h.hB
 simp only[LNX.a]at hbs
 have c1:((p:Int) == E.n.l)=true:=by simp[hA.1]
 have c2:((q:Int) == E.n.r)=true:=by simp[hA.2]
 obtain ⟨hla0,hga⟩:=List.getElem?_eq_some_iff.1 hka
 obtain ⟨hlb0,hgb⟩:=List.getElem?_eq_some_iff.1 hkb
 have h12:(E.n.op != 11)=true:=(and2 h5).1
 have ga:=fun b=>Contains_int b ka.l 4 hla
 rw[show (ka.l.any fun y=>4 == y)=false by rw[h12]at h4;exact h4]at ga
 have gb:=fun b=>Contains_int b kb.l 4 hlb
 rw[show (kb.l.any fun y=>4 == y)=true from (and2 h5).2]at gb
 exact ⟨_,by simp[f_qdy,b_qdy,hi,LNX.a,hp,hbs,c1,c2,z1,z2,z3,z4,z5,z6,z7,z8,z9,hd',l_qdy_0,rounds_go0,roundEnd,freezeObj,hB,wr1,wr2,y0,y1,hga,hla0,hgb,hlb0,h12,ga,gb];rfl⟩
end Go.AM
end
section
namespace Go.AM
open P
set_option maxHeartbeats 16000000
set_option maxRecDepth 8000
attribute [local simp] condRun_if when_if
theorem takes0_wide(E:TkE)(h:Tk E 0 [])(hA:E.n.l=-1∧E.n.r=-1)(hc:RootFine E)(r:AVal)(bf:Bool)(res:List Int)(X:Store)(hR:ResOk X r bf res)
  (hask:acallV code E.ask [.ptr 0 0 0 0] (E.st .nil0 .nil0 E.r0 (-1) (-1))=some (.bool true,E.st .nil0 .nil0 r (-1) (-1)++X)) (hw:16 < res.length):∃ σ',E.call=some (.bool false,σ'):=by
 unfold TkE.call
 rw[acall_keep c_qdy rfl]
 obtain ⟨hp,hbs,z1,z2,z3,z4,z5,z7,z8,z9,hd',zw,z6⟩:=tk0 h
 have hi:=h.hi
 have hB:=h.hB
 simp only[LNX.a]at hbs
 have c1:((-1) == E.n.l)=true:=by simp[hA.1]
 have c2:((-1) == E.n.r)=true:=by simp[hA.2]
 have hw':(16:Int) < (res.length:Int):=by omega
 rcases hc with ⟨q1,q2,q3⟩|⟨q1,q2,q3⟩|⟨q1,q2,q3⟩<;>exact ⟨_,by simp[f_qdy,b_qdy,hi,LNX.a,hp,hbs,c1,c2,z1,z2,z3,z4,z5,z6,z7,z8,z9,hd',zw,l_qdy_0,rounds_go0,roundEnd,freezeObj,hB,wr1,wr2,q1,q2,q3,hask,hw',-alen,alen_imm,alen_lst,alen_nil0,alen_sl,hR.len,hR.nc,hR.ag];rfl⟩
theorem takes0_yes(E:TkE)(h:Tk E 0 [])(hkn:E.kinds.length+1≤most)(hol2:E.opn.length+1≤most)(hA:E.n.l=-1∧E.n.r=-1)(hc:RootFine E)(r:AVal)(bf:Bool)(res:List Int)(X:Store)(hR:ResOk X r bf res)
  (hask:acallV code E.ask [.ptr 0 0 0 0] (E.st .nil0 .nil0 E.r0 (-1) (-1))=some (.bool true,E.st .nil0 .nil0 r (-1) (-1)++X)) (hw:res.length≤16) :
  E.call=some (.bool true,laidX E.bn E.nodes (E.ep1+1) (E.kinds.length+1) (E.ep2+1) (E.opn.length - 0+1) E.n .nil0 .nil0 r::.arr 1 (E.ep1+1) (E.kinds.map (SlX.c (.int .i64))++[r])::.arr 1 (E.ep2+1) (natsI (E.opn.take (E.opn.length - 0))++[.int .i64 E.i])::E.B::grpO E.n::atO (-1) (-1)::X):=by
 unfold TkE.call
 rw[acall_keep c_qdy rfl]
 obtain ⟨hp,hbs,z1,z2,z3,z4,z5,z7,z8,z9,hd',zw,z6⟩:=tk0 h
 have hi:=h.hi
 have hB:=h.hB
 simp only[LNX.a]at hbs
 have c1:((-1) == E.n.l)=true:=by simp[hA.1]
 have c2:((-1) == E.n.r)=true:=by simp[hA.2]
 have hw':¬((16:Int) < (res.length:Int)):=by omega
 have hm2:E.opn.length - 0+1≤most:=by omega
 have hol:=h.hol
 rcases hc with ⟨q1,q2,q3⟩|⟨q1,q2,q3⟩|⟨q1,q2,q3⟩<;>simp[f_qdy,b_qdy,hi,LNX.a,hp,hbs,c1,c2,z1,z2,z3,z4,z5,z6,z7,z8,z9,hd',zw,l_qdy_0,rounds_go0,roundEnd,freezeObj,hB,wr1,wr2,q1,q2,q3,hask,hw',-alen,alen_imm,alen_lst,alen_nil0,alen_sl,hR.len,hR.nc,hR.ag,append,hkn,hm2,hol,hol2]
theorem takes1_wide(E:TkE)(p:Nat)(h:Tk E 1 [p])(hA:E.n.l=(p:Int)∧E.n.r=-1)(ka:SlX Int)(hka:E.kinds[p]?=some ka)(hla:ka.l.length≤most)(h4:((E.n.op != 11)&&sum4 ka.l)=false)(hc:RootFine E)(r:AVal)(bf:Bool)(res:List Int)(X:Store)(hR:ResOk X r bf res)
  (hask:acallV code E.ask [.ptr 0 0 0 0] (E.st (.imm ka.b (intsA ka.l)) .nil0 E.r0 (p:Int) (-1))=some (.bool true,E.st (.imm ka.b (intsA ka.l)) .nil0 r (p:Int) (-1)++X)) (hw:16 < res.length):∃ σ',E.call=some (.bool false,σ'):=by
 unfold TkE.call
 rw[acall_keep c_qdy rfl]
 obtain ⟨hp,hbs,z1,z2,z3,z4,z5,z7,z8,z9,hd',zw,z6,y0⟩:=tk1 h
 have hi:=h.hi
 have hB:=h.hB
 simp only[LNX.a]at hbs
 have c1:((p:Int) == E.n.l)=true:=by simp[hA.1]
 have c2:((-1) == E.n.r)=true:=by simp[hA.2]
 obtain ⟨hla0,hga⟩:=List.getElem?_eq_some_iff.1 hka
 have ga:(E.n.op != 11)=true→∀ b,pcall I.qfb [.imm b (intsA ka.l),.int .i64 4]=some (.bool false):=fun e b=>by
  have:=Contains_int b ka.l 4 hla
  rwa [show (ka.l.any fun y=>4 == y)=false by rw[e]at h4;exact h4]at this
 have hw':(16:Int) < (res.length:Int):=by omega
 rcases hc with ⟨q1,q2,q3⟩|⟨q1,q2,q3⟩|⟨q1,q2,q3⟩<;>cases h12:(E.n.op != 11)<;>first|(have ga:=ga h12;exact ⟨_,by simp[f_qdy,b_qdy,hi,LNX.a,hp,hbs,c1,c2,z1,z2,z3,z4,z5,z6,z7,z8,z9,hd',zw,l_qdy_0,rounds_go0,roundEnd,freezeObj,hB,wr1,wr2,y0,hga,hla0,q1,q2,q3,hask,hw',-alen,alen_imm,alen_lst,alen_nil0,alen_sl,hR.len,hR.nc,hR.ag,h12,ga];rfl⟩)|exact ⟨_,by simp[f_qdy,b_qdy,hi,LNX.a,hp,hbs,c1,c2,z1,z2,z3,z4,z5,z6,z7,z8,z9,hd',zw,l_qdy_0,rounds_go0,roundEnd,freezeObj,hB,wr1,wr2,y0,hga,hla0,q1,q2,q3,hask,hw',-alen,alen_imm,alen_lst,alen_nil0,alen_sl,hR.len,hR.nc,hR.ag,h12];rfl⟩
theorem takes1_yes(E:TkE)(p:Nat)(h:Tk E 1 [p])(hkn:E.kinds.length+1≤most)(hol2:E.opn.length+1≤most)(hA:E.n.l=(p:Int)∧E.n.r=-1)(ka:SlX Int)(hka:E.kinds[p]?=some ka)(hla:ka.l.length≤most)(h4:((E.n.op != 11)&&sum4 ka.l)=false)(hc:RootFine E)(r:AVal)(bf:Bool)(res:List Int)(X:Store)(hR:ResOk X r bf res)
  (hask:acallV code E.ask [.ptr 0 0 0 0] (E.st (.imm ka.b (intsA ka.l)) .nil0 E.r0 (p:Int) (-1))=some (.bool true,E.st (.imm ka.b (intsA ka.l)) .nil0 r (p:Int) (-1)++X)) (hw:res.length≤16) :
  E.call=some (.bool true,laidX E.bn E.nodes (E.ep1+1) (E.kinds.length+1) (E.ep2+1) (E.opn.length - 1+1) E.n (.imm ka.b (intsA ka.l)) .nil0 r::.arr 1 (E.ep1+1) (E.kinds.map (SlX.c (.int .i64))++[r])::.arr 1 (E.ep2+1) (natsI (E.opn.take (E.opn.length - 1))++[.int .i64 E.i])::E.B::grpO E.n::atO (p:Int) (-1)::X):=by
 unfold TkE.call
 rw[acall_keep c_qdy rfl]
 obtain ⟨hp,hbs,z1,z2,z3,z4,z5,z7,z8,z9,hd',zw,z6,y0⟩:=tk1 h
 have hi:=h.hi
 have hB:=h.hB
 simp only[LNX.a]at hbs
 have c1:((p:Int) == E.n.l)=true:=by simp[hA.1]
 have c2:((-1) == E.n.r)=true:=by simp[hA.2]
 obtain ⟨hla0,hga⟩:=List.getElem?_eq_some_iff.1 hka
 have ga:(E.n.op != 11)=true→∀ b,pcall I.qfb [.imm b (intsA ka.l),.int .i64 4]=some (.bool false):=fun e b=>by
  have:=Contains_int b ka.l 4 hla
  rwa [show (ka.l.any fun y=>4 == y)=false by rw[e]at h4;exact h4]at this
 have hw':¬((16:Int) < (res.length:Int)):=by omega
 have hm2:E.opn.length - 1+1≤most:=by omega
 have hol:=h.hol
 rcases hc with ⟨q1,q2,q3⟩|⟨q1,q2,q3⟩|⟨q1,q2,q3⟩<;>cases h12:(E.n.op != 11)<;>first|(have ga:=ga h12;simp[f_qdy,b_qdy,hi,LNX.a,hp,hbs,c1,c2,z1,z2,z3,z4,z5,z6,z7,z8,z9,hd',zw,l_qdy_0,rounds_go0,roundEnd,freezeObj,hB,wr1,wr2,y0,hga,hla0,q1,q2,q3,hask,hw',-alen,alen_imm,alen_lst,alen_nil0,alen_sl,hR.len,hR.nc,hR.ag,append,hkn,hm2,hol,hol2,h12,ga])|simp[f_qdy,b_qdy,hi,LNX.a,hp,hbs,c1,c2,z1,z2,z3,z4,z5,z6,z7,z8,z9,hd',zw,l_qdy_0,rounds_go0,roundEnd,freezeObj,hB,wr1,wr2,y0,hga,hla0,q1,q2,q3,hask,hw',-alen,alen_imm,alen_lst,alen_nil0,alen_sl,hR.len,hR.nc,hR.ag,append,hkn,hm2,hol,hol2,h12]
theorem takes2_wide(E:TkE)(p q:Nat)(h:Tk E 2 [p,q])(hA:E.n.l=(p:Int)∧E.n.r=(q:Int))(ka:SlX Int)(hka:E.kinds[p]?=some ka)(hla:ka.l.length≤most)(kb:SlX Int)(hkb:E.kinds[q]?=some kb)(hlb:kb.l.length≤most)(h4:((E.n.op != 11)&&sum4 ka.l)=false)(h5:((E.n.op != 11)&&sum4 kb.l)=false)(hc:RootFine E)(r:AVal)(bf:Bool)(res:List Int)(X:Store)(hR:ResOk X r bf res)
  (hask:acallV code E.ask [.ptr 0 0 0 0] (E.st (.imm ka.b (intsA ka.l)) (.imm kb.b (intsA kb.l)) E.r0 (p:Int) (q:Int))=some (.bool true,E.st (.imm ka.b (intsA ka.l)) (.imm kb.b (intsA kb.l)) r (p:Int) (q:Int)++X)) (hw:16 < res.length):∃ σ',E.call=some (.bool false,σ'):=by
 unfold TkE.call
 rw[acall_keep c_qdy rfl]
 obtain ⟨hp,hbs,z1,z2,z3,z4,z5,z7,z8,z9,hd',zw,z6,y0,y1⟩:=tk2 h
 have hi:=h.hi
 have hB:=h.hB
 simp only[LNX.a]at hbs
 have c1:((p:Int) == E.n.l)=true:=by simp[hA.1]
 have c2:((q:Int) == E.n.r)=true:=by simp[hA.2]
 obtain ⟨hla0,hga⟩:=List.getElem?_eq_some_iff.1 hka
 obtain ⟨hlb0,hgb⟩:=List.getElem?_eq_some_iff.1 hkb
 have ga:(E.n.op != 11)=true→∀ b,pcall I.qfb [.imm b (intsA ka.l),.int .i64 4]=some (.bool false):=fun e b=>by
  have:=Contains_int b ka.l 4 hla
  rwa [show (ka.l.any fun y=>4 == y)=false by rw[e]at h4;exact h4]at this
 have gb:(E.n.op != 11)=true→∀ b,pcall I.qfb [.imm b (intsA kb.l),.int .i64 4]=some (.bool false):=fun e b=>by
  have:=Contains_int b kb.l 4 hlb
  rwa [show (kb.l.any fun y=>4 == y)=false by rw[e]at h5;exact h5]at this
 have hw':(16:Int) < (res.length:Int):=by omega
 rcases hc with ⟨q1,q2,q3⟩|⟨q1,q2,q3⟩|⟨q1,q2,q3⟩<;>cases h12:(E.n.op != 11)<;>first|(have ga:=ga h12;have gb:=gb h12;exact ⟨_,by simp[f_qdy,b_qdy,hi,LNX.a,hp,hbs,c1,c2,z1,z2,z3,z4,z5,z6,z7,z8,z9,hd',zw,l_qdy_0,rounds_go0,roundEnd,freezeObj,hB,wr1,wr2,y0,y1,hga,hla0,hgb,hlb0,q1,q2,q3,hask,hw',-alen,alen_imm,alen_lst,alen_nil0,alen_sl,hR.len,hR.nc,hR.ag,h12,ga,gb];rfl⟩)|exact ⟨_,by simp[f_qdy,b_qdy,hi,LNX.a,hp,hbs,c1,c2,z1,z2,z3,z4,z5,z6,z7,z8,z9,hd',zw,l_qdy_0,rounds_go0,roundEnd,freezeObj,hB,wr1,wr2,y0,y1,hga,hla0,hgb,hlb0,q1,q2,q3,hask,hw',-alen,alen_imm,alen_lst,alen_nil0,alen_sl,hR.len,hR.nc,hR.ag,h12];rfl⟩
theorem takes2_yes(E:TkE)(p q:Nat)(h:Tk E 2 [p,q])(hkn:E.kinds.length+1≤most)(hol2:E.opn.length+1≤most)(hA:E.n.l=(p:Int)∧E.n.r=(q:Int))(ka:SlX Int)(hka:E.kinds[p]?=some ka)(hla:ka.l.length≤most)(kb:SlX Int)(hkb:E.kinds[q]?=some kb)(hlb:kb.l.length≤most)(h4:((E.n.op != 11)&&sum4 ka.l)=false)(h5:((E.n.op != 11)&&sum4 kb.l)=false)(hc:RootFine E)(r:AVal)(bf:Bool)(res:List Int)(X:Store)(hR:ResOk X r bf res)
  (hask:acallV code E.ask [.ptr 0 0 0 0] (E.st (.imm ka.b (intsA ka.l)) (.imm kb.b (intsA kb.l)) E.r0 (p:Int) (q:Int))=some (.bool true,E.st (.imm ka.b (intsA ka.l)) (.imm kb.b (intsA kb.l)) r (p:Int) (q:Int)++X)) (hw:res.length≤16) :
  E.call=some (.bool true,laidX E.bn E.nodes (E.ep1+1) (E.kinds.length+1) (E.ep2+1) (E.opn.length - 2+1) E.n (.imm ka.b (intsA ka.l)) (.imm kb.b (intsA kb.l)) r::.arr 1 (E.ep1+1) (E.kinds.map (SlX.c (.int .i64))++[r])::.arr 1 (E.ep2+1) (natsI (E.opn.take (E.opn.length - 2))++[.int .i64 E.i])::E.B::grpO E.n::atO (p:Int) (q:Int)::X):=by
 unfold TkE.call
 rw[acall_keep c_qdy rfl]
 obtain ⟨hp,hbs,z1,z2,z3,z4,z5,z7,z8,z9,hd',zw,z6,y0,y1⟩:=tk2 h
 have hi:=h.hi
 have hB:=h.hB
 simp only[LNX.a]at hbs
 have c1:((p:Int) == E.n.l)=true:=by simp[hA.1]
 have c2:((q:Int) == E.n.r)=true:=by simp[hA.2]
 obtain ⟨hla0,hga⟩:=List.getElem?_eq_some_iff.1 hka
 obtain ⟨hlb0,hgb⟩:=List.getElem?_eq_some_iff.1 hkb
 have ga:(E.n.op != 11)=true→∀ b,pcall I.qfb [.imm b (intsA ka.l),.int .i64 4]=some (.bool false):=fun e b=>by
  have:=Contains_int b ka.l 4 hla
  rwa [show (ka.l.any fun y=>4 == y)=false by rw[e]at h4;exact h4]at this
 have gb:(E.n.op != 11)=true→∀ b,pcall I.qfb [.imm b (intsA kb.l),.int .i64 4]=some (.bool false):=fun e b=>by
  have:=Contains_int b kb.l 4 hlb
  rwa [show (kb.l.any fun y=>4 == y)=false by rw[e]at h5;exact h5]at this
 have hw':¬((16:Int) < (res.length:Int)):=by omega
 have hm2:E.opn.length - 2+1≤most:=by omega
 have hol:=h.hol
 rcases hc with ⟨q1,q2,q3⟩|⟨q1,q2,q3⟩|⟨q1,q2,q3⟩<;>cases h12:(E.n.op != 11)<;>first|(have ga:=ga h12;have gb:=gb h12;simp[f_qdy,b_qdy,hi,LNX.a,hp,hbs,c1,c2,z1,z2,z3,z4,z5,z6,z7,z8,z9,hd',zw,l_qdy_0,rounds_go0,roundEnd,freezeObj,hB,wr1,wr2,y0,y1,hga,hla0,hgb,hlb0,q1,q2,q3,hask,hw',-alen,alen_imm,alen_lst,alen_nil0,alen_sl,hR.len,hR.nc,hR.ag,append,hkn,hm2,hol,hol2,h12,ga,gb])|simp[f_qdy,b_qdy,hi,LNX.a,hp,hbs,c1,c2,z1,z2,z3,z4,z5,z6,z7,z8,z9,hd',zw,l_qdy_0,rounds_go0,roundEnd,freezeObj,hB,wr1,wr2,y0,y1,hga,hla0,hgb,hlb0,q1,q2,q3,hask,hw',-alen,alen_imm,alen_lst,alen_nil0,alen_sl,hR.len,hR.nc,hR.ag,append,hkn,hm2,hol,hol2,h12]
end Go.AM
end
section
namespace Go.AM
open P
set_option maxHeartbeats 8000000
set_option maxRecDepth 8000
attribute [local simp] condRun_if when_if
abbrev m32:Nat:=4294967296
structure NFit (n:LNX):Prop where
 kinds:n.kinds.length≤m32
 cond:n.cond.length≤m32
 keys:n.keys.length≤m32
 aggs:n.aggs.length≤m32
 args:∀ g∈n.aggs,g.arg.length≤m32
 items:n.items.length≤m32
 exprs:∀ e∈n.items,e.l.length≤m32
 ords:n.ords.length≤m32
def opF(nodes:List LNX)(n:LNX):List (SlX Int)→Option (SlX Int)
 | []=>if n.op=1 then (if scanF n then some ⟨n.bk,n.kinds⟩ else none) else if n.op=9 then (if inputF n then some ⟨n.bk,n.kinds⟩ else none) else none
 | [a]=>
  if n.op=3 then (if truthF n.cond a.l then some a else none)
  else if n.op=4 then ((keysF a.l n.keys).bind fun ks=>if aggsOk n a.l then some ⟨false,ks++n.aggs.map fun g=>(aggK a.l g).2⟩ else none)
  else if n.op=5 then ((itemsF a.l n.items).bind fun ks=>if 0 < ks.length then some ⟨false,ks⟩ else none)
  else if n.op=6 then some a
  else if n.op=8 then (if sortF n a.l then some a else none)
  else if n.op=10 then ((keysF a.l n.keys).bind fun ks=>if aggsOk n a.l then some ⟨false,ks++n.aggs.map (partK a.l)⟩ else none)
  else if n.op=11 then (nodes[n.l.toNat]?).bind fun m=>if finHead n m a.l&&(finKeys a.l 0 n.keys&&finAggs a.l n.keys.length n.aggs) then some ⟨false,finSet n.keys.length n.aggs a.l⟩ else none
  else none
 | [a,b]=>
  if n.op=2 then (if truthF n.cond (a.l++b.l) then some ⟨false,a.l++b.l⟩ else none)
  else if n.op=7 then (if a.l.length=b.l.length then (unionF a.l b.l).map fun ks=>⟨false,ks⟩ else none)
  else none
 | _=>none
def askF(op:Int):AVal:=
 if op=1 then .fn 177 [] [] else if op=9 then .fn 178 [] [] else if op=2 then .fn 179 [] [] else if op=3 then .fn 180 [] [] else if op=4 then .fn 181 [] [] else if op=10 then .fn 182 [] [] else if op=11 then .fn 183 [] [] else
 if op=5 then .fn 184 [] [] else if op=6 then .fn 185 [] [] else if op=7 then .fn 186 [] [] else if op=8 then .fn 187 [] [] else .nilf
def AskIs(ask:AVal)(L:AVal→Obj)(r0:AVal)(τ:Store)(o:Option (SlX Int)):Prop:=
 match o with
 | none=>∃ σ1,acallV code ask [.ptr 0 0 0 0] (L r0::τ)=some (.bool false,σ1)
 | some s=>∃ r X,acallV code ask [.ptr 0 0 0 0] (L r0::τ)=some (.bool true,L r::τ++X)∧ResOk X r s.b s.l
theorem askIs_if{ask:AVal}{L:AVal→Obj}{r0:AVal}{τ:Store}{t:Bool}{s:SlX Int}{r:AVal}{X:Store}
  (h:acallV code ask [.ptr 0 0 0 0] (L r0::τ)=some (.bool t,L r::τ++X)) (hr:ResOk X r s.b s.l):AskIs ask L r0 τ (if t then some s else none):=by
 cases t with
 | true=>exact ⟨r,X,h,hr⟩
 | false=>exact ⟨_,h⟩
theorem ask0(bn:Bool)(nodes:List LNX)(ep1 m1 ep2 m2:Nat)(n:LNX)(a b r0:AVal)(τ:Store)(hn:NFit n)(hop:partsF n.op=0) :
  AskIs (askF n.op) (laidX bn nodes ep1 m1 ep2 m2 n a b) r0 τ (opF nodes n []):=by
 have hk:n.kinds.length≤most:=Nat.le_trans hn.kinds (by decide)
 by_cases h1:n.op=1
 ·have hs:=scan_spec (.imm bn (nodes.map LNX.a)) (.sl 1 ep1 0 m1) (.sl 2 ep2 0 m2) n a b r0 τ hk
  have h:=askIs_if (ask:=askF n.op) (L:=laidX bn nodes ep1 m1 ep2 m2 n a b) (r0:=r0) (τ:=τ) (X:=[]) (s:=⟨n.bk,n.kinds⟩) (t:=scanF n) (by rw[List.append_nil,show askF n.op=.fn 177 [] [] by simp[askF,h1]];simpa using hs) (res_imm [] _ _)
  simpa [opF,h1] using h
 ·by_cases h2:n.op=9
  ·have hs:=input_spec (.imm bn (nodes.map LNX.a)) (.sl 1 ep1 0 m1) (.sl 2 ep2 0 m2) n a b r0 τ hk
   have h:=askIs_if (ask:=askF n.op) (L:=laidX bn nodes ep1 m1 ep2 m2 n a b) (r0:=r0) (τ:=τ) (X:=[]) (s:=⟨n.bk,n.kinds⟩) (t:=inputF n) (by rw[List.append_nil,show askF n.op=.fn 178 [] [] by simp[askF,h2]];simpa using hs) (res_imm [] _ _)
   simpa [opF,h2] using h
  ·exfalso
   unfold partsF at hop
   rw[if_neg (by omega)]at hop
   repeat' (split at hop<;>try omega)
theorem partsF_one{op:Int}(h:partsF op=1):op=3∨op=4∨op=5∨op=6∨op=8∨op=10∨op=11:=by
 unfold partsF at h
 split at h
 ·omega
 ·split at h
  ·omega
  ·split at h
   ·omega
   ·omega
theorem partsF_two{op:Int}(h:partsF op=2):op=2∨op=7:=by
 unfold partsF at h
 split at h
 ·omega
 ·split at h
  ·omega
  ·split at h<;>omega
theorem ask1(bn:Bool)(nodes:List LNX)(ep1 m1 ep2 m2:Nat)(n:LNX)(a:SlX Int)(r0:AVal)(τ:Store)(hτ:Fzs τ)(hl:τ.length=5)(hn:NFit n)(hop:partsF n.op=1)(hL:n.op=11→0≤n.l∧n.l.toNat < nodes.length)(ha:a.l.length≤m32) :
  AskIs (askF n.op) (laidX bn nodes ep1 m1 ep2 m2 n (.imm a.b (intsA a.l)) .nil0) r0 τ (opF nodes n [a]):=by
 have hm:m32≤most:=by decide
 have hmm:m32+m32≤most:=by decide
 have ha':=Nat.le_trans ha hm
 have hkg:n.keys.length+n.aggs.length≤most:=Nat.le_trans (Nat.add_le_add hn.keys hn.aggs) hmm
 have hl2:2≤τ.length:=by omega
 rcases partsF_one hop with h|h|h|h|h|h|h
 ·have hs:=filter_spec (.imm bn (nodes.map LNX.a)) (.sl 1 ep1 0 m1) (.sl 2 ep2 0 m2) n a.b a.l .nil0 r0 τ (Nat.le_trans hn.cond hm) ha'
  have:=askIs_if (ask:=askF n.op) (L:=laidX bn nodes ep1 m1 ep2 m2 n (.imm a.b (intsA a.l)) .nil0) (r0:=r0) (τ:=τ) (X:=[]) (s:=a) (t:=truthF n.cond a.l) (by rw[List.append_nil,show askF n.op=.fn 180 [] [] by simp[askF,h]];simpa using hs) (res_imm [] _ _)
  simpa [opF,h] using this
 ·have hs:=group_spec bn nodes ep1 m1 ep2 m2 n a.b a.l r0 τ hτ hl2 (Nat.le_trans hn.keys hm) (Nat.le_trans hn.aggs hm) hkg (fun g hg=>Nat.le_trans (hn.args g hg) hm) ha'
  cases hq:keysF a.l n.keys with
  | none=>
   rw[hq]at hs
   have e:opF nodes n [a]=none:=by simp[opF,h,hq]
   rw[e]
   exact (show askF n.op=.fn 181 [] [] by simp[askF,h]) ▸ hs
  | some ks=>
   rw[hq]at hs
   have hlen:=keysF_len hq
   have e:opF nodes n [a]=if aggsOk n a.l then some ⟨false,ks++n.aggs.map fun g=>(aggK a.l g).2⟩ else none:=by simp[opF,h,hq]
   rw[e]
   have hr:=res_sl7 (n.keys.length+n.aggs.length) (ks++n.aggs.map fun g=>(aggK a.l g).2) (grpO n) []
   rw[show (ks++n.aggs.map fun g=>(aggK a.l g).2).length=n.keys.length+n.aggs.length by simp[hlen]]at hr
   rw[hl]at hs
   exact askIs_if (by rw[show askF n.op=.fn 181 [] [] by simp[askF,h]];exact hs) hr
 ·have hs:=project_spec bn nodes ep1 m1 ep2 m2 n a.b a.l r0 τ hτ hl2 (Nat.le_trans hn.items hm) (fun e he=>Nat.le_trans (hn.exprs e he) hm) ha'
  cases hq:itemsF a.l n.items with
  | none=>
   rw[hq]at hs
   have e:opF nodes n [a]=none:=by simp[opF,h,hq]
   rw[e]
   exact (show askF n.op=.fn 184 [] [] by simp[askF,h]) ▸ hs
  | some ks=>
   rw[hq]at hs
   have e:opF nodes n [a]=if decide (0 < ks.length) then some ⟨false,ks⟩ else none:=by simp[opF,h,hq]
   rw[e]
   rw[hl]at hs
   exact askIs_if (by rw[show askF n.op=.fn 184 [] [] by simp[askF,h]];exact hs) (res_sl6 n.items.length ks [])
 ·have hs:=keeps_spec (.imm bn (nodes.map LNX.a)) (.sl 1 ep1 0 m1) (.sl 2 ep2 0 m2) n a.b a.l .nil0 r0 τ
  have:=askIs_if (ask:=askF n.op) (L:=laidX bn nodes ep1 m1 ep2 m2 n (.imm a.b (intsA a.l)) .nil0) (r0:=r0) (τ:=τ) (X:=[]) (s:=a) (t:=true) (by rw[List.append_nil,show askF n.op=.fn 185 [] [] by simp[askF,h]];simpa using hs) (res_imm [] _ _)
  simpa [opF,h] using this
 ·obtain ⟨X,hs⟩:=lsort_spec (.imm bn (nodes.map LNX.a)) (.sl 1 ep1 0 m1) (.sl 2 ep2 0 m2) n a.b a.l .nil0 r0 τ (Nat.le_trans hn.ords hm)
  have:=askIs_if (ask:=askF n.op) (L:=laidX bn nodes ep1 m1 ep2 m2 n (.imm a.b (intsA a.l)) .nil0) (r0:=r0) (τ:=τ) (X:=[X]) (s:=a) (t:=sortF n a.l) (by rw[show askF n.op=.fn 187 [] [] by simp[askF,h]];simpa using hs) (res_imm [X] _ _)
  simpa [opF,h] using this
 ·have hs:=partial_spec bn nodes ep1 m1 ep2 m2 n a.b a.l r0 τ hτ hl2 (Nat.le_trans hn.keys hm) (Nat.le_trans hn.aggs hm) hkg (fun g hg=>Nat.le_trans (hn.args g hg) hm) ha'
  have ef:askF n.op=.fn 182 [] []:=by simp[askF,h]
  rw[ef]
  cases hq:keysF a.l n.keys with
  | none=>
   rw[hq]at hs
   have e:opF nodes n [a]=none:=by simp[opF,h,hq]
   rw[e]
   exact hs
  | some ks=>
   rw[hq]at hs
   have hlen:=keysF_len hq
   have e:opF nodes n [a]=if aggsOk n a.l then some ⟨false,ks++n.aggs.map (partK a.l)⟩ else none:=by simp[opF,h,hq]
   rw[e]
   cases hg:aggsOk n a.l with
   | false=>
    rw[hg]at hs
    exact hs
   | true=>
    rw[hg]at hs
    have hr:=res_sl7 (n.keys.length+n.aggs.length) (ks++n.aggs.map (partK a.l)) (grpO n) []
    rw[show (ks++n.aggs.map (partK a.l)).length=n.keys.length+n.aggs.length by simp[hlen]]at hr
    rw[hl]at hs
    exact ⟨_,_,hs,hr⟩
 ·obtain ⟨h0,h1⟩:=hL h
  have hmm:nodes[n.l.toNat]?=some nodes[n.l.toNat]:=List.getElem?_eq_getElem h1
  have ef:askF n.op=.fn 183 [] []:=by simp[askF,h]
  have e:opF nodes n [a]=if finHead n nodes[n.l.toNat] a.l&&(finKeys a.l 0 n.keys&&finAggs a.l n.keys.length n.aggs) then some ⟨false,finSet n.keys.length n.aggs a.l⟩ else none:=by simp[opF,h,hmm]
  rw[e,ef]
  cases hh:finHead n nodes[n.l.toNat] a.l with
  | false=>
   exact final_bad bn nodes ep1 m1 ep2 m2 n _ a.b a.l r0 τ h0 hmm hkg hh
  | true=>
   have hs:=final_spec bn nodes ep1 m1 ep2 m2 n _ a.b a.l r0 τ hτ hl2 h0 hmm hkg ha' hh
   rw[hl]at hs
   have hr:=res_sl7 0 (finSet n.keys.length n.aggs a.l) (grpO n) []
   rw[finSet_len]at hr
   rw[Bool.true_and]
   exact askIs_if hs hr
theorem ask2(bn:Bool)(nodes:List LNX)(ep1 m1 ep2 m2:Nat)(n:LNX)(a b:SlX Int)(r0:AVal)(τ:Store)(hτ:Fzs τ)(hl:τ.length=5)(hn:NFit n)(hop:partsF n.op=2)(ha:a.l.length≤m32)(hb:b.l.length≤m32) :
  AskIs (askF n.op) (laidX bn nodes ep1 m1 ep2 m2 n (.imm a.b (intsA a.l)) (.imm b.b (intsA b.l))) r0 τ (opF nodes n [a,b]):=by
 have hm:m32≤most:=by decide
 have hmm:m32+m32≤most:=by decide
 rcases partsF_two hop with h|h
 ·have hs:=join_spec (.imm bn (nodes.map LNX.a)) (.sl 1 ep1 0 m1) (.sl 2 ep2 0 m2) n a.b b.b a.l b.l r0 τ (Nat.le_trans hn.cond hm) (Nat.le_trans (Nat.add_le_add ha hb) hmm)
  have:=askIs_if (ask:=askF n.op) (L:=laidX bn nodes ep1 m1 ep2 m2 n (.imm a.b (intsA a.l)) (.imm b.b (intsA b.l))) (r0:=r0) (τ:=τ) (X:=[]) (s:=⟨false,a.l++b.l⟩) (t:=truthF n.cond (a.l++b.l)) (by rw[List.append_nil,show askF n.op=.fn 179 [] [] by simp[askF,h]];simpa using hs) (res_imm [] _ _)
  simpa [opF,h] using this
 ·have ef:askF n.op=.fn 186 [] []:=by simp[askF,h]
  rw[ef]
  by_cases hlen:a.l.length=b.l.length
  ·have hs:=union_spec bn nodes ep1 m1 ep2 m2 n a.b b.b a.l b.l r0 τ hτ (by omega) (Nat.le_trans ha hm) hlen
   have e:opF nodes n [a,b]=(unionF a.l b.l).map fun ks=>⟨false,ks⟩:=by simp[opF,h,hlen]
   rw[e]
   cases hq:unionF a.l b.l with
   | none=>rw[hq]at hs;exact hs
   | some ks=>
    rw[hq]at hs
    rw[hl]at hs
    exact ⟨_,_,hs,res_sl6 a.l.length ks []⟩
  ·have e:opF nodes n [a,b]=none:=by simp[opF,h,hlen]
   rw[e]
   exact union_bad bn nodes ep1 m1 ep2 m2 n a.b b.b a.l b.l r0 τ hlen
end Go.AM
end
section
namespace Go.AM
open P
set_option maxHeartbeats 8000000
set_option maxRecDepth 8000
def noSl:SlX Int:=⟨false,[]⟩
def stepF(nodes:List LNX)(i:Nat)(n:LNX)(kinds:List (SlX Int))(opn:List Nat):Option (SlX Int×List Nat):=
 match preF n opn with
 | none=>none
 | some ps=>
  if (ps.any fun p=>(n.op != 11)&&sum4 (kinds.getD p noSl).l)=true∨rootOk n i nodes.length=false then none else
  match opF nodes n (ps.map fun p=>kinds.getD p noSl) with
  | none=>none
  | some res=>if 16 < res.l.length then none else some (res,opn.take (opn.length - ps.length)++[i])
def slotA(kinds:List (SlX Int)):List Nat→AVal
 | p::_=>.imm (kinds.getD p noSl).b (intsA (kinds.getD p noSl).l)
 | []=>.nil0
def slotB(kinds:List (SlX Int)):List Nat→AVal
 | [_,q]=>.imm (kinds.getD q noSl).b (intsA (kinds.getD q noSl).l)
 | _=>.nil0
def TakesIs(bn:Bool)(nodes:List LNX)(ep1 ep2:Nat)(kinds:List (SlX Int))(opn:List Nat)(n:LNX)(B:Obj)(i:Nat)(call:Option (AVal×Store)):Option (SlX Int×List Nat)→Prop
 | none=>∃ σ',call=some (.bool false,σ')
 | some (s,o')=>∃ ps r AT X,preF n opn=some ps∧call=some (.bool true,
   laidX bn nodes (ep1+1) (kinds.length+1) (ep2+1) o'.length n (slotA kinds ps) (slotB kinds ps) r::.arr 1 (ep1+1) (kinds.map (SlX.c (.int .i64))++[r])::.arr 1 (ep2+1) (natsI o')::B::grpO n::AT::X)∧ResOk X r s.b s.l
theorem rootOk_cases(E:TkE)(hi:E.i < E.nodes.length):(rootOk E.n E.i E.nodes.length=true∧RootFine E)∨(rootOk E.n E.i E.nodes.length=false∧RootBad E):=by
 have e:((E.i:Int) != ((E.nodes.length:Int) - 1))=(E.i != E.nodes.length - 1):=by
  rw[Bool.eq_iff_iff]
  simp only[bne_iff_ne,ne_eq]
  constructor<;>intro h<;>omega
 unfold RootFine RootBad rootOk
 rw[e]
 cases (E.n.op == 8)<;>cases (E.n.op == 10)<;>cases (E.i != E.nodes.length - 1)<;>simp
abbrev TkE.is(E:TkE):Prop:=TakesIs E.bn E.nodes E.ep1 E.ep2 E.kinds E.opn E.n E.B E.i E.call (stepF E.nodes E.i E.n E.kinds E.opn)
theorem step0(E:TkE)(h:Tk E 0 [])(ha:E.ask=askF E.n.op)(hil:E.nodes.length≤m32)(hol:E.opn.length+1≤most)(hkl:E.kinds.length+1≤most)(hkn:E.kinds.length≤E.nodes.length)
  (hpre:preF E.n E.opn=if E.n.l=-1∧E.n.r=-1 then some [] else none) (hk:∀ s∈E.kinds,s.l.length≤m32) (hn:NFit E.n):E.is:=by
 have hm:m32≤most:=by decide
 have hlti:=(List.getElem?_eq_some_iff.1 h.hi).1
 have hB:=h.hB
 unfold TkE.is stepF
 by_cases hA:E.n.l=-1∧E.n.r=-1
 ·rw[if_pos hA]at hpre
  rw[hpre]
  simp only[List.map_cons,List.map_nil,List.any_cons,List.any_nil,Bool.or_false]
  rcases rootOk_cases E hlti with ⟨hr,hc⟩|⟨hr,hc⟩
  ·rw[if_neg (by simp[hr])]
   have hask:=ask0 E.bn E.nodes E.ep1 E.kinds.length E.ep2 E.opn.length E.n .nil0 .nil0 E.r0 [.arr 1 E.ep1 (E.kinds.map (SlX.c (.int .i64))),.arr 1 E.ep2 (natsI E.opn),E.B,grpO E.n,atO (-1) (-1)] hn h.hop
   rw[← ha]at hask
   cases ho:opF E.nodes E.n [] with
   | none=>
    rw[ho]at hask
    obtain ⟨σ1,hask⟩:=hask
    exact takes0_no E h hA hc σ1 hask
   | some s=>
    rw[ho]at hask
    obtain ⟨r,X,hask,hR⟩:=hask
    by_cases hw:16 < s.l.length
    ·simp only[if_pos hw]
     exact takes0_wide E h hA hc r s.b s.l X hR hask hw
    ·simp only[if_neg hw]
     refine ⟨[],r,atO (-1) (-1),X,hpre,?_,hR⟩
     simp only[slotA,slotB,List.length_append,List.length_take,List.length_cons,List.length_nil,List.map_append,natsI,List.map_cons,List.map_nil,Nat.zero_add,List.length_nil]
     rw[Nat.min_eq_left (Nat.sub_le _ _)]
     exact takes0_yes E h hkl hol hA hc r s.b s.l X hR hask (by omega)
  ·rw[if_pos (.inr hr)]
   exact takes0_root E h hA hc
 ·rw[if_neg hA]at hpre
  rw[hpre]
  exact takes0_bad E h hA
theorem step1(E:TkE)(p:Nat)(h:Tk E 1 [p])(ha:E.ask=askF E.n.op)(hil:E.nodes.length≤m32)(hol:E.opn.length+1≤most)(hkl:E.kinds.length+1≤most)(hkn:E.kinds.length≤E.nodes.length)
  (hpre:preF E.n E.opn=if E.n.l=(p:Int)∧E.n.r=-1 then some [p] else none) (hp:p < E.kinds.length) (hk:∀ s∈E.kinds,s.l.length≤m32) (hn:NFit E.n):E.is:=by
 have hm:m32≤most:=by decide
 have hlti:=(List.getElem?_eq_some_iff.1 h.hi).1
 have hB:=h.hB
 unfold TkE.is stepF
 by_cases hA:E.n.l=(p:Int)∧E.n.r=-1
 ·rw[if_pos hA]at hpre
  rw[hpre]
  obtain ⟨kp,hkp⟩:∃ s,E.kinds[p]?=some s:=⟨_,List.getElem?_eq_getElem hp⟩
  have ep:E.kinds.getD p noSl=kp:=by rw[List.getD_eq_getElem?_getD,hkp];rfl
  have lp:=hk kp (List.mem_of_getElem? hkp)
  simp only[List.map_cons,List.map_nil,List.any_cons,List.any_nil,ep,Bool.or_false]
  rcases Bool.eq_false_or_eq_true ((E.n.op != 11)&&sum4 kp.l) with fp|fp
  ·rw[if_pos (.inl (by simp only[fp,Bool.true_or]))]
   exact takes1_four0 E p h hA kp hkp (Nat.le_trans lp hm) fp
  rcases rootOk_cases E hlti with ⟨hr,hc⟩|⟨hr,hc⟩
  ·rw[if_neg (by simp[hr,fp])]
   have hask:=ask1 E.bn E.nodes E.ep1 E.kinds.length E.ep2 E.opn.length E.n kp E.r0 [.arr 1 E.ep1 (E.kinds.map (SlX.c (.int .i64))),.arr 1 E.ep2 (natsI E.opn),E.B,grpO E.n,atO (p:Int) (-1)] (fun base σ=>by rw[List.map_cons,List.map_cons,List.map_cons,hB];simp[freezeObj]) rfl hn h.hop (fun _=>by rw[hA.1];exact ⟨by omega,by simp;omega⟩) lp
   rw[← ha]at hask
   cases ho:opF E.nodes E.n [kp] with
   | none=>
    rw[ho]at hask
    obtain ⟨σ1,hask⟩:=hask
    exact takes1_no E p h hA kp hkp (Nat.le_trans lp hm) fp hc σ1 hask
   | some s=>
    rw[ho]at hask
    obtain ⟨r,X,hask,hR⟩:=hask
    by_cases hw:16 < s.l.length
    ·simp only[if_pos hw]
     exact takes1_wide E p h hA kp hkp (Nat.le_trans lp hm) fp hc r s.b s.l X hR hask hw
    ·simp only[if_neg hw]
     refine ⟨[p],r,atO (p:Int) (-1),X,hpre,?_,hR⟩
     simp only[slotA,slotB,ep,List.length_append,List.length_take,List.length_cons,List.length_nil,List.map_append,natsI,List.map_cons,List.map_nil,Nat.zero_add,Nat.reduceAdd]
     rw[Nat.min_eq_left (Nat.sub_le _ _)]
     exact takes1_yes E p h hkl hol hA kp hkp (Nat.le_trans lp hm) fp hc r s.b s.l X hR hask (by omega)
  ·rw[if_pos (.inr hr)]
   exact takes1_root E p h hA kp hkp (Nat.le_trans lp hm) fp hc
 ·rw[if_neg hA]at hpre
  rw[hpre]
  exact takes1_bad E p h hA
theorem step2(E:TkE)(p q:Nat)(h:Tk E 2 [p,q])(ha:E.ask=askF E.n.op)(hil:E.nodes.length≤m32)(hol:E.opn.length+1≤most)(hkl:E.kinds.length+1≤most)(hkn:E.kinds.length≤E.nodes.length)
  (hpre:preF E.n E.opn=if E.n.l=(p:Int)∧E.n.r=(q:Int) then some [p,q] else none) (hp:p < E.kinds.length) (hq:q < E.kinds.length) (hk:∀ s∈E.kinds,s.l.length≤m32) (hn:NFit E.n):E.is:=by
 have hm:m32≤most:=by decide
 have hlti:=(List.getElem?_eq_some_iff.1 h.hi).1
 have hB:=h.hB
 unfold TkE.is stepF
 by_cases hA:E.n.l=(p:Int)∧E.n.r=(q:Int)
 ·rw[if_pos hA]at hpre
  rw[hpre]
  obtain ⟨kp,hkp⟩:∃ s,E.kinds[p]?=some s:=⟨_,List.getElem?_eq_getElem hp⟩
  have ep:E.kinds.getD p noSl=kp:=by rw[List.getD_eq_getElem?_getD,hkp];rfl
  have lp:=hk kp (List.mem_of_getElem? hkp)
  obtain ⟨kq,hkq⟩:∃ s,E.kinds[q]?=some s:=⟨_,List.getElem?_eq_getElem hq⟩
  have eq:E.kinds.getD q noSl=kq:=by rw[List.getD_eq_getElem?_getD,hkq];rfl
  have lq:=hk kq (List.mem_of_getElem? hkq)
  simp only[List.map_cons,List.map_nil,List.any_cons,List.any_nil,ep,eq,Bool.or_false]
  rcases Bool.eq_false_or_eq_true ((E.n.op != 11)&&sum4 kp.l) with fp|fp
  ·rw[if_pos (.inl (by simp only[fp,Bool.true_or]))]
   exact takes2_four0 E p q h hA kp hkp (Nat.le_trans lp hm) kq hkq (Nat.le_trans lq hm) fp
  rcases Bool.eq_false_or_eq_true ((E.n.op != 11)&&sum4 kq.l) with fq|fq
  ·rw[if_pos (.inl (by simp only[fq,Bool.or_true]))]
   exact takes2_four1 E p q h hA kp hkp (Nat.le_trans lp hm) kq hkq (Nat.le_trans lq hm) fp fq
  rcases rootOk_cases E hlti with ⟨hr,hc⟩|⟨hr,hc⟩
  ·rw[if_neg (by simp[hr,fp,fq])]
   have hask:=ask2 E.bn E.nodes E.ep1 E.kinds.length E.ep2 E.opn.length E.n kp kq E.r0 [.arr 1 E.ep1 (E.kinds.map (SlX.c (.int .i64))),.arr 1 E.ep2 (natsI E.opn),E.B,grpO E.n,atO (p:Int) (q:Int)] (fun base σ=>by rw[List.map_cons,List.map_cons,List.map_cons,hB];simp[freezeObj]) rfl hn h.hop lp lq
   rw[← ha]at hask
   cases ho:opF E.nodes E.n [kp,kq] with
   | none=>
    rw[ho]at hask
    obtain ⟨σ1,hask⟩:=hask
    exact takes2_no E p q h hA kp hkp (Nat.le_trans lp hm) kq hkq (Nat.le_trans lq hm) fp fq hc σ1 hask
   | some s=>
    rw[ho]at hask
    obtain ⟨r,X,hask,hR⟩:=hask
    by_cases hw:16 < s.l.length
    ·simp only[if_pos hw]
     exact takes2_wide E p q h hA kp hkp (Nat.le_trans lp hm) kq hkq (Nat.le_trans lq hm) fp fq hc r s.b s.l X hR hask hw
    ·simp only[if_neg hw]
     refine ⟨[p,q],r,atO (p:Int) (q:Int),X,hpre,?_,hR⟩
     simp only[slotA,slotB,ep,eq,List.length_append,List.length_take,List.length_cons,List.length_nil,List.map_append,natsI,List.map_cons,List.map_nil,Nat.zero_add,Nat.reduceAdd]
     rw[Nat.min_eq_left (Nat.sub_le _ _)]
     exact takes2_yes E p q h hkl hol hA kp hkp (Nat.le_trans lp hm) kq hkq (Nat.le_trans lq hm) fp fq hc r s.b s.l X hR hask (by omega)
  ·rw[if_pos (.inr hr)]
   exact takes2_root E p q h hA kp hkp (Nat.le_trans lp hm) kq hkq (Nat.le_trans lq hm) fp fq hc
 ·rw[if_neg hA]at hpre
  rw[hpre]
  exact takes2_bad E p q h hA
theorem takes_spec(bn:Bool)(nodes:List LNX)(ep1 ep2:Nat)(kinds:List (SlX Int))(opn:List Nat)(n0:Cells12)(n:LNX)(a0 b0 r0:AVal)(B:Obj)(i:Nat)(hi:nodes[i]?=some n)(hil:nodes.length≤m32)(hol:opn.length+1≤most)(hkl:kinds.length+1≤most)(hkn:kinds.length≤nodes.length)
  (ho:∀ p∈opn,p < kinds.length) (hk:∀ s∈kinds,s.l.length≤m32) (hn:NFit n) (hB:∀ base σ,freezeObj base σ B=B) :
  TakesIs bn nodes ep1 ep2 kinds opn n B i (acall code I.qdy [.ptr 0 0 0 0,.int .i64 i,askF n.op] (stK bn nodes ep1 ep2 kinds opn n0 a0 b0 r0 B)) (stepF nodes i n kinds opn):=by
 have hm:m32≤most:=by decide
 by_cases hb:partsF n.op < 0∨(opn.length:Int) < partsF n.op∨blankF n=false
 ·have e:stepF nodes i n kinds opn=none:=by
   unfold stepF preF
   rw[if_pos hb]
  rw[e]
  exact takes_bad0 bn nodes ep1 ep2 kinds opn n0 n a0 b0 r0 B _ i hi (Nat.le_trans hn.keys hm) (Nat.le_trans hn.aggs hm) hb
 ·have hbl:blankF n=true:=by
   cases h:blankF n with
   | true=>rfl
   | false=>exact absurd (.inr (.inr h)) hb
  have hpl:=partsF_le n.op
  have hpre:preF n opn=match opn.drop (opn.length - (partsF n.op).toNat) with
   | []=>if n.l=-1∧n.r=-1 then some [] else none
   | [p]=>if n.l=p∧n.r=-1 then some [p] else none
   | [p,q]=>if n.l=p∧n.r=q then some [p,q] else none
   | _=>none:=by
   unfold preF
   exact if_neg hb
  have hmem:∀ p∈opn.drop (opn.length - (partsF n.op).toNat),p < kinds.length:=fun p hp=>ho p (List.mem_of_mem_drop hp)
  have hlen:(opn.drop (opn.length - (partsF n.op).toNat)).length=(partsF n.op).toNat:=by
   rw[List.length_drop];omega
  have tk:∀ (k:Nat) (ps:List Nat),partsF n.op=k→opn.drop (opn.length - k)=ps→Tk ⟨bn,nodes,ep1,ep2,kinds,opn,n0,a0,b0,r0,B,askF n.op,i,n⟩ k ps:=fun k ps h1 h2=>
   ⟨hi,Nat.le_trans hil hm,by show opn.length≤most;omega,Nat.le_trans hn.keys hm,Nat.le_trans hn.aggs hm,h1,by show k≤opn.length;omega,h2,hbl,hB⟩
  have h012:partsF n.op=0∨partsF n.op=1∨partsF n.op=2:=by omega
  rcases h012 with h|h|h
  ·have e:(partsF n.op).toNat=0:=by omega
   rw[e]at hpre hmem hlen
   generalize hd:opn.drop (opn.length - 0)=l at *
   match l,hlen with
   | [],_=>exact step0 ⟨bn,nodes,ep1,ep2,kinds,opn,n0,a0,b0,r0,B,askF n.op,i,n⟩ (tk 0 [] h hd) rfl hil hol hkl hkn hpre hk hn
  ·have e:(partsF n.op).toNat=1:=by omega
   rw[e]at hpre hmem hlen
   generalize hd:opn.drop (opn.length - 1)=l at *
   match l,hlen with
   | [p],_=>exact step1 ⟨bn,nodes,ep1,ep2,kinds,opn,n0,a0,b0,r0,B,askF n.op,i,n⟩ p (tk 1 [p] h hd) rfl hil hol hkl hkn hpre (hmem p (by simp)) hk hn
  ·have e:(partsF n.op).toNat=2:=by omega
   rw[e]at hpre hmem hlen
   generalize hd:opn.drop (opn.length - 2)=l at *
   match l,hlen with
   | [p,q],_=>exact step2 ⟨bn,nodes,ep1,ep2,kinds,opn,n0,a0,b0,r0,B,askF n.op,i,n⟩ p q (tk 2 [p,q] h hd) rfl hil hol hkl hkn hpre (hmem p (by simp)) (hmem q (by simp)) hk hn
end Go.AM
end
section
namespace Go.AM
open P
set_option maxHeartbeats 16000000
set_option maxRecDepth 8000
attribute [local simp] condRun_if when_if
def asksE:List (AVal×AVal):=[(.int .i64 1,.fn 177 [] []),(.int .i64 9,.fn 178 [] []),(.int .i64 2,.fn 179 [] []),(.int .i64 3,.fn 180 [] []),(.int .i64 4,.fn 181 [] []),(.int .i64 10,.fn 182 [] []),(.int .i64 11,.fn 183 [] []),(.int .i64 5,.fn 184 [] []),(.int .i64 6,.fn 185 [] []),(.int .i64 7,.fn 186 [] []),(.int .i64 8,.fn 187 [] [])]
theorem asks_spec:pcall I.qdh []=some (.imap false asksE):=by
 rw[pcall_eq c_qdh rfl]
 simp[f_qdh,b_qdh,asksE,isKey,mput,keyIs]
theorem lookup_asks(op:Int):∃ r,lookup (.int .i64 op) asksE=some r∧r.getD .nilf=askF op:=by
 unfold asksE askF
 by_cases h1:op=1
 ·subst h1
  exact ⟨some _,rfl,rfl⟩
 by_cases h9:op=9
 ·subst h9
  exact ⟨some _,rfl,rfl⟩
 by_cases h2:op=2
 ·subst h2
  exact ⟨some _,rfl,rfl⟩
 by_cases h3:op=3
 ·subst h3
  exact ⟨some _,rfl,rfl⟩
 by_cases h4:op=4
 ·subst h4
  exact ⟨some _,rfl,rfl⟩
 by_cases h10:op=10
 ·subst h10
  exact ⟨some _,rfl,rfl⟩
 by_cases h11:op=11
 ·subst h11
  exact ⟨some _,rfl,rfl⟩
 by_cases h5:op=5
 ·subst h5
  exact ⟨some _,rfl,rfl⟩
 by_cases h6:op=6
 ·subst h6
  exact ⟨some _,rfl,rfl⟩
 by_cases h7:op=7
 ·subst h7
  exact ⟨some _,rfl,rfl⟩
 by_cases h8:op=8
 ·subst h8
  exact ⟨some _,rfl,rfl⟩
 refine ⟨none,?_,?_⟩
 ·simp[lookup,keyIs,beq_f (Ne.symm h1),beq_f (Ne.symm h9),beq_f (Ne.symm h2),beq_f (Ne.symm h3),beq_f (Ne.symm h4),beq_f (Ne.symm h10),beq_f (Ne.symm h11),beq_f (Ne.symm h5),beq_f (Ne.symm h6),beq_f (Ne.symm h7),beq_f (Ne.symm h8)]
 ·simp[h1,h9,h2,h3,h4,h10,h11,h5,h6,h7,h8]
structure KSt where
 kinds:List (SlX Int)
 opn:List Nat
 z0:Cells12
 a0:AVal
 b0:AVal
 r0:AVal
def kstep(nodes:List LNX)(i:Nat)(n:LNX)(s:KSt):KSt⊕Nat:=
 match stepF nodes i n s.kinds s.opn with
 | none=>.inr i
 | some (x,o')=>.inl ⟨s.kinds++[x],o',n.z,slotA s.kinds ((preF n s.opn).getD []),slotB s.kinds ((preF n s.opn).getD []),.imm x.b (intsA x.l)⟩
@[simp] theorem slotA_fz(kinds:List (SlX Int))(ps:List Nat)(base:Nat)(σ:Store)(m:Nat):fz false true base σ (m+3) (slotA kinds ps)=slotA kinds ps:=by
 cases ps<;>simp[slotA]
@[simp] theorem slotB_fz(kinds:List (SlX Int))(ps:List Nat)(base:Nat)(σ:Store)(m:Nat):fz false true base σ (m+3) (slotB kinds ps)=slotB kinds ps:=by
 unfold slotB
 split<;>simp
abbrev kEnv(bn:Bool)(nodes:List LNX)(bad e7 e8:AVal)(k:Nat)(e15 e16:AVal):List AVal:=[.imm bn (nodes.map LNX.a),.nil0,.int .i64 0,.int .i64 0,.ptr 0 0 0 0,.imap false asksE,bad,e7,e8,.any,.any,.bool false,.imm bn (nodes.map LNX.a),.int .i64 nodes.length,.int .i64 k,e15,e16,.any,.any,.any,.any,.any,.any]
abbrev kStore(bn:Bool)(nodes:List LNX)(k:Nat)(s:KSt):Store:=[laidZ bn nodes k s.kinds.length k s.opn.length s.z0 s.a0 s.b0 s.r0,.arr 1 k (s.kinds.map (SlX.c (.int .i64))),.arr 1 k (natsI s.opn)]
theorem stepF_len{nodes:List LNX}{i:Nat}{n:LNX}{kinds:List (SlX Int)}{opn o':List Nat}{x:SlX Int}(h:stepF nodes i n kinds opn=some (x,o')):x.l.length≤16∧o'.length≤opn.length+1∧∀ p∈o',p∈opn∨p=i:=by
 unfold stepF at h
 split at h
 ·cases h
 ·split at h
  ·cases h
  ·split at h
   ·cases h
   ·split at h
    ·cases h
    ·cases h
     refine ⟨by omega,by simp only[List.length_append,List.length_take,List.length_cons,List.length_nil];omega,fun p hp=>?_⟩
     rcases List.mem_append.1 hp with h|h
     ·exact .inl (List.mem_of_mem_take h)
     ·exact .inr (by simpa using h)
abbrev KSt.l(s:KSt):List AVal:=[s.z0.c0,s.z0.c1,s.z0.c2,s.z0.c3,s.z0.c4,s.z0.c5,s.z0.c6,s.z0.c7,s.z0.c8,s.z0.c9,s.z0.c10,s.z0.c11,s.a0,s.b0,s.r0]
def Zok(s:KSt):Prop:=∀ base σ m,s.l.map (fz false true base σ (m+3))=s.l
theorem kinds_loop(bn:Bool)(nodes:List LNX)(hN:nodes.length≤m32)(hF:∀ n∈nodes,NFit n)(z0:Cells12)(a0 b0 r0:AVal)(hz:Zok ⟨[],[],z0,a0,b0,r0⟩) :
  match foldL (kstep nodes) nodes 0 ⟨[],[],z0,a0,b0,r0⟩ with
  | .inl s=>Zok s∧s.opn.length≤nodes.length∧s.kinds.length=nodes.length∧(∀ x∈s.kinds,x.l.length≤m32)∧rounds code 3 [7,8,15,16] l_qdf_1 ⟨kEnv bn nodes (.int .i64 (-1)) .any .any 0 .any .any,kStore bn nodes 0 ⟨[],[],z0,a0,b0,r0⟩⟩ =
    some (.ext 0,⟨kEnv bn nodes (.int .i64 (-1)) .any .any nodes.length (.bool false) .any,kStore bn nodes nodes.length s⟩)
  | .inr i=>∃ o,rounds code 3 [7,8,15,16] l_qdf_1 ⟨kEnv bn nodes (.int .i64 (-1)) .any .any 0 .any .any,kStore bn nodes 0 ⟨[],[],z0,a0,b0,r0⟩⟩=some o ∧
    ∃ σ e7 e8 e15 e16,o=(.ext 0,⟨kEnv bn nodes (.int .i64 i) e7 e8 i e15 e16,σ⟩)∧i < nodes.length:=by
 have hm:m32≤most:=by decide
 have hm1:m32+1≤most:=by decide
 have h:=rounds_list (base:=3) (clr:=[7,8,15,16]) (b:=l_qdf_1) nodes
  (fun k (s:KSt)=>⟨kEnv bn nodes (.int .i64 (-1)) .any .any k .any .any,kStore bn nodes k s⟩)
  (fun k s=>s.kinds.length=k∧s.opn.length≤k∧(∀ p∈s.opn,p < k)∧(∀ x∈s.kinds,x.l.length≤m32)∧Zok s) (kstep nodes)
  (fun s=>(.ext 0,⟨kEnv bn nodes (.int .i64 (-1)) .any .any nodes.length (.bool false) .any,kStore bn nodes nodes.length s⟩))
  (fun i o=>∃ σ e7 e8 e15 e16,o=(.ext 0,⟨kEnv bn nodes (.int .i64 i) e7 e8 i e15 e16,σ⟩)∧i < nodes.length)
  (fun k n s hk hy hs=>by
   obtain ⟨h1,h2,h3,h4,_⟩:=hs
   have hn:=hF n (List.mem_of_getElem? hy)
   have ht:=takes_spec bn nodes k k s.kinds s.opn s.z0 n s.a0 s.b0 s.r0 (grpO n) k hy hN (by omega) (by omega) (by omega) (by rw[h1];exact h3) h4 hn (fun base σ=>by simp[freezeObj])
   obtain ⟨ra,hr1,hr2⟩:=lookup_asks n.op
   have hlt:((k:Int) < (nodes.length:Int)):=by omega
   unfold kstep
   cases hstep:stepF nodes k n s.kinds s.opn with
   | none=>
    rw[hstep]at ht
    obtain ⟨σ',ht⟩:=ht
    refine ⟨_,?_,σ',.int .i64 k,.ptr 3 0 0 0,.bool true,.bool true,rfl,hk⟩
    simp[stK]at ht
    simp[l_qdf_1,hlt,hy,LNX.a,isKey,hr1,hr2,ht]
   | some q=>
    obtain ⟨x,o'⟩:=q
    rw[hstep]at ht
    obtain ⟨ps,r,AT,X,hps,ht,hR⟩:=ht
    obtain ⟨g1,g2,g3⟩:=stepF_len hstep
    refine ⟨?_,by simp[h1],by simp;omega,fun p hp=>?_,fun y hy=>?_,fun base σ m=>by simp⟩
    ·simp[stK]at ht
     simp[l_qdf_1,hlt,hy,LNX.a,isKey,hr1,hr2,ht,hps,roundEnd,freezeObj,hR.fz,hR.nc,wrap_lt hk (Nat.le_trans hN hm),kEnv,kStore]
    ·rcases g3 p hp with h|h
     ·have:=h3 p h;omega
     ·omega
    ·rcases List.mem_append.1 hy with h|h
     ·exact h4 y h
     ·rw[List.mem_singleton.1 h];exact Nat.le_trans g1 (by decide))
  (fun s hs=>by simp[l_qdf_1]) ⟨[],[],z0,a0,b0,r0⟩ ⟨rfl,Nat.le_refl _,by simp,by simp,hz⟩
 cases hq:foldL (kstep nodes) nodes 0 ⟨[],[],z0,a0,b0,r0⟩ with
 | inl s=>
  rw[hq]at h
  exact ⟨h.1.2.2.2.2,h.1.2.1,h.1.1,h.1.2.2.2.1,h.2⟩
 | inr i=>
  rw[hq]at h
  exact h
end Go.AM
end
section
namespace Go.AM
open P
set_option maxHeartbeats 16000000
set_option maxRecDepth 8000
attribute [local simp] condRun_if when_if
def kgo(nodes:List LNX):List LNX→Nat→List (SlX Int)→List Nat→(List (SlX Int)×List Nat)⊕Nat
 | [],_,k,o=>.inl (k,o)
 | n::r,i,k,o=>match stepF nodes i n k o with
  | none=>.inr i
  | some (x,o')=>kgo nodes r (i+1) (k++[x]) o'
theorem kgo_fold(nodes:List LNX):∀ (l:List LNX) (i:Nat) (s:KSt),match foldL (kstep nodes) l i s with
  | .inl s'=>kgo nodes l i s.kinds s.opn=.inl (s'.kinds,s'.opn)
  | .inr j=>kgo nodes l i s.kinds s.opn=.inr j
 | [],i,s=>by simp[foldL,kgo]
 | n::l,i,s=>by
  simp only[foldL,kgo,kstep]
  cases stepF nodes i n s.kinds s.opn with
  | none=>simp
  | some q=>exact kgo_fold nodes l (i+1) ⟨s.kinds++[q.1],q.2,n.z,_,_,_⟩
def kindsF(nodes:List LNX):List (List Int)⊕Nat:=
 if nodes.length < 1∨60 < nodes.length then .inr 0 else
 match kgo nodes nodes 0 [] [] with
 | .inr i=>.inr i
 | .inl (k,o)=>if o.length=1 then .inl (k.map (·.l)) else .inr (nodes.length - 1)
def immF(l:List Int):AVal:=.imm false (l.map (.int .i64))
instance:Nc immF 1 false:=⟨fun _=>rfl,fun _=>rfl⟩
instance:Fx immF:=⟨fun fl top base σ n y=>by simp[immF]⟩
def kindsA:List (List Int)⊕Nat→AVal
 | .inl k=>.tup [.imm false (k.map immF),.int .i64 0,.int .i64 0]
 | .inr i=>.tup [.imm false [],.int .i64 i,.int .i64 291]
theorem foldL_snoc{α β:Type}(f:α→β):∀ (l:List α) (k:Nat) (acc:List β),foldL (ρ:=Empty) (fun _ x acc=>.inl (acc++[f x])) l k acc=.inl (acc++l.map f)
 | [],k,acc=>by simp[foldL]
 | x::l,k,acc=>by
  simp only[foldL]
  rw[foldL_snoc f l]
  simp
theorem kinds18_spec(bn:Bool)(nodes:List LNX)(hF:∀ n∈nodes,NFit n)(hN:nodes.length≤m32):pcall I.qdf [.imm bn (nodes.map LNX.a)]=some (kindsA (kindsF nodes)):=by
 rw[pcall_eq c_qdf rfl]
 by_cases h1:nodes.length < 1
 ·have h1':((nodes.length:Int) < 1):=by omega
  rw[show kindsF nodes=.inr 0 by simp only[kindsF,if_pos (Or.inl h1)]]
  simp[f_qdf,b_qdf,h1',kindsA]
 ·have h1':¬((nodes.length:Int) < 1):=by omega
  by_cases h2:60 < nodes.length
  ·have h2':((60:Int) < (nodes.length:Int)):=by omega
   rw[show kindsF nodes=.inr 0 by simp only[kindsF,if_pos (Or.inr h2)]]
   simp[f_qdf,b_qdf,h1',h2',kindsA]
  ·have h2':¬((60:Int) < (nodes.length:Int)):=by omega
   have e:kindsF nodes=match kgo nodes nodes 0 [] [] with
     | .inr i=>.inr i
     | .inl (k,o)=>if o.length=1 then .inl (k.map (·.l)) else .inr (nodes.length - 1):=by
    simp only[kindsF,if_neg (show ¬(nodes.length < 1∨60 < nodes.length) by omega)]
   have hl:=kinds_loop bn nodes hN hF ⟨.int .i64 0,.int .i64 0,.int .i64 0,.int .i64 0,.nil0,.bool false,.nil0,.nil0,.nil0,.nil0,.nil0,.int .i64 0⟩ .nil0 .nil0 .nil0 (fun base σ m=>by simp)
   have hg:=kgo_fold nodes nodes 0 ⟨[],[],⟨.int .i64 0,.int .i64 0,.int .i64 0,.int .i64 0,.nil0,.bool false,.nil0,.nil0,.nil0,.nil0,.nil0,.int .i64 0⟩,.nil0,.nil0,.nil0⟩
   rw[e]
   cases hq:foldL (kstep nodes) nodes 0 ⟨[],[],⟨.int .i64 0,.int .i64 0,.int .i64 0,.int .i64 0,.nil0,.bool false,.nil0,.nil0,.nil0,.nil0,.nil0,.int .i64 0⟩,.nil0,.nil0,.nil0⟩ with
   | inr i=>
    rw[hq]at hl hg
    simp only at hl hg
    rw[hg]
    obtain ⟨o,h3,σ,e7,e8,e15,e16,rfl,hi⟩:=hl
    simp[kEnv,kStore,laidZ]at h3
    simp[f_qdf,b_qdf,h1',h2',asks_spec,h3,kindsA,show ¬((i:Int) < 0) by omega]
   | inl s=>
    rw[hq]at hl hg
    simp only at hl hg
    rw[hg]
    obtain ⟨hz,h5,h6,h12,h3⟩:=hl
    simp[kEnv,kStore,laidZ]at h3
    by_cases h7:s.opn.length=1
    ·have hc:=rounds_list (ρ:=Empty) (base:=4) (clr:=[10,22]) (b:=l_qdf_0) s.kinds
      (fun k (acc:List (List Int))=>⟨[.imm bn (nodes.map LNX.a),.nil0,.int .i64 0,.int .i64 0,.ptr 0 0 0 0,.imap false asksE,.int .i64 (-1),.any,.any,.sl 3 k 0 acc.length,.any,.bool false,.imm bn (nodes.map LNX.a),.int .i64 nodes.length,.int .i64 nodes.length,.bool false,.any,.bool false,.bool false,.sl 1 nodes.length 0 s.kinds.length,.int .i64 s.kinds.length,.int .i64 k,.any],
       kStore bn nodes nodes.length s++[.arr 1 k (acc.map immF)]⟩)
      (fun k acc=>acc.length=k) (fun _ x acc=>.inl (acc++[x.l]))
      (fun acc=>(.ext 2,⟨[.imm bn (nodes.map LNX.a),.nil0,.int .i64 0,.int .i64 0,.ptr 0 0 0 0,.imap false asksE,.int .i64 (-1),.any,.any,.sl 3 s.kinds.length 0 acc.length,.any,.bool false,.imm bn (nodes.map LNX.a),.int .i64 nodes.length,.int .i64 nodes.length,.bool false,.any,.bool false,.bool false,.sl 1 nodes.length 0 s.kinds.length,.int .i64 s.kinds.length,.int .i64 s.kinds.length,.bool false],
       kStore bn nodes nodes.length s++[.arr 1 s.kinds.length (acc.map immF)]⟩))
      (fun r _=>r.elim)
      (fun k x acc hk hy hs=>by
       have hlt:((k:Int) < (s.kinds.length:Int)):=by omega
       have hzz:=hz 4
       simp[KSt.l]at hzz
       have hkl:k+1≤most:=by unfold most;omega
       subst hs
       obtain ⟨hlx,hgx⟩:=List.getElem?_eq_some_iff.1 hy
       refine ⟨?_,by simp⟩
       simp[l_qdf_0,hlt,hgx,hk,kStore,laidZ,SlX.c,append,hkl,roundEnd,freezeObj,hzz,wrap_lt hk (show s.kinds.length≤most by unfold most;omega),immF,Nat.le_trans (h12 x (List.mem_of_getElem? hy)) (show m32≤most by decide)])
      (fun acc hs=>by simp[l_qdf_0]) [] rfl
     rw[foldL_snoc]at hc
     obtain ⟨_,hc⟩:=hc
     have hkl:(s.kinds.map (·.l)).length=s.kinds.length:=List.length_map ..
     rw[List.nil_append]at hc
     simp only[if_pos h7]
     generalize s.kinds.map (·.l)=ks at hc hkl ⊢
     have htk:List.take s.kinds.length (List.map immF ks)=List.map immF ks:=by rw[← hkl];exact take_map_all ks immF
     simp[kStore,laidZ,h7,hkl]at hc
     simp[f_qdf,b_qdf,h1',h2',asks_spec,h3,kindsA,h7,hc,hkl,htk]
     exact fun a _=>by simp[immF]
    ·have h7':((s.opn.length:Int) != 1)=true:=by simp;omega
     have h8:¬((nodes.length:Int) - 1 < 0):=by omega
     have h9:(1:Int)≤(nodes.length:Int):=by omega
     have h10:=w64 (n:=(nodes.length:Int) - 1) (by omega) (by omega)
     have h11:((nodes.length - 1:Nat):Int)=(nodes.length:Int) - 1:=by omega
     simp only[if_neg h7]
     simp[f_qdf,b_qdf,h1',h2',asks_spec,h3,kindsA,h7',h8,h9,h10,h11]
end Go.AM
end
section
namespace Go.AM
open P
set_option maxHeartbeats 16000000
set_option maxRecDepth 8000
attribute [local simp] condRun_if when_if
def parts13(t:Int):Int:=if t=1 then 0 else if t=2∨t=7 then 2 else if t=3∨t=4∨t=5∨t=6∨t=8 then 1 else -1
theorem parts13_v(t:Int):pcall I.qw [.int .i64 t]=some (.int .i64 (parts13 t)):=by
 rw[pcall_eq c_qw rfl]
 unfold parts13
 by_cases h1:t=1
 ·subst h1;simp[f_qw,b_qw]
 by_cases h2:t=2
 ·subst h2;simp[f_qw,b_qw]
 by_cases h7:t=7
 ·subst h7;simp[f_qw,b_qw]
 by_cases h3:t=3
 ·subst h3;simp[f_qw,b_qw]
 by_cases h4:t=4
 ·subst h4;simp[f_qw,b_qw]
 by_cases h5:t=5
 ·subst h5;simp[f_qw,b_qw]
 by_cases h6:t=6
 ·subst h6;simp[f_qw,b_qw]
 by_cases h8:t=8
 ·subst h8;simp[f_qw,b_qw]
 simp[f_qw,b_qw,h1,h2,h3,h4,h5,h6,h7,h8,beq_f h1,beq_f h2,beq_f h3,beq_f h4,beq_f h5,beq_f h6,beq_f h7,beq_f h8]
def parts18(t:Int):Int:=if t=9 then 0 else if t=10∨t=11 then 1 else parts13 t
theorem parts18_v(t:Int):pcall I.qaf [.int .i64 t]=some (.int .i64 (parts18 t)):=by
 rw[pcall_eq c_qaf rfl]
 unfold parts18
 by_cases h1:t=9
 ·subst h1;simp[f_qaf,b_qaf]
 by_cases h2:t=10
 ·subst h2;simp[f_qaf,b_qaf]
 by_cases h3:t=11
 ·subst h3;simp[f_qaf,b_qaf]
 have h:=parts13_v t
 simp[f_qaf,b_qaf,h1,h2,h3,beq_f h1,beq_f h2,beq_f h3,h]
theorem truth13_v(b:Bool)(e:List EN)(bk:Bool)(kinds:List Int)(hn:e.length≤most)(hk:kinds.length≤most) :
  pcall I.qad [.agg [.imm b (e.map EN.a)],.imm bk (intsA kinds)]=some (.bool (truthF e kinds)):=by
 rw[pcall_eq c_qad rfl]
 have h:=fun b bk=>Kind10_v b e bk kinds hn hk
 unfold truthF
 generalize kindF e kinds=q at *
 obtain ⟨k,no⟩:=q
 simp only at h ⊢
 by_cases h0:no=0
 ·subst h0
  by_cases h1:k=0
  ·subst h1;simp[f_qad,b_qad,h]
  ·by_cases h2:k=1
   ·subst h2;simp[f_qad,b_qad,h]
   ·simp[f_qad,b_qad,h,beq_f h1,beq_f h2]
 ·simp[f_qad,b_qad,h,beq_f h0]
def agg13(a:List Int)(g:AggX):Int×Bool:=
 if g.tag=1 then (2,g.arg.length == 0) else if g.tag < 1∨5 < g.tag∨(kindF g.arg a).2≠0 then (0,false)
 else if g.tag=3∧(kindF g.arg a).1≠2∧(kindF g.arg a).1≠0 then (0,false) else if 4≤g.tag then ((kindF g.arg a).1,true) else (2,true)
theorem aggregate13_v(g:AggX)(bk:Bool)(kinds:List Int)(hn:g.arg.length≤most)(hk:kinds.length≤most) :
  pcall I.qab [.agg [.int .i64 g.tag,.imm g.b (g.arg.map EN.a)],.imm bk (intsA kinds)]=some (.tup [.int .i64 (agg13 kinds g).1,.bool (agg13 kinds g).2]):=by
 rw[pcall_eq c_qab rfl]
 have h:=fun b bk=>Kind10_v b g.arg bk kinds hn hk
 obtain ⟨t,b,e⟩:=g
 simp only at h hn ⊢
 unfold agg13
 simp only
 generalize kindF e kinds=q at *
 obtain ⟨k,no⟩:=q
 simp only at h ⊢
 by_cases t1:t=1
 ·subst t1
  by_cases he:e=[]
  ·subst he;simp[f_qab,b_qab]
  ·have he':¬((e.length:Int)=0):=fun h=>he (List.eq_nil_of_length_eq_zero (by omega))
   have he2:¬(e.length=0):=by omega
   simp[f_qab,b_qab,beq_f he',he,he2]
 ·rw[if_neg t1]
  by_cases t2:t < 1
  ·simp[f_qab,b_qab,h,beq_f t1,t2]
  ·by_cases t3:5 < t
   ·simp[f_qab,b_qab,h,beq_f t1,t2,t3]
   ·by_cases h0:no=0
    ·subst h0
     by_cases t4:t=3
     ·subst t4
      by_cases k2:k=2
      ·subst k2;simp[f_qab,b_qab,h]
      ·by_cases k0:k=0
       ·subst k0;simp[f_qab,b_qab,h]
       ·simp[f_qab,b_qab,h,k2,k0,bne_t k2,bne_t k0]
     ·by_cases t5:4≤t
      ·simp[f_qab,b_qab,h,beq_f t1,beq_f t4,t2,t3,t4,t5]
      ·simp[f_qab,b_qab,h,beq_f t1,beq_f t4,t2,t3,t4,t5]
    ·simp[f_qab,b_qab,h,beq_f t1,t2,t3,h0,bne_t h0]
theorem agg13_eq(a:List Int)(g:AggX):(agg13 a g).2=(aggK a g).1∧((aggK a g).1=true→(agg13 a g).1=(aggK a g).2):=by
 unfold agg13 aggK
 generalize kindF g.arg a=q
 obtain ⟨k,no⟩:=q
 simp only
 by_cases t1:g.tag=1
 ·simp[t1]
 ·rw[if_neg t1,if_neg t1]
  by_cases c:g.tag < 1∨5 < g.tag∨no≠0
  ·rw[if_pos c]
   have:(no == 0&&decide (1 < g.tag)&&decide (g.tag≤5))=false:=by
    rw[Bool.eq_false_iff]
    intro h
    simp only[Bool.and_eq_true,beq_iff_eq,decide_eq_true_eq]at h
    omega
   simp[this]
  ·rw[if_neg c]
   have c1:1 < g.tag∧g.tag≤5∧no=0:=by omega
   obtain ⟨c1,c2,rfl⟩:=c1
   by_cases t3:g.tag=3
   ·by_cases k2:k=2
    ·simp[t3,k2]
    ·by_cases k0:k=0
     ·simp[t3,k0]
     ·simp[t3,k0,k2]
   ·by_cases t4:4≤g.tag
    ·have:g.tag=4∨g.tag=5:=by omega
     simp[t3,t4,c1,c2,this]
    ·have:¬(g.tag=4∨g.tag=5):=by omega
     simp[t3,t4,c1,c2,this]
theorem sums18_v(b:Bool)(l:List Int)(hl:l.length≤most):pcall I.qan [.imm b (intsA l)]=some (.bool (sum4 l)):=by
 rw[pcall_eq c_qan rfl]
 have h1:=rounds_any (base:=0) (clr:=[1,2,6,7]) (b:=l_qan_0) l
  (fun k=>⟨[.imm b (intsA l),.any,.any,.imm b (intsA l),.int .i64 l.length,.int .i64 k,.any,.any],[]⟩) (fun y=>4 == y)
  (.ext 0,⟨[.imm b (intsA l),.any,.any,.imm b (intsA l),.int .i64 l.length,.int .i64 l.length,.bool false,.any],[]⟩)
  (fun o=>∃ s,o=(.ret,s)∧thenLeave .pure [.env 1] (some (.ret,s))=some (.bool true))
  (fun k y hk' hy hp=>by
   have hlt:((k:Int) < (l.length:Int)):=by omega
   have e1:¬(y=4):=fun h=>by simp[h]at hp
   simp[l_qan_0,hlt,hy,beq_f e1,wrap_lt hk' hl,roundEnd_same])
  (fun k y hk' hy hp=>by
   have hlt:((k:Int) < (l.length:Int)):=by omega
   have e1:4=y:=by simpa using hp
   subst e1
   exact ⟨_,by simp[l_qan_0,hlt,hy];rfl,_,rfl,by simp⟩)
  (by simp[l_qan_0])
 unfold sum4
 rcases h1 with ⟨ha,h1⟩|⟨ha,o,h1,s,rfl,h2⟩
 ·rw[ha]
  simp at h1
  simp[f_qan,b_qan,h1]
 ·rw[ha]
  simp at h1
  simp[f_qan,b_qan,h1,-thenLeave_ret]
  exact h2
end Go.AM
end
