/- Part of the proof. -/
import Derived.Test.YtpdimbocafbieaaGreatDoorAm17
import Derived.Test.YtpdimbocafbieaaGreatDoorAm15
import Derived.Test.YtpdimbocafbieaaGreatDoorAm14
import GoSem.ClaimData
set_option linter.unusedVariables false
set_option linter.unusedSimpArgs false
section
namespace Go.AM
open P
set_option maxHeartbeats 32000000
set_option maxRecDepth 8000
attribute [local simp] condRun_if when_if
@[local simp] theorem w0:IntKind.i64.wrap 0=0:=by decide
@[local simp] theorem w2:IntKind.i64.wrap 2=2:=by decide
@[local simp] theorem w4:IntKind.i64.wrap 4=4:=by decide
abbrev clrO:List Nat:=[3,4,6,7,8,9,10,11,15,16,17,18,19,20,21,22]
abbrev eO(n:LNX)(pv:AVal)(s plen i:Nat)(e15:AVal):List AVal:=envO n pv s plen i .any .any .any .any .any .any e15 .any .any .any .any .any .any .any
theorem oper_end(σ:Store)(n N:LNX)(pv:AVal)(plen ep:Nat)(nodes:List NK) :
  rounds code (σ.length+3) clrO l_qaj_1 ⟨eO n pv σ.length plen plen .any,stO σ N ep nodes⟩=some (.ext 0,⟨eO n pv σ.length plen plen (.bool false),stO σ N ep nodes⟩):=by
 rw[rounds_go0]
 simp[envO,l_qaj_1]
theorem oper_sum(σ:Store)(hσ:Firm σ)(n N:LNX)(pid pep plen i ep:Nat)(ks:List AVal)(hpid:pid < σ.length)(hget:σ[pid]?=some (.arr 1 pep ks))(hi:i < plen)(nodes:List NK)(b:Bool)(k:List Int)(hki:ks[i]?=some (.imm b (k.map (.int .i64))))(hk:k.length≤16)(hs:sum4 k=true) :
  ∃ s,rounds code (σ.length+3) clrO l_qaj_1 ⟨eO n (.sl pid pep 0 plen) σ.length plen i .any,stO σ N ep nodes⟩=some (.ret,s)∧thenTrunc σ [.env 3,.env 4] (some (.ret,s))=some (.tup [.nil0,.bool false],σ):=by
 have hg:∀ τ,(σ++τ)[pid]?=some (.arr 1 pep ks):=fun τ=>by rw[List.getElem?_append_left hpid,hget]
 have hlt:((i:Int) < (plen:Int)):=by omega
 have hsum:=fun b=>sums18_v b k (by unfold most;omega)
 rw[hs]at hsum
 rw[rounds_go0]
 exact ⟨_,by simp[envO,stO,l_qaj_1,hlt,hi,hg,hki,hsum];rfl,by simp[truncTo_app hσ,freeze,fuel]⟩
theorem firm_made(σ:Store)(hσ:Firm σ)(N:LNX)(ep:Nat)(nodes:List NK)(m:Nat)(hn:nodes.length≤most)(hm:m=nodes.length):LHas (σ++[.arr 12 0 [N.a],.arr 1 0 [LV (σ.length+2) ep m],.arr 12 ep (nodes.map NK.a)]) (σ.length+2) ep nodes:=
 ⟨hσ.app _ fun τ b hb=>by
  simp only[List.length_cons,List.length_nil]at hb
  have h1:σ.length+2 < b:=by omega
  have hnz:∀ (N:LNX) base σ m,fz false true base σ (m+3) N.a=N.a:=fun N base σ m=>Ft.ft false true base σ m N rfl
  simp[freezeObj,freeze,fuel,hnz,h1],by simp,by simp,hn⟩
def capL(R:AVal)(ok:Bool)(l:List Int):AVal:=if 16 < l.length then .tup [.nil0,.bool false] else .tup [R,.bool ok]
theorem oper0(σ:Store)(hσ:Firm σ)(n:LNX)(hl:n.l=-1)(hr:n.r=-1)(hp:parts13 n.op=0)(ho:own13 n=true){R:AVal}{ok:Bool}{l:List Int}
  (hk:∀ τ,Firm τ→acall code I.qac [n.a,.nil0,.nil0] τ=some (.tup [R,.bool ok],τ)) (hR:IsL R l) :
  acall code I.qaj [n.a,.nil0] σ=some (capL R ok l,σ):=by
 rw[acall_trunc c_qaj rfl]
 have hL:=firm_made σ hσ n 1 [.n n] 1 (by simp[most]) rfl
 have hK:=Kinds13_root0 hL hl hr hp ho hk hR
 have hE:=oper_end σ n n .nil0 0 0 []
 simp[eO,clrO,envO,stO,LV]at hE
 simp[NK.a,LV]at hK
 unfold capL
 have hnn:ncells n.a=12∧isAgg n.a=true:=⟨rfl,rfl⟩
 by_cases h:16 < l.length
 ·rw[if_pos h]at hK ⊢
  simp[f_qaj,b_qaj,hE,hnn,append,most,hK,truncTo_app hσ,freeze,fuel]
 ·rw[if_neg h]at hK ⊢
  rcases hR with ⟨rfl,rfl⟩|⟨b,rfl⟩<;>simp[f_qaj,b_qaj,hE,hnn,append,most,hK,truncTo_app hσ,freeze,fuel]
theorem oper1(σ:Store)(hσ:Firm σ)(n:LNX)(pid pep:Nat)(b:Bool)(a:List Int)(hpid:pid < σ.length)(hget:σ[pid]?=some (.arr 1 pep [.imm b (a.map (.int .i64))]))(ha:Fine a)(hs:sum4 a=false)(hr:n.r=-1)(hp:parts13 n.op=1)(ho:own13 n=true){R:AVal}{ok:Bool}{l:List Int}
  (hk:∀ τ,Firm τ→acall code I.qac [LNX.a { n with l:=1 },.imm false (a.map (.int .i64)),.nil0] τ=some (.tup [R,.bool ok],τ)) (hR:IsL R l) :
  acall code I.qaj [n.a,.sl pid pep 0 1] σ=some (capL R ok l,σ):=by
 rw[acall_trunc c_qaj rfl]
 have hL:=firm_made σ hσ { n with l:=1 } 2 [.sc,.pr 0 a,.n { n with l:=1 }] 3 (by simp[most]) rfl
 have hK:=Kinds13_root1 (n:={ n with l:=1 }) hL ha rfl hr hp ho hk hR
 have hE:=oper_round σ hσ n n pid pep 1 0 0 _ hpid hget (by omega) (by omega) [] (by simp) b a rfl ha.most hs ha.in'
 have hE2:=oper_end σ n (putP 0 1 n) (.sl pid pep 0 1) 1 1 [.sc,.pr 0 a]
 have hE3:=(rounds_go0 _ _ _ _).trans (hE.trans hE2)
 have e:putP 0 1 n={ n with l:=1 }:=rfl
 rw[e]at hE3
 simp only[stO,show ((0:Nat):Int)=0 from rfl]at hE3
 simp[eO,clrO,envO,stO,LV]at hE3
 simp[NK.a,LV]at hK
 unfold capL
 have hnn:ncells n.a=12∧isAgg n.a=true:=⟨rfl,rfl⟩
 have hnn':ncells (LNX.a { n with l:=1 })=12∧isAgg (LNX.a { n with l:=1 })=true:=⟨rfl,rfl⟩
 have hg:∀ τ,(σ++τ)[pid]?=some (.arr 1 pep [.imm b (a.map (.int .i64))]):=fun τ=>by rw[List.getElem?_append_left hpid,hget]
 by_cases h:16 < l.length
 ·rw[if_pos h]at hK ⊢
  simp[f_qaj,b_qaj,hE3,hnn,hnn',hg,NK.a,append,most,hK,truncTo_app hσ,freeze,fuel]
 ·rw[if_neg h]at hK ⊢
  rcases hR with ⟨rfl,rfl⟩|⟨b,rfl⟩<;>simp[f_qaj,b_qaj,hE3,hnn,hnn',hg,NK.a,append,most,hK,truncTo_app hσ,freeze,fuel]
theorem oper1s(σ:Store)(hσ:Firm σ)(n:LNX)(pid pep:Nat)(b:Bool)(a:List Int)(hpid:pid < σ.length)(hget:σ[pid]?=some (.arr 1 pep [.imm b (a.map (.int .i64))]))(hal:a.length≤16)(hs:sum4 a=true) :
  acall code I.qaj [n.a,.sl pid pep 0 1] σ=some (.tup [.nil0,.bool false],σ):=by
 rw[acall_trunc c_qaj rfl]
 obtain ⟨s,hE,hE2⟩:=oper_sum σ hσ n n pid pep 1 0 0 _ hpid hget (by omega) [] b a rfl hal hs
 try simp only[show ((0:Nat):Int)=0 from rfl]at hE
 simp[eO,clrO,envO,stO,LV]at hE
 have hnn:ncells n.a=12∧isAgg n.a=true:=⟨rfl,rfl⟩
 have hg:∀ τ,(σ++τ)[pid]?=some (.arr 1 pep [.imm b (a.map (.int .i64))]):=fun τ=>by rw[List.getElem?_append_left hpid,hget]
 simp[f_qaj,b_qaj,hE,hnn,hg,-thenTrunc_ret]
 exact hE2
theorem oper2(σ:Store)(hσ:Firm σ)(n:LNX)(pid pep:Nat)(b b':Bool)(a c:List Int)(hpid:pid < σ.length)(hget:σ[pid]?=some (.arr 1 pep [.imm b (a.map (.int .i64)),.imm b' (c.map (.int .i64))]))(ha:Fine a)(hs:sum4 a=false)(hc:Fine c)(hs':sum4 c=false)(hp:parts13 n.op=2)(ho:own13 n=true){R:AVal}{ok:Bool}{l:List Int}
  (hk:∀ τ,Firm τ→acall code I.qac [LNX.a { n with l:=1,r:=3 },.imm false (a.map (.int .i64)),.imm false (c.map (.int .i64))] τ=some (.tup [R,.bool ok],τ)) (hR:IsL R l) :
  acall code I.qaj [n.a,.sl pid pep 0 2] σ=some (capL R ok l,σ):=by
 rw[acall_trunc c_qaj rfl]
 have hL:=firm_made σ hσ { n with l:=1,r:=3 } 3 [.sc,.pr 0 a,.sc,.pr 2 c,.n { n with l:=1,r:=3 }] 5 (by simp[most]) rfl
 have hK:=Kinds13_root2 (n:={ n with l:=1,r:=3 }) hL ha hc rfl rfl hp ho hk hR
 have hE:=oper_round σ hσ n n pid pep 2 0 0 _ hpid hget (by omega) (by omega) [] (by simp) b a rfl ha.most hs ha.in'
 have hE1:=oper_round σ hσ n { n with l:=1 } pid pep 2 1 1 _ hpid hget (by omega) (by omega) [.sc,.pr 0 a] (by simp) b' c rfl hc.most hs' hc.in'
 have hE2:=oper_end σ n { n with l:=1,r:=3 } (.sl pid pep 0 2) 2 2 [.sc,.pr 0 a,.sc,.pr 2 c]
 have hE3:=(rounds_go0 _ _ _ _).trans (hE.trans ((rounds_go0 _ _ _ _).trans (hE1.trans hE2)))
 simp only[stO,show ((0:Nat):Int)=0 from rfl]at hE3
 simp[eO,clrO,envO,stO,LV]at hE3
 simp[NK.a,LV]at hK
 unfold capL
 have hnn:ncells n.a=12∧isAgg n.a=true:=⟨rfl,rfl⟩
 have hnn':ncells (LNX.a { n with l:=1,r:=3 })=12∧isAgg (LNX.a { n with l:=1,r:=3 })=true:=⟨rfl,rfl⟩
 have hg:∀ τ,(σ++τ)[pid]?=some (.arr 1 pep [.imm b (a.map (.int .i64)),.imm b' (c.map (.int .i64))]):=fun τ=>by rw[List.getElem?_append_left hpid,hget]
 by_cases h:16 < l.length
 ·rw[if_pos h]at hK ⊢
  simp[f_qaj,b_qaj,hE3,hnn,hnn',hg,NK.a,append,most,hK,truncTo_app hσ,freeze,fuel]
 ·rw[if_neg h]at hK ⊢
  rcases hR with ⟨rfl,rfl⟩|⟨b,rfl⟩<;>simp[f_qaj,b_qaj,hE3,hnn,hnn',hg,NK.a,append,most,hK,truncTo_app hσ,freeze,fuel]
theorem oper2s(σ:Store)(hσ:Firm σ)(n:LNX)(pid pep:Nat)(b b':Bool)(a c:List Int)(hpid:pid < σ.length)(hget:σ[pid]?=some (.arr 1 pep [.imm b (a.map (.int .i64)),.imm b' (c.map (.int .i64))]))(hal:a.length≤16)(hs:sum4 a=true) :
  acall code I.qaj [n.a,.sl pid pep 0 2] σ=some (.tup [.nil0,.bool false],σ):=by
 rw[acall_trunc c_qaj rfl]
 obtain ⟨s,hE,hE2⟩:=oper_sum σ hσ n n pid pep 2 0 0 _ hpid hget (by omega) [] b a rfl hal hs
 try simp only[show ((0:Nat):Int)=0 from rfl]at hE
 simp[eO,clrO,envO,stO,LV]at hE
 have hnn:ncells n.a=12∧isAgg n.a=true:=⟨rfl,rfl⟩
 have hg:∀ τ,(σ++τ)[pid]?=some (.arr 1 pep [.imm b (a.map (.int .i64)),.imm b' (c.map (.int .i64))]):=fun τ=>by rw[List.getElem?_append_left hpid,hget]
 simp[f_qaj,b_qaj,hE,hnn,hg,-thenTrunc_ret]
 exact hE2
theorem oper2t(σ:Store)(hσ:Firm σ)(n:LNX)(pid pep:Nat)(b b':Bool)(a c:List Int)(hpid:pid < σ.length)(hget:σ[pid]?=some (.arr 1 pep [.imm b (a.map (.int .i64)),.imm b' (c.map (.int .i64))]))(ha:Fine a)(hs:sum4 a=false)(hcl:c.length≤16)(hs':sum4 c=true) :
  acall code I.qaj [n.a,.sl pid pep 0 2] σ=some (.tup [.nil0,.bool false],σ):=by
 rw[acall_trunc c_qaj rfl]
 have hR:=oper_round σ hσ n n pid pep 2 0 0 _ hpid hget (by omega) (by omega) [] (by simp) b a rfl ha.most hs ha.in'
 obtain ⟨s,hE1,hE2⟩:=oper_sum σ hσ n { n with l:=1 } pid pep 2 1 1 _ hpid hget (by omega) [.sc,.pr 0 a] b' c rfl hcl hs'
 have hE:=(rounds_go0 _ _ _ _).trans (hR.trans hE1)
 simp only[stO,show ((0:Nat):Int)=0 from rfl]at hE
 simp[eO,clrO,envO,stO,LV]at hE
 have hnn:ncells n.a=12∧isAgg n.a=true:=⟨rfl,rfl⟩
 have hg:∀ τ,(σ++τ)[pid]?=some (.arr 1 pep [.imm b (a.map (.int .i64)),.imm b' (c.map (.int .i64))]):=fun τ=>by rw[List.getElem?_append_left hpid,hget]
 simp[f_qaj,b_qaj,hE,hnn,hg,-thenTrunc_ret]
 exact hE2
end Go.AM
end
section
namespace Go.AM
set_option maxHeartbeats 4000000
def opL(nodes:List LNX)(n:LNX):List (List Int)→Option (List Int)
 | []=>if n.op=1 then (if scanF n then some n.kinds else none) else if n.op=9 then (if inputF n then some n.kinds else none) else none
 | [a]=>
  if n.op=3 then (if truthF n.cond a then some a else none)
  else if n.op=4 then ((keysF a n.keys).bind fun ks=>if aggsOk n a then some (ks++n.aggs.map fun g=>(aggK a g).2) else none)
  else if n.op=5 then ((itemsF a n.items).bind fun ks=>if 0 < ks.length then some ks else none)
  else if n.op=6 then some a
  else if n.op=8 then (if sortF n a then some a else none)
  else if n.op=10 then ((keysF a n.keys).bind fun ks=>if aggsOk n a then some (ks++n.aggs.map (partK a)) else none)
  else if n.op=11 then (nodes[n.l.toNat]?).bind fun m=>if finHead n m a&&(finKeys a 0 n.keys&&finAggs a n.keys.length n.aggs) then some (finSet n.keys.length n.aggs a) else none
  else none
 | [a,b]=>
  if n.op=2 then (if truthF n.cond (a++b) then some (a++b) else none)
  else if n.op=7 then (if a.length=b.length then unionF a b else none)
  else none
 | _=>none
theorem opL_of(nodes:List LNX)(n:LNX)(ps:List (SlX Int)):(opF nodes n ps).map (·.l)=opL nodes n (ps.map (·.l)):=by
 match ps with
 | []=>
  simp only[opF,opL,List.map_nil]
  split<;>(try split)<;>(try split)<;>rfl
 | [a]=>
  simp only[opF,opL,List.map_cons,List.map_nil]
  split
  ·split<;>rfl
  split
  ·cases keysF a.l n.keys<;>simp only[Option.bind_none,Option.bind_some,Option.map_none]
   split<;>rfl
  split
  ·cases itemsF a.l n.items<;>simp only[Option.bind_none,Option.bind_some,Option.map_none]
   split<;>rfl
  split
  ·rfl
  split
  ·split<;>rfl
  split
  ·cases keysF a.l n.keys<;>simp only[Option.bind_none,Option.bind_some,Option.map_none]
   split<;>rfl
  split
  ·cases nodes[n.l.toNat]?<;>simp only[Option.bind_none,Option.bind_some,Option.map_none]
   split<;>rfl
  ·rfl
 | [a,b]=>
  simp only[opF,opL,List.map_cons,List.map_nil]
  split
  ·split<;>rfl
  split
  ·split
   ·cases unionF a.l b.l<;>rfl
   ·rfl
  ·rfl
 | _::_::_::_=>rfl
def stepL(nodes:List LNX)(i:Nat)(n:LNX)(kinds:List (List Int))(opn:List Nat):Option (List Int×List Nat):=
 match preF n opn with
 | none=>none
 | some ps=>
  if (ps.any fun p=>(n.op != 11)&&sum4 (kinds.getD p []))=true∨rootOk n i nodes.length=false then none else
  match opL nodes n (ps.map fun p=>kinds.getD p []) with
  | none=>none
  | some res=>if 16 < res.length then none else some (res,opn.take (opn.length - ps.length)++[i])
theorem getD_l(kinds:List (SlX Int))(p:Nat):(kinds.getD p noSl).l=(kinds.map (·.l)).getD p []:=by
 rw[List.getD_eq_getElem?_getD,List.getD_eq_getElem?_getD,List.getElem?_map]
 cases kinds[p]?<;>rfl
theorem stepL_of(nodes:List LNX)(i:Nat)(n:LNX)(kinds:List (SlX Int))(opn:List Nat):(stepF nodes i n kinds opn).map (fun p=>(p.1.l,p.2))=stepL nodes i n (kinds.map (·.l)) opn:=by
 unfold stepF stepL
 cases preF n opn with
 | none=>rfl
 | some ps=>
  simp only
  have e:(ps.any fun p=>(n.op != 11)&&sum4 (kinds.getD p noSl).l)=ps.any fun p=>(n.op != 11)&&sum4 ((kinds.map (·.l)).getD p []):=by
   congr 1
   funext p
   rw[getD_l]
  rw[e]
  split
  ·rfl
  ·have ho:=opL_of nodes n (ps.map fun p=>kinds.getD p noSl)
   rw[List.map_map]at ho
   have e2:(ps.map ((·.l)∘fun p=>kinds.getD p noSl))=ps.map fun p=>(kinds.map (·.l)).getD p []:=List.map_congr_left fun p _=>getD_l kinds p
   rw[e2]at ho
   rw[← ho]
   cases opF nodes n (ps.map fun p=>kinds.getD p noSl) with
   | none=>rfl
   | some r=>
    simp only[Option.map_some]
    split<;>rfl
def kgoL(nodes:List LNX):List LNX→Nat→List (List Int)→List Nat→(List (List Int)×List Nat)⊕Nat
 | [],_,k,o=>.inl (k,o)
 | n::r,i,k,o=>match stepL nodes i n k o with
  | none=>.inr i
  | some (x,o')=>kgoL nodes r (i+1) (k++[x]) o'
theorem kgoL_of(nodes:List LNX):∀ (l:List LNX) (i:Nat) (k:List (SlX Int)) (o:List Nat),kgoL nodes l i (k.map (·.l)) o=match kgo nodes l i k o with
  | .inl (k',o')=>.inl (k'.map (·.l),o')
  | .inr j=>.inr j
 | [],i,k,o=>rfl
 | n::l,i,k,o=>by
  have h:=stepL_of nodes i n k o
  simp only[kgo,kgoL]
  rw[← h]
  cases stepF nodes i n k o with
  | none=>rfl
  | some q=>
   simp only[Option.map_some]
   have:=kgoL_of nodes l (i+1) (k++[q.1]) q.2
   rw[List.map_append,List.map_cons,List.map_nil]at this
   exact this
def ansL(ok:Bool)(l:List Int):Option (List Int):=if ok=true∧l.length≤16 then some l else none
theorem items_eq(a:List Int):∀ (l:List ExX),itemsF a l=if (l.all fun e=>(kindF e.l a).2 == 0)=true then some (l.map fun e=>(kindF e.l a).1) else none
 | []=>rfl
 | e::l=>by
  simp only[itemsF,List.all_cons,List.map_cons]
  rw[items_eq a l]
  by_cases h:(kindF e.l a).2=0
  ·rw[if_pos h,h]
   simp only[beq_self_eq_true,Bool.true_and]
   split<;>rfl
  ·rw[if_neg h,beq_f h]
   rfl
theorem agg_all(a:List Int)(l:List AggX):(l.all fun g=>(agg13 a g).2)=l.all fun g=>(aggK a g).1:=by
 congr 1
 funext g
 exact (agg13_eq a g).1
theorem agg_map(a:List Int)(l:List AggX)(h:(l.all fun g=>(aggK a g).1)=true):(l.map fun g=>(agg13 a g).1)=l.map fun g=>(aggK a g).2:=List.map_congr_left fun g hg=>(agg13_eq a g).2 (List.all_eq_true.1 h g hg)
theorem gr13_eq(n:LNX)(a:List Int):gr13 n a=aggsOk n a:=by
 unfold gr13 aggsOk
 rw[agg_all]
 cases (n.aggs.all fun g=>(aggK a g).1)<;>simp[Bool.and_assoc]
theorem ans_group(n:LNX)(a ks:List Int)(hks:keysF a n.keys=some ks):ansL (gr13 n a) (ks++n.aggs.map fun g=>(agg13 a g).1)=if aggsOk n a then some (ks++n.aggs.map fun g=>(aggK a g).2) else none:=by
 unfold ansL
 rw[gr13_eq]
 cases h:aggsOk n a with
 | false=>rw[if_neg (by simp)];rfl
 | true=>
  have h':=h
  unfold aggsOk at h'
  simp only[Bool.and_eq_true,decide_eq_true_eq]at h'
  have hl:=keysF_len hks
  rw[if_pos ⟨rfl,by simp;omega⟩,agg_map a n.aggs h'.2]
  rfl
theorem un_fold(b:List Int):∀ (a:List Int) (k:Nat) (out:List Int) (ok:Bool),a.length=(b.drop k).length→∃ r:List Int,∃ t:Bool,a.foldl (unS b) (k,out,ok)=(k+a.length,out++r,ok&&t)∧r.length=a.length∧unionF a (b.drop k)=if t then some r else none
 | [],k,out,ok,h=>⟨[],true,by simp,rfl,by cases b.drop k<;>rfl⟩
 | x::a,k,out,ok,h=>by
  cases hb:b.drop k with
  | nil=>rw[hb]at h;cases h
  | cons o t=>
   have ho:b.getD k 0=o:=by
    have:=congrArg (·[0]?) hb
    simp at this
    simp[List.getD_eq_getElem?_getD,this]
   have ht:b.drop (k+1)=t:=by
    have:=congrArg List.tail hb
    simpa [List.tail_drop] using this
   rw[List.foldl_cons]
   have hl:a.length=(b.drop (k+1)).length:=by rw[ht];rw[hb]at h;simpa using h
   simp only[unS,ho]
   obtain ⟨r,q,h1,h2,h3⟩:=un_fold b a (k+1) (out++[un1 x o]) (ok&&(o == un1 x o || o == 0)) hl
   rw[h1]
   refine ⟨un1 x o::r,(o == un1 x o || o == 0)&&q,by simp[Nat.add_assoc,Nat.add_comm 1,Bool.and_assoc],by simp[h2],?_⟩
   rw[ht]at h3
   simp only[unionF]
   by_cases c:o≠0∧o≠(if x=0 then o else x)
   ·rw[if_pos c]
    have:(o == un1 x o || o == 0)=false:=by
     unfold un1
     rw[beq_f c.2,beq_f c.1];rfl
    rw[this];rfl
   ·rw[if_neg c]
    have:(o == un1 x o || o == 0)=true:=by
     unfold un1
     rw[Bool.or_eq_true,beq_iff_eq,beq_iff_eq]
     exact Classical.byContradiction fun h=>c ⟨fun e=>h (.inr e),fun e=>h (.inl e)⟩
    rw[this,Bool.true_and,h3]
    cases q<;>rfl
theorem ans_union(a b:List Int)(h:a.length=b.length)(ha:a.length≤16):ansL (a.foldl (unS b) (0,[],true)).2.2 (a.foldl (unS b) (0,[],true)).2.1=unionF a b:=by
 obtain ⟨r,t,h1,h2,h3⟩:=un_fold b a 0 [] true (by simpa using h)
 rw[h1]
 rw[List.drop_zero]at h3
 rw[h3]
 unfold ansL
 simp only[List.nil_append,Bool.true_and]
 cases t with
 | false=>rw[if_neg (by simp)];rfl
 | true=>rw[if_pos ⟨rfl,by omega⟩];rfl
end Go.AM
end
section
namespace Go.AM
open P
set_option maxHeartbeats 32000000
set_option maxRecDepth 8000
attribute [local simp] condRun_if when_if
abbrev clr18:List Nat:=[1,2,4,5,6,7,8,9,10,15,16,17,18,19,20,21,22,23,24,25]
abbrev S18(bn:Bool)(nodes:List LNX)(k:Nat)(out:List (SlX Int)):St:=
 ⟨[.imm bn (nodes.map LNX.a),.any,.any,.sl 0 k 0 k,.any,.any,.any,.any,.any,.any,.any,.bool false,.imm bn (nodes.map LNX.a),.int .i64 nodes.length,.int .i64 k,.any,.any,.any,.any,.any,.any,.any,.any,.any,.any,.any,.any],[.arr 1 k (out.map (SlX.c (.int .i64)))]⟩
def Next18(bn:Bool)(nodes:List LNX)(k:Nat)(out:List (SlX Int))(t:Option (Ex×St)):Option (List Int)→Prop
 | none=>∃ s,t=some (.ret,s)∧thenLeave .pure [.env 1,.env 2] (some (.ret,s))=some (.tup [.imm false [],.int .i64 k])
 | some r=>∃ b,t=rounds code 1 clr18 l_qae_0 (S18 bn nodes (k+1) (out++[⟨b,r⟩]))
noncomputable abbrev T18(bn:Bool)(nodes:List LNX)(k:Nat)(out:List (SlX Int)):Option (Ex×St):=thenLoop 1 clr18 l_qae_0 (run code l_qae_0 (S18 bn nodes k out))
def OperIs(σ:Store)(n:LNX)(pv:AVal):Option (List Int)→Prop
 | none=>∃ R,(R=.nil0∨∃ b,∃ l:List Int,R=.imm b (l.map (.int .i64)))∧acall code I.qaj [n.a,pv] σ=some (.tup [R,.bool false],σ)
 | some r=>∃ b,acall code I.qaj [n.a,pv] σ=some (.tup [.imm b (r.map (.int .i64)),.bool true],σ)
theorem operIs_cap{σ:Store}{n:LNX}{pv R:AVal}{ok:Bool}{l:List Int}(h:acall code I.qaj [n.a,pv] σ=some (capL R ok l,σ))(hR:IsL R l)(hl:ok=true→0 < l.length):OperIs σ n pv (ansL ok l):=by
 unfold capL at h
 unfold ansL
 by_cases c:16 < l.length
 ·rw[if_pos c]at h
  rw[if_neg (by omega)]
  exact ⟨_,.inl rfl,h⟩
 ·rw[if_neg c]at h
  cases ok with
  | false=>
   rw[if_neg (by simp)]
   rcases hR with ⟨rfl,_⟩|⟨b,rfl⟩
   ·exact ⟨_,.inl rfl,h⟩
   ·exact ⟨_,.inr ⟨b,l,rfl⟩,h⟩
  | true=>
   rw[if_pos ⟨rfl,by omega⟩]
   rcases hR with ⟨_,rfl⟩|⟨b,rfl⟩
   ·exact absurd (hl rfl) (by simp)
   ·exact ⟨b,h⟩
structure R18 (bn:Bool) (nodes:List LNX) (k:Nat) (n:LNX) (out:List (SlX Int)):Prop where
 len:nodes.length≤60
 at':nodes[k]?=some n
 out:out.length=k
 size:0 < sizeK nodes (k+1)
 own:own18 n=true
theorem R18.facts{bn:Bool}{nodes:List LNX}{k:Nat}{n:LNX}{out:List (SlX Int)}(h:R18 bn nodes k n out) :
  k < nodes.length∧nodes[k]?=some n∧((k:Int) < (nodes.length:Int))∧(∀ b,pcall I.qam [.imm b (nodes.map LNX.a),.int .i64 k]=some (.int .i64 (sizeK nodes (k+1))))∧((0:Int) < (sizeK nodes (k+1):Int))∧pcall I.qak [n.a]=some (.bool true) ∧
  ((k:Int) != IntKind.i64.wrap ((nodes.length:Int) - 1))=(k != nodes.length - 1)∧IntKind.i64.wrap ((k:Int)+1)=((k+1:Nat):Int)∧k+1≤most∧List.take k (List.map (SlX.c (AVal.int .i64)) out)=List.map (SlX.c (AVal.int .i64)) out:=by
 have hlt:=(List.getElem?_eq_some_iff.1 h.at').1
 have hl:=h.len
 have ho:=h.out
 have hs:=h.size
 refine ⟨hlt,h.at',by omega,fun b=>?_,by omega,?_,?_,?_,by unfold most;omega,List.take_of_length_le (by simp;omega)⟩
 ·have:=size18_v nodes (by unfold most;omega) (k+1) b (by omega)
  rw[show ((k+1:Nat):Int) - 1=(k:Int) by omega]at this
  exact this
 ·have:=own18_v n
  rw[h.own]at this
  exact this
 ·rw[wrap64_id (by omega),Bool.eq_iff_iff]
  simp only[bne_iff_ne,ne_eq]
  omega
 ·rw[wrap64_id (by omega)];omega
theorem r18_bad(bn:Bool)(nodes:List LNX)(hN:nodes.length≤60)(k:Nat)(n:LNX)(hn:nodes[k]?=some n)(out:List (SlX Int))(hk:out.length=k)(h:(decide (0 < sizeK nodes (k+1))&&own18 n)=false):Next18 bn nodes k out (T18 bn nodes k out) none:=by
 have hlt:=(List.getElem?_eq_some_iff.1 hn).1
 have hlt':((k:Int) < (nodes.length:Int)):=by omega
 have hsz:=fun b=>size18_v nodes (by unfold most;omega) (k+1) b (by omega)
 rw[show ((k+1:Nat):Int) - 1=(k:Int) by omega]at hsz
 have hown:=own18_v n
 obtain ⟨op,a,b,tab,bk,kinds,left,bc,cond,by',keys,bg,aggs,bi,items,bo,ords,limit⟩:=n
 by_cases hs:0 < sizeK nodes (k+1)
 ·have hs':(0:Int) < (sizeK nodes (k+1):Int):=by omega
  rw[decide_eq_true hs,Bool.true_and]at h
  rw[h]at hown
  simp only[LNX.a]at hown
  by_cases o8:op=8
  ·subst o8;exact ⟨_,by simp[T18,S18,clr18,l_qae_0,hlt',hn,LNX.a,hsz,hs,hs',hown];rfl,by simp⟩
  ·by_cases o10:op=10
   ·subst o10;exact ⟨_,by simp[T18,S18,clr18,l_qae_0,hlt',hn,LNX.a,hsz,hs,hs',hown];rfl,by simp⟩
   ·exact ⟨_,by simp[T18,S18,clr18,l_qae_0,hlt',hn,LNX.a,hsz,hs,hs',hown,o8,o10,beq_f o8,beq_f o10];rfl,by simp⟩
 ·have hs':¬(0:Int) < (sizeK nodes (k+1):Int):=by omega
  by_cases o8:op=8
  ·subst o8;exact ⟨_,by simp[T18,S18,clr18,l_qae_0,hlt',hn,LNX.a,hsz,hs,hs'];rfl,by simp⟩
  ·by_cases o10:op=10
   ·subst o10;exact ⟨_,by simp[T18,S18,clr18,l_qae_0,hlt',hn,LNX.a,hsz,hs,hs'];rfl,by simp⟩
   ·exact ⟨_,by simp[T18,S18,clr18,l_qae_0,hlt',hn,LNX.a,hsz,hs,hs',o8,o10,beq_f o8,beq_f o10];rfl,by simp⟩
theorem r18_9{bn:Bool}{nodes:List LNX}{k:Nat}{n:LNX}{out:List (SlX Int)}(h:R18 bn nodes k n out)(h9:n.op=9)(hl:n.l=-1)(hr:n.r=-1)(hkn:n.kinds.length≤most) :
  Next18 bn nodes k out (T18 bn nodes k out) (if inputF n then some n.kinds else none):=by
 obtain ⟨f1,f2,f3,f4,f5,f6,f7,f8,f9,f10⟩:=h.facts
 have f0:=h.size
 have ho:=h.out
 have hF:Firm [.arr 1 k (out.map (SlX.c (.int .i64))),.arr 12 0 [n.a],.arr 1 0 []]:=fun τ b _=>by
  have hnz:∀ (N:LNX) base σ m,fz false true base σ (m+3) N.a=N.a:=fun N base σ m=>Ft.ft false true base σ m N rfl
  simp[freezeObj,freeze,fuel,hnz]
 have hI:=input18_v n hkn _ hF
 obtain ⟨op,a,b,tab,bk,kinds,left,bc,cond,by',keys,bg,aggs,bi,items,bo,ords,limit⟩:=n
 simp only at h9 hl hr
 subst h9 hl hr
 generalize inputF _=q at *
 simp only[LNX.a]at *
 cases q with
 | false=>exact ⟨_,by simp[T18,S18,clr18,l_qae_0,LNX.a,f2,f3,f4,f5,f0,f6,hI];rfl,by simp⟩
 | true=>
  rw[if_pos rfl]
  refine ⟨bk,?_⟩
  simp[T18,S18,clr18,l_qae_0,SlX.c,LNX.a,f2,f3,f4,f5,f0,f6,f8,f9,f10,hI,append,ho,roundEnd,freezeObj,freeze,fuel]
end Go.AM
end
section
namespace Go.AM
open P
set_option maxHeartbeats 32000000
set_option maxRecDepth 8000
attribute [local simp] condRun_if when_if
theorem firm18(k ep:Nat)(out:List (SlX Int))(n:LNX)(ps:List (SlX Int)):Firm [.arr 1 k (out.map (SlX.c (.int .i64))),.arr 12 0 [n.a],.arr 1 ep (ps.map (SlX.c (.int .i64)))]:=fun τ b _=>by
 have hnz:∀ (N:LNX) base σ m,fz false true base σ (m+3) N.a=N.a:=fun N base σ m=>Ft.ft false true base σ m N rfl
 simp[freezeObj,freeze,fuel,hnz]
theorem firm18g(k ep:Nat)(out:List (SlX Int))(n g:LNX)(ps:List (SlX Int)):Firm [.arr 1 k (out.map (SlX.c (.int .i64))),.arr 12 0 [n.a],.arr 1 ep (ps.map (SlX.c (.int .i64))),.arr 12 0 [g.a]]:=fun τ b _=>by
 have hnz:∀ (N:LNX) base σ m,fz false true base σ (m+3) N.a=N.a:=fun N base σ m=>Ft.ft false true base σ m N rfl
 simp[freezeObj,freeze,fuel,hnz]
abbrev st18(k ep:Nat)(out:List (SlX Int))(n:LNX)(ps:List (SlX Int)):Store:=[.arr 1 k (out.map (SlX.c (.int .i64))),.arr 12 0 [n.a],.arr 1 ep (ps.map (SlX.c (.int .i64)))]
def rootO(n:LNX)(i len:Nat)(o:Option (List Int)):Option (List Int):=if rootOk n i len=true then o else none
theorem r18_1{bn:Bool}{nodes:List LNX}{k:Nat}{n:LNX}{out:List (SlX Int)}(h:R18 bn nodes k n out)(h1:n.op=1)(hl:n.l=-1)(hr:n.r=-1){o:Option (List Int)}(hO:OperIs (st18 k 0 out n []) n .nil0 o) :
  Next18 bn nodes k out (T18 bn nodes k out) o:=by
 obtain ⟨f1,f2,f3,f4,f5,f6,f7,f8,f9,f10⟩:=h.facts
 have f0:=h.size
 have ho:=h.out
 obtain ⟨op,a0,b0,tab,bk,kinds,left,bc,cond,by',keys,bg,aggs,bi,items,bo,ords,limit⟩:=n
 simp only at h1 hl hr
 subst h1 hl hr
 simp only[LNX.a]at *
 cases o with
 | none=>
  obtain ⟨R,hR,hI⟩:=hO
  rcases hR with rfl|⟨b,l,rfl⟩<;>simp only[LNX.a,st18,List.map_nil]at hI<;>exact ⟨_,by simp[T18,S18,clr18,l_qae_0,LNX.a,SlX.c,f2,f3,f4,f5,f0,f6,hI];rfl,by simp⟩
 | some r=>
  obtain ⟨b,hI⟩:=hO
  simp only[LNX.a,st18,List.map_nil]at hI
  refine ⟨b,?_⟩
  simp[T18,S18,clr18,l_qae_0,LNX.a,SlX.c,f2,f3,f4,f5,f0,f6,f8,f9,f10,hI,append,ho,roundEnd,freezeObj,freeze,fuel]
theorem r18_p1{bn:Bool}{nodes:List LNX}{k:Nat}{n:LNX}{out:List (SlX Int)}(h:R18 bn nodes k n out)(h1:n.op≠1)(h9:n.op≠9)(h10:n.op≠10)(h11:n.op≠11){p:Nat}(hl:n.l=p)(hr:n.r=-1){s:SlX Int}(hp:out[p]?=some s){o:Option (List Int)}(hO:OperIs (st18 k 1 out n [s]) n (.sl 2 1 0 1) o) :
  Next18 bn nodes k out (T18 bn nodes k out) (rootO n k nodes.length o):=by
 obtain ⟨f1,f2,f3,f4,f5,f6,f7,f8,f9,f10⟩:=h.facts
 have f0:=h.size
 have ho:=h.out
 have hpk:p < k:=by have:=(List.getElem?_eq_some_iff.1 hp).1;omega
 have hpe:∀ hh:p < out.length,out[p]'hh=s:=fun hh=>(List.getElem?_eq_some_iff.1 hp).2
 have hpm:(List.map (SlX.c (.int .i64)) out)[p]?=some (.imm s.b (s.l.map (.int .i64))):=by rw[List.getElem?_map,hp];rfl
 have hp1:(1:Nat)≤most:=by simp[most]
 unfold rootO rootOk
 obtain ⟨op,a0,b0,tab,bk,kinds,left,bc,cond,by',keys,bg,aggs,bi,items,bo,ords,limit⟩:=n
 simp only at h1 h9 h10 h11 hl hr
 subst hl hr
 simp only[LNX.a]at *
 have q10:=beq_f h10
 by_cases h8:op=8
 ·subst h8
  cases hq:(k != nodes.length - 1) with
  | true=>
   rw[hq]at f7
   rw[if_neg (by simp)]
   cases o with
   | none=>
    obtain ⟨R,hR,hI⟩:=hO
    rcases hR with rfl|⟨b,l,rfl⟩<;>simp only[LNX.a,st18,List.map_cons,List.map_nil,SlX.c]at hI<;>exact ⟨_,by simp[T18,S18,clr18,l_qae_0,LNX.a,SlX.c,f2,f3,f4,f5,f0,f6,hI,append,hp1,ho,hpk,hpm,hpe,hp];rfl,by simp⟩
   | some r=>
    obtain ⟨b,hI⟩:=hO
    simp only[LNX.a,st18,List.map_cons,List.map_nil,SlX.c]at hI
    exact ⟨_,by simp[T18,S18,clr18,l_qae_0,LNX.a,SlX.c,f2,f3,f4,f5,f0,f6,f7,hI,append,hp1,ho,hpk,hpm,hpe,hp];rfl,by simp⟩
  | false=>
   rw[hq]at f7
   rw[if_pos (by simp)]
   cases o with
   | none=>
    obtain ⟨R,hR,hI⟩:=hO
    rcases hR with rfl|⟨b,l,rfl⟩<;>simp only[LNX.a,st18,List.map_cons,List.map_nil,SlX.c]at hI<;>exact ⟨_,by simp[T18,S18,clr18,l_qae_0,LNX.a,SlX.c,f2,f3,f4,f5,f0,f6,hI,append,hp1,ho,hpk,hpm,hpe,hp];rfl,by simp⟩
   | some r=>
    obtain ⟨b,hI⟩:=hO
    simp only[LNX.a,st18,List.map_cons,List.map_nil,SlX.c]at hI
    refine ⟨b,?_⟩
    simp[T18,S18,clr18,l_qae_0,LNX.a,SlX.c,f2,f3,f4,f5,f0,f6,f7,f8,f9,f10,hI,append,hp1,ho,hpk,hpm,hpe,hp,roundEnd,freezeObj,freeze,fuel]
 ·have q8:=beq_f h8
  rw[if_pos (by simp[q8,q10])]
  cases o with
  | none=>
   obtain ⟨R,hR,hI⟩:=hO
   rcases hR with rfl|⟨b,l,rfl⟩<;>simp only[LNX.a,st18,List.map_cons,List.map_nil,SlX.c]at hI<;>exact ⟨_,by simp[T18,S18,clr18,l_qae_0,LNX.a,SlX.c,f2,f3,f4,f5,f0,f6,h1,h9,h10,h11,h8,q8,q10,beq_f h1,beq_f h9,beq_f h11,hI,append,hp1,ho,hpk,hpm,hpe,hp];rfl,by simp⟩
  | some r=>
   obtain ⟨b,hI⟩:=hO
   simp only[LNX.a,st18,List.map_cons,List.map_nil,SlX.c]at hI
   refine ⟨b,?_⟩
   simp[T18,S18,clr18,l_qae_0,LNX.a,SlX.c,f2,f3,f4,f5,f0,f6,h1,h9,h10,h11,h8,q8,q10,beq_f h1,beq_f h9,beq_f h11,f8,f9,f10,hI,append,hp1,ho,hpk,hpm,hpe,hp,roundEnd,freezeObj,freeze,fuel]
theorem r18_p2{bn:Bool}{nodes:List LNX}{k:Nat}{n:LNX}{out:List (SlX Int)}(h:R18 bn nodes k n out)(h27:n.op=2∨n.op=7){p q:Nat}(hl:n.l=p)(hr:n.r=q){s t:SlX Int}(hp:out[p]?=some s)(hq:out[q]?=some t){o:Option (List Int)}(hO:OperIs (st18 k 2 out n [s,t]) n (.sl 2 2 0 2) o) :
  Next18 bn nodes k out (T18 bn nodes k out) o:=by
 obtain ⟨f1,f2,f3,f4,f5,f6,f7,f8,f9,f10⟩:=h.facts
 have f0:=h.size
 have ho:=h.out
 have hpk:p < k:=by have:=(List.getElem?_eq_some_iff.1 hp).1;omega
 have hqk:q < k:=by have:=(List.getElem?_eq_some_iff.1 hq).1;omega
 have hpe:∀ hh:p < out.length,out[p]'hh=s:=fun hh=>(List.getElem?_eq_some_iff.1 hp).2
 have hpm:(List.map (SlX.c (.int .i64)) out)[p]?=some (.imm s.b (s.l.map (.int .i64))):=by rw[List.getElem?_map,hp];rfl
 have hqe:∀ hh:q < out.length,out[q]'hh=t:=fun hh=>(List.getElem?_eq_some_iff.1 hq).2
 have hqm:(List.map (SlX.c (.int .i64)) out)[q]?=some (.imm t.b (t.l.map (.int .i64))):=by rw[List.getElem?_map,hq];rfl
 have hp1:(1:Nat)≤most:=by simp[most]
 have hp2:(2:Nat)≤most:=by simp[most]
 obtain ⟨op,a0,b0,tab,bk,kinds,left,bc,cond,by',keys,bg,aggs,bi,items,bo,ords,limit⟩:=n
 simp only at h27 hl hr
 subst hl hr
 simp only[LNX.a]at *
 cases o with
 | none=>
  obtain ⟨R,hR,hI⟩:=hO
  rcases h27 with rfl|rfl<;>rcases hR with rfl|⟨b,l,rfl⟩<;>simp only[LNX.a,st18,List.map_cons,List.map_nil,SlX.c]at hI<;>exact ⟨_,by simp[T18,S18,clr18,l_qae_0,LNX.a,SlX.c,f2,f3,f4,f5,f0,f6,hI,append,hp1,hp2,ho,hpk,hqk,hpm,hqm,hpe,hqe,hp,hq];rfl,by simp⟩
 | some r=>
  obtain ⟨b,hI⟩:=hO
  simp only[LNX.a,st18,List.map_cons,List.map_nil,SlX.c]at hI
  refine ⟨b,?_⟩
  rcases h27 with rfl|rfl<;>simp[T18,S18,clr18,l_qae_0,LNX.a,SlX.c,f2,f3,f4,f5,f0,f6,f8,f9,f10,hI,append,hp1,hp2,ho,hpk,hqk,hpm,hqm,hpe,hqe,hp,hq,roundEnd,freezeObj,freeze,fuel]
theorem r18_10{bn:Bool}{nodes:List LNX}{k:Nat}{n:LNX}{out:List (SlX Int)}(h:R18 bn nodes k n out)(h10:n.op=10){p:Nat}(hl:n.l=p)(hr:n.r=-1){s:SlX Int}(hp:out[p]?=some s){o:Option (List Int)}(hO:OperIs (st18 k 1 out n [s]++[.arr 12 0 [LNX.a { n with op:=4 }]]) { n with op:=4 } (.sl 2 1 0 1) o)(hlen:∀ r,o=some r→r.length=n.keys.length+n.aggs.length∧r.length≤8000) :
  Next18 bn nodes k out (T18 bn nodes k out) (rootO n k nodes.length (o.map (set18L n.keys.length n.aggs 0))):=by
 obtain ⟨f1,f2,f3,f4,f5,f6,f7,f8,f9,f10⟩:=h.facts
 have f0:=h.size
 have ho:=h.out
 have hpk:p < k:=by have:=(List.getElem?_eq_some_iff.1 hp).1;omega
 have hpe:∀ hh:p < out.length,out[p]'hh=s:=fun hh=>(List.getElem?_eq_some_iff.1 hp).2
 have hpm:(List.map (SlX.c (.int .i64)) out)[p]?=some (.imm s.b (s.l.map (.int .i64))):=by rw[List.getElem?_map,hp];rfl
 have hp1:(1:Nat)≤most:=by simp[most]
 have hP:=fun r hr b=>partial18_v n b r (hlen r hr).1 (hlen r hr).2
 unfold rootO rootOk
 obtain ⟨op,a0,b0,tab,bk,kinds,left,bc,cond,by',keys,bg,aggs,bi,items,bo,ords,limit⟩:=n
 simp only at h10 hl hr
 subst h10 hl hr
 simp only[LNX.a]at *
 cases o with
 | none=>
  obtain ⟨R,hR,hI⟩:=hO
  rw[Option.map_none,ite_self]
  rcases hR with rfl|⟨b,l,rfl⟩<;>simp only[LNX.a,st18,List.map_cons,List.map_nil,SlX.c,List.cons_append,List.nil_append]at hI<;>exact ⟨_,by simp[T18,S18,clr18,l_qae_0,LNX.a,SlX.c,f2,f3,f4,f5,f0,f6,hI,append,hp1,ho,hpk,hpm,hpe,hp];rfl,by simp⟩
 | some r=>
  obtain ⟨b,hI⟩:=hO
  have hP':=hP r rfl
  simp only[LNX.a,st18,List.map_cons,List.map_nil,SlX.c,List.cons_append,List.nil_append]at hI
  cases hq:(k != nodes.length - 1) with
  | true=>
   rw[hq]at f7
   rw[if_neg (by simp)]
   exact ⟨_,by simp[T18,S18,clr18,l_qae_0,LNX.a,SlX.c,f2,f3,f4,f5,f0,f6,f7,hI,hP',append,hp1,ho,hpk,hpm,hpe,hp];rfl,by simp⟩
  | false=>
   rw[hq]at f7
   rw[if_pos (by simp)]
   refine ⟨false,?_⟩
   simp[T18,S18,clr18,l_qae_0,LNX.a,SlX.c,f2,f3,f4,f5,f0,f6,f7,f8,f9,f10,hI,hP',append,hp1,ho,hpk,hpm,hpe,hp,roundEnd,freezeObj,freeze,fuel]
theorem r18_11{bn:Bool}{nodes:List LNX}{k:Nat}{n:LNX}{out:List (SlX Int)}(h:R18 bn nodes k n out)(h11:n.op=11){p:Nat}(hl:n.l=p)(hr:n.r=-1){s:SlX Int}(hp:out[p]?=some s){m:LNX}(hm:nodes[p]?=some m)(hs:s.l.length≤8000)(hk1:n.keys.length≤m32)(hk2:n.aggs.length≤m32) :
  Next18 bn nodes k out (T18 bn nodes k out) (if (fin18 n s.l).2=true∧m.op=9 then some (fin18 n s.l).1 else none):=by
 obtain ⟨f1,f2,f3,f4,f5,f6,f7,f8,f9,f10⟩:=h.facts
 have f0:=h.size
 have ho:=h.out
 have hpk:p < k:=by have:=(List.getElem?_eq_some_iff.1 hp).1;omega
 have hpe:∀ hh:p < out.length,out[p]'hh=s:=fun hh=>(List.getElem?_eq_some_iff.1 hp).2
 have hpm:(List.map (SlX.c (.int .i64)) out)[p]?=some (.imm s.b (s.l.map (.int .i64))):=by rw[List.getElem?_map,hp];rfl
 have hp1:(1:Nat)≤most:=by simp[most]
 have hI:=fun b=>final18_v n b s.l hs hk1 hk2
 generalize fin18 n s.l=F at *
 obtain ⟨r,ok⟩:=F
 obtain ⟨op,a0,b0,tab,bk,kinds,left,bc,cond,by',keys,bg,aggs,bi,items,bo,ords,limit⟩:=n
 obtain ⟨mop,ma0,mb0,mtab,mbk,mkinds,mleft,mbc,mcond,mby',mkeys,mbg,maggs,mbi,mitems,mbo,mords,mlimit⟩:=m
 simp only at h11 hl hr
 subst h11 hl hr
 simp only[LNX.a]at *
 cases ok with
 | false=>
  rw[if_neg (by simp)]
  exact ⟨_,by simp[T18,S18,clr18,l_qae_0,LNX.a,SlX.c,f2,f3,f4,f5,f0,f6,hI,append,hp1,ho,hpk,hpm,hpe,hp,hm];rfl,by simp⟩
 | true=>
  by_cases hm9:mop=9
  ·subst hm9
   rw[if_pos ⟨rfl,rfl⟩]
   refine ⟨false,?_⟩
   simp[T18,S18,clr18,l_qae_0,LNX.a,SlX.c,f2,f3,f4,f5,f0,f6,f8,f9,f10,hI,append,hp1,ho,hpk,hpm,hpe,hp,hm,roundEnd,freezeObj,freeze,fuel]
  ·rw[if_neg (fun h=>hm9 h.2)]
   exact ⟨_,by simp[T18,S18,clr18,l_qae_0,LNX.a,SlX.c,f2,f3,f4,f5,f0,f6,hI,append,hp1,ho,hpk,hpm,hpe,hp,hm,hm9,beq_f hm9];rfl,by simp⟩
end Go.AM
end
section
namespace Go.AM
set_option maxHeartbeats 4000000
theorem odd_k03{kinds:List Int}(h:kinds.any oddK=false):∀ x∈kinds,k03 x:=fun x hx=>by
 have:oddK x=false:=by
  cases hq:oddK x
  ·rfl
  ·exact absurd (List.any_eq_true.2 ⟨x,hx,hq⟩) (by rw[h];simp)
 unfold oddK at this
 simp at this
 exact ⟨by omega,by omega⟩
theorem kindF_range{e:List EN}{kinds:List Int}(h:(kindF e kinds).2=0):k03 (kindF e kinds).1:=by
 unfold kindF at h ⊢
 by_cases c1:okE e=false
 ·rw[if_pos c1]at h;cases h
 rw[if_neg c1]at h ⊢
 by_cases c2:kinds.any oddK=true
 ·rw[if_pos c2]at h;cases h
 rw[if_neg c2]at h ⊢
 by_cases c3:((colsF e).any fun c=>decide ((kinds.length:Int)≤c))=true
 ·rw[if_pos c3]at h;cases h
 rw[if_neg c3]at h ⊢
 have hks:=odd_k03 (by simpa using c2)
 obtain ⟨a,o,_,_,_,_,hp⟩:=pos_all hks (by simpa using c1) e.length (Nat.le_refl _)
 unfold posInv at hp
 rw[List.take_length]at hp
 unfold overF at h ⊢
 rcases hp with ⟨own,_,_,h3,h4⟩|⟨_,h4⟩
 ·rw[h4]
  simp only
  cases o with
  | nil=>exact (⟨by decide,by decide⟩:k03 0)
  | cons p r=>exact getD_k03 h3 p
 ·rw[h4]at h;cases h
structure Good (a:List Int):Prop where
 pos:1≤a.length
 most:a.length≤16
 in':∀ x∈a,0≤x∧x≤4
theorem Good.fine{a:List Int}(h:Good a)(hs:sum4 a=false):Fine a:=⟨h.pos,h.most,fun x hx=>by
 have:=h.in' x hx
 have h4:x≠4:=fun e=>by
  have:sum4 a=true:=List.any_eq_true.2 ⟨x,hx,by rw[e];rfl⟩
  rw[hs]at this;cases this
 omega⟩
abbrev in4(a:List Int):Prop:=∀ x∈a,0≤x∧x≤4
theorem agg_in{a:List Int}{g:AggX}(h:(aggK a g).1=true):0≤(aggK a g).2∧(aggK a g).2≤4:=by
 unfold aggK at h ⊢
 by_cases h1:g.tag=1
 ·rw[if_pos h1];exact (⟨by decide,by decide⟩:(0:Int)≤2∧(2:Int)≤4)
 ·rw[if_neg h1]at h ⊢
  simp only[Bool.and_eq_true,beq_iff_eq]at h
  have:=kindF_range h.1.1.1
  unfold k03 at this
  by_cases h45:g.tag=4∨g.tag=5
  ·simp only[if_pos h45];omega
  ·simp only[if_neg h45];decide
theorem keys_in{a l ks:List Int}(h:keysF a l=some ks)(ha:in4 a):in4 ks:=by
 unfold keysF at h
 split at h
 ·rename_i hall
  cases h
  intro x hx
  obtain ⟨k,hk,rfl⟩:=List.mem_map.1 hx
  have:=List.all_eq_true.1 hall k hk
  simp only[Bool.and_eq_true,decide_eq_true_eq]at this
  have hlt:k.toNat < a.length:=by omega
  rw[List.getD_eq_getElem?_getD,List.getElem?_eq_getElem hlt]
  exact ha _ (List.getElem_mem _)
 ·cases h
theorem finSet_in:∀ (l:List AggX) (i:Nat) (a:List Int),in4 a→in4 (finSet i l a)
 | [],i,a,h=>h
 | g::l,i,a,h=>by
  rw[finSet]
  refine finSet_in l (i+1) _ ?_
  split
  ·intro x hx
   rcases List.mem_or_eq_of_mem_set hx with h1|rfl
   ·exact h x h1
   ·exact ⟨by decide,by decide⟩
  ·exact h
theorem union_in:∀ {a b r:List Int},unionF a b=some r→in4 a→in4 b→in4 r
 | [],b,r,h,_,_=>by cases b<;>cases h<;>intro x hx<;>cases hx
 | _::_,[],r,h,_,_=>by cases h
 | k::a,o::b,r,h,ha,hb=>by
  rw[unionF]at h
  by_cases c:o≠0∧o≠(if k=0 then o else k)
  ·rw[if_pos c]at h;cases h
  ·rw[if_neg c]at h
   cases hu:unionF a b with
   | none=>rw[hu]at h;cases h
   | some r'=>
    rw[hu]at h
    cases h
    intro x hx
    rcases List.mem_cons.1 hx with rfl|hx
    ·split
     ·exact hb o (by simp)
     ·exact ha k (by simp)
    ·exact union_in hu (fun y hy=>ha y (List.mem_cons_of_mem _ hy)) (fun y hy=>hb y (List.mem_cons_of_mem _ hy)) x hx
theorem opL_good{nodes:List LNX}{n:LNX}{ps:List (List Int)}(hp:∀ a∈ps,Good a){r:List Int}(h:opL nodes n ps=some r)(hl:r.length≤16):Good r:=by
 match ps,hp,h with
 | [],_,h=>
  simp only[opL]at h
  split at h
  ·split at h
   ·rename_i hs
    cases h
    unfold scanF at hs
    simp only[Bool.and_eq_true,decide_eq_true_eq,Bool.not_eq_true']at hs
    refine ⟨by omega,hl,fun x hx=>?_⟩
    have hq:(decide (x < 1) || decide (3 < x))=false:=by
     cases hc:(decide (x < 1) || decide (3 < x))
     ·rfl
     ·exact absurd (List.any_eq_true.2 ⟨x,hx,hc⟩) (by rw[hs.1.1.1.1];simp)
    simp at hq;omega
   ·cases h
  ·split at h
   ·split at h
    ·rename_i hs
     cases h
     unfold inputF at hs
     simp only[Bool.and_eq_true,decide_eq_true_eq,Bool.not_eq_true']at hs
     refine ⟨by omega,hl,fun x hx=>?_⟩
     have hq:(decide (x < 0) || decide (4 < x))=false:=by
      cases hc:(decide (x < 0) || decide (4 < x))
      ·rfl
      ·exact absurd (List.any_eq_true.2 ⟨x,hx,hc⟩) (by rw[hs.1.1.1.1];simp)
     simp at hq;omega
    ·cases h
   ·cases h
 | [a],hp,h=>
  have ha:=hp a (by simp)
  simp only[opL]at h
  split at h
  ·split at h
   ·cases h;exact ha
   ·cases h
  split at h
  ·cases hk:keysF a n.keys with
   | none=>rw[hk]at h;cases h
   | some ks=>
    rw[hk]at h
    simp only[Option.bind_some]at h
    split at h
    ·rename_i hg
     cases h
     unfold aggsOk at hg
     simp only[Bool.and_eq_true,decide_eq_true_eq]at hg
     refine ⟨by rw[List.length_append,List.length_map,keysF_len hk];omega,hl,fun x hx=>?_⟩
     rcases List.mem_append.1 hx with hx|hx
     ·exact keys_in hk ha.in' x hx
     ·obtain ⟨g,hgm,rfl⟩:=List.mem_map.1 hx
      exact agg_in (List.all_eq_true.1 hg.2 g hgm)
    ·cases h
  split at h
  ·rw[items_eq]at h
   split at h
   ·rename_i hi
    simp only[Option.bind_some]at h
    split at h
    ·cases h
     refine ⟨by omega,hl,fun x hx=>?_⟩
     obtain ⟨e,he,rfl⟩:=List.mem_map.1 hx
     have:=kindF_range (e:=e.l) (kinds:=a) (by simpa using List.all_eq_true.1 hi e he)
     unfold k03 at this
     omega
    ·cases h
   ·cases h
  split at h
  ·cases h;exact ha
  split at h
  ·split at h
   ·cases h;exact ha
   ·cases h
  split at h
  ·cases hk:keysF a n.keys with
   | none=>rw[hk]at h;cases h
   | some ks=>
    rw[hk]at h
    simp only[Option.bind_some]at h
    split at h
    ·rename_i hg
     cases h
     unfold aggsOk at hg
     simp only[Bool.and_eq_true,decide_eq_true_eq]at hg
     refine ⟨by rw[List.length_append,List.length_map,keysF_len hk];omega,hl,fun x hx=>?_⟩
     rcases List.mem_append.1 hx with hx|hx
     ·exact keys_in hk ha.in' x hx
     ·obtain ⟨g,hgm,rfl⟩:=List.mem_map.1 hx
      have:=agg_in (List.all_eq_true.1 hg.2 g hgm)
      unfold partK
      split
      ·omega
      ·exact this
    ·cases h
  split at h
  ·cases hm:nodes[n.l.toNat]? with
   | none=>rw[hm]at h;cases h
   | some m=>
    rw[hm]at h
    simp only[Option.bind_some]at h
    split at h
    ·cases h
     refine ⟨by rw[finSet_len];exact ha.pos,hl,finSet_in _ _ _ ha.in'⟩
    ·cases h
  ·cases h
 | [a,b],hp,h=>
  have ha:=hp a (by simp)
  have hb:=hp b (by simp)
  simp only[opL]at h
  split at h
  ·split at h
   ·cases h
    refine ⟨by rw[List.length_append];have:=ha.pos;omega,hl,fun x hx=>?_⟩
    rcases List.mem_append.1 hx with hx|hx
    ·exact ha.in' x hx
    ·exact hb.in' x hx
   ·cases h
  split at h
  ·split at h
   ·refine ⟨by rw[unionF_len h];exact ha.pos,hl,union_in h ha.in' hb.in'⟩
   ·cases h
  ·cases h
 | _::_::_::_,_,h=>cases h
end Go.AM
end
section
namespace Go.AM
open P
set_option maxHeartbeats 4000000
def capO(o:Option (List Int)):Option (List Int):=o.bind fun r=>if 16 < r.length then none else some r
theorem pre_cases{n:LNX}{o ps:List Nat}(h:preF n o=some ps) :
  (ps=[]∧n.l=-1∧n.r=-1∧partsF n.op=0)∨(∃ p,ps=[p]∧n.l=(p:Int)∧n.r=-1∧partsF n.op=1∧p∈o)∨(∃ p q,ps=[p,q]∧n.l=(p:Int)∧n.r=(q:Int)∧partsF n.op=2∧p∈o∧q∈o):=by
 unfold preF at h
 split at h
 ·cases h
 ·rename_i hc
  have hpl:=partsF_le n.op
  have h0:0≤partsF n.op:=by
   have:¬partsF n.op < 0:=fun h=>hc (.inl h)
   omega
  have h1:partsF n.op≤o.length:=by
   have:¬((o.length:Int) < partsF n.op):=fun h=>hc (.inr (.inl h))
   omega
  have hm:∀ p∈o.drop (o.length - (partsF n.op).toNat),p∈o:=fun p hp=>List.mem_of_mem_drop hp
  have hl:(o.drop (o.length - (partsF n.op).toNat)).length=(partsF n.op).toNat:=by rw[List.length_drop];omega
  split at h
  ·rename_i hd
   rw[hd]at hl
   split at h
   ·rename_i hlr
    cases h
    exact .inl ⟨rfl,hlr.1,hlr.2,by simp at hl;omega⟩
   ·cases h
  ·rename_i p hd
   rw[hd]at hm hl
   split at h
   ·rename_i hlr
    cases h
    exact .inr (.inl ⟨p,rfl,hlr.1,hlr.2,by simp at hl;omega,hm p (by simp)⟩)
   ·cases h
  ·rename_i p q hd
   rw[hd]at hm hl
   split at h
   ·rename_i hlr
    cases h
    exact .inr (.inr ⟨p,q,rfl,hlr.1,hlr.2,by simp at hl;omega,hm p (by simp),hm q (by simp)⟩)
   ·cases h
  ·cases h
theorem step_zero{nodes:List LNX}{k:Nat}{n:LNX}{kinds:List (List Int)}{opn:List Nat}(h:preF n opn=some [])(h8:n.op≠8)(h10:n.op≠10):(stepL nodes k n kinds opn).map (·.1)=capO (opL nodes n []):=by
 unfold stepL capO
 rw[h]
 have hr:rootOk n k nodes.length=true:=by unfold rootOk;rw[beq_f h8,beq_f h10];rfl
 simp only[List.any_nil,hr,List.map_nil]
 rw[if_neg (by simp)]
 cases opL nodes n [] with
 | none=>rfl
 | some r=>simp only[Option.bind_some];split<;>rfl
theorem step_one{nodes:List LNX}{k:Nat}{n:LNX}{kinds:List (List Int)}{opn:List Nat}{p:Nat}{a:List Int}(h:preF n opn=some [p])(ha:kinds.getD p []=a):(stepL nodes k n kinds opn).map (·.1)=rootO n k nodes.length (if ((n.op != 11)&&sum4 a)=true then none else capO (opL nodes n [a])):=by
 unfold stepL capO rootO
 rw[h]
 simp only[List.any_cons,List.any_nil,Bool.or_false,List.map_cons,List.map_nil,ha]
 cases hs:((n.op != 11)&&sum4 a) with
 | true=>
  simp only[if_true,true_or]
  rw[ite_self];rfl
 | false=>
  cases hr:rootOk n k nodes.length with
  | false=>simp
  | true=>
   rw[if_neg (by simp)]
   simp only[if_true,Bool.false_eq_true,if_false]
   cases opL nodes n [a] with
   | none=>rfl
   | some r=>simp only[Option.bind_some];split<;>rfl
theorem step_two{nodes:List LNX}{k:Nat}{n:LNX}{kinds:List (List Int)}{opn:List Nat}{p q:Nat}{a b:List Int}(h:preF n opn=some [p,q])(ha:kinds.getD p []=a)(hb:kinds.getD q []=b)(h27:n.op=2∨n.op=7):(stepL nodes k n kinds opn).map (·.1)=if (sum4 a || sum4 b)=true then none else capO (opL nodes n [a,b]):=by
 unfold stepL capO
 rw[h]
 have hr:rootOk n k nodes.length=true:=by unfold rootOk;rcases h27 with h|h<;>rw[h]<;>rfl
 have h11:(n.op != 11)=true:=by rcases h27 with h|h<;>rw[h]<;>rfl
 simp only[List.any_cons,List.any_nil,Bool.or_false,List.map_cons,List.map_nil,ha,hb,hr,h11,Bool.true_and]
 cases (sum4 a || sum4 b) with
 | true=>simp
 | false=>
  rw[if_neg (by simp)]
  simp only[Bool.false_eq_true,if_false]
  cases opL nodes n [a,b] with
  | none=>rfl
  | some r=>simp only[Option.bind_some];split<;>rfl
theorem cap_ans(ok:Bool)(l:List Int):capO (if ok=true then some l else none)=ansL ok l:=by
 unfold capO ansL
 cases ok with
 | false=>rw[if_neg (by simp)];simp
 | true=>
  simp only[if_true,Option.bind_some,true_and]
  by_cases h:16 < l.length
  ·rw[if_pos h,if_neg (by omega)]
  ·rw[if_neg h,if_pos (by omega)]
theorem oper_one{σ:Store}(hσ:Firm σ)(n:LNX){pid pep:Nat}{s:SlX Int}(hpid:pid < σ.length)(hget:σ[pid]?=some (.arr 1 pep [.imm s.b (s.l.map (.int .i64))]))(hG:Good s.l)(hr:n.r=-1)(hp:parts13 n.op=1)(ho:own13 n=true){R:AVal}{ok:Bool}{l:List Int}
  (hk:∀ τ,Firm τ→acall code I.qac [LNX.a { n with l:=1 },.imm false (s.l.map (.int .i64)),.nil0] τ=some (.tup [R,.bool ok],τ)) (hR:IsL R l) (hl:ok=true→0 < l.length) :
  OperIs σ n (.sl pid pep 0 1) (if sum4 s.l=true then none else ansL ok l):=by
 cases hs:sum4 s.l with
 | true=>exact ⟨_,.inl rfl,oper1s σ hσ n pid pep s.b s.l hpid hget hG.most hs⟩
 | false=>
  rw[if_neg (by simp)]
  exact operIs_cap (oper1 σ hσ n pid pep s.b s.l hpid hget (hG.fine hs) hs hr hp ho hk hR) hR hl
theorem oper_two{σ:Store}(hσ:Firm σ)(n:LNX){pid pep:Nat}{s t:SlX Int}(hpid:pid < σ.length)(hget:σ[pid]?=some (.arr 1 pep [.imm s.b (s.l.map (.int .i64)),.imm t.b (t.l.map (.int .i64))]))(hG:Good s.l)(hH:Good t.l)(hp:parts13 n.op=2)(ho:own13 n=true){R:AVal}{ok:Bool}{l:List Int}
  (hk:∀ τ,Firm τ→acall code I.qac [LNX.a { n with l:=1,r:=3 },.imm false (s.l.map (.int .i64)),.imm false (t.l.map (.int .i64))] τ=some (.tup [R,.bool ok],τ)) (hR:IsL R l) (hl:ok=true→0 < l.length) :
  OperIs σ n (.sl pid pep 0 2) (if (sum4 s.l || sum4 t.l)=true then none else ansL ok l):=by
 cases hs:sum4 s.l with
 | true=>exact ⟨_,.inl rfl,oper2s σ hσ n pid pep s.b t.b s.l t.l hpid hget hG.most hs⟩
 | false=>
  cases ht:sum4 t.l with
  | true=>exact ⟨_,.inl rfl,oper2t σ hσ n pid pep s.b t.b s.l t.l hpid hget (hG.fine hs) hs hH.most ht⟩
  | false=>
   rw[if_neg (by simp)]
   exact operIs_cap (oper2 σ hσ n pid pep s.b t.b s.l t.l hpid hget (hG.fine hs) hs (hH.fine ht) ht hp ho hk hR) hR hl
theorem own_same{n:LNX}(h:own18 n=true)(h9:n.op≠9)(h10:n.op≠10)(h11:n.op≠11):own13 n=true:=by
 unfold own18 at h
 rw[if_neg h9,if_neg (fun h=>h.elim h10 h11)]at h
 exact h
structure Inv18 (nodes:List LNX) (k:Nat) (out:List (SlX Int)) (opn:List Nat):Prop where
 len:out.length=k
 tile:tileK nodes k opn.reverse
 lt:∀ p∈opn,p < k
 good:∀ x∈out,Good x.l
theorem group_kinds(n:LNX)(a:List Int)(h4:n.op=4)(hF:NFit n)(hk:n.keys.length≤8000)(hg:n.aggs.length≤8000)(ha:a.length≤8000):∃ R ok l,IsL R l∧(ok=true→0 < l.length)∧(∀ τ,Firm τ→acall code I.qac [n.a,.imm false (a.map (.int .i64)),.nil0] τ=some (.tup [R,.bool ok],τ)) ∧
  ansL ok l=(keysF a n.keys).bind fun ks=>if aggsOk n a then some (ks++n.aggs.map fun g=>(aggK a g).2) else none:=by
 have hm:m32≤most:=by decide
 have h:=fun τ hτ=>k13_4 n false a .nil0 h4 hk hg (fun g hg=>Nat.le_trans (hF.args g hg) hm) ha τ hτ
 cases hq:keysF a n.keys with
 | none=>
  rw[hq]at h
  exact ⟨.nil0,false,[],.inl ⟨rfl,rfl⟩,fun h=>(by cases h),h,rfl⟩
 | some ks=>
  rw[hq]at h
  refine ⟨_,_,_,isL_imm false _,fun hok=>?_,h,?_⟩
  ·rw[gr13_eq]at hok
   unfold aggsOk at hok
   simp only[Bool.and_eq_true,decide_eq_true_eq]at hok
   rw[List.length_append,List.length_map,keysF_len hq]
   exact hok.1.2
  ·rw[ans_group n a ks hq];rfl
end Go.AM
end
section
namespace Go.AM
open P
set_option maxHeartbeats 8000000
structure NSm (n:LNX):Prop extends NFit n where
 keys':n.keys.length≤8000
 aggs':n.aggs.length≤8000
 items':n.items.length≤8000
theorem parts13_of{n:LNX}(h9:n.op≠9)(h10:n.op≠10)(h11:n.op≠11):parts13 n.op=partsF n.op:=by
 rw[← parts18_eq]
 unfold parts18
 rw[if_neg h9,if_neg (fun h=>h.elim h10 h11)]
theorem step18{bn:Bool}{nodes:List LNX}(hN:nodes.length≤60){k:Nat}{n:LNX}(hn:nodes[k]?=some n)(hF:NSm n){out:List (SlX Int)}{opn:List Nat}(hI:Inv18 nodes k out opn) :
  Next18 bn nodes k out (T18 bn nodes k out) ((stepL nodes k n (out.map (·.l)) opn).map (·.1)):=by
 have hm:m32≤most:=by decide
 have hpi:=pre_is hn hI.tile
 have hlt:=(List.getElem?_eq_some_iff.1 hn).1
 cases hpre:preF n opn with
 | none=>
  rw[hpre]at hpi
  have e:stepL nodes k n (out.map (·.l)) opn=none:=by unfold stepL;rw[hpre]
  rw[e]
  exact r18_bad bn nodes hN k n hn out hI.len hpi.symm
 | some ps=>
  rw[hpre]at hpi
  have hso:=hpi.symm
  simp only[Option.isSome_some,Bool.and_eq_true,decide_eq_true_eq]at hso
  have hR:R18 bn nodes k n out:=⟨hN,hn,hI.len,hso.1,hso.2⟩
  have hown:=hso.2
  rcases pre_cases hpre with ⟨rfl,hl,hr,hp⟩|⟨p,rfl,hl,hr,hp,hpo⟩|⟨p,q,rfl,hl,hr,hp,hpo,hqo⟩
  ·
   have h19:n.op=1∨n.op=9:=by
    unfold partsF at hp
    split at hp
    ·assumption
    ·split at hp
     ·cases hp
     ·split at hp<;>cases hp
   rcases h19 with h1|h9
   ·rw[step_zero hpre (by omega) (by omega)]
    have hk:=fun τ hτ=>k13_1 n .nil0 .nil0 h1 (Nat.le_trans hF.kinds hm) τ hτ
    have ho:=oper0 (st18 k 0 out n []) (firm18 k 0 out n []) n hl hr (by rw[parts13_of (by omega) (by omega) (by omega)];exact hp) (own_same hown (by omega) (by omega) (by omega)) hk (isL_imm _ _)
    have hO:=operIs_cap ho (isL_imm _ _) (fun h=>by
     unfold scanF at h
     simp only[Bool.and_eq_true,decide_eq_true_eq]at h
     omega)
    have e:opL nodes n []=if scanF n=true then some n.kinds else none:=by simp only[opL,if_pos h1]
    rw[e,cap_ans]
    exact r18_1 hR h1 hl hr hO
   ·rw[step_zero hpre (by omega) (by omega)]
    have e:opL nodes n []=if inputF n=true then some n.kinds else none:=by simp only[opL];rw[if_neg (by omega),if_pos h9]
    have e2:capO (opL nodes n [])=if inputF n=true then some n.kinds else none:=by
     rw[e]
     unfold capO
     cases hi:inputF n with
     | false=>rfl
     | true=>
      unfold inputF at hi
      simp only[Bool.and_eq_true,decide_eq_true_eq]at hi
      simp only[if_true,Option.bind_some]
      rw[if_neg (by omega)]
    rw[e2]
    exact r18_9 hR h9 hl hr (Nat.le_trans hF.kinds hm)
  ·
   have hpk:=hI.lt p hpo
   obtain ⟨s,hs⟩:∃ s,out[p]?=some s:=⟨_,List.getElem?_eq_getElem (by rw[hI.len];exact hpk)⟩
   have hG:=hI.good s (List.mem_of_getElem? hs)
   have hgd:(out.map (·.l)).getD p []=s.l:=by rw[List.getD_eq_getElem?_getD,List.getElem?_map,hs];rfl
   rw[step_one hpre hgd]
   have hsl:s.l.length≤8000:=by have:=hG.most;omega
   by_cases h11:n.op=11
   ·have hm':nodes[p]?=some nodes[p]:=List.getElem?_eq_getElem (by omega)
    have e:opL nodes n [s.l]=if (fin18 n s.l).2=true∧nodes[p].op=9 then some (fin18 n s.l).1 else none:=by
     simp only[opL]
     rw[if_neg (by omega),if_neg (by omega),if_neg (by omega),if_neg (by omega),if_neg (by omega),if_neg (by omega),if_pos h11,hl,show ((p:Int)).toNat=p by omega,hm',fin18_eq n s.l (fun h=>by have:=hG.pos;rw[h]at this;simp at this)]
     simp only[Option.bind_some]
     unfold finHead
     cases (finKeys s.l 0 n.keys&&finAggs s.l n.keys.length n.aggs) with
     | false=>simp
     | true=>
      by_cases h9:nodes[p].op=9
      ·rw[h9]
       simp only[beq_self_eq_true,Bool.true_and,Bool.and_true]
       cases (decide (n.keys.length≤3)&&decide (n.aggs.length≤12)&&n.keys.length+n.aggs.length == s.l.length)<;>simp
      ·rw[beq_f h9]
       simp[h9]
    have e2:capO (opL nodes n [s.l])=opL nodes n [s.l]:=by
     have hg:=fun r hr=>opL_good (nodes:=nodes) (n:=n) (ps:=[s.l]) (fun a ha=>by rw[List.mem_singleton.1 ha];exact hG) (r:=r) hr
     rw[e]
     unfold capO
     split
     ·simp only[Option.bind_some]
      rw[if_neg]
      rename_i hc
      have hf:=hc.1
      rw[fin18_eq n s.l (fun h=>by have:=hG.pos;rw[h]at this;simp at this)]at hf ⊢
      split at hf
      ·rename_i hx
       rw[if_pos hx]
       simp only
       rw[finSet_len]
       have:=hG.most
       omega
      ·cases hf
     ·rfl
    have hr8:rootO n k nodes.length (if ((n.op != 11)&&sum4 s.l)=true then none else capO (opL nodes n [s.l]))=opL nodes n [s.l]:=by
     unfold rootO rootOk
     rw[h11,e2]
     rfl
    rw[hr8,e]
    exact r18_11 hR h11 hl hr hs hm' hsl hF.keys hF.aggs
   ·have h11':(n.op != 11)=true:=by simp[h11]
    rw[h11',Bool.true_and]
    by_cases h10:n.op=10
    ·have hown4:own13 { n with op:=4 }=true:=by
      unfold own18 at hown
      rw[if_neg (by omega),if_pos (.inl h10)]at hown
      exact hown
     have hF4:NFit { n with op:=4,l:=1 }:=⟨hF.kinds,hF.cond,hF.keys,hF.aggs,hF.args,hF.items,hF.exprs,hF.ords⟩
     obtain ⟨R,ok,l,hRL,hpos,hk,hans⟩:=group_kinds { n with op:=4,l:=1 } s.l rfl hF4 hF.keys' hF.aggs' hsl
     have hO:=oper_one (firm18g k 1 out n { n with op:=4 } [s]) { n with op:=4 } (pid:=2) (pep:=1) (s:=s) (by simp) rfl hG hr rfl hown4 hk hRL hpos
     have hO':OperIs (st18 k 1 out n [s]++[.arr 12 0 [LNX.a { n with op:=4 }]]) { n with op:=4 } (.sl 2 1 0 1) (if sum4 s.l=true then none else ansL ok l):=hO
     have hans':ansL ok l=(keysF s.l n.keys).bind fun ks=>if aggsOk n s.l then some (ks++n.aggs.map fun g=>(aggK s.l g).2) else none:=hans
     have key:∀ r,ansL ok l=some r→∃ ks,keysF s.l n.keys=some ks∧aggsOk n s.l=true∧r=ks++n.aggs.map fun g=>(aggK s.l g).2:=fun r hr=>by
      rw[hans']at hr
      cases hq:keysF s.l n.keys with
      | none=>rw[hq]at hr;cases hr
      | some ks=>
       rw[hq]at hr
       simp only[Option.bind_some]at hr
       split at hr
       ·cases hr;exact ⟨ks,rfl,by assumption,rfl⟩
       ·cases hr
     have hlen:∀ r,(if sum4 s.l=true then none else ansL ok l)=some r→r.length=n.keys.length+n.aggs.length∧r.length≤8000:=fun r hr=>by
      split at hr
      ·cases hr
      ·obtain ⟨ks,k1,k2,rfl⟩:=key r hr
       unfold aggsOk at k2
       simp only[Bool.and_eq_true,decide_eq_true_eq]at k2
       rw[List.length_append,List.length_map,keysF_len k1]
       omega
     have hfin:=r18_10 hR h10 hl hr hs hO' hlen
     have e:(if sum4 s.l=true then none else ansL ok l).map (set18L n.keys.length n.aggs 0)=if sum4 s.l=true then none else capO (opL nodes n [s.l]):=by
      split
      ·rfl
      ·have eo:opL nodes n [s.l]=(keysF s.l n.keys).bind fun ks=>if aggsOk n s.l then some (ks++n.aggs.map (partK s.l)) else none:=by
        simp only[opL]
        rw[if_neg (by omega),if_neg (by omega),if_neg (by omega),if_neg (by omega),if_neg (by omega),if_pos h10]
       rw[eo,hans']
       cases hq:keysF s.l n.keys with
       | none=>rfl
       | some ks=>
        simp only[Option.bind_some]
        cases ha:aggsOk n s.l with
        | false=>rfl
        | true=>
         simp only[if_true,Option.map_some]
         unfold capO
         simp only[Option.bind_some]
         have ha':=ha
         unfold aggsOk at ha'
         simp only[Bool.and_eq_true,decide_eq_true_eq]at ha'
         have hkl:=keysF_len hq
         rw[if_neg (by rw[List.length_append,List.length_map];omega)]
         have hs18:=set18L_eq s.l ks n n.aggs.length 0 (by omega)
         have e0:curP s.l ks n 0=ks++n.aggs.map fun g=>(aggK s.l g).2:=by simp[curP]
         have e1:curP s.l ks n n.aggs.length=ks++n.aggs.map (partK s.l):=by simp[curP]
         rw[e0,e1,List.drop_zero,hkl]at hs18
         rw[hs18]
     rw[e]at hfin
     exact hfin
    ·have hp13:parts13 n.op=1:=by rw[parts13_of (fun h=>by rw[h]at hp;exact absurd hp (by decide)) h10 h11];exact hp
     have h9:n.op≠9:=fun h=>by rw[h]at hp;exact absurd hp (by decide)
     have h1:n.op≠1:=fun h=>by rw[h]at hp;exact absurd hp (by decide)
     have ho:=own_same hown h9 h10 h11
     have h5:n.op=3∨n.op=4∨n.op=5∨n.op=6∨n.op=8:=by
      unfold parts13 at hp13
      split at hp13
      ·cases hp13
      ·split at hp13
       ·cases hp13
       ·split at hp13
        ·assumption
        ·cases hp13
     have go:∀ (R:AVal) (ok:Bool) (l:List Int),IsL R l→(ok=true→0 < l.length)→(∀ τ,Firm τ→acall code I.qac [LNX.a { n with l:=1 },.imm false (s.l.map (.int .i64)),.nil0] τ=some (.tup [R,.bool ok],τ))→ansL ok l=capO (opL nodes n [s.l]) →
       Next18 bn nodes k out (T18 bn nodes k out) (rootO n k nodes.length (if sum4 s.l=true then none else capO (opL nodes n [s.l]))):=fun R ok l hRL hpos hk he=>by
      have hO:=oper_one (firm18 k 1 out n [s]) n (pid:=2) (pep:=1) (s:=s) (by simp) rfl hG hr hp13 ho hk hRL hpos
      rw[← he]
      exact r18_p1 hR h1 h9 h10 h11 hl hr hs hO
     rcases h5 with h|h|h|h|h
     ·refine go _ _ _ (isL_imm false s.l) (fun _=>hG.pos) (fun τ hτ=>k13_3 { n with l:=1 } false s.l .nil0 h (Nat.le_trans hF.cond hm) hsl τ hτ) ?_
      rw[← cap_ans]
      simp only[opL,if_pos h]
     ·have hF4:NFit { n with l:=1 }:=⟨hF.kinds,hF.cond,hF.keys,hF.aggs,hF.args,hF.items,hF.exprs,hF.ords⟩
      obtain ⟨R,ok,l,hRL,hpos,hk,hans⟩:=group_kinds { n with l:=1 } s.l h hF4 hF.keys' hF.aggs' hsl
      refine go R ok l hRL hpos hk ?_
      rw[hans]
      have eo:opL nodes n [s.l]=(keysF s.l n.keys).bind fun ks=>if aggsOk n s.l then some (ks++n.aggs.map fun g=>(aggK s.l g).2) else none:=by
       simp only[opL]
       rw[if_neg (by omega),if_pos h]
      rw[eo]
      show (keysF s.l n.keys).bind (fun ks=>if aggsOk n s.l then some (ks++n.aggs.map fun g=>(aggK s.l g).2) else none)=_
      cases hq:keysF s.l n.keys with
      | none=>rfl
      | some ks=>
       simp only[Option.bind_some]
       cases ha:aggsOk n s.l with
       | false=>rfl
       | true=>
        unfold aggsOk at ha
        simp only[Bool.and_eq_true,decide_eq_true_eq]at ha
        simp only[if_true]
        unfold capO
        simp only[Option.bind_some]
        have hkl:=keysF_len hq
        rw[if_neg (by rw[List.length_append,List.length_map];omega)]
     ·refine go _ _ _ (isL_imm false _) (fun hok=>?_) (fun τ hτ=>k13_5 { n with l:=1 } false s.l .nil0 h hF.items' (fun e he=>Nat.le_trans (hF.exprs e he) hm) hsl τ hτ) ?_
      ·simp only[Bool.and_eq_true,decide_eq_true_eq]at hok
       rw[List.length_map];exact hok.1.2
      ·have eo:opL nodes n [s.l]=(itemsF s.l n.items).bind fun ks=>if 0 < ks.length then some ks else none:=by
        simp only[opL]
        rw[if_neg (by omega),if_neg (by omega),if_pos h]
       rw[eo,items_eq]
       unfold ansL capO
       cases (n.items.all fun e=>(kindF e.l s.l).2 == 0) with
       | false=>rw[if_neg (by simp)];rfl
       | true=>
        simp only[if_true,Option.bind_some,Bool.true_and,List.length_map]
        by_cases c1:0 < n.items.length
        ·rw[if_pos c1]
         simp only[Option.bind_some,List.length_map]
         by_cases c2:16 < n.items.length
         ·rw[if_pos c2,if_neg (by omega)]
         ·rw[if_neg c2,if_pos ⟨by simp;omega,by omega⟩]
        ·rw[if_neg c1,if_neg (by simp;omega)];rfl
     ·refine go _ _ _ (isL_imm false s.l) (fun _=>hG.pos) (fun τ hτ=>k13_6 { n with l:=1 } false s.l .nil0 h τ hτ) ?_
      have eo:opL nodes n [s.l]=some s.l:=by
       simp only[opL]
       rw[if_neg (by omega),if_neg (by omega),if_neg (by omega),if_pos h]
      rw[← cap_ans,eo]
      rfl
     ·refine go _ _ _ (isL_imm false s.l) (fun _=>hG.pos) (fun τ hτ=>k13_8 { n with l:=1 } false s.l .nil0 h (Nat.le_trans hF.ords hm) τ hτ) ?_
      have eo:opL nodes n [s.l]=if sortF n s.l then some s.l else none:=by
       simp only[opL]
       rw[if_neg (by omega),if_neg (by omega),if_neg (by omega),if_neg (by omega),if_pos h]
      rw[← cap_ans,eo]
      rfl
  ·
   have hpk:=hI.lt p hpo
   have hqk:=hI.lt q hqo
   obtain ⟨s,hs⟩:∃ s,out[p]?=some s:=⟨_,List.getElem?_eq_getElem (by rw[hI.len];exact hpk)⟩
   obtain ⟨t,ht⟩:∃ t,out[q]?=some t:=⟨_,List.getElem?_eq_getElem (by rw[hI.len];exact hqk)⟩
   have hG:=hI.good s (List.mem_of_getElem? hs)
   have hH:=hI.good t (List.mem_of_getElem? ht)
   have hgd:(out.map (·.l)).getD p []=s.l:=by rw[List.getD_eq_getElem?_getD,List.getElem?_map,hs];rfl
   have hgq:(out.map (·.l)).getD q []=t.l:=by rw[List.getD_eq_getElem?_getD,List.getElem?_map,ht];rfl
   have hsl:s.l.length≤8000:=by have:=hG.most;omega
   have htl:t.l.length≤8000:=by have:=hH.most;omega
   have h27:n.op=2∨n.op=7:=by
    unfold partsF at hp
    split at hp
    ·cases hp
    ·split at hp
     ·assumption
     ·split at hp<;>cases hp
   rw[step_two hpre hgd hgq h27]
   have h9:n.op≠9:=by omega
   have h10:n.op≠10:=by omega
   have h11:n.op≠11:=by omega
   have hp13:parts13 n.op=2:=by rw[parts13_of h9 h10 h11];exact hp
   have ho:=own_same hown h9 h10 h11
   have go:∀ (R:AVal) (ok:Bool) (l:List Int),IsL R l→(ok=true→0 < l.length)→(∀ τ,Firm τ→acall code I.qac [LNX.a { n with l:=1,r:=3 },.imm false (s.l.map (.int .i64)),.imm false (t.l.map (.int .i64))] τ=some (.tup [R,.bool ok],τ))→ansL ok l=capO (opL nodes n [s.l,t.l]) →
     Next18 bn nodes k out (T18 bn nodes k out) (if (sum4 s.l || sum4 t.l)=true then none else capO (opL nodes n [s.l,t.l])):=fun R ok l hRL hpos hk he=>by
    have hO:=oper_two (firm18 k 2 out n [s,t]) n (pid:=2) (pep:=2) (s:=s) (t:=t) (by simp) rfl hG hH hp13 ho hk hRL hpos
    rw[← he]
    exact r18_p2 hR h27 hl hr hs ht hO
   have hne:s.l≠[]:=fun h=>by have:=hG.pos;rw[h]at this;simp at this
   have hne':t.l≠[]:=fun h=>by have:=hH.pos;rw[h]at this;simp at this
   rcases h27 with h|h
   ·refine go _ _ _ (isL_imm false _) (fun _=>by rw[List.length_append];have:=hG.pos;omega) (fun τ hτ=>k13_2 { n with l:=1,r:=3 } false false s.l t.l h (Nat.le_trans hF.cond hm) hne hne' hsl htl τ hτ) ?_
    rw[← cap_ans]
    simp only[opL,if_pos h]
   ·have eo:opL nodes n [s.l,t.l]=if s.l.length=t.l.length then unionF s.l t.l else none:=by
     simp only[opL]
     rw[if_neg (by omega),if_pos h]
    by_cases hab:s.l.length=t.l.length
    ·have hu:=ans_union s.l t.l hab hG.most
     refine go _ _ _ (isL_imm false _) (fun _=>?_) (fun τ hτ=>k13_7 { n with l:=1,r:=3 } false false s.l t.l h hsl hab τ hτ) ?_
     ·obtain ⟨r,q',h1,h2,_⟩:=un_fold t.l s.l 0 [] true (by simpa using hab)
      rw[h1]
      simp only[List.nil_append]
      have:=hG.pos;omega
     ·rw[hu,eo,if_pos hab]
      unfold capO
      cases hq:unionF s.l t.l with
      | none=>rfl
      | some r=>
       simp only[Option.bind_some]
       rw[if_neg (by rw[unionF_len hq];have:=hG.most;omega)]
    ·refine go .nil0 false [] (.inl ⟨rfl,rfl⟩) (fun h=>by cases h) (fun τ hτ=>k13_7n { n with l:=1,r:=3 } false false s.l t.l h hab τ hτ) ?_
     rw[eo,if_neg hab]
     rfl
end Go.AM
end
section
namespace Go.AM
open P
set_option maxHeartbeats 16000000
set_option maxRecDepth 8000
attribute [local simp] condRun_if when_if
theorem tile_end{l:List LNX}{k:Nat}{r:List Nat}(hk:0 < k)(h:tileK l k r):sizeK l k=k↔r.length=1:=by
 have hle:=sizeK_le l k
 match r,h with
 | [],h=>have:k=0:=h;omega
 | [p],h=>
  obtain ⟨_,h2,h3⟩:=h
  have:k - sizeK l k=0:=h3
  exact ⟨fun _=>rfl,fun _=>by omega⟩
 | p::q::r,h=>
  obtain ⟨_,h2,h3⟩:=h
  obtain ⟨h4,_,_⟩:=h3
  exact ⟨fun h=>by omega,fun h=>by simp at h⟩
theorem inv18_step{nodes:List LNX}{k:Nat}{n:LNX}(hn:nodes[k]?=some n){out:List (SlX Int)}{opn o':List Nat}{x:List Int}(hI:Inv18 nodes k out opn)(h:stepL nodes k n (out.map (·.l)) opn=some (x,o'))(b:Bool):Inv18 nodes (k+1) (out++[⟨b,x⟩]) o':=by
 unfold stepL at h
 cases hp:preF n opn with
 | none=>rw[hp]at h;cases h
 | some ps=>
  rw[hp]at h
  simp only at h
  split at h
  ·cases h
  ·cases ho:opL nodes n (ps.map fun p=>(out.map (·.l)).getD p []) with
   | none=>rw[ho]at h;cases h
   | some r=>
    rw[ho]at h
    simp only at h
    split at h
    ·cases h
    ·rename_i hw
     cases h
     refine ⟨by simp[hI.len],(pre_tile hn hI.tile hp).1,fun p hp'=>?_,fun y hy=>?_⟩
     ·rcases List.mem_append.1 hp' with h|h
      ·have:=hI.lt p (List.mem_of_mem_take h);omega
      ·rw[List.mem_singleton.1 h];omega
     ·rcases List.mem_append.1 hy with h|h
      ·exact hI.good y h
      ·rw[List.mem_singleton.1 h]
       show Good x
       refine opL_good (fun a ha=>?_) ho (by omega)
       obtain ⟨p,hpp,rfl⟩:=List.mem_map.1 ha
       have hlt:=parts_lt (l:=nodes) (k:=k) hp hI.lt p hpp
       have hlt':p < out.length:=by rw[hI.len];exact hlt
       have hg:out[p]?=some out[p]:=List.getElem?_eq_getElem hlt'
       rw[List.getD_eq_getElem?_getD,List.getElem?_map,hg]
       exact hI.good _ (List.getElem_mem _)
def g18(nodes:List LNX)(k:Nat)(n:LNX)(s:List (List Int)×List Nat):(List (List Int)×List Nat)⊕Nat:=
 match stepL nodes k n s.1 s.2 with
 | none=>.inr k
 | some (x,o')=>.inl (s.1++[x],o')
theorem g18_fold(nodes:List LNX):∀ (l:List LNX) (i:Nat) (s:List (List Int)×List Nat),foldL (g18 nodes) l i s=kgoL nodes l i s.1 s.2
 | [],i,s=>rfl
 | n::l,i,s=>by
  simp only[foldL,kgoL,g18]
  cases stepL nodes i n s.1 s.2 with
  | none=>rfl
  | some q=>exact g18_fold nodes l (i+1) _
abbrev S18e(bn:Bool)(nodes:List LNX)(out:List (SlX Int)):St:=
 ⟨[.imm bn (nodes.map LNX.a),.any,.any,.sl 0 nodes.length 0 nodes.length,.any,.any,.any,.any,.any,.any,.any,.bool false,.imm bn (nodes.map LNX.a),.int .i64 nodes.length,.int .i64 nodes.length,.bool false,.any,.any,.any,.any,.any,.any,.any,.any,.any,.any,.any],[.arr 1 nodes.length (out.map (SlX.c (.int .i64)))]⟩
theorem loopK18(bn:Bool)(nodes:List LNX)(hN:nodes.length≤60)(hF:∀ n∈nodes,NSm n) :
  match kgoL nodes nodes 0 [] [] with
  | .inl (L,o)=>∃ out,out.length=nodes.length∧tileK nodes nodes.length o.reverse∧rounds code 1 clr18 l_qae_0 (S18 bn nodes 0 [])=some (.ext 0,S18e bn nodes out)
  | .inr i=>∃ s,rounds code 1 clr18 l_qae_0 (S18 bn nodes 0 [])=some (.ret,s)∧thenLeave .pure [.env 1,.env 2] (some (.ret,s))=some (.tup [.imm false [],.int .i64 i]):=by
 have key:=rounds_listR (base:=1) (clr:=clr18) (b:=l_qae_0) nodes
  (fun k (s:List (List Int)×List Nat) t=>∃ out:List (SlX Int),out.map (·.l)=s.1∧Inv18 nodes k out s.2∧t=S18 bn nodes k out)
  (g18 nodes)
  (fun s o=>∃ out:List (SlX Int),Inv18 nodes nodes.length out s.2∧o=(.ext 0,S18e bn nodes out))
  (fun i o=>∃ s,o=(.ret,s)∧thenLeave .pure [.env 1,.env 2] (some (.ret,s))=some (.tup [.imm false [],.int .i64 i]))
  (fun k n s t hk hn ht=>by
   obtain ⟨L,opn⟩:=s
   obtain ⟨out,rfl,hI,rfl⟩:=ht
   have hs:=step18 (bn:=bn) hN hn (hF n (List.mem_of_getElem? hn)) hI
   unfold g18
   simp only at hI ⊢
   cases hq:stepL nodes k n (out.map (·.l)) opn with
   | none=>
    rw[hq]at hs
    obtain ⟨s,h1,h2⟩:=hs
    exact ⟨_,h1,s,rfl,h2⟩
   | some q=>
    obtain ⟨x,o'⟩:=q
    rw[hq]at hs
    obtain ⟨b,h1⟩:=hs
    exact ⟨_,h1,out++[⟨b,x⟩],by simp,inv18_step hn hI hq b,rfl⟩)
  (fun s t ht=>by
   obtain ⟨out,_,hI,rfl⟩:=ht
   exact ⟨_,by simp[S18,l_qae_0],out,hI,rfl⟩) ([],[]) _ ⟨[],rfl,⟨rfl,rfl,by simp,by simp⟩,rfl⟩
 rw[g18_fold]at key
 cases hq:kgoL nodes nodes 0 [] [] with
 | inl q=>
  obtain ⟨L,o⟩:=q
  rw[hq]at key
  obtain ⟨_,h1,out,hI,rfl⟩:=key
  exact ⟨out,hI.len,hI.tile,h1⟩
 | inr i=>
  rw[hq]at key
  obtain ⟨_,h1,s,rfl,h2⟩:=key
  exact ⟨s,h1,h2⟩
def at18(nodes:List LNX):Int:=match kindsF nodes with
 | .inl _=>-1
 | .inr i=>i
theorem Kinds18_v(bn:Bool)(nodes:List LNX)(hF:∀ n∈nodes,NSm n)(hN:nodes.length≤most):∃ X,pcall I.qae [.imm bn (nodes.map LNX.a)]=some (.tup [X,.int .i64 (at18 nodes)]):=by
 rw[pcall_eq c_qae rfl]
 unfold at18 kindsF
 by_cases h1:nodes.length < 1
 ·have h1':((nodes.length:Int) < 1):=by omega
  rw[if_pos (.inl h1)]
  exact ⟨_,by simp[f_qae,b_qae,h1'];rfl⟩
 by_cases h2:60 < nodes.length
 ·have h1':¬((nodes.length:Int) < 1):=by omega
  have h2':((60:Int) < nodes.length):=by omega
  rw[if_pos (.inr h2)]
  exact ⟨_,by simp[f_qae,b_qae,h1',h2'];rfl⟩
 rw[if_neg (fun h=>h.elim h1 h2)]
 have h1':¬((nodes.length:Int) < 1):=by omega
 have h2':¬((60:Int) < nodes.length):=by omega
 have hl:=loopK18 bn nodes (by omega) hF
 have hk:=kgoL_of nodes nodes 0 [] []
 rw[List.map_nil]at hk
 rw[hk]at hl
 have hw:IntKind.i64.wrap ((nodes.length:Int) - 1)=(nodes.length:Int) - 1:=wrap64_id (by omega)
 have hsz:=fun b=>size18_v nodes hN nodes.length b (Nat.le_refl _)
 cases hg:kgo nodes nodes 0 [] [] with
 | inr i=>
  rw[hg]at hl
  obtain ⟨s,h3,h4⟩:=hl
  simp only[S18,clr18]at h3
  simp only[show ((0:Nat):Int)=0 from rfl]at h3
  simp at h3
  exact ⟨_,by simp[f_qae,b_qae,h1',h2',h3,-thenLeave_ret];exact h4⟩
 | inl q=>
  obtain ⟨ks,o⟩:=q
  rw[hg]at hl
  obtain ⟨out,hlen,ht,h3⟩:=hl
  simp only[S18,S18e,clr18]at h3
  simp only[show ((0:Nat):Int)=0 from rfl]at h3
  simp at h3
  have he:=tile_end (by omega) ht
  rw[List.length_reverse]at he
  simp only
  by_cases ho:o.length=1
  ·rw[if_pos ho]
   have hs:=he.2 ho
   rw[hs]at hsz
   exact ⟨_,by simp[f_qae,b_qae,h1',h2',h3,hw,hsz];rfl⟩
  ·rw[if_neg ho]
   have hs:sizeK nodes nodes.length≠nodes.length:=fun h=>ho (he.1 h)
   have hs':((sizeK nodes nodes.length:Int) != (nodes.length:Int))=true:=by simp;omega
   have hc:((nodes.length - 1:Nat):Int)=(nodes.length:Int) - 1:=by omega
   exact ⟨_,by simp[f_qae,b_qae,h1',h2',h3,hw,hsz,hs,hs',hc];rfl⟩
end Go.AM
end
section
namespace Go.AM
open P
set_option maxHeartbeats 4000000
set_option maxRecDepth 8000
abbrev SL(α:Type):={ l:List α // l.length≤maxLen }
def slA{α:Type}(f:α→AVal)(l:SL α):AVal:=.imm true (l.1.map f)
theorem wrap_sl{k n:Nat}(h1:k < n)(h2:n≤maxLen):IntKind.i64.wrap ((k:Int)+1)=((k+1:Nat):Int):=by
 have:n≤9223372036854775807:=h2
 rw[wrap64_id (by omega)]
 omega
theorem same_diff{α:Type}[DecidableEq α]:∀ {l m:List α},l.length=m.length→∃ d,d≤l.length∧(∀ k (_:k < d) (h1:k < l.length) (h2:k < m.length),l[k]=m[k]) ∧
  ((d=l.length∧decide (l=m)=true)∨(∃ (h1:d < l.length) (h2:d < m.length),l[d]≠m[d]∧decide (l=m)=false))
 | [],[],_=>⟨0,Nat.le_refl _,fun k h=>absurd h (Nat.not_lt_zero _),.inl ⟨rfl,rfl⟩⟩
 | [],_::_,h=>by cases h
 | _::_,[],h=>by cases h
 | a::l,b::m,h=>by
  by_cases hab:a=b
  ·obtain ⟨d,h1,h2,h3⟩:=same_diff (l:=l) (m:=m) (by simpa using h)
   refine ⟨d+1,by simpa using h1,fun k hk a1 a2=>?_,?_⟩
   ·cases k with
    | zero=>exact hab
    | succ k=>exact h2 k (by omega) (by simpa using a1) (by simpa using a2)
   ·rcases h3 with ⟨e1,e2⟩|⟨q1,q2,e1,e2⟩
    ·exact .inl ⟨by simp[e1],by simpa [hab] using e2⟩
    ·exact .inr ⟨by simpa using q1,by simpa using q2,by simpa using e1,by simpa [hab] using e2⟩
  ·exact ⟨0,Nat.zero_le _,fun k h=>absurd h (Nat.not_lt_zero _),.inr ⟨by simp,by simp,hab,by simp[hab]⟩⟩
theorem map_get{α:Type}{f:α→AVal}{l:List α}{k:Nat}(h:k < l.length):(l.map f)[k]?=some (f l[k]):=by simp[h]
theorem bne_len{n m:Nat}(h:¬n=m):(((n:Int)) != (m:Int))=true:=by simp;omega
end Go.AM
end
section
namespace Go.AM
open P
set_option maxHeartbeats 8000000
set_option maxRecDepth 8000
@[simp] theorem ncells_slA{α:Type}(f:α→AVal)(l:SL α):ncells (slA f l)=1:=rfl
@[simp] theorem isAgg_slA{α:Type}(f:α→AVal)(l:SL α):isAgg (slA f l)=false:=rfl
@[simp] theorem cellsOf_slA{α:Type}(f:α→AVal)(l:SL α):cellsOf (slA f l)=[slA f l]:=rfl
@[simp] theorem fz_slA{α:Type}(f:α→AVal)(l:SL α)(top:Bool)(base:Nat)(σ:Store)(n:Nat):fz true top base σ (n+1) (slA f l)=slA f l:=by simp[slA]
theorem sl_dec{α:Type}[DecidableEq α](l m:SL α):decide (l.1=m.1)=decide (l=m):=by simp[Subtype.ext_iff]
theorem bq{α:Type}[BEq α][LawfulBEq α]{a b:α}(h:¬a=b):(a == b)=false:=by simp[h]
abbrev RowT:=SL Val
abbrev RowT.a(r:RowT):AVal:=slA Val.a r
structure BatchT where
 rows:SL RowT
 ends:Bool
 count:Int
 deriving DecidableEq
def BatchT.a(b:BatchT):AVal:=.agg [slA RowT.a b.rows,.bool b.ends,.int .u64 b.count]
structure HeldT where
 seq:Int
 batch:BatchT
 deriving DecidableEq
def HeldT.a(b:HeldT):AVal:=.agg [.int .u64 b.seq,slA RowT.a b.batch.rows,.bool b.batch.ends,.int .u64 b.batch.count]
structure RcvT where
 session:Int
 next:Int
 ahead:SL HeldT
 buffer:SL BatchT
 room:Int
 over:Bool
 deriving DecidableEq
def RcvT.c(b:RcvT):List AVal:=[.int .u32 b.session,.int .u64 b.next,slA HeldT.a b.ahead,slA BatchT.a b.buffer,.int .i64 b.room,.bool b.over]
structure SndT where
 session:Int
 base:Int
 queue:SL BatchT
 sent:Int
 limit:Int
 timer:Int
 ended:Bool
 deriving DecidableEq
def SndT.c(b:SndT):List AVal:=[.int .u32 b.session,.int .u64 b.base,slA BatchT.a b.queue,.int .u64 b.sent,.int .u64 b.limit,.int .i64 b.timer,.bool b.ended]
structure InT where
 frag:Int
 origin:Int
 rcv:RcvT
 rows:SL RowT
 deriving DecidableEq
def InT.a(b:InT):AVal:=.agg [.int .i64 b.frag,.int .i64 b.origin,.int .u32 b.rcv.session,.int .u64 b.rcv.next,slA HeldT.a b.rcv.ahead,slA BatchT.a b.rcv.buffer,.int .i64 b.rcv.room,.bool b.rcv.over,slA RowT.a b.rows]
structure OutT where
 dest:Int
 snd:SndT
 rest:SL RowT
 deriving DecidableEq
def OutT.a(b:OutT):AVal:=.agg [.int .i64 b.dest,.int .u32 b.snd.session,.int .u64 b.snd.base,slA BatchT.a b.snd.queue,.int .u64 b.snd.sent,.int .u64 b.snd.limit,.int .i64 b.snd.timer,.bool b.snd.ended,slA RowT.a b.rest]
end Go.AM
end
section
namespace Go.AM
open P
set_option maxHeartbeats 8000000
set_option maxRecDepth 8000
structure OrdT where
 col:Int
 down:Bool
 deriving DecidableEq
def OrdT.a(o:OrdT):AVal:=.agg [.int .i64 o.col,.bool o.down]
abbrev ExprT:=SL EN
def ExprT.a(e:ExprT):AVal:=.agg [slA EN.a e]
structure AggT where
 kind:Int
 arg:ExprT
 deriving DecidableEq
def AggT.a(g:AggT):AVal:=.agg [.int .i64 g.kind,slA EN.a g.arg]
structure LNT where
 op:Int
 l:Int
 r:Int
 tab:Int
 cols:SL Int
 flag:Bool
 pred:ExprT
 keys:SL Int
 aggs:SL AggT
 outs:SL ExprT
 ords:SL OrdT
 limit:Int
 deriving DecidableEq
def LNT.a(n:LNT):AVal:=.agg [.int .i64 n.op,.int .i64 n.l,.int .i64 n.r,.int .i64 n.tab,slA (AVal.int .i64) n.cols,.bool n.flag,slA EN.a n.pred,slA (AVal.int .i64) n.keys,slA AggT.a n.aggs,slA ExprT.a n.outs,slA OrdT.a n.ords,.int .i64 n.limit]
end Go.AM
end
section
namespace Go.AM
open P
set_option maxHeartbeats 8000000
set_option maxRecDepth 8000
structure FragT where
 nodes:SL LNT
 at':Int
 way:Int
 cols:SL Int
 deriving DecidableEq
def FragT.c(n:FragT):List AVal:=[slA LNT.a n.nodes,.int .i64 n.at',.int .i64 n.way,slA (AVal.int .i64) n.cols]
def FragT.a(n:FragT):AVal:=.agg n.c
@[simp] theorem cellsOf_lst(xs:List AVal):cellsOf (.lst xs)=[.lst xs]:=rfl
structure TaskT where
 epoch:Int
 sites:Int
 number:Int
 node:Int
 frag:FragT
 state:Int
 ins:SL InT
 outs:SL OutT
 rows:SL RowT
 err:Int
 deriving DecidableEq
def TaskT.a(t:TaskT):AVal:=.agg [.int .i64 t.epoch,.int .i64 t.sites,.int .i64 t.number,.int .i64 t.node,slA LNT.a t.frag.nodes,.int .i64 t.frag.at',.int .i64 t.frag.way,slA (AVal.int .i64) t.frag.cols,.int .i64 t.state,slA InT.a t.ins,slA OutT.a t.outs,slA RowT.a t.rows,.int .i64 t.err]
end Go.AM
end
section
namespace Go.AM
open P
set_option maxHeartbeats 4000000
set_option maxRecDepth 8000
theorem bn{α:Type}[BEq α][LawfulBEq α]{a b:α}(h:¬a=b):(a != b)=true:=by simp[h]
theorem ints_Same_23(a b:SL Int):pcall I.qy [slA (AVal.int .i64) a,slA (AVal.int .i64) b]=some (.bool (decide (a=b))):=by
 rw[pcall_eq c_qy rfl,← sl_dec]
 obtain ⟨l,hn⟩:=a
 obtain ⟨m,hm⟩:=b
 simp only[slA]
 have hf:∀ a:Int,ncells ((AVal.int .i64) a)=1∧isAgg ((AVal.int .i64) a)=false:=fun a=>⟨rfl,rfl⟩
 have hz:∀ (a:Int) (top:Bool) (base:Nat) (σ:Store) (n:Nat),fz true top base σ (n+3) ((AVal.int .i64) a)=(AVal.int .i64) a:=fun a top base σ n=>by simp
 have hc:∀ a b:Int,bin .neq (.int .i64 a) (.int .i64 b)=some (.bool (!decide (a=b))):=fun a b=>by by_cases h:a=b<;>simp[h]
 generalize hX:l.map (AVal.int .i64)=xs
 generalize hY:m.map (AVal.int .i64)=ys
 have lX:xs.length=l.length:=by rw[← hX];simp
 have lY:ys.length=m.length:=by rw[← hY];simp
 by_cases hlen:l.length=m.length
 ·obtain ⟨d,h1,h2,h3⟩:=same_diff hlen
  have hstep:∀ k,k < d→thenLoop 0 [2,5,6] l_qy_0 (run code l_qy_0 ⟨[.imm true xs,.imm true ys,.any,.int .i64 k,.bool false,.any,.any],[]⟩)=rounds code 0 [2,5,6] l_qy_0 ⟨[.imm true xs,.imm true ys,.any,.int .i64 (k+1:Nat),.bool false,.any,.any],[]⟩:=fun k hk=>by
   have a1:k < l.length:=by omega
   have a2:k < m.length:=by omega
   have e1:xs[k]?=some ((AVal.int .i64) l[k]):=by rw[← hX];exact map_get a1
   have e2:ys[k]?=some ((AVal.int .i64) m[k]):=by rw[← hY];exact map_get a2
   have e3:=hc l[k] m[k]
   have e4:=hf l[k]
   have e5:=hf m[k]
   have e6:=h2 k hk a1 a2
   rw[e6]at e1 e3 e4
   have i1:((k:Int) < (l.length:Int)):=by omega
   have i2:bin .lss (.int .i64 (k:Int)) (.int .i64 (l.length:Int))=some (.bool true):=by simp[i1]
   have i3:bin .add (.int .i64 (k:Int)) (.int .i64 1)=some (.int .i64 ((k+1:Nat):Int)):=by simp[wrap_sl a1 hn]
   simp[l_qy_0,-eqa,e1,e2,e3,e4,e5,i1,i2,i3,lX,hz,wrap_sl a1 hn,roundEnd]
  rcases h3 with ⟨e1,e2⟩|⟨q1,q2,e1,e2⟩
  ·have hloop:=rounds_iter (base:=0) (clr:=[2,5,6]) (b:=l_qy_0) (fun k=>⟨[.imm true xs,.imm true ys,.any,.int .i64 k,.bool false,.any,.any],[]⟩) d _ hstep (by
    subst e1
    simp[l_qy_0,lX];rfl)
   simp[f_qy,b_qy,hlen,lX,lY]
   simp[hlen]at hloop
   rw[hloop,e2]
   simp
  ·have hloop:=rounds_iter (base:=0) (clr:=[2,5,6]) (b:=l_qy_0) (fun k=>⟨[.imm true xs,.imm true ys,.any,.int .i64 k,.bool false,.any,.any],[]⟩) d _ hstep (by
    have a1:xs[d]?=some ((AVal.int .i64) l[d]):=by rw[← hX];exact map_get q1
    have a2:ys[d]?=some ((AVal.int .i64) m[d]):=by rw[← hY];exact map_get q2
    have a3:=hc l[d] m[d]
    have e4:=hf l[d]
    have e5:=hf m[d]
    simp only[decide_eq_false e1,Bool.not_false]at a3
    have i1:((d:Int) < (l.length:Int)):=by omega
    have i2:bin .lss (.int .i64 (d:Int)) (.int .i64 (l.length:Int))=some (.bool true):=by simp[i1]
    simp[l_qy_0,-eqa,a1,a2,i1,i2,a3,e4,e5,lX,hz,bn e1];rfl)
   simp[f_qy,b_qy,hlen,lX,lY]
   simp[hlen]at hloop
   rw[hloop,e2]
   simp
 ·have hne:decide (l=m)=false:=decide_eq_false fun e=>hlen (congrArg List.length e)
  rw[hne]
  simp[f_qy,b_qy,bne_len hlen,lX,lY]
end Go.AM
end
section
namespace Go.AM
open P
set_option maxHeartbeats 4000000
set_option maxRecDepth 8000
end Go.AM
end
section
namespace Go.AM
open P
set_option maxHeartbeats 4000000
set_option maxRecDepth 8000
end Go.AM
end
section
namespace Go.AM
open P
set_option maxHeartbeats 4000000
set_option maxRecDepth 8000
theorem same_loop{α:Type}[DecidableEq α]{l m:List α}{base:Nat}{clr:List Nat}{b:ACode}{S:Nat→St}{E:Ex×St}{j:Nat}(hlen:l.length=m.length)
  (hst:∀ k (h1:k < l.length) (h2:k < m.length),l[k]=m[k]→thenLoop base clr b (run code b (S k))=rounds code base clr b (S (k+1)))
  (hend:thenLoop base clr b (run code b (S l.length))=some E)
  (hne:∀ k (h1:k < l.length) (h2:k < m.length),l[k]≠m[k]→∃ s,thenLoop base clr b (run code b (S k))=some (.ret,s)∧s.env[j]?=some (.bool false)) :
  (l=m∧rounds code base clr b (S 0)=some E)∨(¬l=m∧∃ s,rounds code base clr b (S 0)=some (.ret,s)∧s.env[j]?=some (.bool false)):=by
 obtain ⟨d,h1,h2,h3⟩:=same_diff hlen
 rcases h3 with ⟨e1,e2⟩|⟨q1,q2,e1,e2⟩
 ·refine .inl ⟨of_decide_eq_true e2,rounds_iter S d _ (fun k hk=>hst k (by omega) (by omega) (h2 k hk (by omega) (by omega))) ?_⟩
  rw[e1];exact hend
 ·obtain ⟨s,a1,a2⟩:=hne d q1 q2 e1
  exact .inr ⟨of_decide_eq_false e2,s,rounds_iter S d _ (fun k hk=>hst k (by omega) (by omega) (h2 k hk (by omega) (by omega))) a1,a2⟩
theorem leave_at{s:St}{j:Nat}{b:Bool}(h:s.env[j]?=some (.bool b)):thenLeave .pure [.env j] (some (.ret,s))=some (.bool b):=by
 simp[thenLeave,leave,h]
end Go.AM
end
section
namespace Go.AM
open P
set_option maxHeartbeats 4000000
set_option maxRecDepth 8000
theorem slA_imm{α:Type}(f:α→AVal)(l:SL α):∃ xs,slA f l=.imm true xs∧xs.length=l.1.length:=⟨_,rfl,by simp⟩
theorem eqa_en(a b:EN):eqa true [0,0,0,0,0,0,0,2] a.a b.a=some (.bool (!decide (a=b))):=by
 obtain ⟨t,l,r,c,k,n,u,s⟩:=a
 obtain ⟨t',l',r',c',k',n',u',s'⟩:=b
 simp[EN.a,eqa,Val.mk.injEq,EN.mk.injEq]
 repeat (split<;>simp_all)
theorem eqa_ord(a b:OrdT):eqa true [0,1] a.a b.a=some (.bool (!decide (a=b))):=by
 cases a;cases b
 simp[OrdT.a,eqa,OrdT.mk.injEq]
 repeat (split<;>simp_all)
theorem loop10 (a b:SL EN)(hlen:a.1.length=b.1.length):(a=b∧rounds code 2 [4,5,9,10] l_qo_0 ⟨[.agg [slA EN.a a],.agg [slA EN.a b],.ptr 0 0 0 0,.ptr 1 0 0 0,.any,.any,.bool false,.int .i64 a.1.length,.int .i64 0,.any,.any],[Obj.arr 1 0 [.agg [slA EN.a a]],Obj.arr 1 0 [.agg [slA EN.a b]]]⟩=some (.ext 0,⟨[.agg [slA EN.a a],.agg [slA EN.a b],.ptr 0 0 0 0,.ptr 1 0 0 0,.any,.any,.bool false,.int .i64 a.1.length,.int .i64 a.1.length,.bool false,.any],[Obj.arr 1 0 [.agg [slA EN.a a]],Obj.arr 1 0 [.agg [slA EN.a b]]]⟩)) ∨
  (¬a=b∧∃ s,rounds code 2 [4,5,9,10] l_qo_0 ⟨[.agg [slA EN.a a],.agg [slA EN.a b],.ptr 0 0 0 0,.ptr 1 0 0 0,.any,.any,.bool false,.int .i64 a.1.length,.int .i64 0,.any,.any],[Obj.arr 1 0 [.agg [slA EN.a a]],Obj.arr 1 0 [.agg [slA EN.a b]]]⟩=some (.ret,s)∧s.env[4]?=some (.bool false)):=by
 obtain ⟨l,hn⟩:=a
 obtain ⟨m,hm⟩:=b
 simp only[Subtype.mk.injEq]
 have hf:∀ a:EN,ncells (EN.a a)=8∧isAgg (EN.a a)=true:=fun a=>⟨rfl,rfl⟩
 have hz:∀ (a:EN) (top:Bool) (base:Nat) (σ:Store) (n:Nat),fz true top base σ (n+3) (EN.a a)=EN.a a:=fun a top base σ n=>by simp[EN.a]
 generalize hX:l.map EN.a=xs
 generalize hY:m.map EN.a=ys
 have hA:slA EN.a ⟨l,hn⟩=.imm true xs:=by simp[slA,hX]
 have hB:slA EN.a ⟨m,hm⟩=.imm true ys:=by simp[slA,hY]
 have lX:xs.length=l.length:=by rw[← hX];simp
 have lY:ys.length=m.length:=by rw[← hY];simp
 simp only[hA,hB]
 simp only at hlen
 refine same_loop (S:=fun k=>⟨[.agg [.imm true xs],.agg [.imm true ys],.ptr 0 0 0 0,.ptr 1 0 0 0,.any,.any,.bool false,.int .i64 l.length,.int .i64 k,.any,.any],[Obj.arr 1 0 [.agg [.imm true xs]],Obj.arr 1 0 [.agg [.imm true ys]]]⟩) hlen (fun k a1 a2 e6=>?_) ?_ (fun k a1 a2 e6=>?_)
 ·have e1:xs[k]?=some (EN.a l[k]):=by rw[← hX];exact map_get a1
  have e2:ys[k]?=some (EN.a m[k]):=by rw[← hY];exact map_get a2
  rw[e6]at e1
  have e4:=hf m[k]
  generalize m[k]=x at *
  have i1:((k:Int) < (l.length:Int)):=by omega
  have i2:bin .lss (.int .i64 (k:Int)) (.int .i64 (l.length:Int))=some (.bool true):=by simp[i1]
  have i3:bin .add (.int .i64 (k:Int)) (.int .i64 1)=some (.int .i64 ((k+1:Nat):Int)):=by simp[wrap_sl a1 hn]
  have e3:=eqa_en x x
  simp[l_qo_0,-eqa,e1,e2,e4,i1,i2,i3,lX,hz,wrap_sl a1 hn,roundEnd,e3]
 ·simp[l_qo_0,lX];all_goals rfl
 ·have e1:xs[k]?=some (EN.a l[k]):=by rw[← hX];exact map_get a1
  have e2:ys[k]?=some (EN.a m[k]):=by rw[← hY];exact map_get a2
  have e4:=hf m[k]
  have e5:=hf l[k]
  generalize m[k]=y at *
  generalize l[k]=x at *
  have i1:((k:Int) < (l.length:Int)):=by omega
  have i2:bin .lss (.int .i64 (k:Int)) (.int .i64 (l.length:Int))=some (.bool true):=by simp[i1]
  have e3:=eqa_en x y
  refine ⟨_,by simp[l_qo_0,-eqa,e1,e2,e4,e5,e6,bn e6,bq e6,i1,i2,lX,hz,e3];rfl,?_⟩
  rfl
theorem expr_Same_507(a b:ExprT):pcall I.qo [ExprT.a a,ExprT.a b]=some (.bool (decide (a=b))):=by
 rw[pcall_eq c_qo rfl]
 obtain ⟨xs,hA,lX⟩:=slA_imm EN.a a
 obtain ⟨ys,hB,lY⟩:=slA_imm EN.a b
 simp only[ExprT.a,hA,hB]
 by_cases hlen:a.1.length=b.1.length
 ·rcases loop10 a b hlen with ⟨h,hl⟩|⟨h,s,hl,hs⟩
  ·rw[decide_eq_true h]
   simp only[hA,hB,hlen]at hl
   simp[f_qo,b_qo,lX,lY,hlen,hl]
  ·rw[decide_eq_false h]
   simp only[hA,hB,hlen]at hl
   simp[f_qo,b_qo,lX,lY,hlen,hl,leave_at hs]
 ·have:¬a=b:=fun h=>hlen (by rw[h])
  simp[f_qo,b_qo,lX,lY,bne_len hlen,this]
end Go.AM
end
section
namespace Go.AM
open P
set_option maxHeartbeats 8000000
set_option maxRecDepth 8000
theorem exprs_Same_508(a b:SL ExprT):pcall I.qp [slA ExprT.a a,slA ExprT.a b]=some (.bool (decide (a=b))):=by
 rw[pcall_eq c_qp rfl,← sl_dec]
 obtain ⟨l,hn⟩:=a
 obtain ⟨m,hm⟩:=b
 simp only[slA]
 have hf:∀ a:ExprT,ncells (ExprT.a a)=1∧isAgg (ExprT.a a)=true:=fun a=>⟨rfl,rfl⟩
 have hz:∀ (a:ExprT) (top:Bool) (base:Nat) (σ:Store) (n:Nat),fz true top base σ (n+3) (ExprT.a a)=ExprT.a a:=fun a top base σ n=>by simp[ExprT.a]
 have hc:∀ a b:ExprT,pcall I.qo [ExprT.a a,ExprT.a b]=some (.bool (decide (a=b))):=fun a b=>expr_Same_507 a b
 generalize hX:l.map ExprT.a=xs
 generalize hY:m.map ExprT.a=ys
 have lX:xs.length=l.length:=by rw[← hX];simp
 have lY:ys.length=m.length:=by rw[← hY];simp
 by_cases hlen:l.length=m.length
 ·obtain ⟨d,h1,h2,h3⟩:=same_diff hlen
  have hstep:∀ k,k < d→thenLoop 0 [2,3,7,8] l_qp_0 (run code l_qp_0 ⟨[.imm true xs,.imm true ys,.any,.any,.bool false,.int .i64 l.length,.int .i64 k,.any,.any],[]⟩)=rounds code 0 [2,3,7,8] l_qp_0 ⟨[.imm true xs,.imm true ys,.any,.any,.bool false,.int .i64 l.length,.int .i64 (k+1:Nat),.any,.any],[]⟩:=fun k hk=>by
   have a1:k < l.length:=by omega
   have a2:k < m.length:=by omega
   have e1:xs[k]?=some (ExprT.a l[k]):=by rw[← hX];exact map_get a1
   have e2:ys[k]?=some (ExprT.a m[k]):=by rw[← hY];exact map_get a2
   have e3:=hc l[k] m[k]
   have e4:=hf l[k]
   have e5:=hf m[k]
   have e6:=h2 k hk a1 a2
   rw[e6]at e1 e3 e4;simp only[ExprT.a]at e1 e2 e3 e4 e5
   have i1:((k:Int) < (l.length:Int)):=by omega
   have i2:bin .lss (.int .i64 (k:Int)) (.int .i64 (l.length:Int))=some (.bool true):=by simp[i1]
   have i3:bin .add (.int .i64 (k:Int)) (.int .i64 1)=some (.int .i64 ((k+1:Nat):Int)):=by simp[wrap_sl a1 hn]
   simp[l_qp_0,-eqa,e1,e2,e3,e4,e5,i1,i2,i3,lX,wrap_sl a1 hn,roundEnd]
  rcases h3 with ⟨e1,e2⟩|⟨q1,q2,e1,e2⟩
  ·have hloop:=rounds_iter (base:=0) (clr:=[2,3,7,8]) (b:=l_qp_0) (fun k=>⟨[.imm true xs,.imm true ys,.any,.any,.bool false,.int .i64 l.length,.int .i64 k,.any,.any],[]⟩) d _ hstep (by
    subst e1
    simp[l_qp_0,lX];rfl)
   simp[f_qp,b_qp,hlen,lX,lY]
   simp[hlen]at hloop
   rw[hloop,e2]
   simp
  ·have hloop:=rounds_iter (base:=0) (clr:=[2,3,7,8]) (b:=l_qp_0) (fun k=>⟨[.imm true xs,.imm true ys,.any,.any,.bool false,.int .i64 l.length,.int .i64 k,.any,.any],[]⟩) d _ hstep (by
    have a1:xs[d]?=some (ExprT.a l[d]):=by rw[← hX];exact map_get q1
    have a2:ys[d]?=some (ExprT.a m[d]):=by rw[← hY];exact map_get q2
    have a3:=hc l[d] m[d]
    have e4:=hf l[d]
    have e5:=hf m[d]
    simp only[decide_eq_false e1,Bool.not_false]at a3;simp only[ExprT.a]at a1 a2 a3 e4 e5
    have i1:((d:Int) < (l.length:Int)):=by omega
    have i2:bin .lss (.int .i64 (d:Int)) (.int .i64 (l.length:Int))=some (.bool true):=by simp[i1]
    simp[l_qp_0,-eqa,a1,a2,i1,i2,a3,e4,e5,lX,bn e1];rfl)
   simp[f_qp,b_qp,hlen,lX,lY]
   simp[hlen]at hloop
   rw[hloop,e2]
   simp
 ·have hne:decide (l=m)=false:=decide_eq_false fun e=>hlen (congrArg List.length e)
  rw[hne]
  simp[f_qp,b_qp,bne_len hlen,lX,lY]
theorem loop13a(x y:LNT)(a b:SL AggT)(hlen:a.1.length=b.1.length):(a=b∧rounds code 2 [4,9,10] l_qz_1 ⟨[.agg [.int .i64 x.op,.int .i64 x.l,.int .i64 x.r,.int .i64 x.tab,slA (AVal.int .i64) x.cols,.bool x.flag,slA EN.a x.pred,slA (AVal.int .i64) x.keys,slA AggT.a a,slA ExprT.a x.outs,slA OrdT.a x.ords,.int .i64 x.limit],.agg [.int .i64 y.op,.int .i64 y.l,.int .i64 y.r,.int .i64 y.tab,slA (AVal.int .i64) y.cols,.bool y.flag,slA EN.a y.pred,slA (AVal.int .i64) y.keys,slA AggT.a b,slA ExprT.a y.outs,slA OrdT.a y.ords,.int .i64 y.limit],.ptr 0 0 0 0,.ptr 1 0 0 0,.any,.int .i64 0,.any,.bool false,.bool false,.any,.any,.any,.any],[Obj.arr 12 0 [.agg [.int .i64 x.op,.int .i64 x.l,.int .i64 x.r,.int .i64 x.tab,slA (AVal.int .i64) x.cols,.bool x.flag,slA EN.a x.pred,slA (AVal.int .i64) x.keys,slA AggT.a a,slA ExprT.a x.outs,slA OrdT.a x.ords,.int .i64 x.limit]],Obj.arr 12 0 [.agg [.int .i64 y.op,.int .i64 y.l,.int .i64 y.r,.int .i64 y.tab,slA (AVal.int .i64) y.cols,.bool y.flag,slA EN.a y.pred,slA (AVal.int .i64) y.keys,slA AggT.a b,slA ExprT.a y.outs,slA OrdT.a y.ords,.int .i64 y.limit]]]⟩=some (.ext 0,⟨[.agg [.int .i64 x.op,.int .i64 x.l,.int .i64 x.r,.int .i64 x.tab,slA (AVal.int .i64) x.cols,.bool x.flag,slA EN.a x.pred,slA (AVal.int .i64) x.keys,slA AggT.a a,slA ExprT.a x.outs,slA OrdT.a x.ords,.int .i64 x.limit],.agg [.int .i64 y.op,.int .i64 y.l,.int .i64 y.r,.int .i64 y.tab,slA (AVal.int .i64) y.cols,.bool y.flag,slA EN.a y.pred,slA (AVal.int .i64) y.keys,slA AggT.a b,slA ExprT.a y.outs,slA OrdT.a y.ords,.int .i64 y.limit],.ptr 0 0 0 0,.ptr 1 0 0 0,.any,.int .i64 a.1.length,.any,.bool false,.bool false,.bool false,.any,.any,.any],[Obj.arr 12 0 [.agg [.int .i64 x.op,.int .i64 x.l,.int .i64 x.r,.int .i64 x.tab,slA (AVal.int .i64) x.cols,.bool x.flag,slA EN.a x.pred,slA (AVal.int .i64) x.keys,slA AggT.a a,slA ExprT.a x.outs,slA OrdT.a x.ords,.int .i64 x.limit]],Obj.arr 12 0 [.agg [.int .i64 y.op,.int .i64 y.l,.int .i64 y.r,.int .i64 y.tab,slA (AVal.int .i64) y.cols,.bool y.flag,slA EN.a y.pred,slA (AVal.int .i64) y.keys,slA AggT.a b,slA ExprT.a y.outs,slA OrdT.a y.ords,.int .i64 y.limit]]]⟩)) ∨
  (¬a=b∧∃ s,rounds code 2 [4,9,10] l_qz_1 ⟨[.agg [.int .i64 x.op,.int .i64 x.l,.int .i64 x.r,.int .i64 x.tab,slA (AVal.int .i64) x.cols,.bool x.flag,slA EN.a x.pred,slA (AVal.int .i64) x.keys,slA AggT.a a,slA ExprT.a x.outs,slA OrdT.a x.ords,.int .i64 x.limit],.agg [.int .i64 y.op,.int .i64 y.l,.int .i64 y.r,.int .i64 y.tab,slA (AVal.int .i64) y.cols,.bool y.flag,slA EN.a y.pred,slA (AVal.int .i64) y.keys,slA AggT.a b,slA ExprT.a y.outs,slA OrdT.a y.ords,.int .i64 y.limit],.ptr 0 0 0 0,.ptr 1 0 0 0,.any,.int .i64 0,.any,.bool false,.bool false,.any,.any,.any,.any],[Obj.arr 12 0 [.agg [.int .i64 x.op,.int .i64 x.l,.int .i64 x.r,.int .i64 x.tab,slA (AVal.int .i64) x.cols,.bool x.flag,slA EN.a x.pred,slA (AVal.int .i64) x.keys,slA AggT.a a,slA ExprT.a x.outs,slA OrdT.a x.ords,.int .i64 x.limit]],Obj.arr 12 0 [.agg [.int .i64 y.op,.int .i64 y.l,.int .i64 y.r,.int .i64 y.tab,slA (AVal.int .i64) y.cols,.bool y.flag,slA EN.a y.pred,slA (AVal.int .i64) y.keys,slA AggT.a b,slA ExprT.a y.outs,slA OrdT.a y.ords,.int .i64 y.limit]]]⟩=some (.ret,s)∧s.env[4]?=some (.bool false)):=by
 obtain ⟨l,hn⟩:=a
 obtain ⟨m,hm⟩:=b
 simp only[Subtype.mk.injEq]
 have hf:∀ a:AggT,ncells (AggT.a a)=2∧isAgg (AggT.a a)=true:=fun a=>⟨rfl,rfl⟩
 have hz:∀ (a:AggT) (top:Bool) (base:Nat) (σ:Store) (n:Nat),fz true top base σ (n+3) (AggT.a a)=AggT.a a:=fun a top base σ n=>by simp[AggT.a]
 generalize hX:l.map AggT.a=xs
 generalize hY:m.map AggT.a=ys
 have hA:slA AggT.a ⟨l,hn⟩=.imm true xs:=by simp[slA,hX]
 have hB:slA AggT.a ⟨m,hm⟩=.imm true ys:=by simp[slA,hY]
 have lX:xs.length=l.length:=by rw[← hX];simp
 have lY:ys.length=m.length:=by rw[← hY];simp
 simp only[hA,hB]
 simp only at hlen
 refine same_loop (S:=fun k=>⟨[.agg [.int .i64 x.op,.int .i64 x.l,.int .i64 x.r,.int .i64 x.tab,slA (AVal.int .i64) x.cols,.bool x.flag,slA EN.a x.pred,slA (AVal.int .i64) x.keys,.imm true xs,slA ExprT.a x.outs,slA OrdT.a x.ords,.int .i64 x.limit],.agg [.int .i64 y.op,.int .i64 y.l,.int .i64 y.r,.int .i64 y.tab,slA (AVal.int .i64) y.cols,.bool y.flag,slA EN.a y.pred,slA (AVal.int .i64) y.keys,.imm true ys,slA ExprT.a y.outs,slA OrdT.a y.ords,.int .i64 y.limit],.ptr 0 0 0 0,.ptr 1 0 0 0,.any,.int .i64 k,.any,.bool false,.bool false,.any,.any,.any,.any],[Obj.arr 12 0 [.agg [.int .i64 x.op,.int .i64 x.l,.int .i64 x.r,.int .i64 x.tab,slA (AVal.int .i64) x.cols,.bool x.flag,slA EN.a x.pred,slA (AVal.int .i64) x.keys,.imm true xs,slA ExprT.a x.outs,slA OrdT.a x.ords,.int .i64 x.limit]],Obj.arr 12 0 [.agg [.int .i64 y.op,.int .i64 y.l,.int .i64 y.r,.int .i64 y.tab,slA (AVal.int .i64) y.cols,.bool y.flag,slA EN.a y.pred,slA (AVal.int .i64) y.keys,.imm true ys,slA ExprT.a y.outs,slA OrdT.a y.ords,.int .i64 y.limit]]]⟩) hlen (fun k a1 a2 e6=>?_) ?_ (fun k a1 a2 e6=>?_)
 ·have e1:xs[k]?=some (AggT.a l[k]):=by rw[← hX];exact map_get a1
  have e2:ys[k]?=some (AggT.a m[k]):=by rw[← hY];exact map_get a2
  rw[e6]at e1
  have e4:=hf m[k]
  generalize m[k]=x1 at *
  have i1:((k:Int) < (l.length:Int)):=by omega
  have i2:bin .lss (.int .i64 (k:Int)) (.int .i64 (l.length:Int))=some (.bool true):=by simp[i1]
  have i3:bin .add (.int .i64 (k:Int)) (.int .i64 1)=some (.int .i64 ((k+1:Nat):Int)):=by simp[wrap_sl a1 hn]
  have e3:=expr_Same_507 x1.arg x1.arg
  simp only[ExprT.a]at e3
  simp[l_qz_1,e1,e2,e4,i1,i2,i3,lX,hz,wrap_sl a1 hn,roundEnd,e3,AggT.a]
 ·simp[l_qz_1,lX];all_goals rfl
 ·have e1:xs[k]?=some (AggT.a l[k]):=by rw[← hX];exact map_get a1
  have e2:ys[k]?=some (AggT.a m[k]):=by rw[← hY];exact map_get a2
  have e4:=hf m[k]
  have e5:=hf l[k]
  generalize m[k]=y1 at *
  generalize l[k]=x1 at *
  have i1:((k:Int) < (l.length:Int)):=by omega
  have i2:bin .lss (.int .i64 (k:Int)) (.int .i64 (l.length:Int))=some (.bool true):=by simp[i1]
  obtain ⟨k1,g1⟩:=x1
  obtain ⟨k2,g2⟩:=y1
  have e3:=expr_Same_507 g1 g2
  simp only[ExprT.a]at e3
  by_cases hk:k1=k2
  ·subst hk
   have hg:¬g1=g2:=fun h=>e6 (by rw[h])
   refine ⟨_,by simp[l_qz_1,e1,e2,e4,e5,i1,i2,lX,AggT.a,e3,hg];rfl,?_⟩
   rfl
  ·refine ⟨_,by simp[l_qz_1,e1,e2,e4,e5,i1,i2,lX,AggT.a,bn hk,bq hk];rfl,?_⟩
   rfl
theorem loop13o(x y:LNT)(n5:Int)(a b:SL OrdT)(hlen:a.1.length=b.1.length):(a=b∧rounds code 2 [4,11,12] l_qz_0 ⟨[.agg [.int .i64 x.op,.int .i64 x.l,.int .i64 x.r,.int .i64 x.tab,slA (AVal.int .i64) x.cols,.bool x.flag,slA EN.a x.pred,slA (AVal.int .i64) x.keys,slA AggT.a x.aggs,slA ExprT.a x.outs,slA OrdT.a a,.int .i64 x.limit],.agg [.int .i64 y.op,.int .i64 y.l,.int .i64 y.r,.int .i64 y.tab,slA (AVal.int .i64) y.cols,.bool y.flag,slA EN.a y.pred,slA (AVal.int .i64) y.keys,slA AggT.a y.aggs,slA ExprT.a y.outs,slA OrdT.a b,.int .i64 y.limit],.ptr 0 0 0 0,.ptr 1 0 0 0,.any,.int .i64 n5,.int .i64 0,.bool false,.bool false,.bool false,.any,.any,.any],[Obj.arr 12 0 [.agg [.int .i64 x.op,.int .i64 x.l,.int .i64 x.r,.int .i64 x.tab,slA (AVal.int .i64) x.cols,.bool x.flag,slA EN.a x.pred,slA (AVal.int .i64) x.keys,slA AggT.a x.aggs,slA ExprT.a x.outs,slA OrdT.a a,.int .i64 x.limit]],Obj.arr 12 0 [.agg [.int .i64 y.op,.int .i64 y.l,.int .i64 y.r,.int .i64 y.tab,slA (AVal.int .i64) y.cols,.bool y.flag,slA EN.a y.pred,slA (AVal.int .i64) y.keys,slA AggT.a y.aggs,slA ExprT.a y.outs,slA OrdT.a b,.int .i64 y.limit]]]⟩=some (.ext 2,⟨[.agg [.int .i64 x.op,.int .i64 x.l,.int .i64 x.r,.int .i64 x.tab,slA (AVal.int .i64) x.cols,.bool x.flag,slA EN.a x.pred,slA (AVal.int .i64) x.keys,slA AggT.a x.aggs,slA ExprT.a x.outs,slA OrdT.a a,.int .i64 x.limit],.agg [.int .i64 y.op,.int .i64 y.l,.int .i64 y.r,.int .i64 y.tab,slA (AVal.int .i64) y.cols,.bool y.flag,slA EN.a y.pred,slA (AVal.int .i64) y.keys,slA AggT.a y.aggs,slA ExprT.a y.outs,slA OrdT.a b,.int .i64 y.limit],.ptr 0 0 0 0,.ptr 1 0 0 0,.any,.int .i64 n5,.int .i64 a.1.length,.bool false,.bool false,.bool false,.any,.bool false,.any],[Obj.arr 12 0 [.agg [.int .i64 x.op,.int .i64 x.l,.int .i64 x.r,.int .i64 x.tab,slA (AVal.int .i64) x.cols,.bool x.flag,slA EN.a x.pred,slA (AVal.int .i64) x.keys,slA AggT.a x.aggs,slA ExprT.a x.outs,slA OrdT.a a,.int .i64 x.limit]],Obj.arr 12 0 [.agg [.int .i64 y.op,.int .i64 y.l,.int .i64 y.r,.int .i64 y.tab,slA (AVal.int .i64) y.cols,.bool y.flag,slA EN.a y.pred,slA (AVal.int .i64) y.keys,slA AggT.a y.aggs,slA ExprT.a y.outs,slA OrdT.a b,.int .i64 y.limit]]]⟩)) ∨
  (¬a=b∧∃ s,rounds code 2 [4,11,12] l_qz_0 ⟨[.agg [.int .i64 x.op,.int .i64 x.l,.int .i64 x.r,.int .i64 x.tab,slA (AVal.int .i64) x.cols,.bool x.flag,slA EN.a x.pred,slA (AVal.int .i64) x.keys,slA AggT.a x.aggs,slA ExprT.a x.outs,slA OrdT.a a,.int .i64 x.limit],.agg [.int .i64 y.op,.int .i64 y.l,.int .i64 y.r,.int .i64 y.tab,slA (AVal.int .i64) y.cols,.bool y.flag,slA EN.a y.pred,slA (AVal.int .i64) y.keys,slA AggT.a y.aggs,slA ExprT.a y.outs,slA OrdT.a b,.int .i64 y.limit],.ptr 0 0 0 0,.ptr 1 0 0 0,.any,.int .i64 n5,.int .i64 0,.bool false,.bool false,.bool false,.any,.any,.any],[Obj.arr 12 0 [.agg [.int .i64 x.op,.int .i64 x.l,.int .i64 x.r,.int .i64 x.tab,slA (AVal.int .i64) x.cols,.bool x.flag,slA EN.a x.pred,slA (AVal.int .i64) x.keys,slA AggT.a x.aggs,slA ExprT.a x.outs,slA OrdT.a a,.int .i64 x.limit]],Obj.arr 12 0 [.agg [.int .i64 y.op,.int .i64 y.l,.int .i64 y.r,.int .i64 y.tab,slA (AVal.int .i64) y.cols,.bool y.flag,slA EN.a y.pred,slA (AVal.int .i64) y.keys,slA AggT.a y.aggs,slA ExprT.a y.outs,slA OrdT.a b,.int .i64 y.limit]]]⟩=some (.ret,s)∧s.env[4]?=some (.bool false)):=by
 obtain ⟨l,hn⟩:=a
 obtain ⟨m,hm⟩:=b
 simp only[Subtype.mk.injEq]
 have hf:∀ a:OrdT,ncells (OrdT.a a)=2∧isAgg (OrdT.a a)=true:=fun a=>⟨rfl,rfl⟩
 have hz:∀ (a:OrdT) (top:Bool) (base:Nat) (σ:Store) (n:Nat),fz true top base σ (n+3) (OrdT.a a)=OrdT.a a:=fun a top base σ n=>by simp[OrdT.a]
 generalize hX:l.map OrdT.a=xs
 generalize hY:m.map OrdT.a=ys
 have hA:slA OrdT.a ⟨l,hn⟩=.imm true xs:=by simp[slA,hX]
 have hB:slA OrdT.a ⟨m,hm⟩=.imm true ys:=by simp[slA,hY]
 have lX:xs.length=l.length:=by rw[← hX];simp
 have lY:ys.length=m.length:=by rw[← hY];simp
 simp only[hA,hB]
 simp only at hlen
 refine same_loop (S:=fun k=>⟨[.agg [.int .i64 x.op,.int .i64 x.l,.int .i64 x.r,.int .i64 x.tab,slA (AVal.int .i64) x.cols,.bool x.flag,slA EN.a x.pred,slA (AVal.int .i64) x.keys,slA AggT.a x.aggs,slA ExprT.a x.outs,.imm true xs,.int .i64 x.limit],.agg [.int .i64 y.op,.int .i64 y.l,.int .i64 y.r,.int .i64 y.tab,slA (AVal.int .i64) y.cols,.bool y.flag,slA EN.a y.pred,slA (AVal.int .i64) y.keys,slA AggT.a y.aggs,slA ExprT.a y.outs,.imm true ys,.int .i64 y.limit],.ptr 0 0 0 0,.ptr 1 0 0 0,.any,.int .i64 n5,.int .i64 k,.bool false,.bool false,.bool false,.any,.any,.any],[Obj.arr 12 0 [.agg [.int .i64 x.op,.int .i64 x.l,.int .i64 x.r,.int .i64 x.tab,slA (AVal.int .i64) x.cols,.bool x.flag,slA EN.a x.pred,slA (AVal.int .i64) x.keys,slA AggT.a x.aggs,slA ExprT.a x.outs,.imm true xs,.int .i64 x.limit]],Obj.arr 12 0 [.agg [.int .i64 y.op,.int .i64 y.l,.int .i64 y.r,.int .i64 y.tab,slA (AVal.int .i64) y.cols,.bool y.flag,slA EN.a y.pred,slA (AVal.int .i64) y.keys,slA AggT.a y.aggs,slA ExprT.a y.outs,.imm true ys,.int .i64 y.limit]]]⟩) hlen (fun k a1 a2 e6=>?_) ?_ (fun k a1 a2 e6=>?_)
 ·have e1:xs[k]?=some (OrdT.a l[k]):=by rw[← hX];exact map_get a1
  have e2:ys[k]?=some (OrdT.a m[k]):=by rw[← hY];exact map_get a2
  rw[e6]at e1
  have e4:=hf m[k]
  generalize m[k]=x1 at *
  have i1:((k:Int) < (l.length:Int)):=by omega
  have i2:bin .lss (.int .i64 (k:Int)) (.int .i64 (l.length:Int))=some (.bool true):=by simp[i1]
  have i3:bin .add (.int .i64 (k:Int)) (.int .i64 1)=some (.int .i64 ((k+1:Nat):Int)):=by simp[wrap_sl a1 hn]
  have e3:=eqa_ord x1 x1
  simp[l_qz_0,-eqa,e1,e2,e4,i1,i2,i3,lX,hz,wrap_sl a1 hn,roundEnd,e3]
 ·simp[l_qz_0,lX];all_goals rfl
 ·have e1:xs[k]?=some (OrdT.a l[k]):=by rw[← hX];exact map_get a1
  have e2:ys[k]?=some (OrdT.a m[k]):=by rw[← hY];exact map_get a2
  have e4:=hf m[k]
  have e5:=hf l[k]
  generalize m[k]=y1 at *
  generalize l[k]=x1 at *
  have i1:((k:Int) < (l.length:Int)):=by omega
  have i2:bin .lss (.int .i64 (k:Int)) (.int .i64 (l.length:Int))=some (.bool true):=by simp[i1]
  have e3:=eqa_ord x1 y1
  refine ⟨_,by simp[l_qz_0,-eqa,e1,e2,e4,e5,e6,bn e6,bq e6,i1,i2,lX,hz,e3];rfl,?_⟩
  rfl
end Go.AM
end
section
namespace Go.AM
open P
set_option maxHeartbeats 8000000
set_option maxRecDepth 8000
theorem node_Same_484(a b:LNT):pcall I.qz [a.a,b.a]=some (.bool (decide (a=b))):=by
 rw[pcall_eq c_qz rfl]
 obtain ⟨op,l,r,tb,cs,fl,pr,ks,ag,ou,od,lm⟩:=a
 obtain ⟨op',l',r',tb',cs',fl',pr',ks',ag',ou',od',lm'⟩:=b
 have q1:=loop13a ⟨op,l,r,tb,cs,fl,pr,ks,ag,ou,od,lm⟩ ⟨op',l',r',tb',cs',fl',pr',ks',ag',ou',od',lm'⟩ ag ag'
 have q2:=loop13o ⟨op,l,r,tb,cs,fl,pr,ks,ag,ou,od,lm⟩ ⟨op',l',r',tb',cs',fl',pr',ks',ag',ou',od',lm'⟩ ag.1.length od od'
 obtain ⟨xs,hA,lX⟩:=slA_imm AggT.a ag
 obtain ⟨ys,hB,lY⟩:=slA_imm AggT.a ag'
 obtain ⟨os,hC,lO⟩:=slA_imm OrdT.a od
 obtain ⟨ps,hD,lP⟩:=slA_imm OrdT.a od'
 have k1:=ints_Same_23 cs cs'
 have k2:=ints_Same_23 ks ks'
 have k3:=expr_Same_507 pr pr'
 have k4:=exprs_Same_508 ou ou'
 simp only[ExprT.a]at k3
 simp only[LNT.a,hA,hB,hC,hD]at q1 q2 ⊢
 by_cases hop:op=op'
 rotate_left
 ·simp[f_qz,b_qz,lX,lY,lO,lP,hop,bn hop,bq hop]
 subst hop
 by_cases hl:l=l'
 rotate_left
 ·simp[f_qz,b_qz,lX,lY,lO,lP,hl,bn hl,bq hl]
 subst hl
 by_cases hr:r=r'
 rotate_left
 ·simp[f_qz,b_qz,lX,lY,lO,lP,hr,bn hr,bq hr]
 subst hr
 by_cases htb:tb=tb'
 rotate_left
 ·simp[f_qz,b_qz,lX,lY,lO,lP,htb,bn htb,bq htb]
 subst htb
 by_cases hfl:fl=fl'
 rotate_left
 ·simp[f_qz,b_qz,lX,lY,lO,lP,hfl,bn hfl,bq hfl]
 subst hfl
 by_cases hlm:lm=lm'
 rotate_left
 ·simp[f_qz,b_qz,lX,lY,lO,lP,hlm,bn hlm,bq hlm]
 subst hlm
 by_cases hag:ag.1.length=ag'.1.length
 rotate_left
 ·have:¬ag=ag':=fun h=>hag (by rw[h])
  simp[f_qz,b_qz,lX,lY,lO,lP,this,bne_len hag]
 by_cases hod:od.1.length=od'.1.length
 rotate_left
 ·have:¬od=od':=fun h=>hod (by rw[h])
  simp[f_qz,b_qz,lX,lY,lO,lP,this,hag,bne_len hod]
 by_cases hcs:cs=cs'
 rotate_left
 ·simp[f_qz,b_qz,lX,lY,lO,lP,hag,hod,k1,hcs]
 subst hcs
 by_cases hks:ks=ks'
 rotate_left
 ·simp[f_qz,b_qz,lX,lY,lO,lP,hag,hod,k1,k2,hks]
 subst hks
 rcases q1 hag with ⟨h1,hl1⟩|⟨h1,s1,hl1,hs1⟩
 rotate_left
 ·try simp only[hag]at hl1
  simp[f_qz,b_qz,lX,lY,lO,lP,hag,hod,k1,k2,h1,hl1,leave_at hs1]
 rcases q2 hod with ⟨h2,hl2⟩|⟨h2,s2,hl2,hs2⟩
 rotate_left
 ·simp only[hag,hod]at hl1 hl2
  simp[f_qz,b_qz,lX,lY,lO,lP,hag,hod,k1,k2,h2,hl1,hl2,leave_at hs2]
 simp only[hag,hod]at hl1 hl2
 by_cases hpr:pr=pr'
 rotate_left
 ·simp[f_qz,b_qz,lX,lY,lO,lP,hag,hod,k1,k2,hl1,hl2,k3,hpr]
 subst hpr
 by_cases hou:ou=ou'
 ·subst hou
  simp[f_qz,b_qz,lX,lY,lO,lP,hag,hod,k1,k2,hl1,hl2,k3,k4,h1,h2]
 ·simp[f_qz,b_qz,lX,lY,lO,lP,hag,hod,k1,k2,hl1,hl2,k3,k4,hou]
end Go.AM
end
section
namespace Go.AM
open P
set_option maxHeartbeats 8000000
set_option maxRecDepth 8000
theorem loop13 (a b:SL LNT)(hlen:a.1.length=b.1.length):(a=b∧rounds code 2 [4,7,8] l_qx_0 ⟨[.agg [slA LNT.a a],.agg [slA LNT.a b],.ptr 0 0 0 0,.ptr 1 0 0 0,.any,.int .i64 0,.bool false,.any,.any],[Obj.arr 1 0 [.agg [slA LNT.a a]],Obj.arr 1 0 [.agg [slA LNT.a b]]]⟩=some (.ext 0,⟨[.agg [slA LNT.a a],.agg [slA LNT.a b],.ptr 0 0 0 0,.ptr 1 0 0 0,.any,.int .i64 a.1.length,.bool false,.bool false,.any],[Obj.arr 1 0 [.agg [slA LNT.a a]],Obj.arr 1 0 [.agg [slA LNT.a b]]]⟩)) ∨
  (¬a=b∧∃ s,rounds code 2 [4,7,8] l_qx_0 ⟨[.agg [slA LNT.a a],.agg [slA LNT.a b],.ptr 0 0 0 0,.ptr 1 0 0 0,.any,.int .i64 0,.bool false,.any,.any],[Obj.arr 1 0 [.agg [slA LNT.a a]],Obj.arr 1 0 [.agg [slA LNT.a b]]]⟩=some (.ret,s)∧s.env[4]?=some (.bool false)):=by
 obtain ⟨l,hn⟩:=a
 obtain ⟨m,hm⟩:=b
 simp only[Subtype.mk.injEq]
 have hf:∀ a:LNT,ncells (LNT.a a)=12∧isAgg (LNT.a a)=true:=fun a=>⟨rfl,rfl⟩
 have hz:∀ (a:LNT) (top:Bool) (base:Nat) (σ:Store) (n:Nat),fz true top base σ (n+3) (LNT.a a)=LNT.a a:=fun a top base σ n=>by simp[LNT.a]
 generalize hX:l.map LNT.a=xs
 generalize hY:m.map LNT.a=ys
 have hA:slA LNT.a ⟨l,hn⟩=.imm true xs:=by simp[slA,hX]
 have hB:slA LNT.a ⟨m,hm⟩=.imm true ys:=by simp[slA,hY]
 have lX:xs.length=l.length:=by rw[← hX];simp
 have lY:ys.length=m.length:=by rw[← hY];simp
 simp only[hA,hB]
 simp only at hlen
 refine same_loop (S:=fun k=>⟨[.agg [.imm true xs],.agg [.imm true ys],.ptr 0 0 0 0,.ptr 1 0 0 0,.any,.int .i64 k,.bool false,.any,.any],[Obj.arr 1 0 [.agg [.imm true xs]],Obj.arr 1 0 [.agg [.imm true ys]]]⟩) hlen (fun k a1 a2 e6=>?_) ?_ (fun k a1 a2 e6=>?_)
 ·have e1:xs[k]?=some (LNT.a l[k]):=by rw[← hX];exact map_get a1
  have e2:ys[k]?=some (LNT.a m[k]):=by rw[← hY];exact map_get a2
  rw[e6]at e1
  have e4:=hf m[k]
  generalize m[k]=x at *
  have i1:((k:Int) < (l.length:Int)):=by omega
  have i2:bin .lss (.int .i64 (k:Int)) (.int .i64 (l.length:Int))=some (.bool true):=by simp[i1]
  have i3:bin .add (.int .i64 (k:Int)) (.int .i64 1)=some (.int .i64 ((k+1:Nat):Int)):=by simp[wrap_sl a1 hn]
  have e3:=node_Same_484 x x
  simp only[LNT.a]at e3
  simp[l_qx_0,e1,e2,e4,i1,i2,i3,lX,hz,wrap_sl a1 hn,roundEnd,e3,LNT.a]
 ·simp[l_qx_0,lX];all_goals rfl
 ·have e1:xs[k]?=some (LNT.a l[k]):=by rw[← hX];exact map_get a1
  have e2:ys[k]?=some (LNT.a m[k]):=by rw[← hY];exact map_get a2
  have e4:=hf m[k]
  have e5:=hf l[k]
  generalize m[k]=y at *
  generalize l[k]=x at *
  have i1:((k:Int) < (l.length:Int)):=by omega
  have i2:bin .lss (.int .i64 (k:Int)) (.int .i64 (l.length:Int))=some (.bool true):=by simp[i1]
  have e3:=node_Same_484 x y
  simp only[LNT.a]at e3
  refine ⟨_,by simp[l_qx_0,e1,e2,e4,e5,e6,bn e6,bq e6,i1,i2,lX,hz,e3,LNT.a];rfl,?_⟩
  rfl
abbrev PlanT:=SL LNT
def PlanT.a(p:PlanT):AVal:=.agg [slA LNT.a p]
theorem plan_Same_454(a b:PlanT):pcall I.qx [PlanT.a a,PlanT.a b]=some (.bool (decide (a=b))):=by
 rw[pcall_eq c_qx rfl]
 obtain ⟨xs,hA,lX⟩:=slA_imm LNT.a a
 obtain ⟨ys,hB,lY⟩:=slA_imm LNT.a b
 simp only[PlanT.a,hA,hB]
 by_cases hlen:a.1.length=b.1.length
 ·rcases loop13 a b hlen with ⟨h,hl⟩|⟨h,s,hl,hs⟩
  ·rw[decide_eq_true h]
   simp only[hA,hB,hlen]at hl
   simp[f_qx,b_qx,lX,lY,hlen,hl]
  ·rw[decide_eq_false h]
   simp only[hA,hB,hlen]at hl
   simp[f_qx,b_qx,lX,lY,hlen,hl,leave_at hs]
 ·have:¬a=b:=fun h=>hlen (by rw[h])
  simp[f_qx,b_qx,lX,lY,bne_len hlen,this]
theorem loop18 (a b:SL FragT)(hlen:a.1.length=b.1.length):(a=b∧rounds code 2 [4,5,6,7,12,13] l_qag_0 ⟨[.agg [slA FragT.a a],.agg [slA FragT.a b],.ptr 0 0 0 0,.ptr 1 0 0 0,.any,.any,.any,.any,.bool false,slA FragT.a a,.int .i64 a.1.length,.int .i64 0,.any,.any],[Obj.arr 1 0 [.agg [slA FragT.a a]],Obj.arr 1 0 [.agg [slA FragT.a b]]]⟩=some (.ext 0,⟨[.agg [slA FragT.a a],.agg [slA FragT.a b],.ptr 0 0 0 0,.ptr 1 0 0 0,.any,.any,.any,.any,.bool false,slA FragT.a a,.int .i64 a.1.length,.int .i64 a.1.length,.bool false,.any],[Obj.arr 1 0 [.agg [slA FragT.a a]],Obj.arr 1 0 [.agg [slA FragT.a b]]]⟩)) ∨
  (¬a=b∧∃ s,rounds code 2 [4,5,6,7,12,13] l_qag_0 ⟨[.agg [slA FragT.a a],.agg [slA FragT.a b],.ptr 0 0 0 0,.ptr 1 0 0 0,.any,.any,.any,.any,.bool false,slA FragT.a a,.int .i64 a.1.length,.int .i64 0,.any,.any],[Obj.arr 1 0 [.agg [slA FragT.a a]],Obj.arr 1 0 [.agg [slA FragT.a b]]]⟩=some (.ret,s)∧s.env[4]?=some (.bool false)):=by
 obtain ⟨l,hn⟩:=a
 obtain ⟨m,hm⟩:=b
 simp only[Subtype.mk.injEq]
 have hf:∀ a:FragT,ncells (FragT.a a)=4∧isAgg (FragT.a a)=true:=fun a=>⟨rfl,rfl⟩
 have hz:∀ (a:FragT) (top:Bool) (base:Nat) (σ:Store) (n:Nat),fz true top base σ (n+3) (FragT.a a)=FragT.a a:=fun a top base σ n=>by simp[FragT.a,FragT.c]
 generalize hX:l.map FragT.a=xs
 generalize hY:m.map FragT.a=ys
 have hA:slA FragT.a ⟨l,hn⟩=.imm true xs:=by simp[slA,hX]
 have hB:slA FragT.a ⟨m,hm⟩=.imm true ys:=by simp[slA,hY]
 have lX:xs.length=l.length:=by rw[← hX];simp
 have lY:ys.length=m.length:=by rw[← hY];simp
 simp only[hA,hB]
 simp only at hlen
 refine same_loop (S:=fun k=>⟨[.agg [.imm true xs],.agg [.imm true ys],.ptr 0 0 0 0,.ptr 1 0 0 0,.any,.any,.any,.any,.bool false,.imm true xs,.int .i64 l.length,.int .i64 k,.any,.any],[Obj.arr 1 0 [.agg [.imm true xs]],Obj.arr 1 0 [.agg [.imm true ys]]]⟩) hlen (fun k a1 a2 e6=>?_) ?_ (fun k a1 a2 e6=>?_)
 ·have e1:xs[k]?=some (FragT.a l[k]):=by rw[← hX];exact map_get a1
  have e2:ys[k]?=some (FragT.a m[k]):=by rw[← hY];exact map_get a2
  rw[e6]at e1
  have e4:=hf m[k]
  generalize m[k]=x at *
  have i1:((k:Int) < (l.length:Int)):=by omega
  have i2:bin .lss (.int .i64 (k:Int)) (.int .i64 (l.length:Int))=some (.bool true):=by simp[i1]
  have i3:bin .add (.int .i64 (k:Int)) (.int .i64 1)=some (.int .i64 ((k+1:Nat):Int)):=by simp[wrap_sl a1 hn]
  have e3:=ints_Same_23 x.cols x.cols
  have e8:=plan_Same_454 x.nodes x.nodes
  simp only[PlanT.a]at e8
  simp[l_qag_0,e1,e2,e4,i1,i2,i3,lX,hz,wrap_sl a1 hn,roundEnd,e3,e8,FragT.a,FragT.c,freezeObj,freeze,fuel]
 ·simp[l_qag_0,lX];all_goals rfl
 ·have e1:xs[k]?=some (FragT.a l[k]):=by rw[← hX];exact map_get a1
  have e2:ys[k]?=some (FragT.a m[k]):=by rw[← hY];exact map_get a2
  have e4:=hf m[k]
  have e5:=hf l[k]
  generalize m[k]=y at *
  generalize l[k]=x at *
  have i1:((k:Int) < (l.length:Int)):=by omega
  have i2:bin .lss (.int .i64 (k:Int)) (.int .i64 (l.length:Int))=some (.bool true):=by simp[i1]
  obtain ⟨n1,a1',w1,c1⟩:=x
  obtain ⟨n2,a2',w2,c2⟩:=y
  have e3:=ints_Same_23 c1 c2
  have e8:=plan_Same_454 n1 n2
  simp only[PlanT.a]at e8
  by_cases ha:a1'=a2'
  ·subst ha
   by_cases hw:w1=w2
   ·subst hw
    by_cases hc:c1=c2
    ·subst hc
     have hn:¬n1=n2:=fun h=>e6 (by rw[h])
     refine ⟨_,by simp[l_qag_0,e1,e2,e4,e5,i1,i2,lX,FragT.a,FragT.c,e3,e8,hn];rfl,?_⟩
     rfl
    ·refine ⟨_,by simp[l_qag_0,e1,e2,e4,e5,i1,i2,lX,FragT.a,FragT.c,e3,hc];rfl,?_⟩
     rfl
   ·refine ⟨_,by simp[l_qag_0,e1,e2,e4,e5,i1,i2,lX,FragT.a,FragT.c,bn hw,bq hw];rfl,?_⟩
    rfl
  ·refine ⟨_,by simp[l_qag_0,e1,e2,e4,e5,i1,i2,lX,FragT.a,FragT.c,bn ha,bq ha];rfl,?_⟩
   rfl
abbrev CutT:=SL FragT
def CutT.a(p:CutT):AVal:=.agg [slA FragT.a p]
theorem cut_Same_429(a b:CutT):pcall I.qag [CutT.a a,CutT.a b]=some (.bool (decide (a=b))):=by
 rw[pcall_eq c_qag rfl]
 obtain ⟨xs,hA,lX⟩:=slA_imm FragT.a a
 obtain ⟨ys,hB,lY⟩:=slA_imm FragT.a b
 simp only[CutT.a,hA,hB]
 by_cases hlen:a.1.length=b.1.length
 ·rcases loop18 a b hlen with ⟨h,hl⟩|⟨h,s,hl,hs⟩
  ·rw[decide_eq_true h]
   simp only[hA,hB,hlen]at hl
   simp[f_qag,b_qag,lX,lY,hlen,hl]
  ·rw[decide_eq_false h]
   simp only[hA,hB,hlen]at hl
   simp[f_qag,b_qag,lX,lY,hlen,hl,leave_at hs]
 ·have:¬a=b:=fun h=>hlen (by rw[h])
  simp[f_qag,b_qag,lX,lY,bne_len hlen,this]
end Go.AM
end
