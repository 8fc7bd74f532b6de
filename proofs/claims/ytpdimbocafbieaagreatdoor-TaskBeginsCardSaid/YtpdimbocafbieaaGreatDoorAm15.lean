/- Part of the proof. -/
import Derived.Test.YtpdimbocafbieaaGreatDoorAm14
set_option linter.unusedVariables false
set_option linter.unusedSimpArgs false
section
namespace Go.AM
open P
set_option maxHeartbeats 8000000
set_option maxRecDepth 8000
abbrev firstsClr:List Nat:=[2,3,6,7,8,9,10,11,12,13,17,18,19,20,21,22,23]
def FirstsNo(r:Option (Ex×St)):Prop:=∃ s,r=some (.ret,s)∧nth s.env 2=.nil0∧nth s.env 3=.bool false
theorem stepE_none{k:Nat}{n:EN}{all opn:List Nat}(h:stepE k n all opn=none) :
  (eparts n.tag < 0∨opn.length < eparts n.tag∨countsE n=false) ∨
  ((0≤eparts n.tag∧eparts n.tag≤opn.length∧countsE n=true) ∧
   ((eparts n.tag=0∧¬(n.l=-1∧n.r=-1))∨(∃ (o:List Nat) (p:Nat),eparts n.tag=1∧opn=o++[p]∧¬(n.l=(p:Int)∧n.r=-1))∨(∃ (o:List Nat) (p q:Nat),eparts n.tag=2∧opn=o++[p,q]∧¬(n.l=(p:Int)∧n.r=(q:Int))))):=by
 unfold stepE at h
 split at h
 ·exact .inl (by assumption)
 ·rename_i hneg
  have hc:countsE n=true:=by cases hq:countsE n<;>simp_all
  have hk2:=eparts_le n.tag
  refine .inr ⟨⟨by omega,by omega,hc⟩,?_⟩
  rcases (show eparts n.tag=0∨eparts n.tag=1∨eparts n.tag=2 by omega) with h0|h0|h0
  ·rw[h0]at h
   simp at h
   exact .inl ⟨h0,fun ⟨a,b⟩=>h a b⟩
  ·rw[h0]at h
   have hol1:1≤opn.length:=by omega
   obtain ⟨o,p,rfl⟩:∃ o p,opn=o++[p]:=⟨opn.dropLast,opn.getLast (by intro e;subst e;simp at hol1),(List.dropLast_concat_getLast _).symm⟩
   simp at h
   exact .inr (.inl ⟨o,p,h0,rfl,fun ⟨a,b⟩=>h a b⟩)
  ·rw[h0]at h
   have hol1:2≤opn.length:=by omega
   obtain ⟨o',q,rfl⟩:∃ o p,opn=o++[p]:=⟨opn.dropLast,opn.getLast (by intro e;subst e;simp at hol1),(List.dropLast_concat_getLast _).symm⟩
   have hol2:1≤o'.length:=by simp at hol1;omega
   obtain ⟨o,p,rfl⟩:∃ o p,o'=o++[p]:=⟨o'.dropLast,o'.getLast (by intro e;subst e;simp at hol2),(List.dropLast_concat_getLast _).symm⟩
   have hdrop:(o++[p]++[q]).drop ((o++[p]++[q]).length - (2:Int).toNat)=[p,q]:=by simp
   rw[hdrop]at h
   simp only at h
   split at h
   ·cases h
   ·rename_i hne
    exact .inr (.inr ⟨o,p,q,h0,by simp,hne⟩)
theorem eqa2{a b c d:Int}(h:¬(c=a∧d=b)):eqa true [0,0] (.agg [.int .i64 a,.int .i64 b]) (.agg [.int .i64 c,.int .i64 d])=some (.bool true):=by
 by_cases h1:c=a
 ·have h2:¬b=d:=fun e=>h ⟨h1,e.symm⟩
  simp[h1,beq_f h2]
 ·have h2:¬a=c:=fun e=>h1 e.symm
  simp[beq_f h2]
theorem firsts_fail{b:Bool}{e:List EN}{k:Nat}{all opn:List Nat}(hk:k < e.length)(hn:e.length≤most)(ha:all.length=k)(ho:∀ p∈opn,p < k)(hol:opn.length≤k)
  (h:stepE k e[k] all opn=none):FirstsNo (thenLoop 3 firstsClr l_qbv_1 (run code l_qbv_1 (firstsSt b e k all opn))):=by
 have h1:=ensA_get hk
 have hp:=parts_spec e[k].tag
 have hc:=counts_spec e[k]
 have hlt:((k:Int) < (e.length:Int)):=by omega
 rcases stepE_none h with hA|⟨⟨h0,h2,h3⟩,hB⟩
 ·unfold EN.a at h1 hc
  by_cases hk0:eparts e[k].tag < 0
  ·exact ⟨_,by simp[firstsSt,l_qbv_1,h1,hlt,hp,hk0];rfl,rfl,rfl⟩
  ·by_cases hk1:(opn.length:Int) < eparts e[k].tag
   ·exact ⟨_,by simp[firstsSt,l_qbv_1,h1,hlt,hp,hk0,hk1];rfl,rfl,rfl⟩
   ·have hc1:countsE e[k]=false:=hA.elim (fun h=>absurd h hk0) fun h=>h.elim (fun h=>absurd h hk1) id
    rw[hc1]at hc
    exact ⟨_,by simp[firstsSt,l_qbv_1,h1,hlt,hp,hk0,hk1,hc];rfl,rfl,rfl⟩
 ·have hk0:¬(eparts e[k].tag < 0):=by omega
  have hk1:¬((opn.length:Int) < eparts e[k].tag):=by omega
  rw[h3]at hc
  unfold EN.a at h1 hc
  have hw1:IntKind.i64.wrap (opn.length:Int)=opn.length:=by rw[wrap64_id (by unfold most at hn;omega)]
  rcases hB with ⟨h0,hne⟩|⟨o,p,h0,rfl,hne⟩|⟨o,p,q,h0,rfl,hne⟩
  ·rw[h0]at hp
   have hx:=eqa2 hne
   have hnn:¬((opn.length:Int) < 0):=by omega
   exact ⟨_,by simp[firstsSt,l_qbv_1,h1,hlt,hp,hnn,hc,hw1,rounds_go 5,rounds_go 6,l_qbv_0,-eqa,hx];rfl,rfl,rfl⟩
  ·rw[h0]at hp
   have hx:=eqa2 hne
   have hpk:p < k:=ho p (by simp)
   have hpa:p < all.length:=by omega
   have q1:=natsA_get hpa
   simp at hol
   have t3:(natsA (o++[p]))[o.length]?=some (.int .i64 (p:Int)):=by rw[natsA_append,List.getElem?_append_right (by simp)];simp
   have hnn:¬((o.length:Int)+1 < 1):=by omega
   have hw:IntKind.i64.wrap ((o.length:Int)+1 - 1)=o.length:=by rw[wrap64_id (by unfold most at hn;omega)];omega
   have hw2:IntKind.i64.wrap (o.length:Int)=o.length:=by rw[wrap64_id (by unfold most at hn;omega)]
   exact ⟨_,by simp[firstsSt,l_qbv_1,h1,hlt,hp,hnn,hc,hw,hw2,ha,t3,q1,hpk,hpa,natsA_getE,natsA_append,roundEnd,freezeObj,rounds_go 5,l_qbv_0,wrap1,-eqa,hx];rfl,rfl,rfl⟩
  ·rw[h0]at hp
   have hx:=eqa2 hne
   have hpk:p < k:=ho p (by simp)
   have hqk:q < k:=ho q (by simp)
   have hpa:p < all.length:=by omega
   have hqa:q < all.length:=by omega
   have q1:=natsA_get hpa
   have q2:=natsA_get hqa
   simp at hol
   have hN:natsA (o++[p,q])=natsA o++([.int .i64 (p:Int),.int .i64 (q:Int)]:List AVal):=by simp[natsA_append]
   have t3:(natsA o++([.int .i64 (p:Int),.int .i64 (q:Int)]:List AVal))[o.length]?=some (.int .i64 (p:Int)):=by rw[List.getElem?_append_right (by simp)];simp
   have t4:(natsA o++([.int .i64 (p:Int),.int .i64 (q:Int)]:List AVal))[o.length+1]?=some (.int .i64 (q:Int)):=by rw[List.getElem?_append_right (by simp)];simp
   have hnn:¬((o.length:Int)+2 < 2):=by omega
   have hw:IntKind.i64.wrap ((o.length:Int)+2 - 2)=o.length:=by rw[wrap64_id (by unfold most at hn;omega)];omega
   have hw2:IntKind.i64.wrap (o.length:Int)=o.length:=by rw[wrap64_id (by unfold most at hn;omega)]
   unfold firstsSt
   rw[hN]
   exact ⟨_,by simp[l_qbv_1,h1,hlt,hp,hnn,hc,hw,hw2,ha,t3,t4,q1,q2,hpk,hpa,hqk,hqa,natsA_getE,natsA_append,roundEnd,freezeObj,rounds_go 5,l_qbv_0,wrap1,wrap2,-eqa,hx];rfl,rfl,rfl⟩
def firstsL:List EN→Nat→List Nat→List Nat→Option (List Nat×List Nat)
 | [],_,all,opn=>some (all,opn)
 | n::r,i,all,opn=>(stepE i n all opn).bind fun q=>firstsL r (i+1) q.1 q.2
theorem stepE_inv{k:Nat}{n:EN}{all opn all' opn':List Nat}(ha:all.length=k)(ho:∀ p∈opn,p < k)(hol:opn.length≤k)(h:stepE k n all opn=some (all',opn')) :
  all'.length=k+1∧(∀ p∈opn',p < k+1)∧opn'.length≤k+1:=by
 unfold stepE at h
 split at h
 ·cases h
 split at h
 ·split at h
  ·cases h
   exact ⟨by simp[ha],fun p hp=>by
    rcases List.mem_append.1 hp with hp|hp
    ·have:=ho p hp;omega
    ·simp at hp;omega,by simp;omega⟩
  ·cases h
 ·split at h
  ·cases h
   exact ⟨by simp[ha],fun p hp=>by
    rcases List.mem_append.1 hp with hp|hp
    ·have:=ho p (List.mem_of_mem_take hp);omega
    ·simp at hp;omega,by simp;omega⟩
  ·cases h
 ·split at h
  ·cases h
   exact ⟨by simp[ha],fun p hp=>by
    rcases List.mem_append.1 hp with hp|hp
    ·have:=ho p (List.mem_of_mem_take hp);omega
    ·simp at hp;omega,by simp;omega⟩
  ·cases h
 ·cases h
theorem firsts_loop{b:Bool}{e:List EN}(hn:e.length≤most):∀ (m k:Nat) (all opn:List Nat),k+m=e.length→all.length=k→(∀ p∈opn,p < k)→opn.length≤k →
  (match firstsL (e.drop k) k all opn with
   | none=>FirstsNo (rounds code 3 firstsClr l_qbv_1 (firstsSt b e k all opn))
   | some (all',opn')=>all'.length=e.length∧∃ x,rounds code 3 firstsClr l_qbv_1 (firstsSt b e k all opn) =
     some (.ext 0,⟨[.agg [.imm b (ensA e)],.ptr 0 0 0 0,.any,.any,.sl 1 e.length 0 all'.length,.sl 2 e.length 0 opn'.length,.any,.any,.any,.any,.any,.any,.any,.any,.imm b (ensA e),.int .i64 e.length,.int .i64 e.length,x,.any,.any,.any,.any,.any,.any],
      [.arr 1 0 [.agg [.imm b (ensA e)]],.arr 1 e.length (natsA all'),.arr 1 e.length (natsA opn')]⟩))
 | 0,k,all,opn,hk,ha,ho,hol=>by
  have hk:k=e.length:=by omega
  subst hk
  rw[List.drop_length]
  simp only[firstsL]
  refine ⟨ha,.bool false,?_⟩
  rw[rounds_go]
  simp[firstsSt,l_qbv_1]
 | m+1,k,all,opn,hk,ha,ho,hol=>by
  have hk':k < e.length:=by omega
  rw[List.drop_eq_getElem_cons hk']
  simp only[firstsL]
  cases hs:stepE k e[k] all opn with
  | none=>
   simp only[Option.bind_none]
   rw[rounds_go]
   exact firsts_fail hk' hn ha ho hol hs
  | some q=>
   obtain ⟨all',opn'⟩:=q
   simp only[Option.bind_some]
   obtain ⟨i1,i2,i3⟩:=stepE_inv ha ho hol hs
   have ih:=firsts_loop (b:=b) hn m (k+1) all' opn' (by omega) i1 i2 i3
   have hst:=firsts_step (b:=b) hk' hn ha ho hol hs
   rw[rounds_go 3 firstsClr l_qbv_1 (firstsSt b e k all opn),hst]
   exact ih
theorem natsA_nc'(l:List Nat)(fl top:Bool)(base:Nat)(σ:Store)(n:Nat):∀ a,a∈natsA l→ncells (fz fl top base σ (n+1) a)=ncells a:=fun a ha=>by
 obtain ⟨k,_,rfl⟩:=List.mem_map.1 ha
 simp
def okE(e:List EN):Bool:=match firstsL e 0 [] [] with
 | none=>false
 | some (all,opn)=>opn.length == 1&&decide (all.length≤1000)
theorem firsts_spec(b:Bool)(e:List EN)(hn:e.length≤most):∃ x,pcall I.qbv [exprA b e]=some (.tup [x,.bool (okE e)])∧(okE e=true→∃ all,firstsL e 0 [] []=some all∧x=.imm false (natsA all.1)):=by
 rw[pcall_eq c_qbv rfl]
 have h:=firsts_loop (b:=b) hn e.length 0 [] [] (by omega) rfl (by simp) (by simp)
 rw[List.drop_zero]at h
 unfold okE exprA
 cases hf:firstsL e 0 [] [] with
 | none=>
  rw[hf]at h
  obtain ⟨s,h1,h2,h3⟩:=h
  refine ⟨.imm false [],?_,fun h=>by cases h⟩
  unfold firstsSt at h1
  simp at h1
  have h2':s.env[2]?.getD .any=.nil0:=h2
  have h3':s.env[3]?.getD .any=.bool false:=h3
  simp[f_qbv,b_qbv,h1,h2',h3']
 | some q=>
  rw[hf]at h
  obtain ⟨all,opn⟩:=q
  obtain ⟨hl,x,h1⟩:=h
  refine ⟨.imm false (natsA all),?_,fun _=>⟨_,rfl,rfl⟩⟩
  unfold firstsSt at h1
  simp at h1
  have t1:(natsA all).take all.length=natsA all:=List.take_of_length_le (by simp)
  have f1:=natsA_fz all
  by_cases ho:opn.length=1
  ·simp[f_qbv,b_qbv,h1,ho,t1,f1]
   exact ⟨natsA_nc' all _ _ _ _ _,by omega⟩
  ·have ho':¬((opn.length:Int)=1):=by omega
   simp[f_qbv,b_qbv,h1,ho,beq_f ho',t1,f1]
   exact natsA_nc' all _ _ _ _ _
theorem eCheck_spec(b:Bool)(e:List EN)(hn:e.length≤most):pcall I.qbp [exprA b e]=some (.int .i64 (if okE e then 0 else 200)):=by
 rw[pcall_eq c_qbp rfl]
 obtain ⟨x,h,_⟩:=firsts_spec b e hn
 have hx:∀ b',b'=b∨b'=true→True:=fun _ _=>trivial
 unfold exprA at *
 cases ho:okE e<;>rw[ho]at h<;>simp[f_qbp,b_qbp,h]
end Go.AM
end
section
namespace Go.AM
open P
set_option maxHeartbeats 4000000
set_option maxRecDepth 8000
attribute [local simp] condRun_if when_if
def insI(x:Int):List Int→List Int
 | []=>[x]
 | y::r=>if x≤y then x::y::r else y::insI x r
def sortI:List Int→List Int
 | []=>[]
 | x::r=>insI x (sortI r)
theorem insI_mem(x z:Int):∀ l:List Int,z∈insI x l↔z=x∨z∈l
 | []=>by simp[insI]
 | y::r=>by
  unfold insI
  split
  ·simp
  ·simp[insI_mem x z r]
   constructor<;>rintro (h|h|h)<;>simp[h]
theorem sortI_mem(z:Int):∀ l:List Int,z∈sortI l↔z∈l
 | []=>by simp[sortI]
 | x::r=>by simp[sortI,insI_mem,sortI_mem z r]
theorem insI_len(x:Int):∀ l:List Int,(insI x l).length=l.length+1
 | []=>rfl
 | y::r=>by
  unfold insI
  split<;>simp[insI_len x r]
theorem sortI_len:∀ l:List Int,(sortI l).length=l.length
 | []=>rfl
 | x::r=>by simp[sortI,insI_len,sortI_len r]
theorem insI_by(x:Int):∀ l:List Int,insertBy leInt (.int .i64 x) (l.map (.int .i64))=(insI x l).map (.int .i64)
 | []=>rfl
 | y::r=>by
  by_cases h:x≤y
  ·simp[insertBy,insI,leInt,h]
  ·simp[insertBy,insI,leInt,h,insI_by x r]
theorem sortI_by:∀ l:List Int,sortBy leInt (l.map (.int .i64))=(sortI l).map (.int .i64)
 | []=>rfl
 | x::r=>by simp only[List.map_cons,sortBy,sortI_by r,insI_by];rfl
theorem ints_some:∀ l:List Int,ints (l.map (.int .i64))=some l
 | []=>rfl
 | x::r=>by simp[ints,ints_some r]
theorem sort_call{σ:Store}{id ep:Nat}{l:List Int}(hσ:σ[id]?=some (.arr 1 ep (intsA l)))(hn:l.length≤most) :
  acall code I.slices_Sort_int_int [.sl id ep 0 l.length] σ=some (.any,σ.set id (.arr 1 ep (intsA (sortI l)))):=by
 refine acall_prim good (k:=2) (n:=0) c_slices_Sort_int_int ?_
 have hp:code.prims=prims:=rfl
 rw[hp]
 have h1:((intsA l).drop 0).take l.length=intsA l:=by simp
 have h2:(intsA l).drop l.length=[]:=by simp
 simp only[prims,sortInts,hσ,h1,h2,Nat.zero_add,ints_some,sortI_by]
 rw[if_pos (by simp[hn])]
 simp
def colsE(e:List EN):List Int:=e.flatMap fun n=>if n.tag=2 then [n.col] else []
theorem colsE_le(e:List EN):(colsE e).length≤e.length:=by
 induction e with
 | nil=>exact Nat.le_refl _
 | cons n e ih=>
  unfold colsE at *
  simp only[List.flatMap_cons,List.length_append,List.length_cons]
  split<;>simp only[List.length_cons,List.length_nil]<;>omega
def colsF(e:List EN):List Int:=compactL (sortI (colsE e))
theorem Cols_spec(b:Bool)(e:List EN)(hn:e.length≤most)(ho:okE e=true):pcall I.qbq [.agg [.imm b (e.map EN.a)]]=some (.imm false (intsA (colsF e))):=by
 rw[pcall_eq c_qbq rfl]
 have hc:=fun b=>eCheck_spec b e hn
 rw[ho]at hc
 simp only[exprA,ensA]at hc
 have hm:(colsE e).length≤most:=Nat.le_trans (colsE_le e) hn
 obtain ⟨ep,hl⟩:=rounds_acc (base:=2) (clr:=[4,9,10]) (b:=l_qbq_0) e
  (fun k ep (acc:List Int)=>⟨[.agg [.imm b (e.map EN.a)],.ptr 0 0 0 0,.nil0,.sl 1 ep 0 acc.length,.any,.bool false,.imm b (e.map EN.a),.int .i64 e.length,.int .i64 k,.any,.any],[.arr 1 0 [.agg [.imm b (e.map EN.a)]],.arr 1 ep (intsA acc)]⟩)
  (fun n=>if n.tag=2 then [n.col] else [])
  (fun ep acc=>(.ext 0,⟨[.agg [.imm b (e.map EN.a)],.ptr 0 0 0 0,.nil0,.sl 1 ep 0 acc.length,.any,.bool false,.imm b (e.map EN.a),.int .i64 e.length,.int .i64 e.length,.bool false,.any],[.arr 1 0 [.agg [.imm b (e.map EN.a)]],.arr 1 ep (intsA acc)]⟩)) 1
  (fun n _=>by split<;>simp)
  (fun k n ep acc hk hy ha=>by
   have hlt:((k:Int) < (e.length:Int)):=by omega
   have h5:acc.length+1≤most:=by omega
   by_cases ht:n.tag=2
   ·exact ⟨ep+1,by simp[l_qbq_0,hlt,hy,EN.a,ht,append,h5,wrap_lt hk hn,roundEnd,freezeObj]⟩
   ·exact ⟨ep,by simp[l_qbq_0,hlt,hy,EN.a,ht,beq_f ht,wrap_lt hk hn,roundEnd,freezeObj]⟩)
  (fun ep acc _=>by simp[l_qbq_0]) 0
 have hs:=fun σ':Obj=>sort_call (σ:=[σ',.arr 1 ep (intsA (colsE e))]) (id:=1) (ep:=ep) rfl hm
 obtain ⟨A,h1,h2,h3⟩:=compact_spec (σ:=[.arr 1 0 [.agg [.imm b (e.map EN.a)]],.arr 1 ep (intsA (sortI (colsE e)))]) (id:=1) (ep:=ep) (l:=sortI (colsE e)) rfl (by rw[sortI_len];exact hm)
 simp only[intsA,List.map_nil,List.length_nil,show ((0:Nat):Int)=0 from rfl]at hl
 rw[sortI_len]at h1
 unfold colsF
 have hcl:=compactL_le (sortI (colsE e))
 have hfl:(e.flatMap fun n=>if n.tag=2 then [n.col] else [])=colsE e:=rfl
 rw[hfl]at hl
 have hA:(intsA A).take (compactL (sortI (colsE e))).length=intsA (compactL (sortI (colsE e))):=by
  unfold intsA;rw[← List.map_take,h3]
 generalize compactL (sortI (colsE e))=c at *
 generalize sortI (colsE e)=s at *
 generalize colsE e=cs at *
 have hle:c.length≤A.length:=by omega
 simp[f_qbq,b_qbq,hc,hl,hs,h1,hA,hle]
end Go.AM
end
section
namespace Go.AM
open P
set_option maxHeartbeats 8000000
set_option maxRecDepth 8000
theorem acall_nil_sl{f:Nat}{g:AFunc}(h:code.fns f=.nilfn g)(hm:g.mode.isPure=true){x:AVal}{σ:Store}{xs:List AVal}(hx:snap σ x=.imm true xs)(he:emptyS σ x=xs.isEmpty) :
  acall code f [x] σ=(pcall f [.imm true xs]).map (·,σ):=by
 have e2:∀ b,emptyS [] (.imm b xs)=xs.isEmpty:=fun b=>by cases xs<;>simp[emptyS,rd]
 have h1:=acall_nil h hm true xs σ
 rw[← h1,acall_nilfn good h,acall_nilfn good h,he]
 have e3:emptyS σ (.imm true xs)=xs.isEmpty:=by cases xs<;>simp[emptyS,rd]
 rw[e3]
 have e4:snap σ (.imm true xs)=.imm true xs:=by simp
 cases xs.isEmpty with
 | true=>rfl
 | false=>
  simp only[Bool.false_eq_true,if_false]
  rw[acallG_pure hm [x] σ,acallG_pure hm [.imm true xs] σ]
  simp only[List.map_cons,List.map_nil,hx,e4]
def overG{β:Type}(doF:EN→List β→β×Int)(_:Nat)(n:EN)(st:List β):List β⊕Int:=
 if (doF n (st.drop (st.length - (eparts n.tag).toNat))).2=0 then .inl (st.take (st.length - (eparts n.tag).toNat)++[(doF n (st.drop (st.length - (eparts n.tag).toNat))).1])
 else .inr (doF n (st.drop (st.length - (eparts n.tag).toNat))).2
def overF{β:Type}(z:β)(doF:EN→List β→β×Int)(e:List EN):β×Int:=
 match foldL (overG doF) e 0 [] with
 | .inl st=>(st.headD z,0)
 | .inr no=>(z,no)
theorem firstsL_snoc:∀ (l:List EN) (n:EN) (i:Nat) (a o:List Nat),firstsL (l++[n]) i a o=(firstsL l i a o).bind fun q=>stepE (i+l.length) n q.1 q.2
 | [],n,i,a,o=>by simp[firstsL];cases stepE i n a o<;>rfl
 | m::l,n,i,a,o=>by
  simp only[List.cons_append,firstsL,List.length_cons]
  cases stepE i m a o with
  | none=>rfl
  | some q=>
   simp only[Option.bind_some]
   rw[firstsL_snoc l n (i+1) q.1 q.2]
   simp only[Nat.add_assoc,Nat.add_comm 1]
theorem okE_at{e:List EN}(ho:okE e=true){k:Nat}(hk:k≤e.length):∃ a o,firstsL (e.take k) 0 [] []=some (a,o):=by
 cases h:firstsL (e.take k) 0 [] [] with
 | some q=>exact ⟨q.1,q.2,rfl⟩
 | none=>
  have key:∀ m,k≤m→m≤e.length→firstsL (e.take m) 0 [] []=none:=by
   intro m hm
   induction hm with
   | refl=>intro _;exact h
   | @step m hm ih=>
    intro hl
    rw[List.take_succ_eq_append_getElem (by omega),firstsL_snoc,ih (by omega)];rfl
  have:=key e.length hk (Nat.le_refl _)
  rw[List.take_length]at this
  unfold okE at ho
  rw[this]at ho;cases ho
theorem okE_step{e:List EN}(ho:okE e=true){k:Nat}{n:EN}(hn:e[k]?=some n){a o:List Nat}(h:firstsL (e.take k) 0 [] []=some (a,o)) :
  ∃ a' o',firstsL (e.take (k+1)) 0 [] []=some (a',o')∧stepE k n a o=some (a',o')∧0≤eparts n.tag∧eparts n.tag≤o.length∧countsE n=true∧o'.length=o.length - (eparts n.tag).toNat+1:=by
 obtain ⟨hk,he⟩:=List.getElem?_eq_some_iff.1 hn
 obtain ⟨a',o',h'⟩:=okE_at ho (k:=k+1) (by omega)
 have hs:=h'
 rw[List.take_succ_eq_append_getElem hk,firstsL_snoc,h,he]at hs
 simp only[Option.bind_some,List.length_take,Nat.min_eq_left (Nat.le_of_lt hk),Nat.zero_add]at hs
 refine ⟨a',o',h',hs,?_⟩
 unfold stepE at hs
 split at hs
 ·cases hs
 ·rename_i hc
  have h1:0≤eparts n.tag∧eparts n.tag≤o.length∧countsE n=true:=by
   refine ⟨by omega,by omega,?_⟩
   cases hq:countsE n
   ·exact absurd (.inr (.inr hq)) hc
   ·rfl
  refine ⟨h1.1,h1.2.1,h1.2.2,?_⟩
  have hd:(o.drop (o.length - (eparts n.tag).toNat)).length=(eparts n.tag).toNat:=by rw[List.length_drop];omega
  have:=eparts_le n.tag
  rcases hL:o.drop (o.length - (eparts n.tag).toNat) with _|⟨p,_|⟨q,_|⟨r,t⟩⟩⟩<;>rw[hL]at hs hd<;>simp only[List.length_nil,List.length_cons]at hs hd<;>(try split at hs)<;>(try cases hs)<;>simp<;>omega
theorem okE_end{e:List EN}(ho:okE e=true){a o:List Nat}(h:firstsL e 0 [] []=some (a,o)):o.length=1:=by
 unfold okE at ho
 rw[h]at ho
 simp at ho
 exact ho.1
theorem pop_int{f:Int→AVal}(hf:f=(AVal.int .i64))(st:List Int)(k ep:Nat)(hk:k≤st.length)(hn:st.length≤most)(OA OB:Obj) :
  acall code I.qbx [.int .i64 k,.ptr 1 0 0 0] [OA,.arr 1 0 [.sl 2 ep 0 st.length],.arr 1 ep (st.map f),OB] =
   some (.sl 4 0 0 k,[OA,.arr 1 0 [.sl 2 ep 0 (st.length - k)],.arr 1 ep (st.map f),OB,.arr 1 0 ((st.drop (st.length - k)).map f)]):=by
 subst hf
 rw[acall_keep c_qbx rfl]
 have hn':st.length≤68719476736:=hn
 have w1:=w64 (n:=(st.length:Int) - (k:Int)) (by omega) (by omega)
 have w2:((st.length:Int) - (k:Int)).toNat=st.length - k:=by omega
 have w3:(0:Int)≤(st.length:Int) - (k:Int):=by omega
 have w4:st.length - k+k=st.length:=by omega
 have hw4:st.length - (st.length - k)=k:=by omega
 have hd:(st.drop (st.length - k)).length=k:=by rw[List.length_drop];omega
 have hcl:=Clone_int_int (enc:=(AVal.int .i64)) true (st.drop (st.length - k)) (by rw[hd];omega)
 have hx:snap [OA,.arr 1 0 [.sl 2 ep 0 st.length],.arr 1 ep (st.map (AVal.int .i64)),OB] (.sl 2 ep (st.length - k) k)=.imm true ((st.drop (st.length - k)).map (AVal.int .i64)):=by
  have ht:(st.drop (st.length - k)).take k=st.drop (st.length - k):=List.take_of_length_le (by omega)
  simp[w4,← List.map_drop,ht,← List.map_take]
 have he:emptyS [OA,.arr 1 0 [.sl 2 ep 0 st.length],.arr 1 ep (st.map (AVal.int .i64)),OB] (.sl 2 ep (st.length - k) k)=((st.drop (st.length - k)).map (AVal.int .i64)).isEmpty:=by
  have ht:(st.drop (st.length - k)).take k=st.drop (st.length - k):=List.take_of_length_le (by omega)
  simp only[emptyS,rd,sliceAt]
  simp[w4,← List.map_drop,ht,← List.map_take]
  cases st.drop (st.length - k)<;>simp
 have hcall:=acall_nil_sl c_qer rfl hx he
 rw[hcl]at hcall
 have hle:(st.length:Int) - (k:Int)≤st.length:=by omega
 simp[f_qbx,b_qbx,w1,w2,w3,hw4,hcall,hd,hk]
def overH_int(doF:EN→List Int→Int×Int)(k:Nat)(n:EN)(s:Nat×List Int):Nat×List Int⊕Int:=match overG doF k n s.2 with
 | .inl st=>.inl (s.1+1,st)
 | .inr r=>.inr r
theorem overH_fold_int(doF:EN→List Int→Int×Int):∀ (l:List EN) (k ep:Nat) (st:List Int),foldL (overH_int doF) l k (ep,st)=match foldL (overG doF) l k st with
  | .inl st'=>.inl (ep+l.length,st')
  | .inr r=>.inr r
 | [],k,ep,st=>rfl
 | n::l,k,ep,st=>by
  simp only[foldL,overH_int]
  cases overG doF k n st with
  | inl st'=>
   simp only
   rw[overH_fold_int doF l (k+1) (ep+1) st']
   cases foldL (overG doF) l (k+1) st'<;>simp[Nat.add_assoc,Nat.add_comm 1]
  | inr r=>rfl
theorem over_int(b:Bool)(e:List EN)(hn:e.length≤most)(ho:okE e=true)(g:AVal)(hg:∀ fl top base σ,(fl || top)=true→fz fl top base σ 20 g=g)(doF:EN→List Int→Int×Int)
  (Iv:Int→Prop) (hIv:∀ n∈e,∀ l:List Int,l.length=(eparts n.tag).toNat→countsE n=true→(∀ y∈l,Iv y)→(doF n l).2=0→Iv (doF n l).1)
  (hdo:∀ n∈e,∀ l:List Int,l.length=(eparts n.tag).toNat→countsE n=true→(∀ y∈l,Iv y)→∀ σ x,snap σ x=.imm true (l.map (AVal.int .i64))→acallV code g [n.a,x] σ=some (.tup [(AVal.int .i64) (doF n l).1,.int .i64 (doF n l).2],σ)) :
  pcall I.qbw [.agg [.imm b (e.map EN.a)],g]=some (.tup [(AVal.int .i64) (overF 0 doF e).1,.int .i64 (overF 0 doF e).2]):=by
 rw[pcall_eq c_qbw rfl]
 have hg1:=hg true false 0 [] rfl
 have h:=rounds_list (base:=3) (clr:=[9,10,11,15,16]) (b:=l_qbw_0) e
  (fun k (s:Nat×List Int)=>⟨[.agg [.imm b (e.map EN.a)],g,.ptr 0 0 0 0,.int .i64 0,.int .i64 0,.ptr 1 0 0 0,.int .i64 0,.fn I.qbx [] [.ptr 1 0 0 0],.int .i64 0,.any,.any,.any,.imm b (e.map EN.a),.int .i64 e.length,.int .i64 k,.any,.any,.any],[.arr 1 0 [.agg [.imm b (e.map EN.a)]],.arr 1 0 [.sl 2 s.1 0 s.2.length],.arr 1 s.1 (s.2.map (AVal.int .i64))]⟩)
  (fun k s=>s.2.length≤k∧(∀ y∈s.2,Iv y)∧∃ a o,firstsL (e.take k) 0 [] []=some (a,o)∧s.2.length=o.length)
  (overH_int doF)
  (fun s=>(.ext 0,⟨[.agg [.imm b (e.map EN.a)],g,.ptr 0 0 0 0,.int .i64 0,.int .i64 0,.ptr 1 0 0 0,.int .i64 0,.fn I.qbx [] [.ptr 1 0 0 0],.int .i64 0,.any,.any,.any,.imm b (e.map EN.a),.int .i64 e.length,.int .i64 e.length,.bool false,.any,.any],[.arr 1 0 [.agg [.imm b (e.map EN.a)]],.arr 1 0 [.sl 2 s.1 0 s.2.length],.arr 1 s.1 (s.2.map (AVal.int .i64))]⟩))
  (fun r o=>r≠0∧∃ k x9 x10 A τ,o=(.ext 0,⟨[.agg [.imm b (e.map EN.a)],g,.ptr 0 0 0 0,.int .i64 0,.int .i64 0,.ptr 1 0 0 0,.int .i64 0,.fn I.qbx [] [.ptr 1 0 0 0],.int .i64 r,x9,x10,.int .i64 r,.imm b (e.map EN.a),.int .i64 e.length,k,.bool true,.bool true,.any],.arr 1 0 [.agg [.imm b (e.map EN.a)]]::A::τ⟩))
  (fun k n s hk hy hi=>by
   obtain ⟨ep,st⟩:=s
   obtain ⟨hle,hiv,a,o,hf,hlo⟩:=hi
   simp only at hle hlo
   obtain ⟨a',o',hf',hs,h1,h2,h3,h4⟩:=okE_step ho hy hf
   have hlt:((k:Int) < (e.length:Int)):=by omega
   have hk2:(eparts n.tag).toNat≤st.length:=by omega
   have hpc:((eparts n.tag).toNat:Int)=eparts n.tag:=by omega
   have hd:(st.drop (st.length - (eparts n.tag).toNat)).length=(eparts n.tag).toNat:=by rw[List.length_drop];omega
   have hp:=parts_spec n.tag
   have hpop:=fun OA OB=>pop_int rfl st (eparts n.tag).toNat ep hk2 (by omega) OA OB
   rw[hpc]at hpop
   have hivd:∀ y∈st.drop (st.length - (eparts n.tag).toNat),Iv y:=fun y hy'=>hiv y (List.mem_of_mem_drop hy')
   have hdo':=hdo n (List.mem_of_getElem? hy) (st.drop (st.length - (eparts n.tag).toNat)) hd h3 hivd
   have hIv':=hIv n (List.mem_of_getElem? hy) (st.drop (st.length - (eparts n.tag).toNat)) hd h3 hivd
   have hlen:st.length - (eparts n.tag).toNat+1≤most:=by omega
   have htl:(st.take (st.length - (eparts n.tag).toNat)).length=st.length - (eparts n.tag).toNat:=by rw[List.length_take];omega
   have hdo2:=hdo' [.arr 1 0 [.agg [.imm b (e.map EN.a)]],.arr 1 0 [.sl 2 ep 0 (st.length - (eparts n.tag).toNat)],.arr 1 ep (st.map (AVal.int .i64)),.arr 8 0 [n.a],.arr 1 0 ((st.drop (st.length - (eparts n.tag).toNat)).map (AVal.int .i64))] (.sl 4 0 0 (eparts n.tag).toNat) (by
    have:=List.take_of_length_le (Nat.le_of_eq hd)
    simp[← List.map_drop,hd,← List.map_take,this])
   unfold overH_int overG
   rcases hr:doF n (st.drop (st.length - (eparts n.tag).toNat)) with ⟨x,no⟩
   rw[hr]at hdo2 hIv'
   simp only[List.map_drop]at hdo2
   simp only
   have hz:∀ x,ncells ((AVal.int .i64) x)=1∧isAgg ((AVal.int .i64) x)=false:=fun x=>⟨rfl,rfl⟩
   have hzx:∀ fl top base σ n,fz fl top base σ (n+3) ((AVal.int .i64) x)=(AVal.int .i64) x:=fun fl top base σ n=>Fx.fx fl top base σ n x
   have hng:∀ fl top base σ n',fz fl top base σ (n'+3) n.a=n.a:=fun fl top base σ n'=>Fx.fx fl top base σ n' n
   have hnn:ncells n.a=8∧isAgg n.a=true:=⟨rfl,rfl⟩
   have htag:(cellsOf n.a)[0]?=some (.int .i64 n.tag):=rfl
   by_cases h0:no=0
   ·subst h0
    refine ⟨?_,by simp;omega,fun y hy'=>(List.mem_append.1 hy').elim (fun h=>hiv y (List.mem_of_mem_take h)) (fun h=>by rw[List.mem_singleton.1 h];exact hIv' rfl),a',o',hf',by simp[htl,h4,hlo]⟩
    simp[l_qbw_0,hlt,hy,hp,hpop,hdo2,htag,hz,hzx,hng,hnn,append,hlen,htl,wrap_lt hk hn,roundEnd,freezeObj,hg]
   ·rw[if_neg h0]
    exact ⟨_,by simp[l_qbw_0,hlt,hy,hp,hpop,hdo2,htag,hz,hzx,hng,hnn,bne_t h0];and_intros<;>rfl,h0,_,_,_,_,_,rfl⟩)
  (fun s _=>by simp[l_qbw_0]) (0,[]) ⟨Nat.le_refl _,by simp,[],[],by simp[firstsL],rfl⟩
 rw[overH_fold_int]at h
 unfold overF
 cases hf:foldL (overG doF) e 0 [] with
 | inl st=>
  rw[hf]at h
  obtain ⟨⟨_,_,a,o,h1,h2⟩,h3⟩:=h
  simp only at h2
  rw[List.take_length]at h1
  rw[okE_end ho h1]at h2
  match st,h2 with
  | [x],_=>
   simp at h3
   simp[f_qbw,b_qbw,hg1,h3]
 | inr r=>
  rw[hf]at h
  obtain ⟨_,h3,h0,k,x9,x10,A,τ,rfl⟩:=h
  simp at h3
  simp[f_qbw,b_qbw,hg1,h3,bne_t h0]
end Go.AM
end
section
namespace Go.AM
open P
set_option maxHeartbeats 8000000
set_option maxRecDepth 8000
attribute [local simp] condRun_if when_if
def oddK(k:Int):Bool:=decide (k < 0) || decide (3 < k)
def kindF(e:List EN)(kinds:List Int):Int×Int:=
 if okE e=false then (0,200) else if kinds.any oddK then (0,2) else if (colsF e).any (fun c=>decide ((kinds.length:Int)≤c)) then (0,2) else overF 0 (kind1F kinds) e
theorem colsE_mem{e:List EN}{n:EN}(h:n∈e)(ht:n.tag=2):n.col∈colsF e:=by
 unfold colsF
 rw[compactL_mem,sortI_mem]
 exact List.mem_flatMap.2 ⟨n,h,by rw[if_pos ht];simp⟩
theorem mem_colsE{e:List EN}{c:Int}(h:c∈colsF e):∃ n∈e,n.tag=2∧n.col=c:=by
 unfold colsF at h
 rw[compactL_mem,sortI_mem]at h
 obtain ⟨n,hn,hc⟩:=List.mem_flatMap.1 h
 split at hc
 ·rename_i ht;exact ⟨n,hn,ht,(List.mem_singleton.1 hc).symm⟩
 ·cases hc
theorem counts_col{n:EN}(h:countsE n=true)(ht:n.tag=2):0≤n.col∧n.col < 16:=by
 unfold countsE at h
 rw[if_neg (by omega),if_pos ht]at h
 simp at h
 exact ⟨h.1.2,h.2⟩
theorem colsF_le(e:List EN):(colsF e).length≤e.length:=by
 unfold colsF
 have h1:=compactL_le (sortI (colsE e))
 have h2:=sortI_len (colsE e)
 have h3:=colsE_le e
 omega
theorem kind_spec(b:Bool)(e:List EN)(bk:Bool)(kinds:List Int)(hn:e.length≤most)(hk:kinds.length≤most) :
  pcall I.qbr [.agg [.imm b (e.map EN.a)],.imm bk (intsA kinds)]=some (.tup [.int .i64 (kindF e kinds).1,.int .i64 (kindF e kinds).2]):=by
 rw[pcall_eq c_qbr rfl]
 have hc:=fun b=>eCheck_spec b e hn
 simp only[exprA,ensA]at hc
 unfold kindF
 cases ho:okE e with
 | false=>
  rw[ho]at hc
  simp[f_qbr,b_qbr,hc]
 | true=>
  rw[ho]at hc
  have h1:=rounds_any (base:=2) (clr:=[4,5,7,13,14]) (b:=l_qbs) kinds
   (fun k=>⟨[.agg [.imm b (e.map EN.a)],.imm bk (intsA kinds),.ptr 0 0 0 0,.ptr 1 0 0 0,.any,.any,.int .i64 0,.any,.any,.bool false,.imm bk (intsA kinds),.int .i64 kinds.length,.int .i64 k,.any,.any,.any,.any,.any,.any,.any],[.arr 1 0 [.agg [.imm b (e.map EN.a)]],.arr 1 0 [.imm bk (intsA kinds)]]⟩) oddK
   (.ext 0,⟨[.agg [.imm b (e.map EN.a)],.imm bk (intsA kinds),.ptr 0 0 0 0,.ptr 1 0 0 0,.any,.any,.int .i64 0,.any,.any,.bool false,.imm bk (intsA kinds),.int .i64 kinds.length,.int .i64 kinds.length,.bool false,.any,.any,.any,.any,.any,.any],[.arr 1 0 [.agg [.imm b (e.map EN.a)]],.arr 1 0 [.imm bk (intsA kinds)]]⟩)
   (fun o=>∃ s,o=(.ret,s)∧thenLeave .pure [.env 4,.env 5] (some (.ret,s))=some (.tup [.int .i64 0,.int .i64 2]))
   (fun k y hk' hy hp=>by
    have hlt:((k:Int) < (kinds.length:Int)):=by omega
    unfold oddK at hp
    simp at hp
    have e1:¬(y < 0):=by omega
    have e2:¬(3 < y):=by omega
    simp[l_qbs,hlt,hy,e1,e2,wrap_lt hk' hk,roundEnd_same])
   (fun k y hk' hy hp=>by
    have hlt:((k:Int) < (kinds.length:Int)):=by omega
    unfold oddK at hp
    simp at hp
    by_cases e1:y < 0
    ·exact ⟨_,by simp[l_qbs,hlt,hy,e1];rfl,_,rfl,by simp⟩
    ·have e2:3 < y:=by omega
     exact ⟨_,by simp[l_qbs,hlt,hy,e1,e2];rfl,_,rfl,by simp⟩)
   (by simp[l_qbs])
  rcases h1 with ⟨ha,h1⟩|⟨ha,o,h1,s,rfl,h2⟩
  ·rw[ha]
   have hC:=fun b=>Cols_spec b e hn ho
   have hcl:=colsF_le e
   have h2:=rounds_any (base:=2) (clr:=[4,5,8,18,19]) (b:=l_qbr_0) (colsF e)
    (fun k=>⟨[.agg [.imm b (e.map EN.a)],.imm bk (intsA kinds),.ptr 0 0 0 0,.ptr 1 0 0 0,.any,.any,.int .i64 0,.any,.any,.bool false,.imm bk (intsA kinds),.int .i64 kinds.length,.int .i64 kinds.length,.bool false,.any,.imm false (intsA (colsF e)),.int .i64 (colsF e).length,.int .i64 k,.any,.any],[.arr 1 0 [.agg [.imm b (e.map EN.a)]],.arr 1 0 [.imm bk (intsA kinds)]]⟩)
    (fun c=>decide ((kinds.length:Int)≤c))
    (.ext 2,⟨[.agg [.imm b (e.map EN.a)],.imm bk (intsA kinds),.ptr 0 0 0 0,.ptr 1 0 0 0,.any,.any,.int .i64 0,.any,.any,.bool false,.imm bk (intsA kinds),.int .i64 kinds.length,.int .i64 kinds.length,.bool false,.any,.imm false (intsA (colsF e)),.int .i64 (colsF e).length,.int .i64 (colsF e).length,.bool false,.any],[.arr 1 0 [.agg [.imm b (e.map EN.a)]],.arr 1 0 [.imm bk (intsA kinds)]]⟩)
    (fun o=>∃ s,o=(.ret,s)∧thenLeave .pure [.env 4,.env 5] (some (.ret,s))=some (.tup [.int .i64 0,.int .i64 2]))
    (fun k y hk' hy hp=>by
     have hlt:((k:Int) < ((colsF e).length:Int)):=by omega
     have hp':¬((kinds.length:Int)≤y):=by simpa using hp
     simp[l_qbr_0,hlt,hy,hp',wrap_lt hk' (by omega),roundEnd_same])
    (fun k y hk' hy hp=>by
     have hlt:((k:Int) < ((colsF e).length:Int)):=by omega
     have hp':((kinds.length:Int)≤y):=by simpa using hp
     exact ⟨_,by simp[l_qbr_0,hlt,hy,hp'];rfl,_,rfl,by simp⟩)
    (by simp[l_qbr_0])
   simp at h1
   rcases h2 with ⟨hb,h2⟩|⟨hb,o,h2,s,rfl,h3⟩
   ·rw[hb]
    have hover:=fun b=>over_int b e hn ho (.fn I.qbs [] [.cptr true (.imm bk (intsA kinds)) 0]) (fun fl top base σ h=>by cases fl<;>cases top<;>simp at h ⊢) (kind1F kinds) (fun _=>True) (fun _ _ _ _ _ _ _=>trivial)
     (fun n hne l hl hcn _ σ x hx=>by
      have:=eparts_le n.tag
      have hk1:=kind1_spec n true l bk kinds (by unfold most;omega) (fun ht=>by
       obtain ⟨h1,h2⟩:=counts_col hcn ht
       have:=List.any_eq_false.1 hb n.col (colsE_mem hne ht)
       simp at this
       exact ⟨h1,by omega⟩)
      have hna:fz true false 0 σ 20 n.a=n.a:=Fx.fx true false 0 σ 17 n
      simp only[snap_eq]at hx
      simp[hx,hna,hk1])
    simp at h2
    simp[f_qbr,b_qbr,hc,h1,hC,h2,hover]
   ·rw[hb]
    simp at h2
    simp[f_qbr,b_qbr,hc,h1,hC,h2,-thenLeave_ret]
    exact h3
  ·rw[ha]
   simp at h1
   simp[f_qbr,b_qbr,hc,h1,-thenLeave_ret]
   exact h2
end Go.AM
end
section
namespace Go.AM
open P
set_option maxHeartbeats 8000000
set_option maxRecDepth 8000
attribute [local simp] condRun_if when_if
def parts08(t:Int):Int:=if t < 1∨23 < t then -1 else if t≤3 then 0 else if t≤11 then 1 else 2
theorem parts08_v(t:Int):pcall I.qj [.int .i64 t]=some (.int .i64 (parts08 t)):=by
 rw[pcall_eq c_qj rfl]
 unfold parts08
 by_cases h1:t < 1
 ·simp[f_qj,b_qj,h1]
 ·by_cases h2:23 < t
  ·simp[f_qj,b_qj,h1,h2]
  ·by_cases h3:t≤3
   ·simp[f_qj,b_qj,h1,h2,h3]
   ·by_cases h4:t≤11
    ·simp[f_qj,b_qj,h1,h2,h3,h4]
    ·simp[f_qj,b_qj,h1,h2,h3,h4]
theorem parts10_v(t:Int):pcall I.qm [.int .i64 t]=some (.int .i64 (eparts t)):=by
 rw[pcall_eq c_qm rfl]
 have h:=parts08_v t
 have hp:eparts t=if t=3∨(8≤t∧t≤11) then -1 else parts08 t:=by
  unfold eparts parts08
  repeat' split
  all_goals omega
 rw[hp]
 generalize parts08 t=p at *
 by_cases h1:t=3
 ·subst h1;simp[f_qm,b_qm]
 ·by_cases h2:8≤t
  ·by_cases h3:t≤11
   ·simp[f_qm,b_qm,h1,beq_f h1,h2,h3]
   ·simp[f_qm,b_qm,h1,beq_f h1,h2,h3,h]
  ·simp[f_qm,b_qm,h1,beq_f h1,h2,h]
theorem okV_is(k n u:Int)(s:List UInt8):okV ⟨k,n,u,s⟩=if k=0 then (decide (n=0)&&decide (u=0)&&decide (s=[])) else if k=1 then (decide (u=0)&&decide (s=[])&&(decide (n=0) || decide (n=1)))
  else if k=2 then (decide (u=0)&&decide (s=[])) else if k=3 then (decide (n=0)&&decide (u=0)&&decide (s.length≤40)) else (decide (k=4)&&decide (s=[])):=by
 rw[Bool.eq_iff_iff]
 simp only[okV,blankV,beq_iff_eq]
 by_cases h0:k=0
 ·subst h0;simp[and_assoc]
 ·by_cases h1:k=1
  ·subst h1
   by_cases a:n=0
   ·simp[a]
   ·by_cases b:n=1
    ·simp[b]
    ·simp[a,b]
  ·by_cases h2:k=2
   ·subst h2;simp
   ·by_cases h3:k=3
    ·subst h3
     by_cases a:s.length≤40<;>simp[a]
    ·by_cases h4:k=4
     ·subst h4;simp
     ·simp[h0,h1,h2,h3,h4]
theorem str_nil(s:List UInt8):(s == [])=decide (s=[]):=by cases s<;>rfl
theorem Right02_v(w:Val):pcall I.qi [w.a]=some (.bool (okV w)):=by
 rw[pcall_eq c_qi rfl]
 have hz:=zero_eq w
 obtain ⟨k,n,u,s⟩:=w
 simp only at hz
 rw[okV_is]
 by_cases h0:k=0
 ·subst h0
  have e:((⟨0,n,u,s⟩:Val) == zeroV)=(decide (n=0)&&decide (u=0)&&decide (s=[])):=by
   rw[Bool.eq_iff_iff];simp[zeroV,and_assoc]
  rw[e]at hz
  simp[f_qi,b_qi,Val.a,hz,-eqCells,-Bool.and_eq_true]
 ·by_cases h1:k=1
  ·subst h1
   by_cases hu:u=0
   ·by_cases hs:s=[]
    ·by_cases hn0:n=0
     ·subst hu hs hn0;simp[f_qi,b_qi,Val.a,binStr]
     ·by_cases hn1:n=1
      ·subst hu hs hn1;simp[f_qi,b_qi,Val.a,binStr]
      ·subst hu hs;simp[f_qi,b_qi,Val.a,binStr,beq_f hn0,beq_f hn1,hn0,hn1]
    ·have hs':(s == [])=false:=by rw[str_nil];simp[hs]
     subst hu;simp[f_qi,b_qi,Val.a,binStr,hs,hs']
   ·simp[f_qi,b_qi,Val.a,binStr,hu,beq_f hu]
  ·by_cases h2:k=2
   ·subst h2
    by_cases hu:u=0
    ·by_cases hs:s=[]
     ·subst hu hs;simp[f_qi,b_qi,Val.a,binStr]
     ·have hs':(s == [])=false:=by rw[str_nil];simp[hs]
      subst hu;simp[f_qi,b_qi,Val.a,binStr,hs,hs']
    ·simp[f_qi,b_qi,Val.a,binStr,hu,beq_f hu]
   ·by_cases h3:k=3
    ·subst h3
     by_cases hn0:n=0
     ·by_cases hu:u=0
      ·by_cases hl:s.length≤40
       ·have hl':(s.length:Int)≤40:=by omega
        subst hu hn0;simp[f_qi,b_qi,Val.a,binStr,hl,hl']
       ·have hl':¬(s.length:Int)≤40:=by omega
        subst hu hn0;simp[f_qi,b_qi,Val.a,binStr,hl,hl']
      ·subst hn0;simp[f_qi,b_qi,Val.a,binStr,hu,beq_f hu]
     ·simp[f_qi,b_qi,Val.a,binStr,hn0,beq_f hn0]
    ·by_cases h4:k=4
     ·subst h4
      by_cases hs:s=[]
      ·subst hs;simp[f_qi,b_qi,Val.a,binStr]
      ·have hs':(s == [])=false:=by rw[str_nil];simp[hs]
       simp[f_qi,b_qi,Val.a,binStr,hs,hs']
     ·simp[f_qi,b_qi,binStr,Val.a,beq_f h0,beq_f h1,beq_f h2,beq_f h3,beq_f h4,h0,h1,h2,h3,h4]
theorem Plain02_v(w:Val):pcall I.qh [w.a]=some (.bool (plainV w)):=by
 rw[pcall_eq c_qh rfl]
 have h:=Right02_v w
 unfold plainV
 simp only[Val.a]at *
 cases hv:okV w<;>rw[hv]at h<;>simp[f_qh,b_qh,h]
theorem counts10_v(n:EN):pcall I.qq [n.a]=some (.bool (countsE n)):=by
 rw[pcall_eq c_qq rfl]
 have hp:=Plain02_v n.v
 have hz:=zero_eq n.v
 obtain ⟨t,l,r,c,w⟩:=n
 simp only[Val.a]at hp hz
 unfold countsE
 simp only
 by_cases h1:t=1
 ·subst h1
  cases hv:plainV w<;>rw[hv]at hp<;>simp[f_qq,b_qq,EN.a,hp]
 ·by_cases h2:t=2
  ·subst h2
   cases hv:(w == zeroV)<;>rw[hv]at hz<;>by_cases hc:0≤c<;>by_cases hc2:c < 16<;>simp[f_qq,b_qq,EN.a,hz,hc,hc2,-eqCells]
  ·cases hv:(w == zeroV)<;>rw[hv]at hz<;>simp[f_qq,b_qq,EN.a,hz,h1,h2,beq_f h1,beq_f h2,-eqCells]
end Go.AM
end
section
namespace Go.AM
open P
set_option maxHeartbeats 16000000
set_option maxRecDepth 8000
attribute [local simp] condRun_if when_if
def sizeP(e:List EN):Nat→Nat
 | 0=>0
 | m+1=>
  match e[m]? with
  | none=>0
  | some n=>
   if eparts n.tag < 0∨countsE n=false then 0
   else if eparts n.tag=0 then (if n.l=-1∧n.r=-1 then 1 else 0)
   else if sizeP e m=0 then 0
   else if eparts n.tag=1 then (if n.l=(m:Int) - 1∧n.r=-1 then sizeP e m+1 else 0)
   else if sizeP e (m - sizeP e m)=0∨n.r≠(m:Int) - 1∨n.l≠(m:Int) - 1 - sizeP e m then 0
   else sizeP e (m - sizeP e m)+sizeP e m+1
termination_by m=>m
decreasing_by all_goals omega
theorem sizeP_le(e:List EN):∀ m,sizeP e m≤m:=by
 intro m
 induction m using Nat.strongRecOn with
 | _ m ih=>
  cases m with
  | zero=>simp[sizeP]
  | succ m=>
   have h1:=ih m (by omega)
   have h2:=ih (m - sizeP e m) (by omega)
   rw[sizeP]
   split
   ·omega
   ·repeat' split
    all_goals omega
theorem size10_v(_:Bool)(e:List EN)(hn:e.length≤most):∀ m:Nat,∀ b,m≤e.length→pcall I.qt [exprA b e,.int .i64 ((m:Int) - 1)]=some (.int .i64 (sizeP e m)):=by
 intro m
 induction m using Nat.strongRecOn with
 | _ m ih=>
  intro b hm
  rw[pcall_eq c_qt rfl]
  cases m with
  | zero=>simp[f_qt,b_qt,exprA,sizeP]
  | succ m=>
   have hmm:((m+1:Nat):Int) - 1=(m:Int):=by omega
   rw[hmm]
   have hlt:m < e.length:=by omega
   have hg:=ensA_get hlt
   obtain ⟨n,hnn⟩:∃ n,e[m]=n:=⟨_,rfl⟩
   have hn':e[m]?=some n:=by rw[← hnn];exact List.getElem?_eq_getElem hlt
   rw[hnn]at hg
   have hge:¬((e.length:Int)≤m):=by omega
   have hneg:¬((m:Int) < 0):=by omega
   have hp:=parts10_v n.tag
   have hc:=counts10_v n
   have hw:IntKind.i64.wrap ((m:Int) - 1)=(m:Int) - 1:=wrap64_id (by unfold most at *;omega)
   rw[sizeP,hn']
   simp only
   have hle:=sizeP_le e m
   have i1:=fun b=>ih m (by omega) b (by omega)
   have i2:=fun b=>ih (m - sizeP e m) (by omega) b (by omega)
   unfold exprA at i1 i2 ⊢
   obtain ⟨t,l,r,c,w⟩:=n
   simp only[EN.a]at hg hc
   simp only at hp ⊢
   generalize countsE ⟨t,l,r,c,w⟩=cb at *
   have hpl:=eparts_le t
   generalize eparts t=p at *
   by_cases hp0:p < 0
   ·simp[f_qt,b_qt,hge,hneg,hg,hp,hp0]
   ·cases cb with
    | false=>simp[f_qt,b_qt,hge,hneg,hg,hp,hp0,hc]
    | true=>
     by_cases e0:p=0
     ·subst e0
      by_cases hl:l=-1
      ·subst hl
       by_cases hr:r=-1
       ·subst hr
        simp[f_qt,b_qt,hge,hneg,hg,hp,hc]
       ·simp[f_qt,b_qt,hge,hneg,hg,hp,hc,hr,bne_t hr]
      ·simp[f_qt,b_qt,hge,hneg,hg,hp,hc,hl,bne_t hl]
     ·by_cases z1:sizeP e m=0
      ·simp[f_qt,b_qt,hge,hneg,hg,hp,hc,hp0,beq_f e0,e0,hw,i1,z1]
      ·have z1':¬((sizeP e m:Int)=0):=by omega
       by_cases e1:p=1
       ·subst e1
        have hw1:IntKind.i64.wrap ((sizeP e m:Int)+1)=(sizeP e m:Int)+1:=wrap64_id (by unfold most at *;omega)
        by_cases hl:l=(m:Int) - 1
        ·subst hl
         by_cases hr:r=-1
         ·subst hr
          simp[f_qt,b_qt,hge,hneg,hg,hp,hc,hw,hw1,i1,z1,z1',beq_f z1']
         ·simp[f_qt,b_qt,hge,hneg,hg,hp,hc,hw,hw1,i1,z1,z1',beq_f z1',hr,bne_t hr]
        ·simp[f_qt,b_qt,hge,hneg,hg,hp,hc,hw,hw1,i1,z1,z1',beq_f z1',hl,bne_t hl]
       ·have hp2:p=2:=by omega
        subst hp2
        generalize hs:sizeP e m=q at *
        have hle2:=sizeP_le e (m - q)
        have hc2:((m - q:Nat):Int)=(m:Int) - q:=by omega
        rw[hc2]at i2
        have hw2:IntKind.i64.wrap ((m:Int) - 1 - q)=(m:Int) - 1 - q:=wrap64_id (by unfold most at *;omega)
        have hsw:(m:Int) - q - 1=(m:Int) - 1 - q:=by omega
        rw[hsw]at i2
        generalize sizeP e (m - q)=f at *
        have hw3:IntKind.i64.wrap ((f:Int)+q)=(f:Int)+q:=wrap64_id (by unfold most at *;omega)
        have hw4:IntKind.i64.wrap ((f:Int)+q+1)=(f:Int)+q+1:=wrap64_id (by unfold most at *;omega)
        by_cases z2:f=0
        ·subst z2
         simp[f_qt,b_qt,hge,hneg,hg,hp,hc,hw,i1,z1,z1',beq_f z1',hw2,i2]
        ·have z2':¬((f:Int)=0):=by omega
         by_cases hr:r=(m:Int) - 1
         ·subst hr
          by_cases hl:l=(m:Int) - 1 - q
          ·subst hl
           simp[f_qt,b_qt,hge,hneg,hg,hp,hc,hw,i1,z1,z1',beq_f z1',hw2,i2,z2,z2',beq_f z2',hw3,hw4]
          ·simp[f_qt,b_qt,hge,hneg,hg,hp,hc,hw,i1,z1,z1',beq_f z1',hw2,i2,z2,z2',beq_f z2',hw3,hw4,hl,bne_t hl]
         ·simp[f_qt,b_qt,hge,hneg,hg,hp,hc,hw,i1,z1,z1',beq_f z1',hw2,i2,z2,z2',beq_f z2',hw3,hw4,hr,bne_t hr]
def rightE(e:List EN):Bool:=decide (1≤e.length)&&decide (e.length≤1000)&&decide (sizeP e e.length=e.length)
theorem Right10_v(b:Bool)(e:List EN)(hn:e.length≤most):pcall I.qn [exprA b e]=some (.bool (rightE e)):=by
 rw[pcall_eq c_qn rfl]
 have h:=fun b=>size10_v b e hn e.length b (Nat.le_refl _)
 have hle:=sizeP_le e e.length
 unfold exprA at h ⊢
 unfold rightE
 have hw:IntKind.i64.wrap ((e.length:Int) - 1)=(e.length:Int) - 1:=wrap64_id (by unfold most at *;omega)
 by_cases h1:1≤e.length
 ·have h1':(1:Int)≤e.length:=by omega
  by_cases h2:e.length≤1000
  ·have h2':(e.length:Int)≤1000:=by omega
   by_cases h3:sizeP e e.length=e.length
   ·simp[f_qn,b_qn,h1,h1',h2,h2',hw,h,h3]
   ·have h3':¬((sizeP e e.length:Int)=e.length):=by omega
    simp[f_qn,b_qn,h1,h1',h2,h2',hw,h,h3,h3',beq_f h3']
  ·have h2':¬(e.length:Int)≤1000:=by omega
   simp[f_qn,b_qn,h1,h1',h2,h2']
 ·have h1':¬(1:Int)≤e.length:=by omega
  simp[f_qn,b_qn,h1,h1']
end Go.AM
end
namespace Go.AM
def tileE(e:List EN):Nat→List Nat→Prop
 | k,[]=>k=0
 | k,p::r=>k=p+1∧0 < sizeP e k∧tileE e (k - sizeP e k) r
theorem sizeP_one{e:List EN}{m:Nat}{n:EN}(hn:e[m]?=some n):sizeP e (m+1) =
   if eparts n.tag < 0∨countsE n=false then 0
   else if eparts n.tag=0 then (if n.l=-1∧n.r=-1 then 1 else 0)
   else if sizeP e m=0 then 0
   else if eparts n.tag=1 then (if n.l=(m:Int) - 1∧n.r=-1 then sizeP e m+1 else 0)
   else if sizeP e (m - sizeP e m)=0∨n.r≠(m:Int) - 1∨n.l≠(m:Int) - 1 - sizeP e m then 0
   else sizeP e (m - sizeP e m)+sizeP e m+1:=by
 rw[sizeP,hn]
theorem step_tile{e:List EN}{k:Nat}{n:EN}(hn:e[k]?=some n){a o a' o':List Nat}(ht:tileE e k o.reverse)(hs:stepE k n a o=some (a',o')):tileE e (k+1) o'.reverse∧a'.length=a.length+1:=by
 have h1:=sizeP_one hn
 unfold stepE at hs
 split at hs
 ·cases hs
 ·rename_i hc
  have hc1:¬(eparts n.tag < 0∨countsE n=false):=fun h=>hc (h.elim .inl fun h=>.inr (.inr h))
  have hc2:eparts n.tag≤o.length:=by
   have:¬((o.length:Int) < eparts n.tag):=fun h=>hc (.inr (.inl h))
   omega
  have hpl:=eparts_le n.tag
  rw[if_neg hc1]at h1
  have hp0:0≤eparts n.tag:=by
   have:¬(eparts n.tag < 0):=fun h=>hc1 (.inl h)
   omega
  clear hc hc1
  rcases (by omega:eparts n.tag=0∨eparts n.tag=1∨eparts n.tag=2) with hp|hp|hp
  ·rw[hp]at hs h1
   simp only[Int.toNat_zero,Nat.sub_zero,List.drop_length]at hs
   split at hs
   ·rename_i hlr
    cases hs
    rw[if_pos rfl,if_pos hlr]at h1
    refine ⟨?_,by simp⟩
    rw[List.reverse_append]
    refine ⟨rfl,by rw[h1];decide,?_⟩
    rw[h1];simpa using ht
   ·cases hs
  ·rw[hp]at hs h1 hc2
   obtain ⟨o0,p,rfl⟩:∃ o0 p,o=o0++[p]:=by
    rcases List.eq_nil_or_concat o with h|⟨o0,p,h⟩
    ·subst h;simp at hc2
    ·exact ⟨o0,p,by simpa using h⟩
   have e1:(o0++[p]).drop ((o0++[p]).length - (1:Int).toNat)=[p]:=by
    have:(o0++[p]).length - (1:Int).toNat=o0.length:=by simp
    rw[this,List.drop_left]
   rw[e1]at hs
   simp only at hs
   rw[List.reverse_append]at ht
   obtain ⟨t1,t2,t3⟩:=ht
   split at hs
   ·rename_i hlr
    cases hs
    have t2':sizeP e k≠0:=by omega
    rw[if_neg (by decide),if_neg t2',if_pos rfl,if_pos ⟨by omega,hlr.2⟩]at h1
    refine ⟨?_,by simp⟩
    have e2:(o0++[p]).take ((o0++[p]).length - 1)=o0:=by
     have:(o0++[p]).length - 1=o0.length:=by simp
     rw[this,List.take_left]
    rw[e2,List.reverse_append]
    refine ⟨rfl,by rw[h1];omega,?_⟩
    rw[h1,show k+1 - (sizeP e k+1)=k - sizeP e k by omega]
    exact t3
   ·cases hs
  ·rw[hp]at hs h1 hc2
   obtain ⟨o0,p,q,rfl⟩:∃ o0 p q,o=o0++[p,q]:=by
    rcases List.eq_nil_or_concat o with h|⟨o1,q,h⟩
    ·subst h;simp at hc2
    ·rcases List.eq_nil_or_concat o1 with h'|⟨o0,p,h'⟩
     ·subst h' h;simp at hc2
     ·exact ⟨o0,p,q,by rw[h,h'];simp⟩
   have e1:(o0++[p,q]).drop ((o0++[p,q]).length - (2:Int).toNat)=[p,q]:=by
    have:(o0++[p,q]).length - (2:Int).toNat=o0.length:=by simp
    rw[this,List.drop_left]
   rw[e1]at hs
   simp only at hs
   rw[List.reverse_append]at ht
   obtain ⟨t1,t2,t3,t4,t5⟩:=ht
   split at hs
   ·rename_i hlr
    cases hs
    have t2':sizeP e k≠0:=by omega
    rw[if_neg (by decide),if_neg t2',if_neg (by decide),if_neg (by
     rintro (h|h|h)
     ·omega
     ·exact h (by omega)
     ·exact h (by omega))]at h1
    refine ⟨?_,by simp⟩
    have e2:(o0++[p,q]).take ((o0++[p,q]).length - 2)=o0:=by
     have:(o0++[p,q]).length - 2=o0.length:=by simp
     rw[this,List.take_left]
    rw[e2,List.reverse_append]
    refine ⟨rfl,by rw[h1];omega,?_⟩
    rw[h1,show k+1 - (sizeP e (k - sizeP e k)+sizeP e k+1)=k - sizeP e k - sizeP e (k - sizeP e k) by omega]
    exact t5
   ·cases hs
theorem firsts_tile(e:List EN):∀ k,k≤e.length→∀ a o,firstsL (e.take k) 0 [] []=some (a,o)→tileE e k o.reverse∧a.length=k:=by
 intro k
 induction k with
 | zero=>
  intro _ a o h
  simp[firstsL]at h
  obtain ⟨rfl,rfl⟩:=h
  exact ⟨rfl,rfl⟩
 | succ k ih=>
  intro hk a o h
  have hlt:k < e.length:=by omega
  rw[List.take_succ_eq_append_getElem hlt,firstsL_snoc]at h
  cases hf:firstsL (e.take k) 0 [] [] with
  | none=>rw[hf]at h;cases h
  | some q=>
   obtain ⟨a1,o1⟩:=q
   rw[hf]at h
   simp only[Option.bind_some,Nat.zero_add,List.length_take]at h
   rw[Nat.min_eq_left (by omega)]at h
   obtain ⟨i1,i2⟩:=ih (by omega) a1 o1 hf
   obtain ⟨j1,j2⟩:=step_tile (List.getElem?_eq_getElem hlt) i1 h
   exact ⟨j1,by omega⟩
theorem size_firsts(e:List EN):∀ m,m≤e.length→0 < sizeP e m→∀ a o,firstsL (e.take (m - sizeP e m)) 0 [] []=some (a,o)→∃ a',firstsL (e.take m) 0 [] []=some (a',o++[m - 1]):=by
 intro m
 induction m using Nat.strongRecOn with
 | _ m ih=>
  intro hm h0 a o hf
  cases m with
  | zero=>simp[sizeP]at h0
  | succ m=>
   have hlt:m < e.length:=by omega
   have hn:e[m]?=some e[m]:=List.getElem?_eq_getElem hlt
   have h1:=sizeP_one hn
   have hstep:∀ a1 o1,firstsL (e.take m) 0 [] []=some (a1,o1)→firstsL (e.take (m+1)) 0 [] []=stepE m e[m] a1 o1:=fun a1 o1 h=>by
    rw[List.take_succ_eq_append_getElem hlt,firstsL_snoc,h]
    simp only[Option.bind_some,Nat.zero_add,List.length_take]
    rw[Nat.min_eq_left (by omega)]
   have hpl:=eparts_le e[m].tag
   generalize e[m]=n at *
   by_cases c1:eparts n.tag < 0∨countsE n=false
   ·rw[if_pos c1]at h1;omega
   ·rw[if_neg c1]at h1
    have c1a:¬eparts n.tag < 0:=fun h=>c1 (.inl h)
    have c1b:countsE n≠false:=fun h=>c1 (.inr h)
    rcases (by omega:eparts n.tag=0∨eparts n.tag=1∨eparts n.tag=2) with hp|hp|hp
    ·rw[if_pos hp]at h1
     split at h1
     ·rename_i hlr
      rw[h1]at hf
      rw[show m+1 - 1=m by omega]at hf
      rw[hstep a o hf]
      unfold stepE
      rw[if_neg (by
       rintro (h|h|h)
       ·exact c1a h
       ·omega
       ·exact c1b h),hp]
      simp only[Int.toNat_zero,Nat.sub_zero,List.drop_length,if_pos hlr]
      exact ⟨_,rfl⟩
     ·omega
    ·rw[if_neg (by omega)]at h1
     split at h1
     ·omega
     ·rename_i z1
      try rw[if_pos hp]at h1
      split at h1
      ·rename_i hlr
       rw[h1,show m+1 - (sizeP e m+1)=m - sizeP e m by omega]at hf
       obtain ⟨a1,hf1⟩:=ih m (by omega) (by omega) (by omega) a o hf
       have hm0:m≠0:=fun h=>by subst h;simp[sizeP]at z1
       rw[hstep _ _ hf1]
       unfold stepE
       have e1:(o++[m - 1]).drop ((o++[m - 1]).length - (1:Int).toNat)=[m - 1]:=by
        have:(o++[m - 1]).length - (1:Int).toNat=o.length:=by simp
        rw[this,List.drop_left]
       have e2:(o++[m - 1]).take ((o++[m - 1]).length - 1)=o:=by
        have:(o++[m - 1]).length - 1=o.length:=by simp
        rw[this,List.take_left]
       rw[if_neg (by
        rintro (h|h|h)
        ·exact c1a h
        ·simp at h;omega
        ·exact c1b h),hp,e1]
       simp only
       rw[if_pos ⟨by omega,hlr.2⟩,e2]
       exact ⟨_,rfl⟩
      ·omega
    ·rw[if_neg (by omega)]at h1
     split at h1
     ·omega
     ·rename_i z1
      try rw[if_neg (show ¬eparts n.tag=1 by omega)]at h1
      split at h1
      ·omega
      ·rename_i z2
       have y1:sizeP e (m - sizeP e m)≠0:=fun h=>z2 (.inl h)
       have y2:n.r=(m:Int) - 1:=Classical.byContradiction fun h=>z2 (.inr (.inl h))
       have y3:n.l=(m:Int) - 1 - sizeP e m:=Classical.byContradiction fun h=>z2 (.inr (.inr h))
       have hle:=sizeP_le e m
       rw[h1,show m+1 - (sizeP e (m - sizeP e m)+sizeP e m+1)=(m - sizeP e m) - sizeP e (m - sizeP e m) by omega]at hf
       obtain ⟨a1,hf1⟩:=ih (m - sizeP e m) (by omega) (by omega) (by omega) a o hf
       obtain ⟨a2,hf2⟩:=ih m (by omega) (by omega) (by omega) a1 _ hf1
       have hm0:m - sizeP e m≠0:=fun h=>by rw[h]at y1;simp[sizeP]at y1
       rw[hstep _ _ hf2]
       rw[List.append_assoc,List.cons_append,List.nil_append]
       unfold stepE
       generalize hpq:m - sizeP e m - 1=p at *
       have e1:(o++[p,m - 1]).drop ((o++[p,m - 1]).length - (2:Int).toNat)=[p,m - 1]:=by
        have:(o++[p,m - 1]).length - (2:Int).toNat=o.length:=by simp
        rw[this,List.drop_left]
       have e2:(o++[p,m - 1]).take ((o++[p,m - 1]).length - 2)=o:=by
        have:(o++[p,m - 1]).length - 2=o.length:=by simp
        rw[this,List.take_left]
       rw[if_neg (by
        rintro (h|h|h)
        ·exact c1a h
        ·simp at h;omega
        ·exact c1b h),hp,e1]
       simp only
       rw[if_pos ⟨by omega,by omega⟩,e2]
       exact ⟨_,rfl⟩
theorem right_ok(e:List EN):rightE e=okE e:=by
 rw[Bool.eq_iff_iff]
 unfold rightE okE
 have hle:=sizeP_le e e.length
 constructor
 ·intro h
  simp only[Bool.and_eq_true,decide_eq_true_eq]at h
  obtain ⟨⟨h1,h2⟩,h3⟩:=h
  obtain ⟨a,ha⟩:=size_firsts e e.length (Nat.le_refl _) (by omega) [] [] (by rw[h3,Nat.sub_self];rfl)
  have hl:=(firsts_tile e e.length (Nat.le_refl _) _ _ ha).2
  rw[List.take_length]at ha
  rw[ha]
  simp;omega
 ·intro h
  cases hf:firstsL e 0 [] [] with
  | none=>rw[hf]at h;cases h
  | some q=>
   obtain ⟨a,o⟩:=q
   rw[hf]at h
   simp only[Bool.and_eq_true,beq_iff_eq,decide_eq_true_eq]at h
   obtain ⟨t,hl⟩:=firsts_tile e e.length (Nat.le_refl _) a o (by rw[List.take_length];exact hf)
   match o,h.1 with
   | [p],_=>
    obtain ⟨t1,t2,t3⟩:=t
    have t3':e.length - sizeP e e.length=0:=t3
    simp only[Bool.and_eq_true,decide_eq_true_eq]
    omega
theorem Right10_ok(b:Bool)(e:List EN)(hn:e.length≤most):pcall I.qn [exprA b e]=some (.bool (okE e)):=by
 rw[← right_ok];exact Right10_v b e hn
end Go.AM
section
namespace Go.AM
open P
set_option maxHeartbeats 16000000
set_option maxRecDepth 8000
attribute [local simp] condRun_if when_if
def fits10(k w:Int):Bool:=k == w || k == 0
theorem fits10_v(k w:Int):pcall I.qr [.int .i64 k,.int .i64 w]=some (.bool (fits10 k w)):=by
 rw[pcall_eq c_qr rfl]
 unfold fits10
 by_cases h:k=w
 ·simp[f_qr,b_qr,h]
 ·simp[f_qr,b_qr,beq_f h]
def kind10F(t l r:Int):Int×Bool:=
 if t=4∨(12≤t∧t≤15) then (2,fits10 l 2&&fits10 r 2)
 else if t=5∨22≤t then (1,fits10 l 1&&fits10 r 1)
 else if t=6∨t=7 then (1,true)
 else (1,l == r || l == 0 || r == 0)
theorem kind10_v(t l r:Int):pcall I.qs [.int .i64 t,.int .i64 l,.int .i64 r]=some (.tup [.int .i64 (kind10F t l r).1,.bool (kind10F t l r).2]):=by
 rw[pcall_eq c_qs rfl]
 have h:=fits10_v
 unfold kind10F
 by_cases c1:t=4∨(12≤t∧t≤15)
 ·rw[if_pos c1]
  have a1:=h l 2
  have a2:=h r 2
  generalize fits10 l 2=x at *
  generalize fits10 r 2=y at *
  rcases c1 with c1|⟨c1,c2⟩
  ·subst c1
   cases x<;>simp[f_qs,b_qs,a1,a2]
  ·have c3:¬t=4:=by omega
   cases x<;>simp[f_qs,b_qs,a1,a2,beq_f c3,c1,c2]
 ·rw[if_neg c1]
  have n4:¬t=4:=fun h=>c1 (.inl h)
  have n12:12≤t→¬t≤15:=fun h h'=>c1 (.inr ⟨h,h'⟩)
  have hb:(if 12≤t then decide (t≤15) else false)=false:=by
   by_cases h:12≤t
   ·simp[n12 h]
   ·simp[h]
  by_cases c2:t=5∨22≤t
  ·rw[if_pos c2]
   have a1:=h l 1
   have a2:=h r 1
   generalize fits10 l 1=x at *
   generalize fits10 r 1=y at *
   rcases c2 with c2|c2
   ·subst c2
    cases x<;>simp[f_qs,b_qs,a1,a2]
   ·have m1:¬t=5:=by omega
    have m2:12≤t:=by omega
    have m3:¬t≤15:=by omega
    cases x<;>simp[f_qs,b_qs,a1,a2,beq_f n4,beq_f m1,m2,m3,c2]
  ·rw[if_neg c2]
   have n5:¬t=5:=fun h=>c2 (.inl h)
   have n22:¬22≤t:=fun h=>c2 (.inr h)
   by_cases c3:t=6∨t=7
   ·rw[if_pos c3]
    rcases c3 with c3|c3<;>subst c3<;>simp[f_qs,b_qs]
   ·rw[if_neg c3]
    have n6:¬t=6:=fun h=>c3 (.inl h)
    have n7:¬t=7:=fun h=>c3 (.inr h)
    by_cases m2:12≤t
    ·have m3:=n12 m2
     by_cases x1:l=r
     ·simp[f_qs,b_qs,beq_f n4,beq_f n5,beq_f n6,beq_f n7,m2,m3,n22,x1]
     ·by_cases x2:l=0
      ·subst x2;simp[f_qs,b_qs,beq_f n4,beq_f n5,beq_f n6,beq_f n7,m2,m3,n22,x1,beq_f x1]
      ·simp[f_qs,b_qs,beq_f n4,beq_f n5,beq_f n6,beq_f n7,m2,m3,n22,beq_f x1,beq_f x2]
    ·by_cases x1:l=r
     ·simp[f_qs,b_qs,beq_f n4,beq_f n5,beq_f n6,beq_f n7,m2,n22,x1]
     ·by_cases x2:l=0
      ·subst x2;simp[f_qs,b_qs,beq_f n4,beq_f n5,beq_f n6,beq_f n7,m2,n22,x1,beq_f x1]
      ·simp[f_qs,b_qs,beq_f n4,beq_f n5,beq_f n6,beq_f n7,m2,n22,beq_f x1,beq_f x2]
def posG(kinds:List Int)(_:Nat)(n:EN)(own:List Int):List Int⊕Unit:=
 if n.tag=1 then .inl (own++[n.v.k]) else if n.tag=2 then .inl (own++[kinds.getD n.col.toNat 0]) else
 if (kind10F n.tag (own.getD n.l.toNat 0) (if 0≤n.r then own.getD n.r.toNat 0 else 0)).2=true then .inl (own++[(kind10F n.tag (own.getD n.l.toNat 0) (if 0≤n.r then own.getD n.r.toNat 0 else 0)).1]) else .inr ()
end Go.AM
end
namespace Go.AM
theorem foldL_last{α σ ρ:Type}(g:Nat→α→σ→σ⊕ρ)(y:α):∀ (l:List α) (k:Nat) (s:σ),foldL g (l++[y]) k s=match foldL g l k s with
  | .inl s'=>g (k+l.length) y s'
  | .inr r=>.inr r
 | [],k,s=>by
  simp only[List.nil_append,foldL,List.length_nil,Nat.add_zero]
  cases g k y s<;>rfl
 | x::l,k,s=>by
  simp only[List.cons_append,foldL,List.length_cons]
  cases g k x s with
  | inl s'=>
   simp only
   rw[foldL_last g y l (k+1) s',show k+1+l.length=k+(l.length+1) by omega]
  | inr r=>rfl
def k03(k:Int):Prop:=0≤k∧k≤3
theorem plain_k{v:Val}(h:plainV v=true):k03 v.k:=by
 obtain ⟨k,n,u,s⟩:=v
 unfold plainV at h
 simp only[Bool.and_eq_true,bne_iff_ne,ne_eq]at h
 obtain ⟨h1,h2⟩:=h
 rw[okV_is]at h1
 unfold k03
 simp only
 split at h1
 ·omega
 ·split at h1
  ·omega
  ·split at h1
   ·omega
   ·split at h1
    ·omega
    ·simp at h1;omega
theorem kind_one{kinds:List Int}{n:EN}(h:eparts n.tag=1){x:Int}(hx:k03 x):kind1F kinds n [x]=if (kind10F n.tag x 0).2=true then ((kind10F n.tag x 0).1,0) else (0,201):=by
 unfold eparts at h
 have ht:4≤n.tag∧n.tag≤7:=by
  split at h
  ·omega
  ·split at h
   ·assumption
   ·split at h<;>omega
 unfold k03 at hx
 unfold kind1F kind10F arithF fits10 ownG
 rcases (by omega:n.tag=4∨n.tag=5∨n.tag=6∨n.tag=7) with h|h|h|h<;>rcases (by omega:x=0∨x=1∨x=2∨x=3) with h'|h'|h'|h'<;>rw[h,h']<;>rfl
theorem kind_two{kinds:List Int}{n:EN}(h:eparts n.tag=2){x y:Int}(hx:k03 x)(hy:k03 y):kind1F kinds n [x,y]=if (kind10F n.tag x y).2=true then ((kind10F n.tag x y).1,0) else (0,201):=by
 unfold eparts at h
 have ht:12≤n.tag∧n.tag≤23:=by
  split at h
  ·omega
  ·split at h
   ·omega
   ·split at h
    ·assumption
    ·omega
 unfold k03 at hx hy
 unfold kind1F kind10F arithF fits10 ownG
 rcases (by omega:(n.tag=12∨n.tag=13∨n.tag=14∨n.tag=15)∨(n.tag=22∨n.tag=23)∨(n.tag=16∨n.tag=17∨n.tag=18∨n.tag=19∨n.tag=20∨n.tag=21)) with h|h|h
 all_goals
  rcases (by omega:x=0∨x=1∨x=2∨x=3) with h'|h'|h'|h'<;>rcases (by omega:y=0∨y=1∨y=2∨y=3) with h''|h''|h''|h''<;>rw[h',h'']<;>clear h' h''
 all_goals
  first
   | (rcases h with h|h|h|h<;>rw[h]<;>rfl)
   | (rcases h with h|h|h|h|h|h<;>rw[h]<;>rfl)
   | (rcases h with h|h<;>rw[h]<;>rfl)
theorem kind10_k{t l r:Int}:k03 (kind10F t l r).1:=by
 unfold kind10F k03
 repeat' split
 all_goals (simp only;omega)
end Go.AM
namespace Go.AM
def posInv(kinds:List Int)(e:List EN)(k:Nat)(o:List Nat):Prop:=
 (∃ own,foldL (posG kinds) (e.take k) 0 []=.inl own∧own.length=k∧(∀ x∈own,k03 x)∧foldL (overG (kind1F kinds)) (e.take k) 0 []=.inl (o.map fun p=>own.getD p 0)) ∨
 (foldL (posG kinds) (e.take k) 0 []=.inr ()∧foldL (overG (kind1F kinds)) (e.take k) 0 []=.inr 201)
theorem getD_k03{own:List Int}(h:∀ x∈own,k03 x)(p:Nat):k03 (own.getD p 0):=by
 rw[List.getD_eq_getElem?_getD]
 cases hp:own[p]? with
 | none=>exact ⟨by decide,by decide⟩
 | some x=>exact h x (List.mem_of_getElem? hp)
theorem map_getD{own:List Int}{k:Nat}(hl:own.length=k)(x:Int){o:List Nat}(ho:∀ p∈o,p < k):(o.map fun p=>(own++[x]).getD p 0)=o.map fun p=>own.getD p 0:=
 List.map_congr_left fun p hp=>by
  have:=ho p hp
  simp only[List.getD_eq_getElem?_getD]
  rw[List.getElem?_append_left (by omega)]
theorem getD_last{own:List Int}{k:Nat}(hl:own.length=k)(x:Int):(own++[x]).getD k 0=x:=by
 rw[List.getD_eq_getElem?_getD,List.getElem?_append_right (by omega),hl,Nat.sub_self];rfl
theorem k03_snoc{own:List Int}{x:Int}(h:∀ x∈own,k03 x)(hx:k03 x):∀ y∈own++[x],k03 y:=fun y hy=>by
 rcases List.mem_append.1 hy with h'|h'
 ·exact h y h'
 ·rw[List.mem_singleton.1 h'];exact hx
theorem pos_step{kinds:List Int}{e:List EN}{k:Nat}{n:EN}(hn:e[k]?=some n)(hks:∀ x∈kinds,k03 x){a o a' o':List Nat}(ho:∀ p∈o,p < k)(hs:stepE k n a o=some (a',o'))(h:posInv kinds e k o):posInv kinds e (k+1) o':=by
 obtain ⟨hk,he⟩:=List.getElem?_eq_some_iff.1 hn
 have htk:e.take (k+1)=e.take k++[n]:=by rw[List.take_succ_eq_append_getElem hk,he]
 have hlk:(e.take k).length=k:=by rw[List.length_take];omega
 unfold posInv
 rw[htk,foldL_last,foldL_last]
 rcases h with ⟨own,h1,h2,h3,h4⟩|⟨h1,h2⟩
 ·rw[h1,h4]
  simp only
  unfold stepE at hs
  split at hs
  ·cases hs
  ·rename_i hc
   have hcn:countsE n=true:=by
    cases hq:countsE n
    ·exact absurd (.inr (.inr hq)) hc
    ·rfl
   have hpl:=eparts_le n.tag
   have hp0:0≤eparts n.tag:=by
    have:¬(eparts n.tag < 0):=fun h=>hc (.inl h)
    omega
   have hc2:eparts n.tag≤o.length:=by
    have:¬((o.length:Int) < eparts n.tag):=fun h=>hc (.inr (.inl h))
    omega
   clear hc
   rcases (by omega:eparts n.tag=0∨eparts n.tag=1∨eparts n.tag=2) with hp|hp|hp
   ·rw[hp]at hs
    simp only[Int.toNat_zero,Nat.sub_zero,List.drop_length]at hs
    split at hs
    ·cases hs
     have ht:n.tag=1∨n.tag=2:=by
      unfold eparts at hp
      split at hp
      ·assumption
      ·split at hp
       ·omega
       ·split at hp<;>omega
     left
     unfold posG overG
     rw[hp]
     simp only[Int.toNat_zero,Nat.sub_zero,List.drop_length,List.length_map,List.take_of_length_le,Nat.le_refl]
     have e0:(o.map fun p=>own.getD p 0).drop o.length=[]:=List.drop_of_length_le (by simp)
     have e1:(o.map fun p=>own.getD p 0).take o.length=o.map fun p=>own.getD p 0:=List.take_of_length_le (by simp)
     first|rw[e0,e1]|rw[e0]
     rcases ht with ht|ht
     ·have hv:=plain_k (v:=n.v) (by
       unfold countsE at hcn
       rw[if_pos ht]at hcn
       exact (Bool.and_eq_true _ _ ▸ hcn).1)
      rw[if_pos ht]
      refine ⟨_,rfl,by simp[h2],k03_snoc h3 hv,?_⟩
      unfold kind1F
      simp only[List.foldl_nil,if_pos ht,List.map_append,List.map_cons,List.map_nil]
      rw[if_pos trivial,map_getD h2 _ ho,getD_last h2]
     ·have ht1:¬n.tag=1:=by omega
      rw[if_neg ht1,if_pos ht]
      refine ⟨_,rfl,by simp[h2],k03_snoc h3 (getD_k03 hks _),?_⟩
      unfold kind1F
      simp only[List.foldl_nil,if_neg ht1,if_pos ht,List.map_append,List.map_cons,List.map_nil]
      rw[if_pos trivial,map_getD h2 _ ho,getD_last h2]
    ·cases hs
   ·have ht:¬n.tag=1∧¬n.tag=2:=by
     unfold eparts at hp
     split at hp
     ·omega
     ·omega
    rw[hp]at hs hc2
    obtain ⟨o0,p,rfl⟩:∃ o0 p,o=o0++[p]:=by
     rcases List.eq_nil_or_concat o with h|⟨o0,p,h⟩
     ·subst h;simp at hc2
     ·exact ⟨o0,p,by simpa using h⟩
    have e1:(o0++[p]).drop ((o0++[p]).length - (1:Int).toNat)=[p]:=by
     have:(o0++[p]).length - (1:Int).toNat=o0.length:=by simp
     rw[this,List.drop_left]
    have e2:(o0++[p]).take ((o0++[p]).length - 1)=o0:=by
     have:(o0++[p]).length - 1=o0.length:=by simp
     rw[this,List.take_left]
    rw[e1]at hs
    simp only at hs
    split at hs
    ·rename_i hlr
     cases hs
     rw[e2]
     have hx:=getD_k03 h3 p
     have hpk:=ho p (by simp)
     have ho0:∀ q∈o0,q < k:=fun q hq=>ho q (by simp[hq])
     unfold posG overG
     rw[if_neg ht.1,if_neg ht.2,hlr.1,hlr.2,if_neg (show ¬(0:Int)≤-1 by decide),hp]
     simp only[Int.toNat_natCast]
     have f1:((o0++[p]).map fun p=>own.getD p 0).drop (((o0++[p]).map fun p=>own.getD p 0).length - (1:Int).toNat)=[own.getD p 0]:=by
      rw[List.map_append]
      have:(o0.map (fun p=>own.getD p 0)++[p].map fun p=>own.getD p 0).length - (1:Int).toNat=(o0.map fun p=>own.getD p 0).length:=by simp
      rw[this,List.drop_left];rfl
     have f2:((o0++[p]).map fun p=>own.getD p 0).take (((o0++[p]).map fun p=>own.getD p 0).length - (1:Int).toNat)=o0.map fun p=>own.getD p 0:=by
      rw[List.map_append]
      have:(o0.map (fun p=>own.getD p 0)++[p].map fun p=>own.getD p 0).length - (1:Int).toNat=(o0.map fun p=>own.getD p 0).length:=by simp
      rw[this,List.take_left]
     rw[f1,f2,kind_one hp hx]
     by_cases hok:(kind10F n.tag (own.getD p 0) 0).2=true
     ·left
      rw[if_pos hok]
      refine ⟨_,rfl,by simp[h2],k03_snoc h3 kind10_k,?_⟩
      first|rw[if_pos hok]|skip
      simp only[if_true]
      rw[List.map_append,map_getD h2 _ ho0]
      simp only[List.map_cons,List.map_nil,getD_last h2]
     ·right
      rw[if_neg hok]
      first|exact ⟨rfl,rfl⟩|(refine ⟨rfl,?_⟩;rw[if_neg hok];rfl)|exact ⟨rfl,by simp[hok]⟩
    ·cases hs
   ·have ht:¬n.tag=1∧¬n.tag=2:=by
     unfold eparts at hp
     split at hp
     ·omega
     ·omega
    rw[hp]at hs hc2
    obtain ⟨o0,p,q,rfl⟩:∃ o0 p q,o=o0++[p,q]:=by
     rcases List.eq_nil_or_concat o with h|⟨o1,q,h⟩
     ·subst h;simp at hc2
     ·rcases List.eq_nil_or_concat o1 with h'|⟨o0,p,h'⟩
      ·subst h' h;simp at hc2
      ·exact ⟨o0,p,q,by rw[h,h'];simp⟩
    have e1:(o0++[p,q]).drop ((o0++[p,q]).length - (2:Int).toNat)=[p,q]:=by
     have:(o0++[p,q]).length - (2:Int).toNat=o0.length:=by simp
     rw[this,List.drop_left]
    have e2:(o0++[p,q]).take ((o0++[p,q]).length - 2)=o0:=by
     have:(o0++[p,q]).length - 2=o0.length:=by simp
     rw[this,List.take_left]
    rw[e1]at hs
    simp only at hs
    split at hs
    ·rename_i hlr
     cases hs
     rw[e2]
     have hx:=getD_k03 h3 p
     have hy:=getD_k03 h3 q
     have ho0:∀ q∈o0,q < k:=fun q hq=>ho q (by simp[hq])
     unfold posG overG
     rw[if_neg ht.1,if_neg ht.2,hlr.1,hlr.2,if_pos (show (0:Int)≤((q:Nat):Int) by omega),hp]
     simp only[Int.toNat_natCast]
     have f1:((o0++[p,q]).map fun p=>own.getD p 0).drop (((o0++[p,q]).map fun p=>own.getD p 0).length - (2:Int).toNat)=[own.getD p 0,own.getD q 0]:=by
      rw[List.map_append]
      have:(o0.map (fun p=>own.getD p 0)++[p,q].map fun p=>own.getD p 0).length - (2:Int).toNat=(o0.map fun p=>own.getD p 0).length:=by simp
      rw[this,List.drop_left];rfl
     have f2:((o0++[p,q]).map fun p=>own.getD p 0).take (((o0++[p,q]).map fun p=>own.getD p 0).length - (2:Int).toNat)=o0.map fun p=>own.getD p 0:=by
      rw[List.map_append]
      have:(o0.map (fun p=>own.getD p 0)++[p,q].map fun p=>own.getD p 0).length - (2:Int).toNat=(o0.map fun p=>own.getD p 0).length:=by simp
      rw[this,List.take_left]
     rw[f1,f2,kind_two hp hx hy]
     by_cases hok:(kind10F n.tag (own.getD p 0) (own.getD q 0)).2=true
     ·left
      rw[if_pos hok]
      refine ⟨_,rfl,by simp[h2],k03_snoc h3 kind10_k,?_⟩
      first|rw[if_pos hok]|skip
      simp only[if_true]
      rw[List.map_append,map_getD h2 _ ho0]
      simp only[List.map_cons,List.map_nil,getD_last h2]
     ·right
      rw[if_neg hok]
      first|exact ⟨rfl,rfl⟩|(refine ⟨rfl,?_⟩;rw[if_neg hok];rfl)|exact ⟨rfl,by simp[hok]⟩
    ·cases hs
 ·rw[h1,h2]
  exact .inr ⟨rfl,rfl⟩
theorem pos_all{kinds:List Int}{e:List EN}(hks:∀ x∈kinds,k03 x)(ho:okE e=true):∀ k,k≤e.length→∃ a o,firstsL (e.take k) 0 [] []=some (a,o)∧a.length=k∧o.length≤k∧(∀ p∈o,p < k)∧posInv kinds e k o:=by
 intro k
 induction k with
 | zero=>intro _;exact ⟨[],[],rfl,rfl,by simp,by simp,.inl ⟨[],rfl,rfl,by simp,rfl⟩⟩
 | succ k ih=>
  intro hk
  obtain ⟨a,o,i1,i2,i3,i4,i5⟩:=ih (by omega)
  have hn:e[k]?=some e[k]:=List.getElem?_eq_getElem (by omega)
  obtain ⟨a',o',s1,s2,_⟩:=okE_step ho hn i1
  obtain ⟨v1,v2,v3⟩:=stepE_inv i2 i4 i3 s2
  exact ⟨a',o',s1,v1,v3,v2,pos_step hn hks i4 s2 i5⟩
theorem pos_over{kinds:List Int}{e:List EN}(hks:∀ x∈kinds,k03 x)(ho:okE e=true) :
  (∃ own,foldL (posG kinds) e 0 []=.inl own∧own.length=e.length∧overF 0 (kind1F kinds) e=(own.getD (e.length - 1) 0,0))∨(foldL (posG kinds) e 0 []=.inr ()∧overF 0 (kind1F kinds) e=(0,201)):=by
 obtain ⟨a,o,h1,h2,_,_,h3⟩:=pos_all (kinds:=kinds) hks ho e.length (Nat.le_refl _)
 have ht:=(firsts_tile e e.length (Nat.le_refl _) a o h1).1
 unfold posInv at h3
 rw[List.take_length]at h1 h3
 have hl:=okE_end ho h1
 match o,hl with
 | [p],_=>
  obtain ⟨t1,_,_⟩:=ht
  unfold overF
  rcases h3 with ⟨own,g1,g2,_,g4⟩|⟨g1,g2⟩
  ·left
   rw[g4]
   exact ⟨own,g1,g2,by simp[show e.length - 1=p by omega]⟩
  ·right
   rw[g2]
   exact ⟨g1,rfl⟩
end Go.AM
section
namespace Go.AM
open P
set_option maxRecDepth 100000
set_option maxHeartbeats 4000000
end Go.AM
end
section
namespace Go.AM
open P
set_option maxHeartbeats 2000000
set_option maxRecDepth 4000
end Go.AM
end
section
namespace Go.AM
open P
set_option maxHeartbeats 8000000
set_option maxRecDepth 8000
attribute [local simp] condRun_if when_if
def rowX(r:List Val):AVal:=.imm false (r.map Val.a)
instance:Nc rowX 1 false:=⟨fun _=>rfl,fun _=>rfl⟩
instance:Fx rowX:=⟨fun fl top base σ n y=>by simp[rowX]⟩
@[simp] theorem rowX_nc(r:List Val):ncells (rowX r)=1:=rfl
@[simp] theorem rowX_agg(r:List Val):isAgg (rowX r)=false:=rfl
instance:Nc (SlX.c rowX) 1 false:=⟨fun _=>rfl,fun _=>rfl⟩
end Go.AM
end
section
namespace Go.AM
open P
set_option maxHeartbeats 8000000
set_option maxRecDepth 8000
attribute [local simp] condRun_if when_if
end Go.AM
end
section
namespace Go.AM
open P
set_option maxRecDepth 20000
set_option maxHeartbeats 8000000
attribute [local simp] condRun_if when_if
instance:Nc (AVal.int .u8) 1 false:=⟨fun _=>rfl,fun _=>rfl⟩
instance:Fx (AVal.int .u8):=⟨fun _ _ _ _ _ _=>rfl⟩
instance:Nc (fun (c:UInt8)=>AVal.int .u8 (c.toNat:Int)) 1 false:=⟨fun _=>rfl,fun _=>rfl⟩
instance:Fx (fun (c:UInt8)=>AVal.int .u8 (c.toNat:Int)):=⟨fun _ _ _ _ _ _=>rfl⟩
end Go.AM
end
section
namespace Go.AM
open P
set_option maxRecDepth 8000
set_option maxHeartbeats 8000000
attribute [local simp] condRun_if when_if
end Go.AM
end
section
namespace Go.AM
open P
set_option maxHeartbeats 8000000
set_option maxRecDepth 8000
attribute [local simp] condRun_if when_if
end Go.AM
end
section
namespace Go.AM
open P
set_option maxHeartbeats 8000000
set_option maxRecDepth 8000
attribute [local simp] condRun_if when_if
end Go.AM
end
section
namespace Go.AM
open P
set_option maxHeartbeats 8000000
set_option maxRecDepth 8000
attribute [local simp] condRun_if when_if
@[simp] theorem V_yldX(l site:Nat)(env args:List AVal)(σ:Store):acallV code (.yld l site env) args σ=if pendAt σ l then acall code site (.frs l []::env++args) σ else none:=rfl
@[simp] theorem thenRng_x(l:Nat)(env:List AVal)(r:AVal×Store):thenRng l env (some r)=jumped l env r.2:=rfl
def grpA(g:List Val×List (List Val)):AVal:=.agg [rowX g.1,.imm false (g.2.map rowX)]
instance:Nc grpA 2 true:=⟨fun _=>rfl,fun _=>rfl⟩
instance:Fx grpA:=⟨fun fl top base σ n y=>by
 cases fl<;>simp[grpA,rowX]⟩
end Go.AM
end
section
namespace Go.AM
open P
set_option maxHeartbeats 8000000
set_option maxRecDepth 8000
attribute [local simp] condRun_if when_if
end Go.AM
end
section
namespace Go.AM
open P
set_option maxHeartbeats 8000000
set_option maxRecDepth 8000
attribute [local simp] condRun_if when_if
theorem fz_yld(fl top:Bool)(base:Nat)(σ:Store)(n l s:Nat)(e:List AVal):fz fl top base σ (n+1) (.yld l s e)=if (decide (l < base)&&top)=true then .yld l s (e.map (fz fl top base σ n)) else .any:=by
 simp only[fz]
end Go.AM
end
section
namespace Go.AM
open P
set_option maxHeartbeats 8000000
set_option maxRecDepth 8000
attribute [local simp] condRun_if when_if
end Go.AM
end
section
namespace Go.AM
open P
set_option maxHeartbeats 4000000
set_option maxRecDepth 8000
attribute [local simp] condRun_if when_if
def intVal(n:Int):Val:=⟨2,n,0,[]⟩
end Go.AM
end
section
namespace Go.AM
open P
set_option maxHeartbeats 2000000
set_option maxRecDepth 4000
def areF(kind:Int)(l:List Val):Int:=if l.all okV then (if l.all fun v=>v.k == 0 || v.k == kind then 0 else 2) else 120
end Go.AM
end
section
namespace Go.AM
open P
set_option maxHeartbeats 4000000
set_option maxRecDepth 8000
attribute [local simp] condRun_if when_if
def rg(n:Int):Prop:=-9223372036854775808≤n∧n < 9223372036854775808
def doF(to:Int→Int→Int×Bool)(a b:Val):Val×Int:=
 if areF 2 [a,b]=0 then (if a.k=0∨b.k=0 then (zeroV,0) else if (to a.n b.n).2 then (intVal (to a.n b.n).1,0) else (zeroV,140)) else (zeroV,areF 2 [a,b])
end Go.AM
end
section
namespace Go.AM
open P
set_option maxHeartbeats 4000000
set_option maxRecDepth 8000
attribute [local simp] condRun_if when_if
end Go.AM
end
section
namespace Go.AM
open P
set_option maxHeartbeats 4000000
set_option maxRecDepth 8000
attribute [local simp] condRun_if when_if
end Go.AM
end
section
namespace Go.AM
open P
set_option maxHeartbeats 4000000
set_option maxRecDepth 8000
attribute [local simp] condRun_if when_if
end Go.AM
end
section
namespace Go.AM
open P
set_option maxHeartbeats 4000000
set_option maxRecDepth 8000
attribute [local simp] condRun_if when_if
end Go.AM
end
section
namespace Go.AM
open P
set_option maxHeartbeats 8000000
set_option maxRecDepth 8000
attribute [local simp] condRun_if when_if
def Iv(v:Val):Prop:=plainV v=true∧rg v.n
end Go.AM
end
namespace Go.AM
end Go.AM
section
namespace Go.AM
open P
set_option maxHeartbeats 8000000
set_option maxRecDepth 8000
attribute [local simp] condRun_if when_if
end Go.AM
end
section
namespace Go.AM
open P
set_option maxHeartbeats 8000000
set_option maxRecDepth 8000
attribute [local simp] condRun_if when_if
end Go.AM
end
section
namespace Go.AM
open P
set_option maxHeartbeats 8000000
set_option maxRecDepth 8000
attribute [local simp] condRun_if when_if
end Go.AM
end
section
namespace Go.AM
open P
set_option maxHeartbeats 8000000
set_option maxRecDepth 8000
attribute [local simp] condRun_if when_if
end Go.AM
end
section
namespace Go.AM
open P
set_option maxHeartbeats 8000000
set_option maxRecDepth 8000
attribute [local simp] condRun_if when_if
end Go.AM
end
section
namespace Go.AM
open P
set_option maxHeartbeats 8000000
set_option maxRecDepth 8000
attribute [local simp] condRun_if when_if
end Go.AM
end
section
namespace Go.AM
open P
set_option maxHeartbeats 8000000
set_option maxRecDepth 8000
attribute [local simp] condRun_if when_if
theorem rounds_listR{α σ ρ:Type}{base:Nat}{clr:List Nat}{b:ACode}(l:List α)(R:Nat→σ→St→Prop)(g:Nat→α→σ→σ⊕ρ)(E:σ→Ex×St→Prop)(Q:ρ→Ex×St→Prop)
  (hstep:∀ k y s t,k < l.length→l[k]?=some y→R k s t→match g k y s with
   | .inl s'=>∃ t',thenLoop base clr b (run code b t)=rounds code base clr b t'∧R (k+1) s' t'
   | .inr r=>∃ o,thenLoop base clr b (run code b t)=some o∧Q r o)
  (hend:∀ s t,R l.length s t→∃ o,thenLoop base clr b (run code b t)=some o∧E s o) (s:σ) (t:St) (h:R 0 s t) :
  match foldL g l 0 s with
   | .inl s'=>∃ o,rounds code base clr b t=some o∧E s' o
   | .inr r=>∃ o,rounds code base clr b t=some o∧Q r o:=by
 have key:∀ (m:List α) k s t,l.drop k=m→k≤l.length→R k s t→match foldL g m k s with
   | .inl s'=>∃ o,rounds code base clr b t=some o∧E s' o
   | .inr r=>∃ o,rounds code base clr b t=some o∧Q r o:=by
  intro m
  induction m with
  | nil=>
   intro k s t hd hk hi
   have:k=l.length:=by
    have:=congrArg List.length hd
    simp at this;omega
   subst this
   simp only[foldL]
   obtain ⟨o,h1,h2⟩:=hend s t hi
   exact ⟨o,by rw[rounds_go0];exact h1,h2⟩
  | cons y m ih=>
   intro k s t hd hk hi
   have hlt:k < l.length:=by
    have:=congrArg List.length hd
    simp at this;omega
   have hy:l[k]?=some y:=by
    have:=congrArg (·[0]?) hd
    simpa using this
   have hm:l.drop (k+1)=m:=by
    have:=congrArg List.tail hd
    simpa [List.tail_drop] using this
   have hs:=hstep k y s t hlt hy hi
   rw[rounds_go0]
   simp only[foldL]
   cases hg:g k y s with
   | inl s'=>
    rw[hg]at hs
    obtain ⟨t',h1,h2⟩:=hs
    simp only
    rw[h1]
    exact ih (k+1) s' t' hm (by omega) h2
   | inr r=>
    rw[hg]at hs
    exact hs
 exact key l 0 s t (by simp) (Nat.zero_le _) h
structure DoOk (n:LNX) (DO:AVal) (doF:Nat→AggX→List (List Val)→Val×Int) (rows:List (List Val)):Prop where
 fz:∀ base σ m,fz false true base σ (m+5) DO=DO
 nc:ncells DO=1∧isAgg DO=false
 go:∀ (i:Nat) a σ,n.aggs[i]?=some a→acallV code DO [.int .i64 i,a.a,.imm false (rows.map rowX)] σ=some (.tup [(doF i a rows).1.a,.int .i64 (doF i a rows).2],σ)
end Go.AM
end
section
namespace Go.AM
open P
set_option maxHeartbeats 32000000
set_option maxRecDepth 40000
attribute [local simp] condRun_if when_if
theorem cols_any(e:List EN)(m:Int):((colsF e).any fun c=>decide (m≤c))=e.any fun n=>n.tag == 2&&decide (m≤n.col):=by
 rw[Bool.eq_iff_iff,List.any_eq_true,List.any_eq_true]
 constructor
 ·rintro ⟨c,hc,h⟩
  obtain ⟨n,hn,ht,rfl⟩:=mem_colsE hc
  exact ⟨n,hn,by simp[ht];simpa using h⟩
 ·rintro ⟨n,hn,h⟩
  simp only[Bool.and_eq_true,beq_iff_eq]at h
  exact ⟨n.col,colsE_mem hn h.1,h.2⟩
abbrev envK(b:Bool)(e:List EN)(bk:Bool)(kinds:List Int)(d:List AVal):List AVal:=[.agg [.imm b (e.map EN.a)],.imm bk (kinds.map (.int .i64)),.ptr 0 0 0 0]++d
theorem kindL_2(b:Bool)(e:List EN)(bk:Bool)(kinds:List Int)(hk:kinds.length≤most) :
  (kinds.any oddK=false∧rounds code 1 [3,4,5,17,18] l_qk_2 ⟨envK b e bk kinds [.any,.any,.any,.any,.any,.any,.any,.any,.any,.any,.bool false,.imm bk (kinds.map (.int .i64)),.int .i64 kinds.length,.int .i64 0,.any,.any,.any,.any,.any,.any,.any,.any,.any,.any,.any,.any,.any,.any,.any],[.arr 1 0 [.agg [.imm b (e.map EN.a)]]]⟩ =
   some (.ext 0,⟨envK b e bk kinds [.any,.any,.any,.any,.any,.any,.any,.any,.any,.any,.bool false,.imm bk (kinds.map (.int .i64)),.int .i64 kinds.length,.int .i64 kinds.length,.bool false,.any,.any,.any,.any,.any,.any,.any,.any,.any,.any,.any,.any,.any,.any],[.arr 1 0 [.agg [.imm b (e.map EN.a)]]]⟩)) ∨
  (kinds.any oddK=true∧∃ s,rounds code 1 [3,4,5,17,18] l_qk_2 ⟨envK b e bk kinds [.any,.any,.any,.any,.any,.any,.any,.any,.any,.any,.bool false,.imm bk (kinds.map (.int .i64)),.int .i64 kinds.length,.int .i64 0,.any,.any,.any,.any,.any,.any,.any,.any,.any,.any,.any,.any,.any,.any,.any],[.arr 1 0 [.agg [.imm b (e.map EN.a)]]]⟩=some (.ret,s) ∧
   thenLeave .pure [.env 3,.env 4] (some (.ret,s))=some (.tup [.int .i64 0,.int .i64 2])):=by
 have h1:=rounds_any (base:=1) (clr:=[3,4,5,17,18]) (b:=l_qk_2) kinds
  (fun k=>⟨envK b e bk kinds [.any,.any,.any,.any,.any,.any,.any,.any,.any,.any,.bool false,.imm bk (kinds.map (.int .i64)),.int .i64 kinds.length,.int .i64 k,.any,.any,.any,.any,.any,.any,.any,.any,.any,.any,.any,.any,.any,.any,.any],[.arr 1 0 [.agg [.imm b (e.map EN.a)]]]⟩) oddK
  (.ext 0,⟨envK b e bk kinds [.any,.any,.any,.any,.any,.any,.any,.any,.any,.any,.bool false,.imm bk (kinds.map (.int .i64)),.int .i64 kinds.length,.int .i64 kinds.length,.bool false,.any,.any,.any,.any,.any,.any,.any,.any,.any,.any,.any,.any,.any,.any],[.arr 1 0 [.agg [.imm b (e.map EN.a)]]]⟩)
  (fun o=>∃ s,o=(.ret,s)∧thenLeave .pure [.env 3,.env 4] (some (.ret,s))=some (.tup [.int .i64 0,.int .i64 2]))
  (fun k y hk' hy hp=>by
   have hlt:((k:Int) < (kinds.length:Int)):=by omega
   unfold oddK at hp
   simp at hp
   have e1:¬(y < 0):=by omega
   have e2:¬(3 < y):=by omega
   simp[l_qk_2,hlt,hy,e1,e2,wrap_lt hk' hk,roundEnd_same])
  (fun k y hk' hy hp=>by
   have hlt:((k:Int) < (kinds.length:Int)):=by omega
   unfold oddK at hp
   simp at hp
   by_cases e1:y < 0
   ·exact ⟨_,by simp[l_qk_2,hlt,hy,e1];rfl,_,rfl,by simp⟩
   ·have e2:3 < y:=by omega
    exact ⟨_,by simp[l_qk_2,hlt,hy,e1,e2];rfl,_,rfl,by simp⟩)
  (by simp[l_qk_2])
 rcases h1 with ⟨ha,h1⟩|⟨ha,o,h1,s,rfl,h2⟩
 ·exact .inl ⟨ha,by simpa using h1⟩
 ·exact .inr ⟨ha,s,by simpa using h1,h2⟩
abbrev dK(bk:Bool)(kinds:List Int):List AVal:=[.bool false,.imm bk (kinds.map (.int .i64)),.int .i64 kinds.length,.int .i64 kinds.length,.bool false,.any]
theorem kindL_1(b:Bool)(e:List EN)(bk:Bool)(kinds:List Int)(hn:e.length≤most)(hk:kinds.length≤most) :
  ((e.any fun n=>n.tag == 2&&decide ((kinds.length:Int)≤n.col))=false∧rounds code 1 [3,4,6,22,23] l_qk_1 ⟨envK b e bk kinds ([.any,.any,.any,.any,.any,.any,.any,.any,.any,.any]++dK bk kinds++[.imm b (e.map EN.a),.int .i64 e.length,.int .i64 0,.any,.any,.any,.any,.any,.any,.any,.any,.any,.any]),[.arr 1 0 [.agg [.imm b (e.map EN.a)]]]⟩ =
   some (.ext 2,⟨envK b e bk kinds ([.any,.any,.any,.any,.any,.any,.any,.any,.any,.any]++dK bk kinds++[.imm b (e.map EN.a),.int .i64 e.length,.int .i64 e.length,.bool false,.any,.any,.any,.any,.any,.any,.any,.any,.any]),[.arr 1 0 [.agg [.imm b (e.map EN.a)]]]⟩)) ∨
  ((e.any fun n=>n.tag == 2&&decide ((kinds.length:Int)≤n.col))=true∧∃ s,rounds code 1 [3,4,6,22,23] l_qk_1 ⟨envK b e bk kinds ([.any,.any,.any,.any,.any,.any,.any,.any,.any,.any]++dK bk kinds++[.imm b (e.map EN.a),.int .i64 e.length,.int .i64 0,.any,.any,.any,.any,.any,.any,.any,.any,.any,.any]),[.arr 1 0 [.agg [.imm b (e.map EN.a)]]]⟩=some (.ret,s) ∧
   thenLeave .pure [.env 3,.env 4] (some (.ret,s))=some (.tup [.int .i64 0,.int .i64 2])):=by
 have h1:=rounds_any (base:=1) (clr:=[3,4,6,22,23]) (b:=l_qk_1) e
  (fun k=>⟨envK b e bk kinds ([.any,.any,.any,.any,.any,.any,.any,.any,.any,.any]++dK bk kinds++[.imm b (e.map EN.a),.int .i64 e.length,.int .i64 k,.any,.any,.any,.any,.any,.any,.any,.any,.any,.any]),[.arr 1 0 [.agg [.imm b (e.map EN.a)]]]⟩)
  (fun n=>n.tag == 2&&decide ((kinds.length:Int)≤n.col))
  (.ext 2,⟨envK b e bk kinds ([.any,.any,.any,.any,.any,.any,.any,.any,.any,.any]++dK bk kinds++[.imm b (e.map EN.a),.int .i64 e.length,.int .i64 e.length,.bool false,.any,.any,.any,.any,.any,.any,.any,.any,.any]),[.arr 1 0 [.agg [.imm b (e.map EN.a)]]]⟩)
  (fun o=>∃ s,o=(.ret,s)∧thenLeave .pure [.env 3,.env 4] (some (.ret,s))=some (.tup [.int .i64 0,.int .i64 2]))
  (fun k y hk' hy hp=>by
   have hlt:((k:Int) < (e.length:Int)):=by omega
   by_cases ht:y.tag=2
   ·have hc:¬((kinds.length:Int)≤y.col):=by simpa [ht] using hp
    simp[l_qk_1,hlt,hy,EN.a,ht,hc,wrap_lt hk' hn,roundEnd,freezeObj]
   ·simp[l_qk_1,hlt,hy,EN.a,beq_f ht,wrap_lt hk' hn,roundEnd,freezeObj])
  (fun k y hk' hy hp=>by
   have hlt:((k:Int) < (e.length:Int)):=by omega
   simp only[Bool.and_eq_true,beq_iff_eq,decide_eq_true_eq]at hp
   exact ⟨_,by simp[l_qk_1,hlt,hy,EN.a,hp.1,hp.2];rfl,_,rfl,by simp⟩)
  (by simp[l_qk_1])
 rcases h1 with ⟨ha,h1⟩|⟨ha,o,h1,s,rfl,h2⟩
 ·exact .inl ⟨ha,by simpa using h1⟩
 ·exact .inr ⟨ha,s,by simpa using h1,h2⟩
end Go.AM
end
section
namespace Go.AM
open P
set_option maxHeartbeats 32000000
set_option maxRecDepth 40000
attribute [local simp] condRun_if when_if
theorem pos_at{e:List EN}(ho:okE e=true){k:Nat}{n:EN}(hn:e[k]?=some n) :
  countsE n=true∧(n.tag=1∨n.tag=2∨(¬n.tag=1∧¬n.tag=2∧(∃ p:Nat,n.l=p∧p < k)∧(n.r=-1∨∃ q:Nat,n.r=q∧q < k))):=by
 obtain ⟨hk,_⟩:=List.getElem?_eq_some_iff.1 hn
 obtain ⟨a,o,i1,i2,i3,i4,_⟩:=pos_all (kinds:=[]) (by simp) ho k (by omega)
 obtain ⟨a',o',_,s2,s3,s4,s5,_⟩:=okE_step ho hn i1
 refine ⟨s5,?_⟩
 by_cases t1:n.tag=1
 ·exact .inl t1
 by_cases t2:n.tag=2
 ·exact .inr (.inl t2)
 refine .inr (.inr ⟨t1,t2,?_⟩)
 have hp0:eparts n.tag≠0:=fun h=>by
  unfold eparts at h
  rw[if_neg (by omega)]at h
  split at h
  ·omega
  ·split at h<;>omega
 unfold stepE at s2
 split at s2
 ·cases s2
 ·have hmem:∀ p∈o.drop (o.length - (eparts n.tag).toNat),p < k:=fun p hp=>i4 p (List.mem_of_mem_drop hp)
  have hd:(o.drop (o.length - (eparts n.tag).toNat)).length=(eparts n.tag).toNat:=by rw[List.length_drop];omega
  split at s2
  ·rename_i h;rw[h]at hd;simp at hd;omega
  ·rename_i p h
   split at s2
   ·rename_i hlr
    rw[h]at hmem
    exact ⟨⟨p,hlr.1,hmem p (by simp)⟩,.inl hlr.2⟩
   ·cases s2
  ·rename_i p q h
   split at s2
   ·rename_i hlr
    rw[h]at hmem
    exact ⟨⟨p,hlr.1,hmem p (by simp)⟩,.inr ⟨q,hlr.2,hmem q (by simp)⟩⟩
   ·cases s2
  ·cases s2
abbrev env0K(b:Bool)(e:List EN)(bk:Bool)(kinds:List Int)(ep:Nat)(own:List Int)(k e27:AVal):List AVal:=
 envK b e bk kinds ([.any,.any,.any,.any,.sl 1 ep 0 own.length,.any,.any,.any,.any,.any]++dK bk kinds++[.imm b (e.map EN.a),.int .i64 e.length,.int .i64 e.length,.bool false,.any,.imm b (e.map EN.a),.int .i64 e.length,k,e27,.any,.any,.any,.any])
abbrev st0K(b:Bool)(e:List EN)(ep:Nat)(own:List Int):Store:=[.arr 1 0 [.agg [.imm b (e.map EN.a)]],.arr 1 ep (own.map (.int .i64))]
theorem kindL_0(b:Bool)(e:List EN)(bk:Bool)(kinds:List Int)(hn:e.length≤8000)(ho:okE e=true)(hcol:(e.any fun n=>n.tag == 2&&decide ((kinds.length:Int)≤n.col))=false) :
  (∃ own,foldL (posG kinds) e 0 []=.inl own∧∃ ep,rounds code 2 [3,4,8,9,10,11,12,27,28,29,30,31] l_qk_0 ⟨env0K b e bk kinds 0 [] (.int .i64 0) .any,st0K b e 0 []⟩ =
   some (.ext 4,⟨env0K b e bk kinds ep own (.int .i64 e.length) (.bool false),st0K b e ep own⟩)) ∨
  (foldL (posG kinds) e 0 []=.inr ()∧∃ s,rounds code 2 [3,4,8,9,10,11,12,27,28,29,30,31] l_qk_0 ⟨env0K b e bk kinds 0 [] (.int .i64 0) .any,st0K b e 0 []⟩=some (.ret,s) ∧
   thenLeave .pure [.env 3,.env 4] (some (.ret,s))=some (.tup [.int .i64 0,.int .i64 201])):=by
 have hm:e.length≤most:=by unfold most;omega
 have key:=rounds_listR (base:=2) (clr:=[3,4,8,9,10,11,12,27,28,29,30,31]) (b:=l_qk_0) e
  (fun k (own:List Int) t=>own.length=k∧∃ ep,t=⟨env0K b e bk kinds ep own (.int .i64 k) .any,st0K b e ep own⟩)
  (posG kinds)
  (fun own o=>∃ ep,o=(.ext 4,⟨env0K b e bk kinds ep own (.int .i64 e.length) (.bool false),st0K b e ep own⟩))
  (fun (_:Unit) o=>∃ s,o=(.ret,s)∧thenLeave .pure [.env 3,.env 4] (some (.ret,s))=some (.tup [.int .i64 0,.int .i64 201]))
  (fun k n own t hk hy ht=>by
   obtain ⟨hl,ep,rfl⟩:=ht
   have hlt:((k:Int) < (e.length:Int)):=by omega
   have hl1:own.length+1≤most:=by omega
   obtain ⟨hcn,hpos⟩:=pos_at ho hy
   have hcol':=List.any_eq_false.1 hcol n (List.mem_of_getElem? hy)
   have hkind:=kind10_v n.tag
   unfold posG
   by_cases t1:n.tag=1
   ·rw[if_pos t1]
    refine ⟨⟨env0K b e bk kinds (ep+1) (own++[n.v.k]) (.int .i64 (k+1:Nat)) .any,st0K b e (ep+1) (own++[n.v.k])⟩,?_,by simp[hl],ep+1,rfl⟩
    simp[st0K,l_qk_0,hlt,hy,EN.a,t1,append,hl1,wrap_lt hk hm,roundEnd,freezeObj]
   ·rw[if_neg t1]
    by_cases t2:n.tag=2
    ·rw[if_pos t2]
     have hc0:=counts_col hcn t2
     have hcl:n.col < kinds.length:=by
      simp[t2]at hcol'
      omega
     obtain ⟨c,hc⟩:∃ c:Nat,n.col=c:=⟨n.col.toNat,by omega⟩
     have hck:kinds[c]?=some (kinds.getD c 0):=by
      rw[List.getD_eq_getElem?_getD,List.getElem?_eq_getElem (by omega)];rfl
     obtain ⟨hcl',hcg⟩:=List.getElem?_eq_some_iff.1 hck
     rw[hc]at hcl
     rw[show n.col.toNat=c by omega]
     generalize kinds.getD c 0=x at *
     refine ⟨⟨env0K b e bk kinds (ep+1) (own++[x]) (.int .i64 (k+1:Nat)) .any,st0K b e (ep+1) (own++[x])⟩,?_,by simp[hl],ep+1,rfl⟩
     simp[st0K,l_qk_0,hlt,hy,EN.a,t2,hc,hck,hcg,hcl',append,hl1,wrap_lt hk hm,roundEnd,freezeObj]
    ·rw[if_neg t2]
     obtain ⟨_,_,⟨p,hp,hpk⟩,hr⟩:=(hpos.resolve_left t1).resolve_left t2
     have hpo:own[p]?=some (own.getD p 0):=by
      rw[List.getD_eq_getElem?_getD,List.getElem?_eq_getElem (by omega)];rfl
     obtain ⟨hpl,hpg⟩:=List.getElem?_eq_some_iff.1 hpo
     rw[hp,Int.toNat_natCast]
     generalize own.getD p 0=x at *
     rcases hr with hr|⟨q,hq,hqk⟩
     ·rw[hr,if_neg (show ¬(0:Int)≤-1 by decide)]
      have hkd:=hkind x 0
      generalize kind10F n.tag x 0=w at *
      obtain ⟨w1,w2⟩:=w
      cases w2 with
      | true=>
       simp only[if_true]
       refine ⟨⟨env0K b e bk kinds (ep+1) (own++[w1]) (.int .i64 (k+1:Nat)) .any,st0K b e (ep+1) (own++[w1])⟩,?_,by simp[hl],ep+1,rfl⟩
       simp[st0K,l_qk_0,hlt,hy,EN.a,beq_f t1,beq_f t2,hp,hpo,hpl,hpg,hr,hkd,append,hl1,wrap_lt hk hm,roundEnd,freezeObj]
      | false=>
       simp only[Bool.false_eq_true,if_false]
       exact ⟨_,by simp[st0K,l_qk_0,hlt,hy,EN.a,beq_f t1,beq_f t2,hp,hpo,hpl,hpg,hr,hkd];rfl,_,rfl,by simp⟩
     ·have hqo:own[q]?=some (own.getD q 0):=by
       rw[List.getD_eq_getElem?_getD,List.getElem?_eq_getElem (by omega)];rfl
      obtain ⟨hql,hqg⟩:=List.getElem?_eq_some_iff.1 hqo
      rw[hq,Int.toNat_natCast,if_pos (show (0:Int)≤(q:Nat) by omega)]
      generalize own.getD q 0=y at *
      have hkd:=hkind x y
      generalize kind10F n.tag x y=w at *
      obtain ⟨w1,w2⟩:=w
      cases w2 with
      | true=>
       simp only[if_true]
       refine ⟨⟨env0K b e bk kinds (ep+1) (own++[w1]) (.int .i64 (k+1:Nat)) .any,st0K b e (ep+1) (own++[w1])⟩,?_,by simp[hl],ep+1,rfl⟩
       simp[st0K,l_qk_0,hlt,hy,EN.a,beq_f t1,beq_f t2,hp,hpo,hpl,hpg,hq,hqo,hql,hqg,hkd,append,hl1,wrap_lt hk hm,roundEnd,freezeObj]
      | false=>
       simp only[Bool.false_eq_true,if_false]
       exact ⟨_,by simp[st0K,l_qk_0,hlt,hy,EN.a,beq_f t1,beq_f t2,hp,hpo,hpl,hpg,hq,hqo,hql,hqg,hkd];rfl,_,rfl,by simp⟩)
  (fun own t ht=>by
   obtain ⟨_,ep,rfl⟩:=ht
   exact ⟨_,by simp[l_qk_0],ep,rfl⟩) [] _ ⟨rfl,0,rfl⟩
 rcases hf:foldL (posG kinds) e 0 [] with own|u
 ·rw[hf]at key
  obtain ⟨o,h1,ep,rfl⟩:=key
  exact .inl ⟨own,rfl,ep,h1⟩
 ·rw[hf]at key
  obtain ⟨o,h1,s,rfl,h2⟩:=key
  exact .inr ⟨rfl,s,h1,h2⟩
theorem Kind10_v(b:Bool)(e:List EN)(bk:Bool)(kinds:List Int)(hn:e.length≤most)(hk:kinds.length≤most) :
  pcall I.qk [.agg [.imm b (e.map EN.a)],.imm bk (intsA kinds)]=some (.tup [.int .i64 (kindF e kinds).1,.int .i64 (kindF e kinds).2]):=by
 rw[pcall_eq c_qk rfl]
 have hR:=fun b=>Right10_ok b e hn
 simp only[exprA,ensA]at hR
 unfold kindF
 cases ho:okE e with
 | false=>
  rw[ho]at hR
  simp[f_qk,b_qk,hR]
 | true=>
  rw[ho]at hR
  have h8:1≤e.length∧e.length≤1000:=by
   rw[← right_ok]at ho
   unfold rightE at ho
   simp only[Bool.and_eq_true,decide_eq_true_eq]at ho
   exact ho.1
  simp only[Bool.true_eq_false,if_false]
  rcases kindL_2 b e bk kinds hk with ⟨a2,l2⟩|⟨a2,s,l2,v2⟩
  ·rw[a2]
   rcases kindL_1 b e bk kinds hn hk with ⟨a1,l1⟩|⟨a1,s,l1,v1⟩
   ·rw[cols_any,a1]
    simp only[Bool.false_eq_true,if_false]
    have hks:∀ x∈kinds,k03 x:=fun x hx=>by
     have:=List.any_eq_false.1 a2 x hx
     unfold oddK at this
     simp at this
     exact ⟨by omega,by omega⟩
    rcases kindL_0 b e bk kinds (by omega) ho a1 with ⟨own,f0,ep,l0⟩|⟨f0,s,l0,v0⟩
    ·rcases pos_over (kinds:=kinds) hks ho with ⟨own',g1,g2,g3⟩|⟨g1,_⟩
     ·rw[f0]at g1
      cases g1
      rw[g3]
      have hw:IntKind.i64.wrap ((own.length:Int) - 1)=(own.length:Int) - 1:=wrap64_id (by omega)
      have hi:own[own.length - 1]?=some (own.getD (e.length - 1) 0):=by
       rw[← g2,List.getD_eq_getElem?_getD,List.getElem?_eq_getElem (by omega)];rfl
      obtain ⟨hil,hig⟩:=List.getElem?_eq_some_iff.1 hi
      have hc:(own.length:Int) - 1=((own.length - 1:Nat):Int):=by omega
      generalize own.getD (e.length - 1) 0=z at *
      rw[hc]at hw
      simp[st0K]at l2 l1 l0
      simp[f_qk,b_qk,hR,l2,l1,l0,hc,hw,hi,hil,hig]
     ·rw[f0]at g1;cases g1
    ·rcases pos_over (kinds:=kinds) hks ho with ⟨own',g1,g2,g3⟩|⟨_,g2⟩
     ·rw[f0]at g1;cases g1
     ·rw[g2]
      simp[st0K]at l2 l1 l0
      simp[f_qk,b_qk,hR,l2,l1,l0,-thenLeave_ret]
      exact v0
   ·rw[cols_any,a1]
    simp at l2 l1
    simp[f_qk,b_qk,hR,l2,l1,-thenLeave_ret]
    exact v1
  ·rw[a2]
   simp at l2
   simp[f_qk,b_qk,hR,l2,-thenLeave_ret]
   exact v2
end Go.AM
end
section
namespace Go.AM
open P
set_option maxHeartbeats 8000000
set_option maxRecDepth 8000
attribute [local simp] condRun_if when_if
def truthF(e:List EN)(kinds:List Int):Bool:=(kindF e kinds).2 == 0&&((kindF e kinds).1 == 0 || (kindF e kinds).1 == 1)
theorem truth18_spec(b:Bool)(e:List EN)(bk:Bool)(kinds:List Int)(hn:e.length≤most)(hk:kinds.length≤most) :
  pcall I.qeb [.agg [.imm b (e.map EN.a)],.imm bk (intsA kinds)]=some (.bool (truthF e kinds)):=by
 rw[pcall_eq c_qeb rfl]
 have h:=fun b bk=>kind_spec b e bk kinds hn hk
 unfold truthF
 simp[f_qeb,b_qeb,h]
 repeat' (split<;>(try simp_all))
abbrev laidO(nd c1 c2:AVal)(n:LNX)(a b r:AVal):Obj:=.arr 18 0 [.agg [nd,c1,c2,.int .i64 n.op,.int .i64 n.l,.int .i64 n.r,.int .i64 n.tab,.imm n.bk (n.kinds.map (.int .i64)),.bool n.left,.imm n.bc (n.cond.map EN.a),.imm n.by' (n.keys.map (.int .i64)),.imm n.bg (n.aggs.map AggX.a),.imm n.bi (n.items.map ExX.a),.imm n.bo (n.ords.map ordA),.int .i64 n.limit,a,b,r]]
def scanF(n:LNX):Bool:=!(n.kinds.any fun k=>decide (k < 1) || decide (3 < k))&&decide (0≤n.tab)&&decide (n.tab < 4)&&decide (0 < n.kinds.length)&&decide (n.kinds.length≤4)
def inputF(n:LNX):Bool:=!(n.kinds.any fun k=>decide (k < 0) || decide (4 < k))&&decide (0≤n.tab)&&decide (n.tab < 30)&&decide (0 < n.kinds.length)&&decide (n.kinds.length≤16)
theorem scan1_spec(k:Int):pcall I.qdv [.int .i64 k]=some (.bool (decide (k < 1) || decide (3 < k))):=by
 rw[pcall_eq c_qdv rfl]
 simp[f_qdv,b_qdv]
 repeat' (split<;>(try simp_all))
 all_goals omega
theorem input1_spec(k:Int):pcall I.qdp [.int .i64 k]=some (.bool (decide (k < 0) || decide (4 < k))):=by
 rw[pcall_eq c_qdp rfl]
 simp[f_qdp,b_qdp]
 repeat' (split<;>(try simp_all))
 all_goals omega
theorem scan_spec(nd c1 c2:AVal)(n:LNX)(a b r:AVal)(τ:Store)(hk:n.kinds.length≤most) :
  acall code I.qdu [.ptr 0 0 0 0] (laidO nd c1 c2 n a b r::τ)=some (.bool (scanF n),laidO nd c1 c2 n a b (.imm n.bk (n.kinds.map (.int .i64)))::τ):=by
 rw[acall_keep c_qdu rfl]
 have hc:=fun b=>Contains_int_int (enc:=.int .i64) (b:=b) (l:=n.kinds) (f:=.fn 272 [] []) (p:=fun k=>decide (k < 1) || decide (3 < k)) hk (fun _=>⟨rfl,rfl⟩) (fun σ=>by simp) (fun k _=>by simp[scan1_spec])
 unfold scanF
 cases hA:n.kinds.any fun k=>decide (k < 1) || decide (3 < k)<;>rw[hA]at hc<;>simp[f_qdu,b_qdu,hc]
 repeat' (split<;>(try simp_all))
 all_goals omega
theorem input_spec(nd c1 c2:AVal)(n:LNX)(a b r:AVal)(τ:Store)(hk:n.kinds.length≤most) :
  acall code I.qdo [.ptr 0 0 0 0] (laidO nd c1 c2 n a b r::τ)=some (.bool (inputF n),laidO nd c1 c2 n a b (.imm n.bk (n.kinds.map (.int .i64)))::τ):=by
 rw[acall_keep c_qdo rfl]
 have hc:=fun b=>Contains_int_int (enc:=.int .i64) (b:=b) (l:=n.kinds) (f:=.fn 273 [] []) (p:=fun k=>decide (k < 0) || decide (4 < k)) hk (fun _=>⟨rfl,rfl⟩) (fun σ=>by simp) (fun k _=>by simp[input1_spec])
 unfold inputF
 cases hA:n.kinds.any fun k=>decide (k < 0) || decide (4 < k)<;>rw[hA]at hc<;>simp[f_qdo,b_qdo,hc]
 repeat' (split<;>(try simp_all))
 all_goals omega
theorem filter_spec(nd c1 c2:AVal)(n:LNX)(ba:Bool)(a:List Int)(b r:AVal)(τ:Store)(hc:n.cond.length≤most)(ha:a.length≤most) :
  acall code I.qdl [.ptr 0 0 0 0] (laidO nd c1 c2 n (.imm ba (intsA a)) b r::τ)=some (.bool (truthF n.cond a),laidO nd c1 c2 n (.imm ba (intsA a)) b (.imm ba (intsA a))::τ):=by
 rw[acall_keep c_qdl rfl]
 have h:=fun b bk=>truth18_spec b n.cond bk a hc ha
 simp[f_qdl,b_qdl,h]
theorem keeps_spec(nd c1 c2:AVal)(n:LNX)(ba:Bool)(a:List Int)(b r:AVal)(τ:Store) :
  acall code I.qdr [.ptr 0 0 0 0] (laidO nd c1 c2 n (.imm ba (intsA a)) b r::τ)=some (.bool true,laidO nd c1 c2 n (.imm ba (intsA a)) b (.imm ba (intsA a))::τ):=by
 rw[acall_keep c_qdr rfl]
 simp[f_qdr,b_qdr]
theorem join_spec(nd c1 c2:AVal)(n:LNX)(ba bb:Bool)(a b:List Int)(r:AVal)(τ:Store)(hc:n.cond.length≤most)(ha:a.length+b.length≤most) :
  acall code I.qdq [.ptr 0 0 0 0] (laidO nd c1 c2 n (.imm ba (intsA a)) (.imm bb (intsA b)) r::τ)=some (.bool (truthF n.cond (a++b)),laidO nd c1 c2 n (.imm ba (intsA a)) (.imm bb (intsA b)) (.imm false (intsA (a++b)))::τ):=by
 rw[acall_keep c_qdq rfl]
 have h:=fun b' bk=>truth18_spec b' n.cond bk (a++b) hc (by simpa using ha)
 have hcc:∀ t,pcall I.qeu [.imm t [.imm ba (intsA a),.imm bb (intsA b)]]=some (.imm false (intsA (a++b))):=fun t=>by
  have:=Concat_int_int (enc:=.int .i64) t [⟨ba,a⟩,⟨bb,b⟩] (by simpa using ha) (by simp[most])
  simpa using this
 simp only[intsA,List.map_append]at h hcc
 simp[f_qdq,b_qdq,h,hcc]
def sortF(n:LNX)(a:List Int):Bool:=!(n.ords.any fun o=>decide (o.1 < 0) || decide ((a.length:Int)≤o.1))&&decide (n.ords.length≤3)&&decide (-1≤n.limit)&&decide (n.limit≤2147483647)
theorem sort1_spec(o:Int×Bool)(t t':Bool)(x0 x1 x2 x3 x4 x5 x6 x7 x8 x9 x10 x11 x12 x13 x14 x16 x17:AVal)(ba:Bool)(a:List Int) :
  pcall I.qdx [ordA o,.cptr t (.cptr t' (.agg [x0,x1,x2,x3,x4,x5,x6,x7,x8,x9,x10,x11,x12,x13,x14,.imm ba (intsA a),x16,x17]) 0) 0]=some (.bool (decide (o.1 < 0) || decide ((a.length:Int)≤o.1))):=by
 rw[pcall_eq c_qdx rfl]
 obtain ⟨c,d⟩:=o
 cases t<;>cases t'<;>simp[f_qdx,b_qdx,ordA]<;>(repeat' (split<;>(try simp_all)))<;>omega
theorem lsort_spec(nd c1 c2:AVal)(n:LNX)(ba:Bool)(a:List Int)(b r:AVal)(τ:Store)(ho:n.ords.length≤most) :
  ∃ X,acall code I.qdw [.ptr 0 0 0 0] (laidO nd c1 c2 n (.imm ba (intsA a)) b r::τ)=some (.bool (sortF n a),laidO nd c1 c2 n (.imm ba (intsA a)) b (.imm ba (intsA a))::(τ++[X])):=by
 rw[acall_keep c_qdw rfl]
 refine ⟨.arr 1 0 [.ptr 0 0 0 0],?_⟩
 unfold sortF
 have hC:=Contains_api_Ord_api_Ord (enc:=ordA) (b:=n.bo) (l:=n.ords) (f:=snap (laidO nd c1 c2 n (.imm ba (intsA a)) b (.imm ba (intsA a))::(τ++[.arr 1 0 [.ptr 0 0 0 0]])) (.fn 277 [] [.ptr (τ.length+1) 0 0 0])) (p:=fun o=>decide (o.1 < 0) || decide ((a.length:Int)≤o.1)) ho (fun _=>⟨rfl,rfl⟩) (fun σ=>snap_idem _ _ _) (fun o _=>by
  have hz:∀ σ,fz true false 0 σ 20 (ordA o)=ordA o:=fun σ=>Fx.fx true false 0 σ 17 o
  simp[hz,sort1_spec])
 simp at hC
 cases hA:(n.ords.any fun o=>decide (o.1 < 0) || decide ((a.length:Int)≤o.1))<;>rw[hA]at hC<;>simp[f_qdw,b_qdw,hC]
 clear hC
 repeat' (split<;>(try simp_all))
 all_goals omega
end Go.AM
end
section
namespace Go.AM
open P
set_option maxHeartbeats 8000000
set_option maxRecDepth 8000
attribute [local simp] condRun_if when_if
@[simp] theorem take_concat1{α:Type}(τ:List α)(a:α)(t:List α):List.take (τ.length+1) (τ++a::t)=τ++[a]:=by
 rw[List.take_append];simp
 exact List.take_of_length_le (by omega)
@[simp] theorem take_concat2{α:Type}(τ:List α)(a b:α)(t:List α):List.take (τ.length+2) (τ++a::b::t)=τ++[a,b]:=by
 rw[List.take_append];simp
 exact List.take_of_length_le (by omega)
abbrev laidX(bn:Bool)(nodes:List LNX)(ep1 m1 ep2 m2:Nat)(n:LNX)(a b r:AVal):Obj:=laidO (.imm bn (nodes.map LNX.a)) (.sl 1 ep1 0 m1) (.sl 2 ep2 0 m2) n a b r
abbrev Fzs(τ:Store):Prop:=∀ base σ,τ.map (freezeObj base σ)=τ
def itemsF(a:List Int):List ExX→Option (List Int)
 | []=>some []
 | e::r=>if (kindF e.l a).2=0 then (itemsF a r).map ((kindF e.l a).1::·) else none
def itemG(a:List Int)(_:Nat)(e:ExX)(acc:Nat×List Int):Nat×List Int⊕Unit:=if (kindF e.l a).2=0 then .inl (acc.1+1,acc.2++[(kindF e.l a).1]) else .inr ()
theorem itemG_fold(a:List Int):∀ (l:List ExX) (k ep:Nat) (acc:List Int),foldL (itemG a) l k (ep,acc)=match itemsF a l with
  | some r=>.inl (ep+l.length,acc++r)
  | none=>.inr ()
 | [],k,ep,acc=>by simp[foldL,itemsF]
 | e::l,k,ep,acc=>by
  by_cases h:(kindF e.l a).2=0
  ·simp only[foldL,itemG,itemsF,if_pos h]
   rw[itemG_fold a l (k+1) (ep+1)]
   cases itemsF a l<;>simp[Nat.add_assoc,Nat.add_comm 1]
  ·simp only[foldL,itemG,itemsF,if_neg h]
theorem project_spec(bn:Bool)(nodes:List LNX)(ep1 m1 ep2 m2:Nat)(n:LNX)(ba:Bool)(a:List Int)(r:AVal)(τ:Store)(hτ:Fzs τ)(hl:2≤τ.length)(hi:n.items.length≤most)(he:∀ e∈n.items,e.l.length≤most)(ha:a.length≤most) :
  match itemsF a n.items with
  | none=>∃ σ',acall code I.qdt [.ptr 0 0 0 0] (laidX bn nodes ep1 m1 ep2 m2 n (.imm ba (intsA a)) .nil0 r::τ)=some (.bool false,σ')
  | some ks=>acall code I.qdt [.ptr 0 0 0 0] (laidX bn nodes ep1 m1 ep2 m2 n (.imm ba (intsA a)) .nil0 r::τ) =
    some (.bool (decide (0 < ks.length)),laidX bn nodes ep1 m1 ep2 m2 n (.imm ba (intsA a)) .nil0 (.sl (τ.length+1) n.items.length 0 ks.length)::(τ++[.arr 1 n.items.length (intsA ks)])):=by
 have h:=rounds_list (base:=τ.length+2) (clr:=[1,2,3,4,8,9]) (b:=l_qdt_0) n.items
  (fun k (s:Nat×List Int)=>⟨[.ptr 0 0 0 0,.any,.any,.any,.any,.imm n.bi (n.items.map ExX.a),.int .i64 n.items.length,.int .i64 k,.any,.any],laidX bn nodes ep1 m1 ep2 m2 n (.imm ba (intsA a)) .nil0 (.sl (τ.length+1) s.1 0 s.2.length)::(τ++[.arr 1 s.1 (intsA s.2)])⟩)
  (fun k s=>s.2.length≤k) (itemG a)
  (fun s=>(.ext 0,⟨[.ptr 0 0 0 0,.any,.any,.any,.any,.imm n.bi (n.items.map ExX.a),.int .i64 n.items.length,.int .i64 n.items.length,.bool false,.any],laidX bn nodes ep1 m1 ep2 m2 n (.imm ba (intsA a)) .nil0 (.sl (τ.length+1) s.1 0 s.2.length)::(τ++[.arr 1 s.1 (intsA s.2)])⟩))
  (fun _ o=>∃ s,o=(.ret,s)∧results s [.env 1]=some (.bool false))
  (fun k e s hk hy hs=>by
   obtain ⟨ep,acc⟩:=s
   simp only at hs
   have hlt:((k:Int) < (n.items.length:Int)):=by omega
   have hkd:=fun b bk=>kind_spec b e.l bk a (he e (List.mem_of_getElem? hy)) ha
   have h5:acc.length+1≤most:=by omega
   have q1:1 < τ.length+2:=by omega
   have q2:2 < τ.length+2:=by omega
   unfold itemG
   by_cases h0:(kindF e.l a).2=0
   ·rw[if_pos h0]
    refine ⟨?_,by simp;omega⟩
    simp[l_qdt_0,hlt,hy,ExX.a,hkd,h0,append,h5,wrap_lt hk hi,roundEnd,freezeObj,hτ,q1,q2]
   ·rw[if_neg h0]
    exact ⟨_,by simp[l_qdt_0,hlt,hy,ExX.a,hkd,h0,bne_t h0];rfl,_,rfl,by simp⟩)
  (fun s hs=>by simp[l_qdt_0]) (0,[]) (Nat.le_refl _)
 rw[itemG_fold]at h
 cases hq:itemsF a n.items with
 | none=>
  rw[hq]at h
  obtain ⟨o,h1,s,rfl,h2⟩:=h
  refine ⟨s.st,?_⟩
  rw[acall_keep c_qdt rfl]
  simp at h1
  simp[f_qdt,b_qdt,h1,-results,h2]
 | some ks=>
  rw[hq]at h
  have h1:=h.2
  rw[acall_keep c_qdt rfl]
  simp at h1
  simp[f_qdt,b_qdt,h1]
def unionF:List Int→List Int→Option (List Int)
 | [],_=>some []
 | _::_,[]=>none
 | k::a,o::b=>if o≠0∧o≠(if k=0 then o else k) then none else (unionF a b).map ((if k=0 then o else k)::·)
def unionG(b:List Int)(i:Nat)(k:Int)(acc:Nat×List Int):Nat×List Int⊕Unit:=
 if b.getD i 0≠0∧b.getD i 0≠(if k=0 then b.getD i 0 else k) then .inr () else .inl (acc.1+1,acc.2++[if k=0 then b.getD i 0 else k])
theorem unionG_fold(b:List Int):∀ (l:List Int) (k ep:Nat) (acc:List Int),l.length=(b.drop k).length→foldL (unionG b) l k (ep,acc)=match unionF l (b.drop k) with
  | some r=>.inl (ep+l.length,acc++r)
  | none=>.inr ()
 | [],k,ep,acc,h=>by
  cases hb:b.drop k with
  | nil=>simp[foldL,unionF]
  | cons o t=>rw[hb]at h;cases h
 | x::l,k,ep,acc,h=>by
  cases hb:b.drop k with
  | nil=>rw[hb]at h;cases h
  | cons o t=>
   have ho:b.getD k 0=o:=by
    have:=congrArg (·[0]?) hb
    simp at this
    simp[List.getD_eq_getElem?_getD,this]
   have ht:b.drop (k+1)=t:=by
    have:=congrArg List.tail hb
    simpa [List.tail_drop] using this
   rw[hb]at h
   have ih:=fun ep acc=>unionG_fold b l (k+1) ep acc (by rw[ht];simpa using h)
   rw[ht]at ih
   by_cases hc:o≠0∧o≠(if x=0 then o else x)
   ·simp only[foldL,unionG,unionF,ho,if_pos hc]
   ·simp only[foldL,unionG,unionF,ho,if_neg hc,ih]
    cases unionF l t<;>simp[Nat.add_assoc,Nat.add_comm 1]
theorem unionF_len:∀ {a b r:List Int},unionF a b=some r→r.length=a.length
 | [],_,r,h=>by simp[unionF]at h;simp[← h]
 | _::_,[],r,h=>by simp[unionF]at h
 | k::a,o::b,r,h=>by
  by_cases hc:o≠0∧o≠(if k=0 then o else k)
  ·simp only[unionF,if_pos hc]at h
   cases h
  ·simp only[unionF,if_neg hc]at h
   cases hq:unionF a b with
   | none=>rw[hq]at h;cases h
   | some q=>
    rw[hq]at h
    simp at h
    simp[← h,unionF_len hq]
theorem union_spec(bn:Bool)(nodes:List LNX)(ep1 m1 ep2 m2:Nat)(n:LNX)(ba bb:Bool)(a b:List Int)(r:AVal)(τ:Store)(hτ:Fzs τ)(hl:2≤τ.length)(ha:a.length≤most)(hlen:a.length=b.length) :
  match unionF a b with
  | none=>∃ σ',acall code I.qdz [.ptr 0 0 0 0] (laidX bn nodes ep1 m1 ep2 m2 n (.imm ba (intsA a)) (.imm bb (intsA b)) r::τ)=some (.bool false,σ')
  | some ks=>acall code I.qdz [.ptr 0 0 0 0] (laidX bn nodes ep1 m1 ep2 m2 n (.imm ba (intsA a)) (.imm bb (intsA b)) r::τ) =
    some (.bool true,laidX bn nodes ep1 m1 ep2 m2 n (.imm ba (intsA a)) (.imm bb (intsA b)) (.sl (τ.length+1) a.length 0 ks.length)::(τ++[.arr 1 a.length (intsA ks)])):=by
 have h:=rounds_list (base:=τ.length+2) (clr:=[1,2,3,4,9,10,11]) (b:=l_qdz_0) a
  (fun k (s:Nat×List Int)=>⟨[.ptr 0 0 0 0,.any,.any,.any,.any,.bool false,.imm ba (intsA a),.int .i64 a.length,.int .i64 k,.any,.any,.any],laidX bn nodes ep1 m1 ep2 m2 n (.imm ba (intsA a)) (.imm bb (intsA b)) (.sl (τ.length+1) s.1 0 s.2.length)::(τ++[.arr 1 s.1 (intsA s.2)])⟩)
  (fun k s=>s.2.length≤k) (unionG b)
  (fun s=>(.ext 0,⟨[.ptr 0 0 0 0,.any,.any,.any,.any,.bool false,.imm ba (intsA a),.int .i64 a.length,.int .i64 a.length,.bool false,.any,.any],laidX bn nodes ep1 m1 ep2 m2 n (.imm ba (intsA a)) (.imm bb (intsA b)) (.sl (τ.length+1) s.1 0 s.2.length)::(τ++[.arr 1 s.1 (intsA s.2)])⟩))
  (fun _ o=>∃ s,o=(.ret,s)∧results s [.env 1]=some (.bool false))
  (fun k x s hk hy hs=>by
   obtain ⟨ep,acc⟩:=s
   simp only at hs
   have hlt:((k:Int) < (a.length:Int)):=by omega
   have hb:b[k]?=some (b.getD k 0):=by
    have:k < b.length:=by omega
    simp[List.getD_eq_getElem?_getD,this]
   have h5:acc.length+1≤most:=by omega
   unfold unionG
   generalize b.getD k 0=o at *
   by_cases hx:x=0
   ·subst hx
    simp only[if_true]
    rw[if_neg (by simp)]
    refine ⟨?_,by simp;omega⟩
    by_cases ho:o=0
    ·subst ho
     simp[l_qdz_0,hlt,hy,hb,append,h5,wrap_lt hk ha,roundEnd]
    ·simp[l_qdz_0,hlt,hy,hb,ho,bne_t ho,append,h5,wrap_lt hk ha,roundEnd]
   ·simp only[if_neg hx]
    by_cases ho:o=0
    ·subst ho
     rw[if_neg (by simp)]
     refine ⟨?_,by simp;omega⟩
     simp[l_qdz_0,hlt,hy,hb,hx,beq_f hx,append,h5,wrap_lt hk ha,roundEnd]
    ·by_cases hox:o=x
     ·subst hox
      rw[if_neg (by simp)]
      refine ⟨?_,by simp;omega⟩
      simp[l_qdz_0,hlt,hy,hb,hx,beq_f hx,bne_t hx,append,h5,wrap_lt hk ha,roundEnd]
     ·rw[if_pos ⟨ho,hox⟩]
      exact ⟨_,by simp[l_qdz_0,hlt,hy,hb,hx,beq_f hx,ho,bne_t ho,bne_t hox];rfl,_,rfl,by simp⟩)
  (fun s hs=>by simp[l_qdz_0]) (0,[]) (Nat.le_refl _)
 rw[unionG_fold b a 0 0 [] (by simpa using hlen)]at h
 rw[List.drop_zero]at h
 have hne:((a.length:Int) != (b.length:Int))=false:=by simp[hlen]
 cases hq:unionF a b with
 | none=>
  rw[hq]at h
  obtain ⟨o,h1,s,rfl,h2⟩:=h
  refine ⟨s.st,?_⟩
  rw[acall_keep c_qdz rfl]
  simp at h1
  simp[f_qdz,b_qdz,hne,h1,-results,h2]
 | some ks=>
  rw[hq]at h
  have h1:=h.2
  rw[acall_keep c_qdz rfl]
  simp at h1
  simp[f_qdz,b_qdz,hne,h1]
theorem union_bad(bn:Bool)(nodes:List LNX)(ep1 m1 ep2 m2:Nat)(n:LNX)(ba bb:Bool)(a b:List Int)(r:AVal)(τ:Store)(hlen:a.length≠b.length) :
  ∃ σ',acall code I.qdz [.ptr 0 0 0 0] (laidX bn nodes ep1 m1 ep2 m2 n (.imm ba (intsA a)) (.imm bb (intsA b)) r::τ)=some (.bool false,σ'):=by
 have hne:((a.length:Int) != (b.length:Int))=true:=by simp;omega
 rw[acall_keep c_qdz rfl]
 exact ⟨_,by simp[f_qdz,b_qdz,hne];rfl⟩
end Go.AM
end
