/- Part of the proof. -/
import Derived.Test.YtpdimbocafbieaaGreatDoorAm19
import Derived.Test.YtpdimbocafbieaaGreatDoorAm20
import Derived.Test.YtpdimbocafbieaaGreatDoorAm18
import Derived.Test.YtpdimbocafbieaaGreatDoorAm12
set_option linter.unusedVariables false
set_option linter.unusedSimpArgs false
section
namespace Go.AM
open P
set_option maxHeartbeats 16000000
set_option maxRecDepth 8000
attribute [local simp] condRun_if when_if
theorem begun_cases(fs:List FrX)(hl:fs.length≤40)(e si nu no:Int):begunF fs e si nu no=refA∨∃ (f:FrX) (ins outs:List Str),f∈fs∧ins.length≤8000∧outs.length≤8000∧begunF fs e si nu no=.tup [taskF e si nu no f ins outs,.int .i64 0]:=by
 unfold begunF
 by_cases h:askP fs nu si=true∨e < 1∨12 < e
 ·rw[if_pos h]
  exact .inl rfl
 ·rw[if_neg h]
  have ha:askP fs nu si=false:=by
   cases hh:askP fs nu si with
   | false=>rfl
   | true=>exact absurd (.inl hh) h
  obtain ⟨i,n,f,rfl,rfl,hn,hn',hf,hfl⟩:=askP_false ha
  rw[show ((i:Int)).toNat=i by omega,show ((n:Int)).toNat=n by omega,hf]
  simp only
  split
  ·exact .inr ⟨f,_,_,List.mem_of_getElem? hf,streamsF_len fs n hn _ hl,streamsF_len fs n hn _ hl,rfl⟩
  ·exact .inl rfl
theorem firm_plan(fs:List FrX):FirmO (.arr 1 0 [planA fs]):=fun τ b=>by simp[freezeObj,freeze,fuel,planA]
theorem firm_w(a b c d:Int):FirmO (.arr 4 0 [.agg [.int .i64 a,.int .i64 b,.int .i64 c,.int .i64 d]]):=fun τ x=>by simp[freezeObj,freeze,fuel]
theorem firm_z:FirmO (.arr 13 0 [zeroT]):=fun τ x=>by simp[freezeObj,freeze,fuel,zeroT]
theorem firm_t(e si nu no:Int)(f:FrX)(ins outs:List Str):FirmO (.arr 13 0 [taskF e si nu no f ins outs]):=fun τ x=>by simp[freezeObj,freeze,fuel,taskF,cellT]
theorem wakes25_true:pcall I.qg []=some (.bool true):=pcall_from wakes25_run
theorem begins_law(fs:List FrX)(e si nu no:Int)(hf:∀ f∈fs,pcall I.qag [.agg [.imm true [f.a]],.agg [.imm true [f.a]]]=some (.bool true)) :
  pcall I.qa [planA fs,.agg [.int .i64 e,.int .i64 si,.int .i64 nu,.int .i64 no]]=some (.bool true):=by
 rw[pcall_eq c_qa rfl]
 have hw:=wakes25_true
 have ho:=overPlan_v fs
 simp only[planA]at ho
 cases hov:overP fs with
 | true=>
  rw[hov]at ho
  simp[f_qa,b_qa,hw,ho]
 | false=>
  rw[hov]at ho
  have hS:=small_of hov
  have hB:=Begin_v (firm_plan fs) (firm_w e si nu no) fs hS e si nu no
  have hR:=fun T h=>RBegin_v (o3:=.arr 13 0 [T]) (firm_plan fs) (firm_w e si nu no) h fs hS e si nu no
  simp only[planA]at hB hR
  rcases begun_cases fs hS.len e si nu no with h|⟨f,ins,outs,hfm,l1,l2,h⟩
  ·rw[h]at hB hR
   have hR:=hR zeroT firm_z
   have hs:=zeroS_same
   simp[f_qa,b_qa,hw,ho,hB,hR,hs]
  ·rw[h]at hB hR
   have hR:=hR _ (firm_t e si nu no f ins outs)
   have hs:=task_same e si nu no f ins outs l1 l2 (hf f hfm)
   simp only[cellS]at hs
   simp only[taskF,cellT]at hB hR
   simp[f_qa,b_qa,hw,ho,hB,hR,hs]
end Go.AM
end
section
namespace Go.AM
open P
set_option maxHeartbeats 8000000
set_option maxRecDepth 8000
end Go.AM
end
namespace Go.AM
theorem HasSh.sl_inv{a:Bool}{cs:List Sh}{x:AVal}(h:HasSh (.sl a cs) x):∃ xs,x=.imm true xs∧xs.length≤maxLen∧(∀ x∈xs,isAgg x=a∧(cellsOf x).length=cs.length∧ncells x=cs.length) ∧
  ∀ x∈xs,∀ i (h:i < cs.length) (h':i < (cellsOf x).length),HasSh cs[i] (cellsOf x)[i]:=by
 cases h with
 | sl h1 h2 h3=>exact ⟨_,rfl,h1,h2,h3⟩
theorem unmap{α:Type}(f:α→AVal):∀ {l:List AVal},(∀ x∈l,∃ a,x=f a)→∃ m:List α,l=m.map f
 | [],_=>⟨[],rfl⟩
 | x::l,h=>by
  obtain ⟨a,rfl⟩:=h x (List.mem_cons_self ..)
  obtain ⟨m,rfl⟩:=unmap f fun y hy=>h y (List.mem_cons_of_mem _ hy)
  exact ⟨a::m,rfl⟩
theorem agg_elem{cs:List Sh}{x:AVal}(h:isAgg x=true∧(cellsOf x).length=cs.length∧ncells x=cs.length)(h':∀ i (h:i < cs.length) (h':i < (cellsOf x).length),HasSh cs[i] (cellsOf x)[i]) :
  ∃ ys,x=.agg ys∧ys.length=cs.length∧∀ i (h:i < cs.length) (h':i < ys.length),HasSh cs[i] ys[i]:=by
 cases x with
 | agg ys=>exact ⟨ys,rfl,h.2.1,h'⟩
 | _=>cases h.1
theorem one_elem{s:Sh}{x:AVal}(h:isAgg x=false∧(cellsOf x).length=[s].length∧ncells x=[s].length)(h':∀ i (h:i < [s].length) (h':i < (cellsOf x).length),HasSh [s][i] (cellsOf x)[i]):HasSh s x:=by
 have hc:cellsOf x=[x]:=by
  cases x with
  | agg ys=>cases h.1
  | _=>rfl
 have:=h' 0 (by simp) (by rw[hc];simp)
 simpa only [hc,List.getElem_cons_zero] using this
end Go.AM
namespace Go.AM
theorem sl_agg{α:Type}{cs:List Sh}{f:α→AVal}(hd:∀ ys:List AVal,ys.length=cs.length→(∀ i (h:i < cs.length) (h':i < ys.length),HasSh cs[i] ys[i])→∃ a,AVal.agg ys=f a){x:AVal}(h:HasSh (.sl true cs) x):∃ l:SL α,x=slA f l:=by
 obtain ⟨xs,rfl,hn,h1,h2⟩:=h.sl_inv
 obtain ⟨m,rfl⟩:=unmap f (l:=xs) fun x hx=>by
  obtain ⟨ys,rfl,hl,hy⟩:=agg_elem (h1 x hx) (h2 x hx)
  exact hd ys hl hy
 exact ⟨⟨m,by simpa using hn⟩,rfl⟩
theorem sl_one{α:Type}{s:Sh}{f:α→AVal}(hd:∀ y:AVal,HasSh s y→∃ a,y=f a){x:AVal}(h:HasSh (.sl false [s]) x):∃ l:SL α,x=slA f l:=by
 obtain ⟨xs,rfl,hn,h1,h2⟩:=h.sl_inv
 obtain ⟨m,rfl⟩:=unmap f (l:=xs) fun x hx=>hd x (one_elem (h1 x hx) (h2 x hx))
 exact ⟨⟨m,by simpa using hn⟩,rfl⟩
theorem ints_of{x:AVal}(h:HasSh (.sl false [.int .i64]) x):∃ l:SL Int,x=slA (AVal.int .i64) l:=sl_one (fun y h=>by
 obtain ⟨a,rfl,_⟩:=h.int_inv
 exact ⟨a,rfl⟩) h
abbrev enS:List Sh:=[.int .i64,.int .i64,.int .i64,.int .i64,.int .i64,.int .i64,.int .u64,.str]
theorem en_of(ys:List AVal)(hl:ys.length=enS.length)(hy:∀ i (h:i < enS.length) (h':i < ys.length),HasSh enS[i] ys[i]):∃ a,AVal.agg ys=EN.a a:=by
 match ys,hl,hy with
 | [y0,y1,y2,y3,y4,y5,y6,y7],_,hy=>
  obtain ⟨v0,rfl,_⟩:=(hy 0 (by simp) (by simp)).int_inv
  obtain ⟨v1,rfl,_⟩:=(hy 1 (by simp) (by simp)).int_inv
  obtain ⟨v2,rfl,_⟩:=(hy 2 (by simp) (by simp)).int_inv
  obtain ⟨v3,rfl,_⟩:=(hy 3 (by simp) (by simp)).int_inv
  obtain ⟨v4,rfl,_⟩:=(hy 4 (by simp) (by simp)).int_inv
  obtain ⟨v5,rfl,_⟩:=(hy 5 (by simp) (by simp)).int_inv
  obtain ⟨v6,rfl,_⟩:=(hy 6 (by simp) (by simp)).int_inv
  obtain ⟨v7,rfl,_⟩:=(hy 7 (by simp) (by simp)).str_inv
  exact ⟨⟨v0,v1,v2,v3,⟨v4,v5,v6,v7⟩⟩,rfl⟩
abbrev exprS:List Sh:=[.sl true enS]
theorem expr_of(ys:List AVal)(hl:ys.length=exprS.length)(hy:∀ i (h:i < exprS.length) (h':i < ys.length),HasSh exprS[i] ys[i]):∃ a,AVal.agg ys=ExprT.a a:=by
 match ys,hl,hy with
 | [y0],_,hy=>
  obtain ⟨v0,rfl⟩:=sl_agg en_of (hy 0 (by simp) (by simp))
  exact ⟨v0,rfl⟩
abbrev aggS:List Sh:=[.int .i64,.sl true enS]
theorem agg_of(ys:List AVal)(hl:ys.length=aggS.length)(hy:∀ i (h:i < aggS.length) (h':i < ys.length),HasSh aggS[i] ys[i]):∃ a,AVal.agg ys=AggT.a a:=by
 match ys,hl,hy with
 | [y0,y1],_,hy=>
  obtain ⟨v0,rfl,_⟩:=(hy 0 (by simp) (by simp)).int_inv
  obtain ⟨v1,rfl⟩:=sl_agg en_of (hy 1 (by simp) (by simp))
  exact ⟨⟨v0,v1⟩,rfl⟩
abbrev ordS:List Sh:=[.int .i64,.bool]
theorem ord_of(ys:List AVal)(hl:ys.length=ordS.length)(hy:∀ i (h:i < ordS.length) (h':i < ys.length),HasSh ordS[i] ys[i]):∃ a,AVal.agg ys=OrdT.a a:=by
 match ys,hl,hy with
 | [y0,y1],_,hy=>
  obtain ⟨v0,rfl,_⟩:=(hy 0 (by simp) (by simp)).int_inv
  obtain ⟨v1,rfl⟩:=(hy 1 (by simp) (by simp)).bool_inv
  exact ⟨⟨v0,v1⟩,rfl⟩
abbrev lnS:List Sh:=[.int .i64,.int .i64,.int .i64,.int .i64,.sl false [.int .i64],.bool,.sl true enS,.sl false [.int .i64],.sl true aggS,.sl true exprS,.sl true ordS,.int .i64]
theorem ln_of(ys:List AVal)(hl:ys.length=lnS.length)(hy:∀ i (h:i < lnS.length) (h':i < ys.length),HasSh lnS[i] ys[i]):∃ a,AVal.agg ys=LNT.a a:=by
 match ys,hl,hy with
 | [y0,y1,y2,y3,y4,y5,y6,y7,y8,y9,y10,y11],_,hy=>
  obtain ⟨v0,rfl,_⟩:=(hy 0 (by simp) (by simp)).int_inv
  obtain ⟨v1,rfl,_⟩:=(hy 1 (by simp) (by simp)).int_inv
  obtain ⟨v2,rfl,_⟩:=(hy 2 (by simp) (by simp)).int_inv
  obtain ⟨v3,rfl,_⟩:=(hy 3 (by simp) (by simp)).int_inv
  obtain ⟨v4,rfl⟩:=ints_of (hy 4 (by simp) (by simp))
  obtain ⟨v5,rfl⟩:=(hy 5 (by simp) (by simp)).bool_inv
  obtain ⟨v6,rfl⟩:=sl_agg en_of (hy 6 (by simp) (by simp))
  obtain ⟨v7,rfl⟩:=ints_of (hy 7 (by simp) (by simp))
  obtain ⟨v8,rfl⟩:=sl_agg agg_of (hy 8 (by simp) (by simp))
  obtain ⟨v9,rfl⟩:=sl_agg expr_of (hy 9 (by simp) (by simp))
  obtain ⟨v10,rfl⟩:=sl_agg ord_of (hy 10 (by simp) (by simp))
  obtain ⟨v11,rfl,_⟩:=(hy 11 (by simp) (by simp)).int_inv
  exact ⟨⟨v0,v1,v2,v3,v4,v5,v6,v7,v8,v9,v10,v11⟩,rfl⟩
end Go.AM
namespace Go.AM
abbrev fragSh:List Sh:=[.sl true lnS,.int .i64,.int .i64,.sl false [.int .i64]]
theorem frag_of(ys:List AVal)(hl:ys.length=fragSh.length)(hy:∀ i (h:i < fragSh.length) (h':i < ys.length),HasSh fragSh[i] ys[i]):∃ a,AVal.agg ys=FragT.a a:=by
 match ys,hl,hy with
 | [y0,y1,y2,y3],_,hy=>
  obtain ⟨v0,rfl⟩:=sl_agg ln_of (hy 0 (by simp) (by simp))
  obtain ⟨v1,rfl,_⟩:=(hy 1 (by simp) (by simp)).int_inv
  obtain ⟨v2,rfl,_⟩:=(hy 2 (by simp) (by simp)).int_inv
  obtain ⟨v3,rfl⟩:=ints_of (hy 3 (by simp) (by simp))
  exact ⟨⟨v0,v1,v2,v3⟩,rfl⟩
abbrev planS:List Sh:=[.sl true fragSh]
theorem plan_of{x:AVal}(h:ArgSh (true,planS) x):∃ fs:List FrX,x=planA fs∧∀ f∈fs,pcall I.qag [.agg [.imm true [f.a]],.agg [.imm true [f.a]]]=some (.bool true):=by
 obtain ⟨ys,rfl,hl,hy⟩:=agg_elem (cs:=planS) ⟨h.1,h.2.1,h.2.2.1⟩ h.2.2.2
 match ys,hl,hy with
 | [y0],_,hy=>
  obtain ⟨v0,rfl⟩:=sl_agg frag_of (hy 0 (by simp) (by simp))
  refine ⟨v0.1.map FragT.x,?_,fun f hf=>?_⟩
  ·have:List.map FragT.a v0.1=List.map (FrX.a∘FragT.x) v0.1:=List.map_congr_left fun f _=>f.x_a
   simp only[planA,slA,List.map_map,this]
  ·obtain ⟨fr,_,rfl⟩:=List.mem_map.1 hf
   have:=cut_Same_429 ⟨[fr],by show 1≤maxLen;decide⟩ ⟨[fr],by show 1≤maxLen;decide⟩
   rw[← fr.x_a]
   simpa [CutT.a,slA] using this
theorem where_of{x:AVal}(h:ArgSh (true,[.int .i64,.int .i64,.int .i64,.int .i64]) x):∃ e si nu no:Int,x=.agg [.int .i64 e,.int .i64 si,.int .i64 nu,.int .i64 no]:=by
 obtain ⟨ys,rfl,hl,hy⟩:=agg_elem (cs:=[.int .i64,.int .i64,.int .i64,.int .i64]) ⟨h.1,h.2.1,h.2.2.1⟩ h.2.2.2
 match ys,hl,hy with
 | [y0,y1,y2,y3],_,hy=>
  obtain ⟨v0,rfl,_⟩:=(hy 0 (by simp) (by simp)).int_inv
  obtain ⟨v1,rfl,_⟩:=(hy 1 (by simp) (by simp)).int_inv
  obtain ⟨v2,rfl,_⟩:=(hy 2 (by simp) (by simp)).int_inv
  obtain ⟨v3,rfl,_⟩:=(hy 3 (by simp) (by simp)).int_inv
  exact ⟨v0,v1,v2,v3,rfl⟩
end Go.AM
