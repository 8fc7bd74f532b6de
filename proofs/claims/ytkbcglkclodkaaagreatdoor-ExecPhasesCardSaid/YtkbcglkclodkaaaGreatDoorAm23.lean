/- Part of the proof. -/
import Derived.Test.YtkbcglkclodkaaaGreatDoorAm21
import Derived.Test.YtkbcglkclodkaaaGreatDoorAm22
import Derived.Test.YtkbcglkclodkaaaGreatDoorAm19
import Derived.Test.YtkbcglkclodkaaaGreatDoorAm14
import Derived.Test.YtkbcglkclodkaaaGreatDoorAm16
import Derived.Test.YtkbcglkclodkaaaGreatDoorAm20
set_option linter.unusedVariables false
set_option linter.unusedSimpArgs false
namespace Go.AM
open P
theorem wakes_ok:pcall I.qai []=some (.bool true):=pcall_from wakes_run
theorem alikeX(rs:List (List Val))(hn:rs.length≤most)(hr:∀ r∈rs,r.length≤most):pcall I.qu [.imm false (rs.map rowX),.imm false (rs.map rowX)]=some (.bool true):=alike_self false false false false rs hn hr
theorem take32{α:Type}(l:List α)(k:Nat)(h:k≤100):(l.take k).length≤m32:=by
 show _≤4294967296
 rw[List.length_take];omega
theorem short32(l:List EN):(shortE l).length≤m32:=by
 unfold shortE
 rw[List.length_map]
 exact take32 l 60 (by decide)
theorem ownN_fit(n:LNX):NFit (ownN n) where
 kinds:=take32 n.kinds 17 (by decide)
 cond:=short32 n.cond
 keys:=take32 n.keys 6 (by decide)
 aggs:=by show ((n.aggs.take 14).map agO).length≤m32;rw[List.length_map];exact take32 _ 14 (by decide)
 args:=fun g hg=>by
  obtain ⟨y,_,rfl⟩:=List.mem_map.1 (show g∈(n.aggs.take 14).map agO from hg)
  exact short32 _
 items:=by show ((n.items.take 17).map exO).length≤m32;rw[List.length_map];exact take32 _ 17 (by decide)
 exprs:=fun g hg=>by
  obtain ⟨y,_,rfl⟩:=List.mem_map.1 (show g∈(n.items.take 17).map exO from hg)
  exact short32 _
 ords:=take32 n.ords 5 (by decide)
end Go.AM
namespace Go.AM
theorem HasSh.sl_inv{a:Bool}{cs:List Sh}{x:AVal}(h:HasSh (.sl a cs) x):∃ xs,x=.imm true xs∧xs.length≤maxLen∧(∀ x∈xs,isAgg x=a∧(cellsOf x).length=cs.length∧ncells x=cs.length) ∧
  ∀ x∈xs,∀ i (h:i < cs.length) (h':i < (cellsOf x).length),HasSh cs[i] (cellsOf x)[i]:=by
 cases h with
 | sl h1 h2 h3=>exact ⟨_,rfl,h1,h2,h3⟩
theorem unmap{α:Type}(f:α→AVal):∀ {l:List AVal},(∀ x∈l,∃ a,x=f a)→∃ m:List α,l=m.map f
 | [],_=>⟨[],rfl⟩
 | x::l,h=>by
  obtain ⟨a,rfl⟩:=h x (List.mem_cons_self ..)
  obtain ⟨m,rfl⟩:=unmap f fun y hy=>h y (List.mem_cons_of_mem _ hy)
  exact ⟨a::m,rfl⟩
theorem agg_elem{cs:List Sh}{x:AVal}(h:isAgg x=true∧(cellsOf x).length=cs.length∧ncells x=cs.length)(h':∀ i (h:i < cs.length) (h':i < (cellsOf x).length),HasSh cs[i] (cellsOf x)[i]) :
  ∃ ys,x=.agg ys∧ys.length=cs.length∧∀ i (h:i < cs.length) (h':i < ys.length),HasSh cs[i] ys[i]:=by
 cases x with
 | agg ys=>exact ⟨ys,rfl,h.2.1,h'⟩
 | _=>cases h.1
theorem one_elem{s:Sh}{x:AVal}(h:isAgg x=false∧(cellsOf x).length=[s].length∧ncells x=[s].length)(h':∀ i (h:i < [s].length) (h':i < (cellsOf x).length),HasSh [s][i] (cellsOf x)[i]):HasSh s x:=by
 have hc:cellsOf x=[x]:=by
  cases x with
  | agg ys=>cases h.1
  | _=>rfl
 have:=h' 0 (by simp) (by rw[hc];simp)
 simpa only [hc,List.getElem_cons_zero] using this
end Go.AM
namespace Go.AM
theorem slX_agg{α:Type}{cs:List Sh}{f:α→AVal}(hd:∀ ys:List AVal,ys.length=cs.length→(∀ i (h:i < cs.length) (h':i < ys.length),HasSh cs[i] ys[i])→∃ a,AVal.agg ys=f a){x:AVal}(h:HasSh (.sl true cs) x):∃ l:List α,x=.imm true (l.map f):=by
 obtain ⟨xs,rfl,hn,h1,h2⟩:=h.sl_inv
 obtain ⟨m,rfl⟩:=unmap f (l:=xs) fun x hx=>by
  obtain ⟨ys,rfl,hl,hy⟩:=agg_elem (h1 x hx) (h2 x hx)
  exact hd ys hl hy
 exact ⟨m,rfl⟩
theorem intsX_of{x:AVal}(h:HasSh (.sl false [.int .i64]) x):∃ l:List Int,x=.imm true (l.map (.int .i64)):=by
 obtain ⟨xs,rfl,hn,h1,h2⟩:=h.sl_inv
 obtain ⟨m,rfl⟩:=unmap (.int .i64) (l:=xs) fun x hx=>by
  obtain ⟨a,rfl,_⟩:=(one_elem (h1 x hx) (h2 x hx)).int_inv
  exact ⟨a,rfl⟩
 exact ⟨m,rfl⟩
abbrev enX:List Sh:=[.int .i64,.int .i64,.int .i64,.int .i64,.int .i64,.int .i64,.int .u64,.str]
abbrev exX:List Sh:=[.sl true enX]
abbrev agX:List Sh:=[.int .i64,.sl true enX]
abbrev orX:List Sh:=[.int .i64,.bool]
theorem orX_of(ys:List AVal)(hl:ys.length=orX.length)(hy:∀ i (h:i < orX.length) (h':i < ys.length),HasSh orX[i] ys[i]):∃ a,AVal.agg ys=ordA a:=by
 match ys,hl,hy with
 | [y0,y1],_,hy=>
  obtain ⟨v0,rfl,_⟩:=(hy 0 (by simp) (by simp)).int_inv
  obtain ⟨v1,rfl⟩:=(hy 1 (by simp) (by simp)).bool_inv
  exact ⟨(v0,v1),rfl⟩
abbrev lnX:List Sh:=[.int .i64,.int .i64,.int .i64,.int .i64,.sl false [.int .i64],.bool,.sl true enX,.sl false [.int .i64],.sl true agX,.sl true exX,.sl true orX,.int .i64]
end Go.AM
namespace Go.AM
theorem flatten_set(r:List Val):∀ (P:List (List (List Val))) (k:Nat),k < P.length→(P.set k (P.getD k []++[r])).flatten.Perm (P.flatten++[r])
 | [],_,h=>by simp at h
 | p::P,0,_=>by
  simp only[List.set_cons_zero,List.getD_cons_zero,List.flatten_cons,List.append_assoc]
  exact List.Perm.append_left _ List.perm_append_comm
 | p::P,k+1,h=>by
  simp only[List.set_cons_succ,List.getD_cons_succ,List.flatten_cons,List.append_assoc]
  exact List.Perm.append_left _ (flatten_set r P k (by simpa using h))
theorem splitL_perm(by':List Int):∀ (l:List (List Val)) (i:Nat) (P:List (List (List Val))),P.length=4→(splitL by' l i P).flatten.Perm (P.flatten++l)
 | [],_,P,_=>by simp[splitL]
 | r::t,i,P,h=>by
  unfold splitL
  refine (splitL_perm by' t (i+1) _ (by simpa using h)).trans ?_
  have h1:=(flatten_set r P (atK by' i) (by have:=atK_lt by' i;omega)).append_right t
  simpa using h1
theorem splitF_perm(by':List Int)(R:List (List Val)):(splitF by' R).flatten.Perm R:=by
 have:=splitL_perm by' R 0 [[],[],[],[]] rfl
 simpa [splitF] using this
theorem unmapP{α:Type}(f:α→AVal)(p:α→Prop):∀ {l:List AVal},(∀ x∈l,∃ a,x=f a∧p a)→∃ m:List α,l=m.map f∧∀ a∈m,p a
 | [],_=>⟨[],rfl,by simp⟩
 | x::l,h=>by
  obtain ⟨a,rfl,ha⟩:=h x (List.mem_cons_self ..)
  obtain ⟨m,rfl,hm⟩:=unmapP f p fun y hy=>h y (List.mem_cons_of_mem _ hy)
  exact ⟨a::m,rfl,fun b hb=>by
   rcases List.mem_cons.1 hb with rfl|h
   ·exact ha
   ·exact hm b h⟩
theorem rg_wf{n:Int}(h:(Lit.int .i64 n).wf=true):rg n:=by
 simp[Lit.wf,IntKind.min,IntKind.max,IntKind.signed,IntKind.bits]at h
 unfold rg;omega
theorem rowR_of{x:AVal}(h:HasSh (.sl true [.int .i64,.int .i64,.int .u64,.str]) x):∃ r:List Val,x=.imm true (rowA r)∧rgR r:=by
 obtain ⟨xs,rfl,_,h1,h2⟩:=h.sl_inv
 obtain ⟨r,rfl,hr⟩:=unmapP Val.a (fun v=>rg v.n) (l:=xs) fun x hx=>by
  obtain ⟨ys,rfl,hl,hy⟩:=agg_elem (h1 x hx) (h2 x hx)
  match ys,hl,hy with
  | [t,u,v,w],_,hy=>
   obtain ⟨a,rfl,_⟩:=(hy 0 (by simp) (by simp)).int_inv
   obtain ⟨b,rfl,hb⟩:=(hy 1 (by simp) (by simp)).int_inv
   obtain ⟨c,rfl,_⟩:=(hy 2 (by simp) (by simp)).int_inv
   obtain ⟨d,rfl,_⟩:=(hy 3 (by simp) (by simp)).str_inv
   exact ⟨⟨a,b,c,d⟩,rfl,rg_wf hb⟩
 exact ⟨r,rfl,hr⟩
theorem rowsR_of{x:AVal}(h:HasSh (.sl false [.sl true [.int .i64,.int .i64,.int .u64,.str]]) x):∃ rs:List (List Val),x=.imm true (rowsA true rs)∧rgL rs:=by
 obtain ⟨xs,rfl,_,h1,h2⟩:=h.sl_inv
 obtain ⟨rs,rfl,hr⟩:=unmapP (fun r=>.imm true (rowA r)) rgR (l:=xs) fun x hx=>rowR_of (one_elem (h1 x hx) (h2 x hx))
 exact ⟨rs,rfl,hr⟩
theorem slX_aggP{α:Type}{cs:List Sh}{f:α→AVal}{p:α→Prop}(hd:∀ ys:List AVal,ys.length=cs.length→(∀ i (h:i < cs.length) (h':i < ys.length),HasSh cs[i] ys[i])→∃ a,AVal.agg ys=f a∧p a){x:AVal}(h:HasSh (.sl true cs) x):∃ l:List α,x=.imm true (l.map f)∧∀ a∈l,p a:=by
 obtain ⟨xs,rfl,hn,h1,h2⟩:=h.sl_inv
 obtain ⟨m,rfl,hm⟩:=unmapP f p (l:=xs) fun x hx=>by
  obtain ⟨ys,rfl,hl,hy⟩:=agg_elem (h1 x hx) (h2 x hx)
  exact hd ys hl hy
 exact ⟨m,rfl,hm⟩
theorem enR_of(ys:List AVal)(hl:ys.length=enX.length)(hy:∀ i (h:i < enX.length) (h':i < ys.length),HasSh enX[i] ys[i]):∃ a,AVal.agg ys=EN.a a∧rg a.v.n:=by
 match ys,hl,hy with
 | [y0,y1,y2,y3,y4,y5,y6,y7],_,hy=>
  obtain ⟨v0,rfl,_⟩:=(hy 0 (by simp) (by simp)).int_inv
  obtain ⟨v1,rfl,_⟩:=(hy 1 (by simp) (by simp)).int_inv
  obtain ⟨v2,rfl,_⟩:=(hy 2 (by simp) (by simp)).int_inv
  obtain ⟨v3,rfl,_⟩:=(hy 3 (by simp) (by simp)).int_inv
  obtain ⟨v4,rfl,_⟩:=(hy 4 (by simp) (by simp)).int_inv
  obtain ⟨v5,rfl,h5⟩:=(hy 5 (by simp) (by simp)).int_inv
  obtain ⟨v6,rfl,_⟩:=(hy 6 (by simp) (by simp)).int_inv
  obtain ⟨v7,rfl,_⟩:=(hy 7 (by simp) (by simp)).str_inv
  exact ⟨⟨v0,v1,v2,v3,⟨v4,v5,v6,v7⟩⟩,rfl,rg_wf h5⟩
theorem exR_of(ys:List AVal)(hl:ys.length=exX.length)(hy:∀ i (h:i < exX.length) (h':i < ys.length),HasSh exX[i] ys[i]):∃ a,AVal.agg ys=ExX.a a∧rgE a.l:=by
 match ys,hl,hy with
 | [y0],_,hy=>
  obtain ⟨v0,rfl,h0⟩:=slX_aggP enR_of (hy 0 (by simp) (by simp))
  exact ⟨⟨true,v0⟩,rfl,h0⟩
theorem agR_of(ys:List AVal)(hl:ys.length=agX.length)(hy:∀ i (h:i < agX.length) (h':i < ys.length),HasSh agX[i] ys[i]):∃ a,AVal.agg ys=AggX.a a∧rgE a.arg:=by
 match ys,hl,hy with
 | [y0,y1],_,hy=>
  obtain ⟨v0,rfl,_⟩:=(hy 0 (by simp) (by simp)).int_inv
  obtain ⟨v1,rfl,h1⟩:=slX_aggP enR_of (hy 1 (by simp) (by simp))
  exact ⟨⟨v0,true,v1⟩,rfl,h1⟩
structure RgN (n:LNX):Prop where
 cond:rgE n.cond
 aggs:∀ a∈n.aggs,rgE a.arg
 items:∀ a∈n.items,rgE a.l
theorem lnR_of(ys:List AVal)(hl:ys.length=lnX.length)(hy:∀ i (h:i < lnX.length) (h':i < ys.length),HasSh lnX[i] ys[i]):∃ a,AVal.agg ys=LNX.a a∧RgN a:=by
 match ys,hl,hy with
 | [y0,y1,y2,y3,y4,y5,y6,y7,y8,y9,y10,y11],_,hy=>
  obtain ⟨v0,rfl,_⟩:=(hy 0 (by simp) (by simp)).int_inv
  obtain ⟨v1,rfl,_⟩:=(hy 1 (by simp) (by simp)).int_inv
  obtain ⟨v2,rfl,_⟩:=(hy 2 (by simp) (by simp)).int_inv
  obtain ⟨v3,rfl,_⟩:=(hy 3 (by simp) (by simp)).int_inv
  obtain ⟨v4,rfl⟩:=intsX_of (hy 4 (by simp) (by simp))
  obtain ⟨v5,rfl⟩:=(hy 5 (by simp) (by simp)).bool_inv
  obtain ⟨v6,rfl,h6⟩:=slX_aggP enR_of (hy 6 (by simp) (by simp))
  obtain ⟨v7,rfl⟩:=intsX_of (hy 7 (by simp) (by simp))
  obtain ⟨v8,rfl,h8⟩:=slX_aggP agR_of (hy 8 (by simp) (by simp))
  obtain ⟨v9,rfl,h9⟩:=slX_aggP exR_of (hy 9 (by simp) (by simp))
  obtain ⟨v10,rfl⟩:=slX_agg orX_of (hy 10 (by simp) (by simp))
  obtain ⟨v11,rfl,_⟩:=(hy 11 (by simp) (by simp)).int_inv
  exact ⟨⟨v0,v1,v2,v3,true,v4,v5,true,v6,true,v7,true,v8,true,v9,true,v10,v11⟩,rfl,h6,h8,h9⟩
theorem nodeR_of{x:AVal}(h:ArgSh (true,lnX) x):∃ n:LNX,x=n.a∧RgN n:=by
 obtain ⟨ys,rfl,hl,hy⟩:=agg_elem (cs:=lnX) ⟨h.1,h.2.1,h.2.2.1⟩ h.2.2.2
 exact lnR_of ys hl hy
theorem rgL_take{rs:List (List Val)}(h:rgL rs)(k:Nat):rgL ((rs.take k).map ownR):=fun r hr v hv=>by
 obtain ⟨q,hq,rfl⟩:=List.mem_map.1 hr
 obtain ⟨w,hw,rfl⟩:=List.mem_map.1 (show v∈(q.take 17).map cutV from hv)
 exact h q (List.mem_of_mem_take hq) w (List.mem_of_mem_take hw)
theorem rgE_short{e:List EN}(h:rgE e):rgE (shortE e):=fun n hn=>by
 obtain ⟨y,hy,rfl⟩:=List.mem_map.1 (show n∈(e.take 60).map cutE from hn)
 exact h y (List.mem_of_mem_take hy)
theorem ownN_rg{n:LNX}(h:RgN n):RgN (ownN n) where
 cond:=rgE_short h.cond
 aggs:=fun a ha=>by
  obtain ⟨y,hy,rfl⟩:=List.mem_map.1 (show a∈(n.aggs.take 14).map agO from ha)
  exact rgE_short (h.aggs y (List.mem_of_mem_take hy))
 items:=fun a ha=>by
  obtain ⟨y,hy,rfl⟩:=List.mem_map.1 (show a∈(n.items.take 17).map exO from ha)
  exact rgE_short (h.items y (List.mem_of_mem_take hy))
end Go.AM
section
namespace Go.AM
open P
set_option maxHeartbeats 32000000
set_option maxRecDepth 40000
attribute [local simp] condRun_if when_if
structure PhIn (x0:AVal) (M N:LNX) (R:List (List Val)):Prop where
 x1:∀ base σ m,fz true false base σ (m+3) x0=x0
 x2:∀ base σ m,fz false true base σ (m+3) x0=x0
 x3:ncells x0=12∧isAgg x0=true
 nodes:∀ b,pcall I.qad [.imm b [x0],.int .i64 1]=some (.imm false [M.a])
 eq:N={ M with op:=10 }
 fit:NFit N
 ag:agF N
 k6:N.keys.length≤6
 a14:N.aggs.length≤14
 rg:rgL R
 len:R.length≤24
 row:∀ r∈R,r.length≤17
theorem PhIn.asked{x0:AVal}{M N:LNX}{R:List (List Val)}(h:PhIn x0 M N R)(hq:(PartialF N R).2≠2):askedF N 10 R=true:=by
 unfold PartialF at hq
 split at hq
 ·assumption
 ·exact absurd rfl hq
theorem PhIn.two{x0:AVal}{M N:LNX}{R:List (List Val)}(h:PhIn x0 M N R)(hq:(PartialF N R).2=2):(PartialF N R).1=[]:=by
 unfold PartialF at hq ⊢
 split
 ·rename_i hk
  rw[if_pos hk]at hq
  unfold partialF at hq
  rw[groupedF_eq]at hq
  split at hq
  ·simp at hq
  ·simp at hq
 ·rfl
theorem mN_fit{n:LNX}(h1:n.keys.length≤6)(h2:n.aggs.length≤14):NFit (mN n) where
 kinds:=by simp[mN,m32]
 cond:=by simp[mN,m32]
 keys:=by simp[mN,m32];omega
 aggs:=by simp[mN,m32];omega
 args:=fun g hg=>by
  obtain ⟨a,_,rfl⟩:=List.mem_map.1 (show g∈n.aggs.map fun a=>(⟨a.tag,false,[]⟩:AggX) from hg)
  simp[m32]
 items:=by simp[mN,m32]
 exprs:=fun g hg=>by simp[mN]at hg
 ords:=by simp[mN,m32]
theorem PhIn.final{x0:AVal}{M N:LNX}{R:List (List Val)}(h:PhIn x0 M N R)(hh:Ph N R){Q:List (List Val×List (List Val))}(hp:Pcs N R Q){X:List (List Val)}(hX:X.Perm (Q.map (rowK N)))(b:Bool) :
  pcall I.qbm [(mN N).a,.imm b (X.map rowX)]=some (.tup [.imm false ((FinalF (mN N) X).1.map rowX),.int .i64 (FinalF (mN N) X).2]):=by
 have h1:=h.k6
 have h2:=h.a14
 refine Final_v (mN N) b X (mN_fit h1 h2) (fun r hr=>?_) (fun hq g hg i a hi=>?_)
 ·obtain ⟨q,hq,rfl⟩:=List.mem_map.1 (hX.mem_iff.1 hr)
  have:=(hp.len hq).2
  unfold rowK
  simp[m32];omega
 ·have hi':(N.aggs.map fun a=>(⟨a.tag,false,[]⟩:AggX))[i]?=some a:=hi
  rw[List.getElem?_map]at hi'
  cases hj:N.aggs[i]? with
  | none=>rw[hj]at hi';cases hi'
  | some a'=>
   rw[hj]at hi'
   cases hi'
   have hkl:(mN N).keys.length=N.keys.length:=by simp[mN]
   rw[hkl]
   have hgr:=((groups_spec (mN N).keys X).rows g hg).1
   exact own_ok (a:=a') hh hp hX hgr hj
theorem FinalF_eq{N:LNX}{R:List (List Val)}(hh:Ph N R){Q:List (List Val×List (List Val))}(hp:Pcs N R Q){X:List (List Val)}(hX:X.Perm (Q.map (rowK N)))(h2:(FinalF (mN N) X).2≠2) :
  FinalF (mN N) X=if (keysOf N.keys R).all (finOkR R N) then ((keysOf N.keys R).map (finRow R N),0) else ([],140):=by
 unfold FinalF at h2 ⊢
 split
 ·rw[final_eq hh hp hX,finRow_sorted]
 ·rename_i hq
  rw[if_neg hq]at h2
  exact absurd rfl h2
end Go.AM
end
section
namespace Go.AM
open P
set_option maxHeartbeats 32000000
set_option maxRecDepth 40000
attribute [local simp] condRun_if when_if
abbrev mA(N:LNX):AVal:=.agg [.int .i64 11,.int .i64 0,.int .i64 0,.int .i64 0,.imm false [],.bool false,.imm false [],.imm true ((List.range N.keys.length).map natI),.imm true (N.aggs.map tagL),.imm false [],.imm false [],.int .i64 0]
theorem mN_a(N:LNX):(mN N).a=mA N:=by
 simp[mN,LNX.a,mA]
 exact ⟨fun _ _=>rfl,fun _ _=>rfl⟩
theorem phases_end{x0:AVal}{M N:LNX}{R:List (List Val)}(h:PhIn x0 M N R)(l1:List AVal)(hrows:pcall I.qaf [.imm true l1,.int .i64 24]=some (.imm false (R.map rowX)))(by':List Int)
  (W acc:List (List Val)) (p0 p1 p2 p3:List (List Val)) (ep:Nat) (hacc:acc≠[])
  (hPt:∀ b,pcall I.qbn [N.a,.imm b (R.map rowX)]=some (.tup [.imm false (W.map rowX),.int .i64 0]))
  (hsp:acall code I.qah [.imm false (R.map rowX),.imm true (intC by')] [.arr 12 0 [N.a],.arr 1 0 []]=some (.sl 2 0 0 4,.arr 12 0 [N.a]::.arr 1 0 []::.arr 1 0 (cellsP 3 [p0,p1,p2,p3])::objsP [p0,p1,p2,p3]))
  (hl:rounds code 7 [4,10,11,12,31,32,33,34] l_qt_4 ⟨pEnv x0 (.imm true l1) (.imm true (intC by')) (.imm false (R.map rowX)) (.imm false (W.map rowX)) 0 .any (.sl 1 0 0 0) (.int .i64 0) .any .any .any (.sl 2 0 0 4) (.int .i64 4) (.int .i64 0) .any .any .any .any,pStore N [p0,p1,p2,p3] 0 []⟩ =
    some (.ext 0,⟨pEnv x0 (.imm true l1) (.imm true (intC by')) (.imm false (R.map rowX)) (.imm false (W.map rowX)) 0 .any (.sl 1 ep 0 acc.length) (.int .i64 0) .any .any .any (.sl 2 0 0 4) (.int .i64 4) (.int .i64 4) (.bool false) .any .any .any,pStore N [p0,p1,p2,p3] ep acc⟩))
  (one two:List (List Val)) (o f:Int)
  (hF1:∀ b,pcall I.qbm [(mN N).a,.imm b (W.map rowX)]=some (.tup [.imm false (one.map rowX),.int .i64 o]))
  (hF2:∀ b,pcall I.qbm [(mN N).a,.imm b (acc.map rowX)]=some (.tup [.imm false (two.map rowX),.int .i64 f]))
  (hof:o≠2→f≠2→one=two∧o=f∧(o≠0→o=140))
  (hal:pcall I.qu [.imm false (one.map rowX),.imm false (one.map rowX)]=some (.bool true))
  (G:List (List Val×List (List Val)))
  (hG:∀ b bc,pcall I.qeq [.imm b (R.map rowX),.imm bc (intC N.keys)]=some (.tup [.imm false (G.map grpA),.int .i64 0]))
  (hS:o=0→f=0→∀ ek ea,SameG ⟨x0,true,l1,true,intC by',R,W,0,ep,acc,0,p0,p1,p2,p3,N⟩ ⟨ek,ea,two,one,G⟩) :
  pcall I.qt [x0,.imm true l1,.imm true (intC by')]=some (.bool true):=by
 rw[pcall_eq c_qt rfl]
 have hx1:=h.x1
 have hx2:=h.x2
 have hx3:=h.x3
 have hnd:=h.nodes
 have hN:=h.eq
 have hk6:=h.k6
 have ha14:=h.a14
 obtain ⟨ek,hlk⟩:=keys_loop ⟨x0,true,l1,true,intC by',R,W,0,ep,acc,0,p0,p1,p2,p3,N⟩ (by simp only;omega)
 obtain ⟨ea,hlt⟩:=tags_loop ⟨x0,true,l1,true,intC by',R,W,0,ep,acc,0,p0,p1,p2,p3,N⟩ N.keys.length ek hx2 (by simp only;omega)
 simp only at hlk hlt
 have hl0:¬((acc.length:Int)=0):=fun h=>hacc (List.eq_nil_of_length_eq_zero (by omega))
 rw[mN_a]at hF1 hF2
 have hSl:o=0→f=0→_:=fun h0 h1=>same_1 (hS h0 h1 ek ea)
 have hSn:o=0→f=0→two.length=G.length:=fun h0 h1=>(hS h0 h1 ek ea).len
 simp only[env1,gStore,qStore]at hSl
 simp only[env3,env2,qStore]at hlk hlt
 clear hS
 subst hN
 simp only[mA,mCell]at hF1 hF2 hlk hlt hSl
 simp only[LNX.a]at hPt hnd hsp hlk hlt hSl
 simp only[pEnv,pStore,cellsP,objsP,LNX.a]at hl
 simp at hl
 simp only[objsP,cellsP]at hsp
 simp at hsp
 have htk:∀ n,List.take n (List.map natI (List.range n))=List.map natI (List.range n):=fun n=>List.take_of_length_le (by simp)
 have hnf:∀ base σ n y,fz true false base σ (n+3) (natI y)=natI y:=fun _ _ _ _=>rfl
 have htf:∀ base σ n a,ncells (fz true false base σ (n+3) (tagA a))=ncells (tagA a):=fun _ _ _ _=>rfl
 by_cases c1:o=2
 ·subst c1
  simp[f_qt,b_qt,wakes_ok,hrows,hnd,hPt,hx1,hx2,hx3,hsp,hl,hl0,beq_f hl0,hlk,hlt,htk,hnf,htf,hF1,hF2]
 ·by_cases c2:f=2
  ·subst c2
   simp[f_qt,b_qt,wakes_ok,hrows,hnd,hPt,hx1,hx2,hx3,hsp,hl,hl0,beq_f hl0,hlk,hlt,htk,hnf,htf,hF1,hF2,beq_f c1]
  ·obtain ⟨rfl,rfl,h140⟩:=hof c1 c2
   by_cases c0:o=0
   ·subst c0
    have hSl:=hSl rfl rfl
    have hSn:=hSn rfl rfl
    simp[f_qt,b_qt,wakes_ok,hrows,hnd,hPt,hx1,hx2,hx3,hsp,hl,hl0,beq_f hl0,hlk,hlt,htk,hnf,htf,hF1,hF2,hal,hG,hSn,hSl]
   ·have h140:=h140 c0
    subst h140
    simp[f_qt,b_qt,wakes_ok,hrows,hnd,hPt,hx1,hx2,hx3,hsp,hl,hl0,beq_f hl0,hlk,hlt,htk,hnf,htf,hF1,hF2,hal]
theorem phases_walk{x0:AVal}{M N:LNX}{R:List (List Val)}(h:PhIn x0 M N R)(l1:List AVal)(hrows:pcall I.qaf [.imm true l1,.int .i64 24]=some (.imm false (R.map rowX)))(by':List Int) :
  pcall I.qt [x0,.imm true l1,.imm true (intC by')]=some (.bool true):=by
 have hx1:=h.x1
 have hx2:=h.x2
 have hx3:=h.x3
 have hnd:=h.nodes
 have hN:=h.eq
 have hlen:=h.len
 have hRm:∀ r∈R,r.length≤m32:=fun r hr=>by have:=h.row r hr;show _≤4294967296;omega
 have hPt:=fun b=>Partial_v N b R h.fit h.ag h.rg hRm
 by_cases e2:(PartialF N R).2=2
 ·have e1:=h.two e2
  rw[e2,e1]at hPt
  subst hN
  simp only[LNX.a]at hPt hnd
  rw[pcall_eq c_qt rfl]
  simp[f_qt,b_qt,wakes_ok,hrows,hnd,hPt,hx1,hx2,hx3]
 ·have hq:=h.asked e2
  obtain ⟨hsp,hP4⟩:=split_v by' true R (by omega) (.arr 12 0 [N.a]) (.arr 1 0 [])
  have hperm:=splitF_perm by' R
  have hmem:∀ p∈splitF by' R,∀ r∈p,r∈R:=fun p hp r hr=>hperm.mem_iff.1 (List.mem_flatten.2 ⟨p,hp,hr⟩)
  have hloop:=parts_loop x0 (.imm true l1) (.imm true (intC by')) (.imm false (R.map rowX)) (.imm false ((PartialF N R).1.map rowX)) (PartialF N R).2 N (splitF by' R) h.fit h.ag hP4 (fun p hp=>by
   refine ⟨?_,fun r hr=>h.rg r (hmem p hp r hr),fun r hr=>hRm r (hmem p hp r hr)⟩
   have:p.length≤(splitF by' R).flatten.length:=by
    obtain ⟨a,c,e⟩:=List.append_of_mem hp
    rw[e];simp;omega
   rw[hperm.length_eq]at this
   omega)
  have hfin:∀ s,foldL (phG N) (splitF by' R) 0 (0,[])=.inl s→_:=fun s hs=>phases_bad hq hperm hs
  have hpp:=pcs_parts (n:=N) hperm
  obtain ⟨p0,p1,p2,p3,hP⟩:∃ p0 p1 p2 p3,splitF by' R=[p0,p1,p2,p3]:=by
   match splitF by' R,hP4 with
   | [a,b,c,d],_=>exact ⟨a,b,c,d,rfl⟩
  rw[hP]at hsp hloop hfin hpp
  rcases hloop with ⟨s,hs,ep,hl⟩|⟨hs,s,hl,hlv⟩
  ·obtain ⟨hbad,hgood⟩:=hfin s hs
   obtain ⟨bad,acc⟩:=s
   simp only at hbad hgood hl
   subst hbad
   by_cases e0:(PartialF N R).2=0
   ·obtain ⟨hall,hW,hA⟩:=hgood e0
    by_cases hacc:acc=[]
    ·subst hacc
     rw[e0]at hPt hl
     clear hfin hgood hW hA hpp
     subst hN
     generalize PartialF _ R=q at *
     obtain ⟨W,e⟩:=q
     simp only at hPt e2 hl e0
     simp only[LNX.a]at hPt hnd hsp
     simp only[pEnv,pStore,cellsP,objsP,LNX.a]at hl
     simp at hl
     simp only[objsP,cellsP]at hsp
     simp at hsp
     rw[pcall_eq c_qt rfl]
     simp[f_qt,b_qt,wakes_ok,hrows,hnd,hPt,hx1,hx2,hx3,hsp,hl]
    ·have hh:Ph N R:=mkPh (fun a ha=>(h.ag a ha).2) hq h.rg hlen hall
     have hF1:=fun b=>h.final hh (pcs_all N R) hW b
     have hF2:=fun b=>h.final hh hpp hA b
     have q1:=fun c=>FinalF_eq hh (pcs_all N R) hW c
     have q2:=fun c=>FinalF_eq hh hpp hA c
     have hask:=askOk hq
     have hok:=fun r hr=>(hask.row r hr).1
     obtain ⟨k0,kh⟩:=part_keys hask
     have hgl:=groupsF_len N.keys R
     have hk6:=h.k6
     have ha14:=h.a14
     rw[e0]at hPt hl
     refine phases_end h l1 hrows by' _ acc p0 p1 p2 p3 ep hacc hPt hsp hl _ _ _ _ hF1 hF2 (fun c1 c2=>?_) ?_ (groupsF N.keys R) (fun b bc=>Groups_v b bc R N.keys (by omega) hok kh (by omega) k0) (fun o0 f0 ek ea=>?_)
     ·rw[q1 c1,q2 c2]
      refine ⟨rfl,rfl,fun h=>?_⟩
      split at h
      ·exact absurd rfl h
      ·rename_i hc
       rw[if_neg hc]
     ·refine alikeX _ ?_ ?_
      ·by_cases c1:(FinalF (mN N) (PartialF N R).1).2=2
       ·unfold FinalF at c1 ⊢
        split
        ·rename_i hc
         rw[if_pos hc,final_eq hh (pcs_all N R) hW]at c1
         split at c1<;>simp at c1
        ·simp
       ·rw[q1 c1]
        split
        ·simp[most];omega
        ·simp
      ·intro r hr
       by_cases c1:(FinalF (mN N) (PartialF N R).1).2=2
       ·unfold FinalF at c1 hr
        split at hr
        ·rename_i hc
         rw[if_pos hc,final_eq hh (pcs_all N R) hW]at c1
         split at c1<;>simp at c1
        ·simp at hr
       ·rw[q1 c1]at hr
        split at hr
        ·obtain ⟨k,hk,rfl⟩:=List.mem_map.1 hr
         have:=key_len hk
         unfold finRow
         simp[most];omega
        ·simp at hr
     ·have c2:(FinalF (mN N) acc).2≠2:=by rw[f0];decide
      have e:=q2 c2
      have hk:(keysOf N.keys R).all (finOkR R N)=true:=by
       rw[e]at f0
       split at f0
       ·assumption
       ·simp at f0
      rw[if_pos hk]at e
      obtain ⟨s1,s2⟩:=phases_all hh hk
      have e1:(FinalF (mN N) acc).1=(keysOf N.keys R).map (finRow R N):=by rw[e]
      rw[← e1]at s1 s2
      exact {
       len:=s1
       at':=s2
       go:=fun g hg a ha b=>by
        have hp:=((groups_spec N.keys R).rows g hg).1
        have hsub:∀ r∈g.2,r∈R:=fun r hr=>(filt_sub r (hp.mem_iff.1 hr)).1
        have hl2:g.2.length≤R.length:=Nat.le_trans (Nat.le_of_eq hp.length_eq) (List.length_filter_le _ _)
        exact Aggregate_v a b g.2 (by omega) (h.ag a ha).1 (fun r hr=>h.rg r (hsub r hr)) (h.ag a ha).2
       nk:=by simp only;omega
       na:=by simp only;omega
       nG:=by simp only;omega
       x0:=hx2 }
   ·clear hgood hfin
    subst hN
    generalize PartialF _ R=q at *
    obtain ⟨W,e⟩:=q
    simp only at hPt e2 hl e0
    simp only[LNX.a]at hPt hnd hsp
    simp only[pEnv,pStore,cellsP,objsP,LNX.a]at hl
    simp at hl
    simp only[objsP,cellsP]at hsp
    simp at hsp
    rw[pcall_eq c_qt rfl]
    simp[f_qt,b_qt,wakes_ok,hrows,hnd,hPt,hx1,hx2,hx3,beq_f e2,hsp,hl,beq_f e0,bne_t e0]
  ·have hfz:(PartialF N R).2≠2:=e2
   subst hN
   generalize PartialF _ R=q at *
   obtain ⟨W,e⟩:=q
   simp only at hPt e2 hl
   simp only[LNX.a]at hPt hnd hsp
   simp only[pEnv,pStore,cellsP,objsP,LNX.a]at hl
   simp at hl hlv
   simp only[objsP,cellsP]at hsp
   simp at hsp
   rw[pcall_eq c_qt rfl]
   simp[f_qt,b_qt,wakes_ok,hrows,hnd,hPt,hx1,hx2,hx3,beq_f e2,hsp,hl,hlv]
theorem phases_law(n:LNX)(hn:RgN n)(rs:List (List Val))(hr:rgL rs)(by':List Int) :
  pcall I.qt [n.a,.imm true (rowsA true rs),.imm true (intC by')]=some (.bool true):=by
 have hM:=ownN_rg hn
 have hrow:=rowsX_spec 24 (by decide) (by decide) true rs
 refine phases_walk (M:=ownN n) (N:={ ownN n with op:=10 }) (R:=(rs.take 24).map ownR) ?_ _ hrow by'
 exact {
  x1:=fun base σ m=>Ft.ft true false base σ m n rfl
  x2:=fun base σ m=>Ft.ft false true base σ m n rfl
  x3:=⟨rfl,rfl⟩
  nodes:=fun b=>by simpa using nodes_spec b [n] 1 (by decide) (by decide)
  eq:=rfl
  fit:=⟨(ownN_fit n).kinds,(ownN_fit n).cond,(ownN_fit n).keys,(ownN_fit n).aggs,(ownN_fit n).args,(ownN_fit n).items,(ownN_fit n).exprs,(ownN_fit n).ords⟩
  ag:=fun a ha=>⟨by have:=(ownN_fit n).args a ha;exact Nat.le_trans this (by decide),hM.aggs a ha⟩
  k6:=by simp[ownN];omega
  a14:=by simp[ownN];omega
  rg:=rgL_take hr 24
  len:=by simp;omega
  row:=fun r hr=>by
   obtain ⟨y,_,rfl⟩:=List.mem_map.1 hr
   simp[ownR];omega }
end Go.AM
end
