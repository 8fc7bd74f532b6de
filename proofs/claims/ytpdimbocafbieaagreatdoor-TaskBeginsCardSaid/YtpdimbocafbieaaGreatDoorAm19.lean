/- Part of the proof. -/
import Derived.Test.YtpdimbocafbieaaGreatDoorAm18
import Derived.Test.YtpdimbocafbieaaGreatDoorAm15
import Derived.Test.YtpdimbocafbieaaGreatDoorAm16
import Derived.KernelRfl
set_option linter.unusedVariables false
set_option linter.unusedSimpArgs false
section
namespace Go.AM
open P
set_option maxHeartbeats 16000000
set_option maxRecDepth 8000
attribute [local simp] condRun_if when_if
structure FrX where
 nodes:List LNX
 at':Int
 way:Int
 cols:List Int
def FrX.a(f:FrX):AVal:=.agg [.imm true (f.nodes.map LNX.a),.int .i64 f.at',.int .i64 f.way,.imm true (f.cols.map (.int .i64))]
instance:Nc FrX.a 4 true:=⟨fun _=>rfl,fun _=>rfl⟩
instance:Ft FrX.a:=⟨fun fl top base σ n y h=>by cases fl<;>cases top<;>simp[FrX.a]at h ⊢⟩
def AggT.x(g:AggT):AggX:=⟨g.kind,true,g.arg.1⟩
def ExprT.x(e:ExprT):ExX:=⟨true,e.1⟩
def LNT.x(n:LNT):LNX:=⟨n.op,n.l,n.r,n.tab,true,n.cols.1,n.flag,true,n.pred.1,true,n.keys.1,true,n.aggs.1.map AggT.x,true,n.outs.1.map ExprT.x,true,n.ords.1.map fun o=>(o.col,o.down),n.limit⟩
theorem LNT.x_a(n:LNT):n.a=n.x.a:=by
 simp only[LNT.a,LNX.a,LNT.x,slA,List.map_map]
 rfl
def FragT.x(f:FragT):FrX:=⟨f.nodes.1.map LNT.x,f.at',f.way,f.cols.1⟩
theorem FragT.x_a(f:FragT):f.a=f.x.a:=by
 simp only[FragT.a,FragT.c,FrX.a,FragT.x,slA,List.map_map]
 have:List.map LNT.a f.nodes.1=List.map (LNX.a∘LNT.x) f.nodes.1:=List.map_congr_left fun n _=>n.x_a
 rw[this]
abbrev planA(fs:List FrX):AVal:=.agg [.imm true (fs.map FrX.a)]
def hasIn(src:Int)(n:LNX):Bool:=n.op == 9&&n.tab == src
def reads(src:Int)(f:FrX):Bool:=f.nodes.any (hasIn src)
def readF(fs:List FrX)(src:Int):Int:=ixF (reads src) fs
def firstG{α:Type}(p:α→Bool)(i:Nat)(y:α)(_:Unit):Unit⊕Nat:=if p y then .inr i else .inl ()
theorem firstG_fold{α:Type}(p:α→Bool):∀ (l:List α) (i:Nat),foldL (firstG p) l i ()=if l.any p then .inr (i+l.findIdx p) else .inl ()
 | [],i=>rfl
 | y::l,i=>by
  simp only[foldL,firstG]
  cases hp:p y with
  | true=>simp[List.findIdx_cons,hp]
  | false=>
   simp only[Bool.false_eq_true,if_false]
   rw[firstG_fold p l (i+1)]
   simp[List.findIdx_cons,hp,Nat.add_assoc,Nat.add_comm 1]
structure FrSm (fs:List FrX):Prop where
 len:fs.length≤40
 nodes:∀ f∈fs,f.nodes.length≤32
 small:∀ f∈fs,∀ n∈f.nodes,NSm n
theorem reader19_in(fs:List FrX)(src:Int)(i:Nat)(f:FrX)(hi:fs[i]?=some f)(hn:f.nodes.length≤32) :
  (f.nodes.any (hasIn src)=false∧rounds code 1 [3,7,8] l_qap_0 ⟨[planA fs,.int .i64 src,.ptr 0 0 0 0,.any,.int .i64 i,.int .i64 0,.bool true,.any,.any],[.arr 1 0 [planA fs]]⟩ =
   some (.ext 2,⟨[planA fs,.int .i64 src,.ptr 0 0 0 0,.any,.int .i64 i,.int .i64 f.nodes.length,.bool true,.bool false,.any],[.arr 1 0 [planA fs]]⟩)) ∨
  (f.nodes.any (hasIn src)=true∧∃ o,rounds code 1 [3,7,8] l_qap_0 ⟨[planA fs,.int .i64 src,.ptr 0 0 0 0,.any,.int .i64 i,.int .i64 0,.bool true,.any,.any],[.arr 1 0 [planA fs]]⟩=some o∧∃ s,o=(.ret,s)∧s.env[3]?=some (.int .i64 i)):=by
 have hm:f.nodes.length≤most:=by unfold most;omega
 have hil:((i:Int) < (fs.length:Int)):=by have:=(List.getElem?_eq_some_iff.1 hi).1;omega
 refine rounds_any (base:=1) (clr:=[3,7,8]) (b:=l_qap_0) f.nodes
  (fun k=>⟨[planA fs,.int .i64 src,.ptr 0 0 0 0,.any,.int .i64 i,.int .i64 k,.bool true,.any,.any],[.arr 1 0 [planA fs]]⟩) (hasIn src) _ _ ?_ ?_ ?_
 ·intro k n hk hn' hp
  have hlt:((k:Int) < (f.nodes.length:Int)):=by omega
  unfold hasIn at hp
  by_cases h9:n.op=9
  ·have ht:¬n.tab=src:=fun h=>by rw[h9,h]at hp;simp at hp
   simp[l_qap_0,planA,hi,FrX.a,LNX.a,hn',hlt,h9,ht,beq_f ht,wrap_lt hk hm,roundEnd_same]
  ·simp[l_qap_0,planA,hi,FrX.a,LNX.a,hn',hlt,h9,beq_f h9,wrap_lt hk hm,roundEnd_same]
 ·intro k n hk hn' hp
  have hlt:((k:Int) < (f.nodes.length:Int)):=by omega
  unfold hasIn at hp
  simp only[Bool.and_eq_true,beq_iff_eq]at hp
  exact ⟨_,by simp[l_qap_0,planA,hi,FrX.a,LNX.a,hn',hlt,hp.1,hp.2];rfl,_,rfl,rfl⟩
 ·simp[l_qap_0,planA,hi,FrX.a]
theorem reader19_v(fs:List FrX)(hS:FrSm fs)(src:Int):pcall I.qap [planA fs,.int .i64 src]=some (.int .i64 (readF fs src)):=by
 rw[pcall_eq c_qap rfl]
 have hm:fs.length≤most:=by have:=hS.len;unfold most;omega
 have key:=rounds_list (σ:=Unit) (base:=1) (clr:=[3,5,6,7,8]) (b:=l_qap_1) fs
  (fun k _=>⟨[planA fs,.int .i64 src,.ptr 0 0 0 0,.any,.int .i64 k,.any,.any,.any,.any],[.arr 1 0 [planA fs]]⟩) (fun _ _=>True) (firstG (reads src))
  (fun _=>(.ext 0,⟨[planA fs,.int .i64 src,.ptr 0 0 0 0,.any,.int .i64 fs.length,.any,.bool false,.any,.any],[.arr 1 0 [planA fs]]⟩))
  (fun i o=>∃ s,o=(.ret,s)∧s.env[3]?=some (.int .i64 i))
  (fun k f s hk hf _=>by
   have hlt:((k:Int) < (fs.length:Int)):=by omega
   have hin:=reader19_in fs src k f hf (hS.nodes f (List.mem_of_getElem? hf))
   unfold firstG reads
   rcases hin with ⟨ha,h⟩|⟨ha,o,h,s,rfl,hs⟩
   ·rw[ha]
    simp only[planA]at h
    refine ⟨?_,trivial⟩
    simp[l_qap_1,hlt,h,wrap_lt hk hm,roundEnd_same]
   ·rw[ha]
    simp only[planA]at h
    exact ⟨_,by simp[l_qap_1,hlt,h],s,rfl,hs⟩)
  (fun _ _=>by simp[l_qap_1]) () trivial
 rw[firstG_fold]at key
 unfold readF ixF
 cases ha:fs.any (reads src) with
 | false=>
  rw[ha]at key
  have h:=key.2
  simp only[planA,show ((0:Nat):Int)=0 from rfl]at h
  try simp at h
  simp[f_qap,b_qap,h]
 | true=>
  rw[ha]at key
  obtain ⟨o,h,s,rfl,hs⟩:=key
  simp only[planA,show ((0:Nat):Int)=0 from rfl]at h
  try simp at h
  simp[f_qap,b_qap,h,hs]
end Go.AM
end
section
namespace Go.AM
open P
set_option maxHeartbeats 16000000
set_option maxRecDepth 8000
attribute [local simp] condRun_if when_if
def upF(n:Nat):List Int:=(List.range n).map fun (k:Nat)=>(k:Int)
theorem upF_succ(n:Nat):upF (n+1)=upF n++[(n:Int)]:=by simp[upF,List.range_succ]
theorem upF_len(n:Nat):(upF n).length=n:=by simp[upF]
def upF1(n:Nat):List Int:=(List.range n).map fun (k:Nat)=>(k:Int)+1
theorem upF1_succ(n:Nat):upF1 (n+1)=upF1 n++[(n:Int)+1]:=by simp[upF1,List.range_succ]
theorem upF1_len(n:Nat):(upF1 n).length=n:=by simp[upF1]
theorem upF_drop(n:Nat):(upF (n+1)).drop 1=upF1 n:=by
 apply List.ext_getElem
 ·simp[upF,upF1]
 ·intro i h1 h2
  simp[upF,upF1]
def placesF(f:FrX)(sites:Nat):List Int:=if f.at'=2 then [0] else upF1 sites
theorem placesF_len(f:FrX)(sites:Nat)(h:sites≤8):(placesF f sites).length≤8:=by
 unfold placesF
 split
 ·simp
 ·rw[upF1_len];exact h
theorem upTo_v(n:Nat)(hn:n≤60):pcall I.qde [.int .i64 n]=some (.imm false (intsA (upF n))):=by
 rw[pcall_eq c_qde rfl]
 have h:=rounds_iter (base:=1) (clr:=[3,6]) (b:=l_qde_0)
  (fun k=>⟨[.int .i64 n,.nil0,.sl 0 k 0 k,.any,.int .i64 n,.int .i64 k,.any],[.arr 1 k ((upF k).map (.int .i64))]⟩) n
  (.ext 0,⟨[.int .i64 n,.nil0,.sl 0 n 0 n,.any,.int .i64 n,.int .i64 n,.bool false],[.arr 1 n ((upF n).map (.int .i64))]⟩)
  (fun k hk=>by
   have hlt:((k:Int) < (n:Int)):=by omega
   have h5:k+1≤most:=by unfold most;omega
   have hu:∀ k,List.take k (List.map (AVal.int .i64) (upF k))=List.map (AVal.int .i64) (upF k):=fun k=>List.take_of_length_le (by simp[upF_len])
   simp[l_qde_0,hlt,append,h5,hu,upF_len,upF_succ,wrap_lt hk (by unfold most;omega),roundEnd_same])
  (by simp[l_qde_0])
 simp only[show ((0:Nat):Int)=0 from rfl,show upF 0=[] from rfl]at h
 have hu:List.take n (List.map (AVal.int .i64) (upF n))=List.map (AVal.int .i64) (upF n):=List.take_of_length_le (by simp[upF_len])
 simp at h
 simp[f_qde,b_qde,h,hu,upF_len]
theorem sites_v(f:FrX)(n:Nat)(hn:n≤8):pcall I.qdc [f.a,.int .i64 n]=some (.imm false (intsA (placesF f n))):=by
 rw[pcall_eq c_qdc rfl]
 have h:=upTo_v (n+1) (by omega)
 rw[show ((n+1:Nat):Int)=(n:Int)+1 by omega]at h
 have hw:IntKind.i64.wrap ((n:Int)+1)=(n:Int)+1:=wrap64_id (by omega)
 have hd:List.drop 1 (List.map (AVal.int .i64) (upF (n+1)))=List.map (AVal.int .i64) (upF1 n):=by rw[← List.map_drop,upF_drop]
 have ht:List.take n (List.map (AVal.int .i64) (upF1 n))=List.map (AVal.int .i64) (upF1 n):=List.take_of_length_le (by simp[upF1_len])
 have hs:¬((n:Int)+1 < 1):=by omega
 obtain ⟨nodes,at',way,cols⟩:=f
 unfold placesF
 simp only[FrX.a]
 by_cases h2:at'=2
 ·subst h2
  simp[f_qdc,b_qdc]
 ·rw[if_neg h2]
  simp[f_qdc,b_qdc,h2,beq_f h2,hw,h,upF_len,hd,ht]
theorem places19_v(fs:List FrX)(i:Nat)(f:FrX)(hi:fs[i]?=some f)(n:Nat)(hn:n≤8):pcall I.qao [planA fs,.int .i64 i,.int .i64 n]=some (.imm false (intsA (placesF f n))):=by
 rw[pcall_eq c_qao rfl]
 have hil:((i:Int) < (fs.length:Int)):=by have:=(List.getElem?_eq_some_iff.1 hi).1;omega
 have h:=rounds_iter (base:=2) (clr:=[8]) (b:=l_qao_0)
  (fun k=>⟨[planA fs,.int .i64 i,.int .i64 n,.ptr 0 0 0 0,.nil0,.sl 1 k 0 k,.int .i64 ((k:Int)+1),.bool false,.any],[.arr 1 0 [planA fs],.arr 1 k ((upF1 k).map (.int .i64))]⟩) n
  (.ext 0,⟨[planA fs,.int .i64 i,.int .i64 n,.ptr 0 0 0 0,.nil0,.sl 1 n 0 n,.int .i64 ((n:Int)+1),.bool false,.bool false],[.arr 1 0 [planA fs],.arr 1 n ((upF1 n).map (.int .i64))]⟩)
  (fun k hk=>by
   have hlt:((k:Int)+1≤(n:Int)):=by omega
   have h5:k+1≤most:=by unfold most;omega
   have hw:IntKind.i64.wrap ((k:Int)+1+1)=(k:Int)+1+1:=wrap64_id (by omega)
   have hu:∀ k,List.take k (List.map (AVal.int .i64) (upF1 k))=List.map (AVal.int .i64) (upF1 k):=fun k=>List.take_of_length_le (by simp[upF1_len])
   simp[planA,l_qao_0,hlt,append,h5,hu,upF1_len,upF1_succ,hw,roundEnd_same])
  (by
   have hlt:¬((n:Int)+1≤(n:Int)):=by omega
   simp[planA,l_qao_0,hlt])
 simp only[show ((0:Nat):Int)=0 from rfl,show upF1 0=[] from rfl,planA]at h
 have hu:List.take n (List.map (AVal.int .i64) (upF1 n))=List.map (AVal.int .i64) (upF1 n):=List.take_of_length_le (by simp[upF1_len])
 simp at h
 obtain ⟨nodes,at',way,cols⟩:=f
 unfold placesF
 by_cases h2:at'=2
 ·subst h2
  simp[f_qao,b_qao,hi,FrX.a]
 ·simp[f_qao,b_qao,hi,FrX.a,h2,beq_f h2,h,hu,upF1_len]
def askP(fs:List FrX)(number sites:Int):Bool:=decide (30 < fs.length) || decide (number < 0) || decide ((fs.length:Int)≤number) || decide (sites < 1) || decide (8 < sites)
theorem asked_p(fs:List FrX)(number sites:Int):pcall I.qda [planA fs,.int .i64 number,.int .i64 sites]=some (.int .i64 (if askP fs number sites then 2 else 0)):=by
 rw[pcall_eq c_qda rfl]
 unfold askP
 have e:decide ((30:Int) < (fs.length:Int))=decide (30 < fs.length):=by rw[Bool.eq_iff_iff];simp;omega
 by_cases h1:30 < fs.length
 ·have h1':(30:Int) < fs.length:=by omega
  simp[f_qda,b_qda,h1,h1']
 ·have h1':¬(30:Int) < fs.length:=by omega
  by_cases h2:number < 0
  ·simp[f_qda,b_qda,h1,h1',h2]
  ·by_cases h3:(fs.length:Int)≤number
   ·simp[f_qda,b_qda,h1,h1',h2,h3]
   ·by_cases h4:sites < 1
    ·simp[f_qda,b_qda,h1,h1',h2,h3,h4]
    ·by_cases h5:8 < sites
     ·simp[f_qda,b_qda,h1,h1',h2,h3,h4,h5]
     ·simp[f_qda,b_qda,h1,h1',h2,h3,h4,h5]
theorem Places_no(fs:List FrX)(number sites:Int)(h:askP fs number sites=true):pcall I.qcx [planA fs,.int .i64 number,.int .i64 sites]=some (.tup [.imm false [],.int .i64 2]):=by
 rw[pcall_eq c_qcx rfl]
 have ha:=asked_p fs number sites
 rw[h]at ha
 simp only[planA]at ha
 simp[f_qcx,b_qcx,ha]
theorem Places_v(fs:List FrX)(i:Nat)(f:FrX)(hi:fs[i]?=some f)(n:Nat)(h:askP fs i n=false):pcall I.qcx [planA fs,.int .i64 i,.int .i64 n]=some (.tup [.imm false (intsA (placesF f n)),.int .i64 0]):=by
 rw[pcall_eq c_qcx rfl]
 have ha:=asked_p fs i n
 rw[h]at ha
 simp only[planA]at ha
 have hil:((i:Int) < (fs.length:Int)):=by have:=(List.getElem?_eq_some_iff.1 hi).1;omega
 have hn:n≤8:=by
  unfold askP at h
  simp only[Bool.or_eq_false_iff,decide_eq_false_iff_not]at h
  omega
 have hs:=sites_v f n hn
 have hnc:ncells f.a=4∧isAgg f.a=true:=⟨rfl,rfl⟩
 have hz:∀ fl top base σ m,(fl || top)=true→fz fl top base σ (m+3) f.a=f.a:=fun fl top base σ m h=>Ft.ft fl top base σ m f h
 have hge:∀ hh:i < fs.length,fs[i]'hh=f:=fun hh=>(List.getElem?_eq_some_iff.1 hi).2
 simp[f_qcx,b_qcx,ha,hi,hge,hnc,hz,hs]
end Go.AM
end
section
namespace Go.AM
open P
set_option maxHeartbeats 16000000
set_option maxRecDepth 8000
attribute [local simp] condRun_if when_if
abbrev envR(fs:List FrX)(src:Int):List AVal:=[planA fs,.int .i64 src,.ptr 0 0 0 0,.ptr 1 0 0 0,.ptr 2 0 0 0,.ptr 3 0 0 0,.any,.any,.fn 534 [] [.ptr 4 0 0 0,.ptr 5 0 0 0],.any,.any]
abbrev stR(fs:List FrX)(src:Int)(a b c:AVal)(o:Obj)(X:Store):Store:=.arr 1 0 [planA fs]::.arr 1 0 [a]::.arr 1 0 [b]::.arr 1 0 [c]::.arr 1 0 [planA fs]::.arr 1 0 [.int .i64 src]::o::X
abbrev st0(fs:List FrX)(src:Int)(X:Store):Store:=stR fs src (.int .i64 0) (.int .i64 0) (.bool false) (.pend false none) X
abbrev st1(fs:List FrX)(src:Int)(i k:Nat)(X:Store):Store:=stR fs src (.int .i64 i) (.int .i64 k) (.bool true) (.pend false (some .ret)) X
abbrev yR(fs:List FrX)(src:Int):AVal:=.yld 6 532 (envR fs src)
theorem round_R(fs:List FrX)(src:Int)(i k:Nat)(X:Store) :
  acall code 532 (.frs 6 []::(envR fs src++[.int .i64 i,.int .i64 k])) (st0 fs src X)=some (.bool false,st1 fs src i k X):=by
 rw[acall_round good (g:=r_prop_Reader_0) rfl]
 simp[r_prop_Reader_0,q_prop_Reader_0p,q_prop_Reader_0,putEnv,runRound,roundOver]
theorem readerP_in(fs:List FrX)(src:Int)(i:Nat)(f:FrX)(hi:fs[i]?=some f)(hn:f.nodes.length≤32)(e5 e6:AVal) :
  (f.nodes.any (hasIn src)=false∧rounds code 8 [5,6,14,15] l_qdk_0 ⟨[yR fs src,.ptr 4 0 0 0,.ptr 5 0 0 0,.int .i64 i,.ptr 7 0 0 0,.any,.any,.imm true (fs.map FrX.a),.int .i64 fs.length,.int .i64 i,.bool true,.imm true (f.nodes.map LNX.a),.int .i64 f.nodes.length,.int .i64 0,.any,.any],st0 fs src [.arr 4 0 [f.a]]⟩ =
   some (.ext 2,⟨[yR fs src,.ptr 4 0 0 0,.ptr 5 0 0 0,.int .i64 i,.ptr 7 0 0 0,.any,.any,.imm true (fs.map FrX.a),.int .i64 fs.length,.int .i64 i,.bool true,.imm true (f.nodes.map LNX.a),.int .i64 f.nodes.length,.int .i64 f.nodes.length,.bool false,.any],st0 fs src [.arr 4 0 [f.a]]⟩)) ∨
  (f.nodes.any (hasIn src)=true∧∃ o,rounds code 8 [5,6,14,15] l_qdk_0 ⟨[yR fs src,.ptr 4 0 0 0,.ptr 5 0 0 0,.int .i64 i,.ptr 7 0 0 0,.any,.any,.imm true (fs.map FrX.a),.int .i64 fs.length,.int .i64 i,.bool true,.imm true (f.nodes.map LNX.a),.int .i64 f.nodes.length,.int .i64 0,.any,.any],st0 fs src [.arr 4 0 [f.a]]⟩=some o∧∃ env k X,o=(.ret,⟨env,st1 fs src i k X⟩)):=by
 have hm:f.nodes.length≤most:=by unfold most;omega
 have hnz:∀ (N:LNX) base σ m,fz false true base σ (m+3) N.a=N.a:=fun N base σ m=>Ft.ft false true base σ m N rfl
 have hfz:∀ (N:FrX) base σ m,fz false true base σ (m+3) N.a=N.a:=fun N base σ m=>Ft.ft false true base σ m N rfl
 have hfn:ncells f.a=4:=rfl
 refine rounds_any (base:=8) (clr:=[5,6,14,15]) (b:=l_qdk_0) f.nodes
  (fun k=>⟨[yR fs src,.ptr 4 0 0 0,.ptr 5 0 0 0,.int .i64 i,.ptr 7 0 0 0,.any,.any,.imm true (fs.map FrX.a),.int .i64 fs.length,.int .i64 i,.bool true,.imm true (f.nodes.map LNX.a),.int .i64 f.nodes.length,.int .i64 k,.any,.any],st0 fs src [.arr 4 0 [f.a]]⟩) (hasIn src) _ _ ?_ ?_ ?_
 ·intro k n hk hn' hp
  have hlt:((k:Int) < (f.nodes.length:Int)):=by omega
  unfold hasIn at hp
  by_cases h9:n.op=9
  ·have ht:¬n.tab=src:=fun h=>by rw[h9,h]at hp;simp at hp
   simp[l_qdk_0,LNX.a,hn',hlt,h9,ht,beq_f ht,wrap_lt hk hm,roundEnd,freezeObj,freeze,fuel,fz_yld,hnz,hfz,hfn]
  ·simp[l_qdk_0,LNX.a,hn',hlt,h9,beq_f h9,wrap_lt hk hm,roundEnd,freezeObj,freeze,fuel,fz_yld,hnz,hfz,hfn]
 ·intro k n hk hn' hp
  have hlt:((k:Int) < (f.nodes.length:Int)):=by omega
  unfold hasIn at hp
  simp only[Bool.and_eq_true,beq_iff_eq]at hp
  have hR:=round_R fs src i k [.arr 4 0 [f.a],.arr 12 0 [n.a]]
  simp only[envR,st0,st1,stR,planA,LNX.a,List.cons_append,List.nil_append,hp.1,hp.2]at hR
  exact ⟨_,by simp[l_qdk_0,LNX.a,hn',hlt,hp.1,hp.2,hR,pendAt];exact ⟨rfl,rfl⟩,_,k,_,rfl⟩
 ·simp[l_qdk_0]
theorem readerP_it(fs:List FrX)(hS:FrSm fs)(src:Int) :
  (fs.any (reads src)=false∧∃ X,acall code 534 [yR fs src,.ptr 4 0 0 0,.ptr 5 0 0 0] (st0 fs src [])=some (.tup [],st0 fs src X)) ∨
  (fs.any (reads src)=true∧∃ k X,acall code 534 [yR fs src,.ptr 4 0 0 0,.ptr 5 0 0 0] (st0 fs src [])=some (.tup [],st1 fs src (fs.findIdx (reads src)) k X)):=by
 have hm:fs.length≤most:=by have:=hS.len;unfold most;omega
 have hfz:∀ (N:FrX) base σ m,fz false true base σ (m+3) N.a=N.a:=fun N base σ m=>Ft.ft false true base σ m N rfl
 have hfn:∀ f:FrX,ncells f.a=4∧isAgg f.a=true:=fun _=>⟨rfl,rfl⟩
 have key:=rounds_list (σ:=Unit) (base:=7) (clr:=[3,4,5,6,10,11,12,13,14,15]) (b:=l_qdk_1) fs
  (fun k _=>⟨[yR fs src,.ptr 4 0 0 0,.ptr 5 0 0 0,.any,.any,.any,.any,.imm true (fs.map FrX.a),.int .i64 fs.length,.int .i64 k,.any,.any,.any,.any,.any,.any],st0 fs src []⟩) (fun _ _=>True) (firstG (reads src))
  (fun _=>(.ext 0,⟨[yR fs src,.ptr 4 0 0 0,.ptr 5 0 0 0,.any,.any,.any,.any,.imm true (fs.map FrX.a),.int .i64 fs.length,.int .i64 fs.length,.bool false,.any,.any,.any,.any,.any],st0 fs src []⟩))
  (fun i o=>∃ env k X,o=(.ret,⟨env,st1 fs src i k X⟩))
  (fun k f s hk hf _=>by
   have hlt:((k:Int) < (fs.length:Int)):=by omega
   have hin:=readerP_in fs src k f hf (hS.nodes f (List.mem_of_getElem? hf)) .any .any
   have hge:∀ hh:k < fs.length,fs[k]'hh=f:=fun hh=>(List.getElem?_eq_some_iff.1 hf).2
   have hc0:(cellsOf f.a)[0]?=some (.imm true (f.nodes.map LNX.a)):=rfl
   unfold firstG reads
   rcases hin with ⟨ha,h⟩|⟨ha,o,h,env,kk,X,rfl⟩
   ·rw[ha]
    simp only[yR,envR,st0,stR,planA]at h
    refine ⟨?_,trivial⟩
    simp[l_qdk_1,hlt,hf,hge,hfn,hc0,h,wrap_lt hk hm,roundEnd,freezeObj,freeze,fuel,fz_yld,hfz]
   ·rw[ha]
    simp only[yR,envR,st0,stR,planA]at h
    exact ⟨_,by simp[l_qdk_1,hlt,hf,hge,hfn,hc0,h],env,kk,X,rfl⟩)
  (fun _ _=>by simp[l_qdk_1]) () trivial
 rw[firstG_fold]at key
 cases ha:fs.any (reads src) with
 | false=>
  rw[ha]at key
  have h:=key.2
  simp only[yR,envR,st0,stR,planA,show ((0:Nat):Int)=0 from rfl]at h
  refine .inl ⟨rfl,[],?_⟩
  rw[acall_keep c_qdk rfl]
  simp[f_qdk,b_qdk,h]
 | true=>
  rw[ha]at key
  obtain ⟨o,h,env,k,X,rfl⟩:=key
  simp only[yR,envR,st0,stR,planA,show ((0:Nat):Int)=0 from rfl]at h
  refine .inr ⟨rfl,k,X,?_⟩
  rw[acall_keep c_qdk rfl]
  simp[f_qdk,b_qdk,h]
theorem readerP_v(fs:List FrX)(hS:FrSm fs)(src:Int):∃ i k:Nat,pcall I.qdg [planA fs,.int .i64 src]=some (.tup [.int .i64 i,.int .i64 k,.bool (fs.any (reads src))])∧(fs.any (reads src)=true→i=fs.findIdx (reads src)):=by
 rw[pcall_eq c_qdg rfl]
 have hI:∀ σ,acall code I.qdj [planA fs,.int .i64 src] σ=some (.fn 534 [] [.ptr σ.length 0 0 0,.ptr (σ.length+1) 0 0 0],σ++[.arr 1 0 [planA fs],.arr 1 0 [.int .i64 src]]):=fun σ=>by
  rw[acall_keep c_qdj rfl]
  simp[f_qdj,b_qdj]
 simp only[planA]at hI
 rcases readerP_it fs hS src with ⟨ha,X,h⟩|⟨ha,k,X,h⟩
 ·rw[ha]
  simp only[yR,envR,st0,stR,planA]at h
  exact ⟨0,0,by simp[f_qdg,b_qdg,hI,h,jumped],fun h=>by cases h⟩
 ·rw[ha]
  simp only[yR,envR,st0,st1,stR,planA]at h
  exact ⟨_,k,by simp[f_qdg,b_qdg,hI,h,jumped],fun _=>rfl⟩
theorem reader_v(fs:List FrX)(hS:FrSm fs)(src:Int):pcall I.qdb [planA fs,.int .i64 src]=some (.int .i64 (readF fs src)):=by
 rw[pcall_eq c_qdb rfl]
 obtain ⟨i,k,h,hi⟩:=readerP_v fs hS src
 simp only[planA]at h
 unfold readF ixF
 cases ha:fs.any (reads src) with
 | false=>
  rw[ha]at h
  simp[f_qdb,b_qdb,h]
 | true=>
  rw[ha]at h
  rw[hi ha]at h
  simp[f_qdb,b_qdb,h]
end Go.AM
end
section
namespace Go.AM
open P
set_option maxHeartbeats 16000000
set_option maxRecDepth 8000
attribute [local simp] condRun_if when_if
def flatK{α β:Type}(f:Nat→α→List β):Nat→List α→List β
 | _,[]=>[]
 | k,y::l=>f k y++flatK f (k+1) l
theorem rounds_add{α β:Type}{base:Nat}{clr:List Nat}{b:ACode}(l:List α)(S:Nat→Nat→List β→St)(f:Nat→α→List β)(E:Nat→List β→Ex×St)(N m:Nat)
  (hm:∀ k y,l[k]?=some y→(f k y).length≤m)
  (hstep:∀ k y ep acc,k < l.length→l[k]?=some y→acc.length≤N+k * m→∃ ep',thenLoop base clr b (run code b (S k ep acc))=rounds code base clr b (S (k+1) ep' (acc++f k y)))
  (hend:∀ ep acc,thenLoop base clr b (run code b (S l.length ep acc))=some (E ep acc)) (ep0:Nat) (acc0:List β) (h0:acc0.length≤N) :
  ∃ ep,rounds code base clr b (S 0 ep0 acc0)=some (E ep (acc0++flatK f 0 l)):=by
 have key:∀ (r:List α) k ep acc,l.drop k=r→k≤l.length→acc.length≤N+k * m→∃ ep',rounds code base clr b (S k ep acc)=some (E ep' (acc++flatK f k r)):=by
  intro r
  induction r with
  | nil=>
   intro k ep acc hd hk ha
   have:k=l.length:=by
    have:=congrArg List.length hd
    simp at this;omega
   subst this
   exact ⟨ep,by rw[rounds_go0,hend ep acc];simp[flatK]⟩
  | cons y r ih=>
   intro k ep acc hd hk ha
   have hlt:k < l.length:=by
    have:=congrArg List.length hd
    simp at this;omega
   have hy:l[k]?=some y:=by
    have:=congrArg (·[0]?) hd
    simpa using this
   have hr:l.drop (k+1)=r:=by
    have:=congrArg List.tail hd
    simpa [List.tail_drop] using this
   obtain ⟨ep',hs⟩:=hstep k y ep acc hlt hy ha
   obtain ⟨e2,h2⟩:=ih (k+1) ep' (acc++f k y) hr (by omega) (by
    rw[List.length_append,Nat.succ_mul]
    have:=hm k y hy
    omega)
   exact ⟨e2,by rw[rounds_go0,hs,h2];simp[flatK]⟩
 exact key l 0 ep0 acc0 (by simp) (Nat.zero_le _) (by simpa using h0)
structure Str where
 frag:Int
 src:Int
 dst:Int
def Str.a(s:Str):AVal:=.agg [.int .i64 s.frag,.int .i64 s.src,.int .i64 s.dst]
instance:Nc Str.a 3 true:=⟨fun _=>rfl,fun _=>rfl⟩
instance:Fx Str.a:=⟨fun fl top base σ n y=>by simp[Str.a]⟩
structure Holds (H:AVal) (h:Str→Int→Bool):Prop where
 go:∀ s to σ,acallV code H [s.a,.int .i64 to] σ=some (.bool (h s to),σ)
 nc:ncells H=1∧isAgg H=false
 fr:∀ base σ m,fz false true base σ (m+5) H=H
 sn:∀ σ m,fz true false 0 σ (m+5) H=H
abbrev envS(fs:List FrX)(n:Nat)(H:AVal):List AVal:=[planA fs,.int .i64 n,H,.ptr 0 0 0 0,.ptr 1 0 0 0,.nil0,.ptr 2 0 0 0,.any,.any,.fn 509 [] [.ptr 4 0 0 0,.ptr 5 0 0 0],.any,.any,.any]
abbrev stS(fs:List FrX)(n:Nat)(H:AVal)(ep:Nat)(out:List Str)(X:Store):Store:=
 .arr 1 0 [planA fs]::.arr 1 0 [H]::.arr 1 0 [.sl 3 ep 0 out.length]::.arr 3 ep (out.map Str.a)::.arr 1 0 [planA fs]::.arr 1 0 [.int .i64 n]::.pend false none::X
abbrev yS(fs:List FrX)(n:Nat)(H:AVal):AVal:=.yld 6 487 (envS fs n H)
def oneF(h:Str→Int→Bool)(to:Int)(s:Str):List Str:=if h s to then [s] else []
theorem round_S(fs:List FrX)(n:Nat){H:AVal}{h:Str→Int→Bool}(hH:Holds H h)(ep:Nat)(out:List Str)(ho:out.length≤8000)(s:Str)(to:Int)(X:Store):∃ ep',
  acall code 487 (.frs 6 []::(envS fs n H++[s.a,.int .i64 to])) (stS fs n H ep out X)=some (.bool true,stS fs n H ep' (out++oneF h to s) (X++[.arr 3 0 [s.a]])):=by
 rw[acall_round good (g:=r_plan_some_0) rfl]
 have hg:=hH.go s to
 have hnc:=hH.nc
 have h5:out.length+1≤most:=by unfold most;omega
 have hsn:ncells s.a=3∧isAgg s.a=true:=⟨rfl,rfl⟩
 unfold oneF
 cases hq:h s to with
 | false=>
  rw[hq]at hg
  exact ⟨ep,by simp[r_plan_some_0,q_plan_some_0p,q_plan_some_0,putEnv,runRound,roundOver,hg,hnc,hsn]⟩
 | true=>
  rw[hq]at hg
  exact ⟨ep+1,by simp[r_plan_some_0,q_plan_some_0p,q_plan_some_0,putEnv,runRound,roundOver,hg,hnc,hsn,append,h5]⟩
abbrev eA(fs:List FrX)(n:Nat)(H:AVal)(k:Nat)(to:Int)(e6:AVal)(A:List Int)(ia:AVal)(e16 e17 e18 e19 e20 e21:AVal):List AVal:=
 [yS fs n H,.ptr 4 0 0 0,.ptr 5 0 0 0,.int .i64 k,.ptr 7 0 0 0,.int .i64 to,e6,.any,.imm true (fs.map FrX.a),.int .i64 fs.length,.int .i64 k,.bool true,.bool false,.imm false (A.map (.int .i64)),.int .i64 A.length,ia,e16,e17,e18,e19,e20,e21]
theorem some_0(fs:List FrX)(n:Nat){H:AVal}{h:Str→Int→Bool}(hH:Holds H h)(k:Nat)(to a:Int)(A B:List Int)(ia:Nat)(f:FrX)(hB:B.length≤8)(ep:Nat)(out:List Str)(ho:out.length≤4000) :
  ∃ ep',rounds code 8 [7,20,21] l_qcz_0 ⟨eA fs n H k to (.int .i64 a) A (.int .i64 ia) (.bool true) (.imm false (B.map (.int .i64))) (.int .i64 B.length) (.int .i64 0) .any .any,stS fs n H ep out [.arr 4 0 [f.a]]⟩ =
   some (.ext 4,⟨eA fs n H k to (.int .i64 a) A (.int .i64 ia) (.bool true) (.imm false (B.map (.int .i64))) (.int .i64 B.length) (.int .i64 B.length) (.bool false) .any,stS fs n H ep' (out++flatK (fun _ b=>oneF h to ⟨k,a,b⟩) 0 B) [.arr 4 0 [f.a]]⟩):=by
 have hm:B.length≤most:=by unfold most;omega
 have hfz:∀ (N:FrX) base σ m,fz false true base σ (m+3) N.a=N.a:=fun N base σ m=>Ft.ft false true base σ m N rfl
 have hHz:=hH.fr
 have hnc:=hH.nc
 have hfn:∀ f:FrX,ncells f.a=4∧isAgg f.a=true:=fun _=>⟨rfl,rfl⟩
 refine rounds_add (base:=8) (clr:=[7,20,21]) (b:=l_qcz_0) B
  (fun j ep out=>⟨eA fs n H k to (.int .i64 a) A (.int .i64 ia) (.bool true) (.imm false (B.map (.int .i64))) (.int .i64 B.length) (.int .i64 j) .any .any,stS fs n H ep out [.arr 4 0 [f.a]]⟩)
  (fun _ b=>oneF h to ⟨k,a,b⟩) (fun ep out=>(.ext 4,⟨eA fs n H k to (.int .i64 a) A (.int .i64 ia) (.bool true) (.imm false (B.map (.int .i64))) (.int .i64 B.length) (.int .i64 B.length) (.bool false) .any,stS fs n H ep out [.arr 4 0 [f.a]]⟩)) 4000 1 (fun j b _=>by unfold oneF;split<;>simp) ?_ ?_ ep out ho
 ·intro j b ep acc hj hb hacc
  have hlt:((j:Int) < (B.length:Int)):=by omega
  obtain ⟨ep',hR⟩:=round_S fs n hH ep acc (by omega) ⟨k,a,b⟩ to [.arr 4 0 [f.a]]
  refine ⟨ep',?_⟩
  generalize oneF h to ⟨k,a,b⟩=one at *
  simp only[envS,stS,planA,Str.a,List.cons_append,List.nil_append]at hR
  simp[eA,yS,envS,stS,planA,l_qcz_0,hlt,hb,hR,pendAt,wrap_lt hj hm,roundEnd,freezeObj,freeze,fuel,fz_yld,hfz,hHz,hnc,hfn]
 ·intro ep acc
  simp[l_qcz_0]
theorem flatK_len{α β:Type}{f:Nat→α→List β}{m:Nat}(hm:∀ k y,(f k y).length≤m):∀ (l:List α) (k:Nat),(flatK f k l).length≤l.length * m
 | [],k=>by simp[flatK]
 | y::l,k=>by
  simp only[flatK,List.length_append,List.length_cons,Nat.succ_mul]
  have h1:=flatK_len hm l (k+1)
  have h2:=hm k y
  omega
theorem oneF_len(h:Str→Int→Bool)(to:Int)(s:Str):(oneF h to s).length≤1:=by unfold oneF;split<;>simp
def rowF(h:Str→Int→Bool)(k to:Int)(B:List Int)(_:Nat)(a:Int):List Str:=flatK (fun _ b=>oneF h to ⟨k,a,b⟩) 0 B
theorem rowF_len(h:Str→Int→Bool)(k to:Int)(B:List Int)(i:Nat)(a:Int)(hB:B.length≤8):(rowF h k to B i a).length≤8:=by
 have:=flatK_len (f:=fun _ b=>oneF h to ⟨k,a,b⟩) (m:=1) (fun _ b=>oneF_len h to _) B 0
 unfold rowF
 omega
theorem some_1(fs:List FrX)(n:Nat)(hn:n≤8){H:AVal}{h:Str→Int→Bool}(hH:Holds H h)(k to:Nat)(A:List Int)(f g:FrX)(hg:fs[to]?=some g)(hA:A.length≤8)(ep:Nat)(out:List Str)(ho:out.length≤3900) :
  ∃ ep',rounds code 8 [6,7,16,17,18,19,20,21] l_qcz_1 ⟨eA fs n H k to .any A (.int .i64 0) .any .any .any .any .any .any,stS fs n H ep out [.arr 4 0 [f.a]]⟩ =
   some (.ext 2,⟨eA fs n H k to .any A (.int .i64 A.length) (.bool false) .any .any .any .any .any,stS fs n H ep' (out++flatK (rowF h k to (placesF g n)) 0 A) [.arr 4 0 [f.a]]⟩):=by
 have hm:A.length≤most:=by unfold most;omega
 have hB:=placesF_len g n hn
 have hfz:∀ (N:FrX) fl top base σ m,(fl || top)=true→fz fl top base σ (m+3) N.a=N.a:=fun N fl top base σ m h=>Ft.ft fl top base σ m N h
 have hHz:=hH.fr
 have hnc:=hH.nc
 have hfn:∀ f:FrX,ncells f.a=4∧isAgg f.a=true:=fun _=>⟨rfl,rfl⟩
 have hs:=sites_v g n hn
 have htl:((to:Int) < (fs.length:Int)):=by have:=(List.getElem?_eq_some_iff.1 hg).1;omega
 have hge:∀ hh:to < fs.length,fs[to]'hh=g:=fun hh=>(List.getElem?_eq_some_iff.1 hg).2
 refine rounds_add (base:=8) (clr:=[6,7,16,17,18,19,20,21]) (b:=l_qcz_1) A
  (fun j ep out=>⟨eA fs n H k to .any A (.int .i64 j) .any .any .any .any .any .any,stS fs n H ep out [.arr 4 0 [f.a]]⟩)
  (rowF h k to (placesF g n)) (fun ep out=>(.ext 2,⟨eA fs n H k to .any A (.int .i64 A.length) (.bool false) .any .any .any .any .any,stS fs n H ep out [.arr 4 0 [f.a]]⟩)) 3900 8 (fun j a _=>rowF_len h k to _ j a hB) ?_ ?_ ep out ho
 ·intro j a ep acc hj ha hacc
  have hlt:((j:Int) < (A.length:Int)):=by omega
  obtain ⟨ep',hR⟩:=some_0 fs n hH k to a A (placesF g n) j f hB ep acc (by omega)
  refine ⟨ep',?_⟩
  unfold rowF
  generalize flatK (fun _ b=>oneF h to ⟨k,a,b⟩) 0 (placesF g n)=one at *
  generalize placesF g n=B at *
  simp only[eA,yS,envS,stS,planA]at hR
  simp[eA,yS,envS,stS,planA,l_qcz_1,hlt,ha,hg,hge,hs,hR,wrap_lt hj hm,roundEnd_same,hfz,hfn]
 ·intro ep acc
  simp[eA,yS,envS,stS,planA,l_qcz_1]
def fragS(fs:List FrX)(n:Nat)(h:Str→Int→Bool)(k:Nat)(f:FrX):List Str:=
 if readF fs k < 0 then [] else flatK (rowF h k (readF fs k) (placesF (fs.getD (readF fs k).toNat f) n)) 0 (placesF f n)
theorem fragS_len(fs:List FrX)(n:Nat)(hn:n≤8)(h:Str→Int→Bool)(k:Nat)(f:FrX):(fragS fs n h k f).length≤64:=by
 unfold fragS
 split
 ·simp
 ·have h1:=flatK_len (f:=rowF h k (readF fs k) (placesF (fs.getD (readF fs k).toNat f) n)) (m:=8) (fun i a=>rowF_len h _ _ _ i a (placesF_len _ n hn)) (placesF f n) 0
  have h2:=placesF_len f n hn
  omega
theorem readF_lt{fs:List FrX}{src:Int}(h:¬readF fs src < 0):∃ to:Nat,readF fs src=to∧∃ g,fs[to]?=some g:=by
 unfold readF ixF at h ⊢
 cases ha:fs.any (reads src) with
 | false=>rw[ha]at h;exact absurd (by simp) h
 | true=>
  have:=List.findIdx_lt_length_of_exists (List.any_eq_true.1 ha)
  exact ⟨_,rfl,_,List.getElem?_eq_getElem this⟩
theorem some_it(fs:List FrX)(hS:FrSm fs)(n:Nat)(hn:n≤8){H:AVal}{h:Str→Int→Bool}(hH:Holds H h) :
  ∃ ep,acall code 509 [yS fs n H,.ptr 4 0 0 0,.ptr 5 0 0 0] (stS fs n H 0 [] [])=some (.tup [],stS fs n H ep (flatK (fragS fs n h) 0 fs) []):=by
 have hm:fs.length≤most:=by have:=hS.len;unfold most;omega
 have hfz:∀ (N:FrX) fl top base σ m,(fl || top)=true→fz fl top base σ (m+3) N.a=N.a:=fun N fl top base σ m h=>Ft.ft fl top base σ m N h
 have hHz:=hH.fr
 have hnc:=hH.nc
 have hfn:∀ f:FrX,ncells f.a=4∧isAgg f.a=true:=fun _=>⟨rfl,rfl⟩
 obtain ⟨ep,hL⟩:=rounds_add (base:=7) (clr:=[3,4,5,6,7,11,12,13,14,15,16,17,18,19,20,21]) (b:=l_qcz_2) fs
  (fun k ep out=>⟨[yS fs n H,.ptr 4 0 0 0,.ptr 5 0 0 0,.any,.any,.any,.any,.any,.imm true (fs.map FrX.a),.int .i64 fs.length,.int .i64 k,.any,.any,.any,.any,.any,.any,.any,.any,.any,.any,.any],stS fs n H ep out []⟩)
  (fragS fs n h) (fun ep out=>(.ext 0,⟨[yS fs n H,.ptr 4 0 0 0,.ptr 5 0 0 0,.any,.any,.any,.any,.any,.imm true (fs.map FrX.a),.int .i64 fs.length,.int .i64 fs.length,.bool false,.any,.any,.any,.any,.any,.any,.any,.any,.any,.any],stS fs n H ep out []⟩)) 0 64 (fun k f _=>fragS_len fs n hn h k f)
  (fun k f ep acc hk hf hacc=>by
   have hlt:((k:Int) < (fs.length:Int)):=by omega
   have hge:∀ hh:k < fs.length,fs[k]'hh=f:=fun hh=>(List.getElem?_eq_some_iff.1 hf).2
   have hR:=reader_v fs hS k
   simp only[planA]at hR
   have hsm:=hS.len
   have hac:acc.length≤3900:=by omega
   unfold fragS
   by_cases h0:readF fs k < 0
   ·rw[if_pos h0]
    generalize readF fs k=r at *
    exact ⟨ep,by simp[yS,envS,stS,planA,l_qcz_2,hlt,hf,hge,hR,h0,wrap_lt hk hm,roundEnd,freezeObj,freeze,fuel,fz_yld,hfz,hHz,hnc,hfn]⟩
   ·rw[if_neg h0]
    obtain ⟨to,hto,g,hg⟩:=readF_lt h0
    rw[hto]at hR ⊢
    rw[show ((to:Int)).toNat=to by omega,show fs.getD to f=g by rw[List.getD_eq_getElem?_getD,hg];rfl]
    have hs:=sites_v f n hn
    obtain ⟨ep',hI⟩:=some_1 fs n hn hH k to (placesF f n) f g hg (placesF_len f n hn) ep acc hac
    have h0':¬((to:Int) < 0):=by omega
    generalize flatK (rowF h k to (placesF g n)) 0 (placesF f n)=one at *
    generalize placesF f n=A at *
    simp only[eA,yS,envS,stS,planA]at hI
    exact ⟨ep',by simp[yS,envS,stS,planA,l_qcz_2,hlt,hf,hge,hR,h0',hs,hI,wrap_lt hk hm,roundEnd,freezeObj,freeze,fuel,fz_yld,hfz,hHz,hnc,hfn]⟩)
  (fun ep acc=>by simp[yS,envS,stS,planA,l_qcz_2]) 0 [] (Nat.le_refl _)
 refine ⟨ep,?_⟩
 rw[acall_keep c_qcz rfl]
 rw[List.nil_append]at hL
 generalize flatK (fragS fs n h) 0 fs=out at *
 simp only[yS,envS,stS,planA,show ((0:Nat):Int)=0 from rfl]at hL
 simp[f_qcz,b_qcz,yS,envS,stS,planA]
 simp at hL
 simp[hL]
def streamsF(fs:List FrX)(n:Nat)(h:Str→Int→Bool):List Str:=flatK (fragS fs n h) 0 fs
theorem some_v(fs:List FrX)(hS:FrSm fs)(n:Nat)(hn:n≤8){H:AVal}{h:Str→Int→Bool}(hH:Holds H h):pcall I.qdd [planA fs,.int .i64 n,H]=some (.imm false ((streamsF fs n h).map Str.a)):=by
 rw[pcall_eq c_qdd rfl]
 have hI:∀ σ,acall code I.qcy [planA fs,.int .i64 n] σ=some (.fn 509 [] [.ptr σ.length 0 0 0,.ptr (σ.length+1) 0 0 0],σ++[.arr 1 0 [planA fs],.arr 1 0 [.int .i64 n]]):=fun σ=>by
  rw[acall_keep c_qcy rfl]
  simp[f_qcy,b_qcy]
 simp only[planA]at hI
 obtain ⟨ep,hL⟩:=some_it fs hS n hn hH
 unfold streamsF
 generalize flatK (fragS fs n h) 0 fs=out at *
 have hsn:=hH.sn
 have hsf:∀ base σ m (s:Str),fz false false base σ (m+3) s.a=s.a:=fun base σ m s=>Fx.fx false false base σ m s
 have hnc:=hH.nc
 simp only[yS,envS,stS,planA]at hL
 simp at hL
 simp[f_qdd,b_qdd,hI,hsn,hsf,hnc,hL,jumped]
end Go.AM
end
section
namespace Go.AM
open P
set_option maxHeartbeats 16000000
set_option maxRecDepth 8000
attribute [local simp] condRun_if when_if
def clA(f:Nat)(x y:Int):AVal:=.fn f [] [.cptr true (.int .i64 x) 0,.cptr true (.int .i64 y) 0]
theorem clA_nc(f:Nat)(x y:Int):ncells (clA f x y)=1∧isAgg (clA f x y)=false:=⟨rfl,rfl⟩
theorem clA_fr(f:Nat)(x y:Int)(base:Nat)(σ:Store)(m:Nat):fz false true base σ (m+5) (clA f x y)=clA f x y:=by
 simp[clA,fz,cptrAt]
theorem clA_sn(f:Nat)(x y:Int)(σ:Store)(m:Nat):fz true false 0 σ (m+5) (clA f x y)=clA f x y:=by
 simp[clA,fz,cptrAt]
def intoH(number node:Int)(s:Str)(to:Int):Bool:=decide (to=number)&&decide (s.dst=node)
def outofH(number node:Int)(s:Str)(_:Int):Bool:=decide (s.frag=number)&&decide (s.src=node)
theorem into_v1(number node:Int)(s:Str)(to:Int):pcall I.qcu [s.a,.int .i64 to,.cptr true (.int .i64 number) 0,.cptr true (.int .i64 node) 0]=some (.bool (intoH number node s to)):=by
 rw[pcall_eq c_qcu rfl]
 unfold intoH Str.a
 by_cases h1:to=number
 ·by_cases h2:s.dst=node
  ·simp[f_qcu,b_qcu,h1,h2]
  ·simp[f_qcu,b_qcu,h1,h2,beq_f h2]
 ·simp[f_qcu,b_qcu,h1,beq_f h1]
theorem outof_v1(number node:Int)(s:Str)(to:Int):pcall I.qcw [s.a,.int .i64 to,.cptr true (.int .i64 number) 0,.cptr true (.int .i64 node) 0]=some (.bool (outofH number node s to)):=by
 rw[pcall_eq c_qcw rfl]
 unfold outofH Str.a
 by_cases h1:s.frag=number
 ·by_cases h2:s.src=node
  ·simp[f_qcw,b_qcw,h1,h2]
  ·simp[f_qcw,b_qcw,h1,h2,beq_f h2]
 ·simp[f_qcw,b_qcw,h1,beq_f h1]
theorem into_holds(number node:Int):Holds (clA I.qcu number node) (intoH number node):={
 go:=fun s to σ=>by
  have h:=into_v1 number node s to
  simp[clA,h,Str.a]at h ⊢
  try simp[h]
 nc:=clA_nc _ _ _
 fr:=clA_fr _ _ _
 sn:=clA_sn _ _ _ }
theorem outof_holds(number node:Int):Holds (clA I.qcw number node) (outofH number node):={
 go:=fun s to σ=>by
  have h:=outof_v1 number node s to
  simp[clA,h,Str.a]at h ⊢
  try simp[h]
 nc:=clA_nc _ _ _
 fr:=clA_fr _ _ _
 sn:=clA_sn _ _ _ }
theorem Into_v(fs:List FrX)(hS:FrSm fs)(number node:Int)(n:Nat)(h:askP fs number n=false):pcall I.qct [planA fs,.int .i64 number,.int .i64 n,.int .i64 node]=some (.tup [.imm false ((streamsF fs n (intoH number node)).map Str.a),.int .i64 0]):=by
 rw[pcall_eq c_qct rfl]
 have ha:=asked_p fs number n
 have hn:n≤8:=by
  unfold askP at h
  simp only[Bool.or_eq_false_iff,decide_eq_false_iff_not]at h
  omega
 rw[h]at ha
 have hv:=some_v fs hS n hn (into_holds number node)
 generalize streamsF fs n (intoH number node)=out at *
 have hsf:∀ fl top base σ m (s:Str),fz fl top base σ (m+3) s.a=s.a:=fun fl top base σ m s=>Fx.fx fl top base σ m s
 have hnc:∀ s:Str,ncells s.a=3:=fun _=>rfl
 simp only[planA,clA]at ha hv
 simp[f_qct,b_qct,ha,hv,hsf,hnc]
theorem Outof_v(fs:List FrX)(hS:FrSm fs)(number node:Int)(n:Nat)(h:askP fs number n=false):pcall I.qcv [planA fs,.int .i64 number,.int .i64 n,.int .i64 node]=some (.tup [.imm false ((streamsF fs n (outofH number node)).map Str.a),.int .i64 0]):=by
 rw[pcall_eq c_qcv rfl]
 have ha:=asked_p fs number n
 have hn:n≤8:=by
  unfold askP at h
  simp only[Bool.or_eq_false_iff,decide_eq_false_iff_not]at h
  omega
 rw[h]at ha
 have hv:=some_v fs hS n hn (outof_holds number node)
 generalize streamsF fs n (outofH number node)=out at *
 have hsf:∀ fl top base σ m (s:Str),fz fl top base σ (m+3) s.a=s.a:=fun fl top base σ m s=>Fx.fx fl top base σ m s
 have hnc:∀ s:Str,ncells s.a=3:=fun _=>rfl
 simp only[planA,clA]at ha hv
 simp[f_qcv,b_qcv,ha,hv,hsf,hnc]
def recvA(ep:Int):AVal:=.agg [.int .u32 ep,.int .u64 1,.imm false [],.imm false [],.int .i64 8,.bool false]
def sendA(ep:Int):AVal:=.agg [.int .u32 ep,.int .u64 1,.imm false [],.int .u64 0,.int .u64 0,.int .i64 0,.bool false]
theorem session_v(ep:Int)(h1:1≤ep)(h2:ep≤12):pcall I.qcs [.int .u32 ep]=some (.bool true):=by
 rw[pcall_eq c_qcs rfl]
 have h3:ep≤2147483647:=by omega
 simp[f_qcs,b_qcs,h1,h3]
theorem Listen_v(ep:Int)(h1:1≤ep)(h2:ep≤12):pcall I.qce [.int .u32 ep,.int .i64 8]=some (.tup [recvA ep,.int .i64 0]):=by
 rw[pcall_eq c_qce rfl]
 have h:=session_v ep h1 h2
 simp[f_qce,b_qce,h,recvA]
theorem Open_v(ep:Int)(h1:1≤ep)(h2:ep≤12):pcall I.qcf [.int .u32 ep]=some (.tup [sendA ep,.int .i64 0]):=by
 rw[pcall_eq c_qcf rfl]
 have h:=session_v ep h1 h2
 simp[f_qcf,b_qcf,h,sendA]
end Go.AM
end
section
namespace Go.AM
open P
set_option maxHeartbeats 16000000
set_option maxRecDepth 8000
attribute [local simp] condRun_if when_if
theorem roundEnd_firm{base:Nat}{clr:List Nat}{env:List AVal}{σ:Store}{o:Obj}{t:Store}(h:σ.length=base)(hF:Firm σ):roundEnd base clr ⟨env,σ++o::t⟩=⟨(clear env clr).map (freeze base (σ++o::t)),σ⟩:=by
 unfold roundEnd
 rw[if_neg (by simp[h]),List.take_left' h]
 simp only
 rw[hF _ _ (by omega)]
abbrev FirmO(o:Obj):Prop:=∀ τ b,freezeObj b τ o=o
abbrev zeroT:AVal:=.agg [.int .i64 0,.int .i64 0,.int .i64 0,.int .i64 0,.nil0,.int .i64 0,.int .i64 0,.nil0,.int .i64 0,.nil0,.nil0,.nil0,.int .i64 0]
abbrev cellT(e si nu no:Int)(f:FrX)(ins outs:AVal):AVal:=
 .agg [.int .i64 e,.int .i64 si,.int .i64 nu,.int .i64 no,.imm true (f.nodes.map LNX.a),.int .i64 f.at',.int .i64 f.way,.imm true (f.cols.map (.int .i64)),.int .i64 1,ins,outs,.nil0,.int .i64 0]
def inF(e:Int)(s:Str):AVal:=.agg [.int .i64 s.frag,.int .i64 s.src,.int .u32 e,.int .u64 1,.imm false [],.imm false [],.int .i64 8,.bool false,.imm false []]
def outF(e:Int)(s:Str):AVal:=.agg [.int .i64 s.dst,.int .u32 e,.int .u64 1,.imm false [],.int .u64 0,.int .u64 0,.int .i64 0,.bool false,.imm false []]
def inP(e:Int)(s:Str):AVal:=.agg [.int .i64 s.frag,.int .i64 s.src,.int .u32 e,.int .u64 1,.imm false [],.imm false [],.int .i64 8,.bool false,.nil0]
def outP(e:Int)(s:Str):AVal:=.agg [.int .i64 s.dst,.int .u32 e,.int .u64 1,.imm false [],.int .u64 0,.int .u64 0,.int .i64 0,.bool false,.nil0]
instance (e:Int):Nc (inP e) 9 true:=⟨fun _=>rfl,fun _=>rfl⟩
instance (e:Int):Nc (outP e) 9 true:=⟨fun _=>rfl,fun _=>rfl⟩
theorem inP_top(e:Int)(base:Nat)(σ:Store):(freeze base σ∘inP e)=inP e:=by funext s;simp[inP,freeze,fuel]
theorem outP_top(e:Int)(base:Nat)(σ:Store):(freeze base σ∘outP e)=outP e:=by funext s;simp[outP,freeze,fuel]
theorem inP_lo(e:Int)(base:Nat)(σ:Store)(m:Nat)(s:Str):fz false false base σ (m+3) (inP e s)=inF e s:=by simp[inP,inF]
theorem outP_lo(e:Int)(base:Nat)(σ:Store)(m:Nat)(s:Str):fz false false base σ (m+3) (outP e s)=outF e s:=by simp[outP,outF]
theorem inP_low(e:Int)(base:Nat)(σ:Store)(m:Nat):(fz false false base σ (m+3)∘inP e)=inF e:=by funext s;simp[inP,inF]
theorem outP_low(e:Int)(base:Nat)(σ:Store)(m:Nat):(fz false false base σ (m+3)∘outP e)=outF e:=by funext s;simp[outP,outF]
instance (e:Int):Nc (inF e) 9 true:=⟨fun _=>rfl,fun _=>rfl⟩
instance (e:Int):Nc (outF e) 9 true:=⟨fun _=>rfl,fun _=>rfl⟩
instance (e:Int):Fx (inF e):=⟨fun fl top base σ n y=>by simp[inF]⟩
instance (e:Int):Fx (outF e):=⟨fun fl top base σ n y=>by simp[outF]⟩
theorem flatK_one{α:Type}:∀ (l:List α) (k:Nat),flatK (fun _ y=>[y]) k l=l
 | [],_=>rfl
 | y::l,k=>by simp only[flatK,flatK_one l (k+1)];rfl
abbrev stB(o1 o2:Obj)(fs:List FrX)(T:AVal)(X:Store):Store:=o1::o2::.arr 1 0 [planA fs]::.arr 13 0 [zeroT]::.arr 13 0 [T]::X
theorem firm_B{o1 o2:Obj}(h1:FirmO o1)(h2:FirmO o2)(fs:List FrX)(e si nu no:Int)(f:FrX)(ep n:Nat)(l:List Str)(e':Int)(outs:AVal)(ho:outs=.nil0) :
  Firm (stB o1 o2 fs (cellT e si nu no f (.sl 5 ep 0 n) outs) [.arr 9 ep (l.map (inP e'))]):=fun τ b hb=>by
 subst ho
 have hb5:5 < b:=by simp at hb;omega
 simp only[stB,List.map_cons,List.map_nil,h1 τ b,h2 τ b]
 simp[freezeObj,inP_top,planA,cellT,freeze,fuel,hb5]
theorem firm_C{o1 o2:Obj}(h1:FirmO o1)(h2:FirmO o2)(fs:List FrX)(e si nu no:Int)(f:FrX)(ep n ep' n':Nat)(l l':List Str)(e':Int) :
  Firm (stB o1 o2 fs (cellT e si nu no f (.sl 5 ep 0 n) (.sl 6 ep' 0 n')) [.arr 9 ep (l.map (inP e')),.arr 9 ep' (l'.map (outP e'))]):=fun τ b hb=>by
 have hb5:5 < b:=by simp at hb;omega
 have hb6:6 < b:=by simp at hb;omega
 simp only[stB,List.map_cons,List.map_nil,h1 τ b,h2 τ b]
 simp[freezeObj,inP_top,outP_top,planA,cellT,freeze,fuel,hb5,hb6]
abbrev envB(fs:List FrX)(e si nu no:Int)(pl comes e13 e14 goes e16 e17 e20 e21 e22 e23 e24 e25 e26 e27:AVal):List AVal:=
 [planA fs,.int .i64 e,.int .i64 si,.int .i64 nu,.int .i64 no,.ptr 2 0 0 0,.ptr 3 0 0 0,.int .i64 0,pl,.int .i64 0,.ptr 4 0 0 0,.int .i64 0,comes,e13,e14,goes,e16,e17,.bool false,.bool false,e20,e21,e22,e23,e24,e25,e26,e27]
theorem u32_conv(e:Int)(h1:1≤e)(h2:e≤12):IntKind.u32.wrap e=e:=by
 unfold IntKind.wrap
 have hb:IntKind.u32.bits=32:=rfl
 have hs:IntKind.u32.signed=false:=rfl
 rw[hb,hs]
 simp
 omega
theorem begin_1{o1 o2:Obj}(h1:FirmO o1)(h2:FirmO o2)(fs:List FrX)(e si nu no:Int)(he1:1≤e)(he2:e≤12)(f:FrX)(pl:List Int)(comes:List Str)(hc:comes.length≤8000) :
  ∃ ep,rounds code 6 [13,14,23] l_qfm_1 ⟨envB fs e si nu no (.imm false (intsA pl)) (.imm false (comes.map Str.a)) .any .any .any .any .any (.imm false (comes.map Str.a)) (.int .i64 comes.length) (.int .i64 0) .any .any .any .any .any,stB o1 o2 fs (cellT e si nu no f (.sl 5 0 0 0) .nil0) [.arr 9 0 []]⟩ =
   some (.ext 0,⟨envB fs e si nu no (.imm false (intsA pl)) (.imm false (comes.map Str.a)) .any .any .any .any .any (.imm false (comes.map Str.a)) (.int .i64 comes.length) (.int .i64 comes.length) (.bool false) .any .any .any .any,stB o1 o2 fs (cellT e si nu no f (.sl 5 ep 0 comes.length) .nil0) [.arr 9 ep (comes.map (inP e))]⟩):=by
 have hm:comes.length≤most:=by unfold most;omega
 have hw:=u32_conv e he1 he2
 have hL:=Listen_v e he1 he2
 have hfl:=flatK_one comes 0
 obtain ⟨ep,h⟩:=rounds_add (base:=6) (clr:=[13,14,23]) (b:=l_qfm_1) comes
  (fun j ep (acc:List Str)=>⟨envB fs e si nu no (.imm false (intsA pl)) (.imm false (comes.map Str.a)) .any .any .any .any .any (.imm false (comes.map Str.a)) (.int .i64 comes.length) (.int .i64 j) .any .any .any .any .any,stB o1 o2 fs (cellT e si nu no f (.sl 5 ep 0 acc.length) .nil0) [.arr 9 ep (acc.map (inP e))]⟩)
  (fun _ y=>[y]) (fun ep acc=>(.ext 0,⟨envB fs e si nu no (.imm false (intsA pl)) (.imm false (comes.map Str.a)) .any .any .any .any .any (.imm false (comes.map Str.a)) (.int .i64 comes.length) (.int .i64 comes.length) (.bool false) .any .any .any .any,stB o1 o2 fs (cellT e si nu no f (.sl 5 ep 0 acc.length) .nil0) [.arr 9 ep (acc.map (inP e))]⟩)) 0 1 (fun _ _ _=>by simp)
  (fun j s ep acc hj hs hacc=>by
   have hlt:((j:Int) < (comes.length:Int)):=by omega
   have h5:acc.length+1≤most:=by unfold most;omega
   have hsl:∀ hh:j < comes.length,comes[j]'hh=s:=fun hh=>(List.getElem?_eq_some_iff.1 hs).2
   have hF:=firm_B h1 h2 fs e si nu no f (ep+1) (acc.length+1) (acc++[s]) e .nil0 rfl
   have hr:=fun env o t=>roundEnd_firm (base:=6) (clr:=[13,14,23]) (env:=env) (o:=o) (t:=t) rfl hF
   simp only[stB,cellT,planA,List.cons_append,List.nil_append,List.map_append,List.map_cons,List.map_nil,inP]at hr
   refine ⟨ep+1,?_⟩
   simp[envB,stB,cellT,planA,l_qfm_1,hlt,hs,hsl,Str.a,hw,hL,recvA,inP,append,h5,wrap_lt hj hm,hr,freeze,fuel])
  (fun ep acc=>by simp[envB,stB,l_qfm_1]) 0 [] (Nat.le_refl _)
 rw[hfl,List.nil_append]at h
 exact ⟨ep,h⟩
theorem begin_2{o1 o2:Obj}(h1:FirmO o1)(h2:FirmO o2)(fs:List FrX)(e si nu no:Int)(he1:1≤e)(he2:e≤12)(f:FrX)(pl:List Int)(comes:List Str)(ep1:Nat)(goes:List Str)(hc:goes.length≤8000) :
  ∃ ep,rounds code 7 [16,17,27] l_qfm_0 ⟨envB fs e si nu no (.imm false (intsA pl)) (.imm false (comes.map Str.a)) .any .any (.imm false (goes.map Str.a)) .any .any (.imm false (comes.map Str.a)) (.int .i64 comes.length) (.int .i64 comes.length) (.bool false) (.imm false (goes.map Str.a)) (.int .i64 goes.length) (.int .i64 0) .any,stB o1 o2 fs (cellT e si nu no f (.sl 5 ep1 0 comes.length) (.sl 6 0 0 0)) [.arr 9 ep1 (comes.map (inP e)),.arr 9 0 []]⟩ =
   some (.ext 2,⟨envB fs e si nu no (.imm false (intsA pl)) (.imm false (comes.map Str.a)) .any .any (.imm false (goes.map Str.a)) .any .any (.imm false (comes.map Str.a)) (.int .i64 comes.length) (.int .i64 comes.length) (.bool false) (.imm false (goes.map Str.a)) (.int .i64 goes.length) (.int .i64 goes.length) (.bool false),stB o1 o2 fs (cellT e si nu no f (.sl 5 ep1 0 comes.length) (.sl 6 ep 0 goes.length)) [.arr 9 ep1 (comes.map (inP e)),.arr 9 ep (goes.map (outP e))]⟩):=by
 have hm:goes.length≤most:=by unfold most;omega
 have hw:=u32_conv e he1 he2
 have hL:=Open_v e he1 he2
 have hfl:=flatK_one goes 0
 obtain ⟨ep,h⟩:=rounds_add (base:=7) (clr:=[16,17,27]) (b:=l_qfm_0) goes
  (fun j ep (acc:List Str)=>⟨envB fs e si nu no (.imm false (intsA pl)) (.imm false (comes.map Str.a)) .any .any (.imm false (goes.map Str.a)) .any .any (.imm false (comes.map Str.a)) (.int .i64 comes.length) (.int .i64 comes.length) (.bool false) (.imm false (goes.map Str.a)) (.int .i64 goes.length) (.int .i64 j) .any,stB o1 o2 fs (cellT e si nu no f (.sl 5 ep1 0 comes.length) (.sl 6 ep 0 acc.length)) [.arr 9 ep1 (comes.map (inP e)),.arr 9 ep (acc.map (outP e))]⟩)
  (fun _ y=>[y]) (fun ep acc=>(.ext 2,⟨envB fs e si nu no (.imm false (intsA pl)) (.imm false (comes.map Str.a)) .any .any (.imm false (goes.map Str.a)) .any .any (.imm false (comes.map Str.a)) (.int .i64 comes.length) (.int .i64 comes.length) (.bool false) (.imm false (goes.map Str.a)) (.int .i64 goes.length) (.int .i64 goes.length) (.bool false),stB o1 o2 fs (cellT e si nu no f (.sl 5 ep1 0 comes.length) (.sl 6 ep 0 acc.length)) [.arr 9 ep1 (comes.map (inP e)),.arr 9 ep (acc.map (outP e))]⟩)) 0 1 (fun _ _ _=>by simp)
  (fun j s ep acc hj hs hacc=>by
   have hlt:((j:Int) < (goes.length:Int)):=by omega
   have h5:acc.length+1≤most:=by unfold most;omega
   have hsl:∀ hh:j < goes.length,goes[j]'hh=s:=fun hh=>(List.getElem?_eq_some_iff.1 hs).2
   have hF:=firm_C h1 h2 fs e si nu no f ep1 comes.length (ep+1) (acc.length+1) comes (acc++[s]) e
   have hr:=fun env o t=>roundEnd_firm (base:=7) (clr:=[16,17,27]) (env:=env) (o:=o) (t:=t) rfl hF
   simp only[stB,cellT,planA,List.cons_append,List.nil_append,List.map_append,List.map_cons,List.map_nil,outP]at hr
   refine ⟨ep+1,?_⟩
   simp[envB,stB,cellT,planA,l_qfm_0,hlt,hs,hsl,Str.a,hw,hL,sendA,outP,append,h5,wrap_lt hj hm,hr,freeze,fuel])
  (fun ep acc=>by simp[envB,stB,l_qfm_0]) 0 [] (Nat.le_refl _)
 rw[hfl,List.nil_append]at h
 exact ⟨ep,h⟩
def taskF(e si nu no:Int)(f:FrX)(ins outs:List Str):AVal:=cellT e si nu no f (.imm false (ins.map (inF e))) (.imm false (outs.map (outF e)))
abbrev refA:AVal:=.tup [zeroT,.int .i64 2]
def begunF(fs:List FrX)(e si nu no:Int):AVal:=
 if askP fs nu si=true∨e < 1∨12 < e then refA
 else match fs[nu.toNat]? with
  | none=>refA
  | some f=>if (placesF f si.toNat).any (fun y=>no == y)=true∧at18 f.nodes < 0 then .tup [taskF e si nu no f (streamsF fs si.toNat (intoH nu no)) (streamsF fs si.toNat (outofH nu no)),.int .i64 0] else refA
theorem askP_false{fs:List FrX}{nu si:Int}(h:askP fs nu si=false):∃ (i n:Nat) (f:FrX),nu=i∧si=n∧n≤8∧1≤n∧fs[i]?=some f∧fs.length≤30:=by
 unfold askP at h
 simp only[Bool.or_eq_false_iff,decide_eq_false_iff_not]at h
 obtain ⟨⟨⟨⟨h1,h2⟩,h3⟩,h4⟩,h5⟩:=h
 obtain ⟨i,rfl⟩:∃ i:Nat,nu=i:=⟨nu.toNat,by omega⟩
 obtain ⟨n,rfl⟩:∃ n:Nat,si=n:=⟨si.toNat,by omega⟩
 exact ⟨i,n,_,rfl,rfl,by omega,by omega,List.getElem?_eq_getElem (by omega),by omega⟩
theorem streamsF_len(fs:List FrX)(n:Nat)(hn:n≤8)(h:Str→Int→Bool)(hl:fs.length≤40):(streamsF fs n h).length≤8000:=by
 have:=flatK_len (f:=fragS fs n h) (m:=64) (fragS_len fs n hn h) fs 0
 unfold streamsF
 omega
theorem firm_2{o1 o2:Obj}(h1:FirmO o1)(h2:FirmO o2):Firm [o1,o2]:=fun τ b _=>by
 simp only[List.map_cons,List.map_nil,h1 τ b,h2 τ b]
theorem trunc_2{o1 o2:Obj}(h1:FirmO o1)(h2:FirmO o2)(o:Obj)(t:Store)(v:AVal):truncTo [o1,o2] (o1::o2::o::t) v=(freeze 2 (o1::o2::o::t) v,[o1,o2]):=truncTo_app (firm_2 h1 h2) o t v
theorem at18_cases(nodes:List LNX):(at18 nodes < 0∧∃ k,kindsA (kindsF nodes)=.tup [.imm false k,.int .i64 0,.int .i64 0])∨(¬at18 nodes < 0∧∃ i:Nat,kindsA (kindsF nodes)=.tup [.imm false [],.int .i64 i,.int .i64 291]):=by
 unfold at18
 cases kindsF nodes with
 | inl k=>exact .inl ⟨show (-1:Int) < 0 by decide,_,rfl⟩
 | inr i=>exact .inr ⟨by simp,i,rfl⟩
theorem Begin_v{o1 o2:Obj}(h1:FirmO o1)(h2:FirmO o2)(fs:List FrX)(hS:FrSm fs)(e si nu no:Int) :
  acall code I.qfm [planA fs,.int .i64 e,.int .i64 si,.int .i64 nu,.int .i64 no] [o1,o2]=some (begunF fs e si nu no,[o1,o2]):=by
 rw[acall_trunc c_qfm rfl]
 have hT:=trunc_2 h1 h2
 unfold begunF
 cases ha:askP fs nu si with
 | true=>
  have hP:=Places_no fs nu si ha
  simp only[planA]at hP
  rw[if_pos (.inl rfl)]
  simp[f_qfm,b_qfm,hP,hT,freeze,fuel]
 | false=>
  obtain ⟨i,n,f,rfl,rfl,hn,hn1,hf,hfl⟩:=askP_false ha
  have hP:=Places_v fs i f hf n ha
  simp only[planA]at hP
  have hil:((i:Int) < (fs.length:Int)):=by have:=(List.getElem?_eq_some_iff.1 hf).1;omega
  have hge:∀ hh:i < fs.length,fs[i]'hh=f:=fun hh=>(List.getElem?_eq_some_iff.1 hf).2
  by_cases he1:e < 1
  ·rw[if_pos (.inr (.inl he1))]
   simp[f_qfm,b_qfm,hP,he1,hT,freeze,fuel]
  ·by_cases he2:12 < e
   ·rw[if_pos (.inr (.inr he2))]
    simp[f_qfm,b_qfm,hP,he1,he2,hT,freeze,fuel]
   ·rw[if_neg (by simp[he1,he2]),show ((i:Int)).toNat=i by omega,show ((n:Int)).toNat=n by omega,hf]
    simp only
    have hC:=fun b=>Contains_int b (placesF f n) no (by have:=placesF_len f n hn;unfold most;omega)
    cases hc:((placesF f n).any fun y=>no == y) with
    | false=>
     rw[hc]at hC
     rw[if_neg (by simp)]
     simp[f_qfm,b_qfm,hP,he1,he2,hC,hT,freeze,fuel]
    | true=>
     rw[hc]at hC
     have hfm:f∈fs:=List.mem_of_getElem? hf
     have hK:=kinds18_spec true f.nodes (fun x hx=>(hS.small f hfm x hx).toNFit) (Nat.le_trans (hS.nodes f hfm) (by decide))
     have hfa:ncells f.a=4∧isAgg f.a=true:=⟨rfl,rfl⟩
     rcases at18_cases f.nodes with ⟨hat,k,hk⟩|⟨hat,k,hk⟩
     ·rw[if_pos ⟨rfl,hat⟩]
      rw[hk]at hK
      have hI:=Into_v fs hS i no n ha
      have hO:=Outof_v fs hS i no n ha
      have l1:=streamsF_len fs n hn (intoH i no) (by omega)
      have l2:=streamsF_len fs n hn (outofH i no) (by omega)
      generalize streamsF fs n (intoH i no)=comes at *
      generalize streamsF fs n (outofH i no)=goes at *
      obtain ⟨ep1,hL1⟩:=begin_1 h1 h2 fs e n i no (by omega) (by omega) f (placesF f n) comes l1
      obtain ⟨ep2,hL2⟩:=begin_2 h1 h2 fs e n i no (by omega) (by omega) f (placesF f n) comes ep1 goes l2
      simp only[planA]at hI hO
      simp only[envB,stB,planA,cellT]at hL1 hL2
      try simp at hL1
      try simp at hL2
      simp[f_qfm,b_qfm,hP,he1,he2,hC,hf,hge,FrX.a,hK,hI,hL1,hO,hL2,hT,freeze,fuel,taskF,inP_lo,outP_lo,inP_low,outP_low,show ∀ s,ncells (inF e s)=9 from fun _=>rfl,show ∀ s,ncells (outF e s)=9 from fun _=>rfl,show ∀ s,ncells (inP e s)=9 from fun _=>rfl,show ∀ s,ncells (outP e s)=9 from fun _=>rfl]
     ·rw[if_neg (fun h=>hat h.2)]
      rw[hk]at hK
      simp[f_qfm,b_qfm,hP,he1,he2,hC,hf,hge,FrX.a,hK,hT,freeze,fuel]
end Go.AM
end
section
namespace Go.AM
open P
set_option maxHeartbeats 16000000
set_option maxRecDepth 8000
attribute [local simp] condRun_if when_if
def endsH(s0:Str)(s:Str)(_:Int):Bool:=(decide (s0.src < 0) || s.src == s0.src)&&(decide (s0.dst < 0) || s.dst == s0.dst)
def skipH(s0:Str)(to0:Int)(k r:Int):Bool:=(decide (0≤s0.frag)&&k != s0.frag) || (decide (0≤to0)&&r != to0)
abbrev e19(fs:List FrX)(n:Nat)(s0:Str)(to0:Int)(ep len:Nat)(k:Nat)(r A B i j e14 e15 e16 e17 e18:AVal):List AVal:=
 [planA fs,.int .i64 n,s0.a,.int .i64 to0,.ptr 0 0 0 0,.ptr 1 0 0 0,.nil0,.sl 2 ep 0 len,.int .i64 k,r,A,B,i,j,e14,e15,e16,e17,e18]
abbrev st19(fs:List FrX)(s0:Str)(ep:Nat)(out:List Str):Store:=[.arr 1 0 [planA fs],.arr 3 0 [s0.a],.arr 3 ep (out.map Str.a)]
theorem str_0(fs:List FrX)(n:Nat)(s0:Str)(to0:Int)(k:Nat)(r:Int)(A B:List Int)(i:Nat)(a:Int)(hi:A[i]?=some a)(hB:B.length≤8)(ep:Nat)(out:List Str)(ho:out.length≤4000) :
  ∃ ep',rounds code 3 [17,18] l_qaq_0 ⟨e19 fs n s0 to0 ep out.length k (.int .i64 r) (.imm false (intsA A)) (.imm false (intsA B)) (.int .i64 i) (.int .i64 0) (.bool true) (.bool false) (.bool true) .any .any,st19 fs s0 ep out⟩ =
   some (.ext 4,⟨e19 fs n s0 to0 ep' (out++flatK (fun _ b=>oneF (endsH s0) r ⟨k,a,b⟩) 0 B).length k (.int .i64 r) (.imm false (intsA A)) (.imm false (intsA B)) (.int .i64 i) (.int .i64 B.length) (.bool true) (.bool false) (.bool true) (.bool false) .any,st19 fs s0 ep' (out++flatK (fun _ b=>oneF (endsH s0) r ⟨k,a,b⟩) 0 B)⟩):=by
 have hm:B.length≤most:=by unfold most;omega
 have hfz:∀ (N:FrX) fl top base σ m,(fl || top)=true→fz fl top base σ (m+3) N.a=N.a:=fun N fl top base σ m h=>Ft.ft fl top base σ m N h
 have hsf:∀ fl top base σ m (s:Str),fz fl top base σ (m+3) s.a=s.a:=fun fl top base σ m s=>Fx.fx fl top base σ m s
 have hnc:∀ s:Str,ncells s.a=3:=fun _=>rfl
 have hil:((i:Int) < (A.length:Int)):=by have:=(List.getElem?_eq_some_iff.1 hi).1;omega
 refine rounds_add (base:=3) (clr:=[17,18]) (b:=l_qaq_0) B
  (fun j ep out=>⟨e19 fs n s0 to0 ep out.length k (.int .i64 r) (.imm false (intsA A)) (.imm false (intsA B)) (.int .i64 i) (.int .i64 j) (.bool true) (.bool false) (.bool true) .any .any,st19 fs s0 ep out⟩)
  (fun _ b=>oneF (endsH s0) r ⟨k,a,b⟩) (fun ep out=>(.ext 4,⟨e19 fs n s0 to0 ep out.length k (.int .i64 r) (.imm false (intsA A)) (.imm false (intsA B)) (.int .i64 i) (.int .i64 B.length) (.bool true) (.bool false) (.bool true) (.bool false) .any,st19 fs s0 ep out⟩)) 4000 1 (fun j b _=>oneF_len _ _ _) ?_ ?_ ep out ho
 ·intro j b ep acc hj hb hacc
  have hlt:((j:Int) < (B.length:Int)):=by omega
  have h5:acc.length+1≤most:=by unfold most;omega
  have hbl:∀ hh:j < B.length,B[j]'hh=b:=fun hh=>(List.getElem?_eq_some_iff.1 hb).2
  have hal:∀ hh:i < A.length,A[i]'hh=a:=fun hh=>(List.getElem?_eq_some_iff.1 hi).2
  obtain ⟨f0,src,dst⟩:=s0
  unfold oneF endsH
  by_cases h1:src < 0
  ·by_cases h2:dst < 0
   ·exact ⟨ep+1,by simp[e19,st19,Str.a,l_qaq_0,hlt,hb,hi,hbl,hal,h1,h2,append,h5,wrap_lt hj hm,roundEnd_same]⟩
   ·by_cases h3:b=dst
    ·exact ⟨ep+1,by simp[e19,st19,Str.a,l_qaq_0,hlt,hb,hi,hbl,hal,h1,h2,h3,append,h5,wrap_lt hj hm,roundEnd_same]⟩
    ·exact ⟨ep,by simp[e19,st19,Str.a,l_qaq_0,hlt,hb,hi,hbl,hal,h1,h2,h3,beq_f h3,append,h5,wrap_lt hj hm,roundEnd_same]⟩
  ·by_cases h4:a=src
   ·by_cases h2:dst < 0
    ·exact ⟨ep+1,by simp[e19,st19,Str.a,l_qaq_0,hlt,hb,hi,hbl,hal,h1,h4,h2,append,h5,wrap_lt hj hm,roundEnd_same]⟩
    ·by_cases h3:b=dst
     ·exact ⟨ep+1,by simp[e19,st19,Str.a,l_qaq_0,hlt,hb,hi,hbl,hal,h1,h4,h2,h3,append,h5,wrap_lt hj hm,roundEnd_same]⟩
     ·exact ⟨ep,by simp[e19,st19,Str.a,l_qaq_0,hlt,hb,hi,hbl,hal,h1,h4,h2,h3,beq_f h3,append,h5,wrap_lt hj hm,roundEnd_same]⟩
   ·exact ⟨ep,by simp[e19,st19,Str.a,l_qaq_0,hlt,hb,hi,hbl,hal,h1,h4,beq_f h4,append,h5,wrap_lt hj hm,roundEnd_same]⟩
 ·intro ep acc
  simp[e19,st19,l_qaq_0]
theorem str_1(fs:List FrX)(n:Nat)(s0:Str)(to0:Int)(k:Nat)(r:Int)(A B:List Int)(hA:A.length≤8)(hB:B.length≤8)(ep:Nat)(out:List Str)(ho:out.length≤3900) :
  ∃ ep',rounds code 3 [13,16,17,18] l_qaq_1 ⟨e19 fs n s0 to0 ep out.length k (.int .i64 r) (.imm false (intsA A)) (.imm false (intsA B)) (.int .i64 0) .any (.bool true) (.bool false) .any .any .any,st19 fs s0 ep out⟩ =
   some (.ext 2,⟨e19 fs n s0 to0 ep' (out++flatK (rowF (endsH s0) k r B) 0 A).length k (.int .i64 r) (.imm false (intsA A)) (.imm false (intsA B)) (.int .i64 A.length) .any (.bool true) (.bool false) (.bool false) .any .any,st19 fs s0 ep' (out++flatK (rowF (endsH s0) k r B) 0 A)⟩):=by
 have hm:A.length≤most:=by unfold most;omega
 refine rounds_add (base:=3) (clr:=[13,16,17,18]) (b:=l_qaq_1) A
  (fun j ep out=>⟨e19 fs n s0 to0 ep out.length k (.int .i64 r) (.imm false (intsA A)) (.imm false (intsA B)) (.int .i64 j) .any (.bool true) (.bool false) .any .any .any,st19 fs s0 ep out⟩)
  (rowF (endsH s0) k r B) (fun ep out=>(.ext 2,⟨e19 fs n s0 to0 ep out.length k (.int .i64 r) (.imm false (intsA A)) (.imm false (intsA B)) (.int .i64 A.length) .any (.bool true) (.bool false) (.bool false) .any .any,st19 fs s0 ep out⟩)) 3900 8 (fun j a _=>rowF_len _ k r _ j a hB) ?_ ?_ ep out ho
 ·intro j a ep acc hj ha hacc
  have hlt:((j:Int) < (A.length:Int)):=by omega
  obtain ⟨ep',hR⟩:=str_0 fs n s0 to0 k r A B j a ha hB ep acc (by omega)
  refine ⟨ep',?_⟩
  unfold rowF
  generalize flatK (fun _ b=>oneF (endsH s0) r ⟨k,a,b⟩) 0 B=one at *
  simp only[e19,st19,planA]at hR
  simp at hR
  simp[e19,st19,planA,l_qaq_1,hlt,hR,wrap_lt hj hm,roundEnd_same]
 ·intro ep acc
  simp[e19,st19,planA,l_qaq_1]
def fragR(fs:List FrX)(n:Nat)(s0:Str)(to0:Int)(k:Nat)(f:FrX):List Str:=
 if readF fs k < 0∨skipH s0 to0 k (readF fs k)=true then [] else flatK (rowF (endsH s0) k (readF fs k) (placesF (fs.getD (readF fs k).toNat f) n)) 0 (placesF f n)
theorem fragR_len(fs:List FrX)(n:Nat)(hn:n≤8)(s0:Str)(to0:Int)(k:Nat)(f:FrX):(fragR fs n s0 to0 k f).length≤64:=by
 unfold fragR
 split
 ·simp
 ·have h1:=flatK_len (f:=rowF (endsH s0) k (readF fs k) (placesF (fs.getD (readF fs k).toNat f) n)) (m:=8) (fun i a=>rowF_len _ _ _ _ i a (placesF_len _ n hn)) (placesF f n) 0
  have h2:=placesF_len f n hn
  omega
theorem Streams19_v(fs:List FrX)(hS:FrSm fs)(n:Nat)(hn:n≤8)(s0:Str)(to0:Int) :
  pcall I.qaq [planA fs,.int .i64 n,s0.a,.int .i64 to0]=some (.imm false ((flatK (fragR fs n s0 to0) 0 fs).map Str.a)):=by
 rw[pcall_eq c_qaq rfl]
 have hm:fs.length≤most:=by have:=hS.len;unfold most;omega
 have hsf:∀ fl top base σ m (s:Str),fz fl top base σ (m+3) s.a=s.a:=fun fl top base σ m s=>Fx.fx fl top base σ m s
 have hnc:∀ s:Str,ncells s.a=3:=fun _=>rfl
 obtain ⟨ep,hL⟩:=rounds_add (base:=3) (clr:=[9,10,11,12,13,14,15,16,17,18]) (b:=l_qaq_2) fs
  (fun k ep out=>⟨e19 fs n s0 to0 ep out.length k .any .any .any .any .any .any .any .any .any .any,st19 fs s0 ep out⟩)
  (fragR fs n s0 to0) (fun ep out=>(.ext 0,⟨e19 fs n s0 to0 ep out.length fs.length .any .any .any .any .any (.bool false) .any .any .any .any,st19 fs s0 ep out⟩)) 0 64 (fun k f _=>fragR_len fs n hn s0 to0 k f)
  (fun k f ep acc hk hf hacc=>by
   have hlt:((k:Int) < (fs.length:Int)):=by omega
   have hR:=reader19_v fs hS k
   simp only[planA]at hR
   have hsm:=hS.len
   have hac:acc.length≤3900:=by omega
   unfold fragR
   by_cases h0:readF fs k < 0
   ·rw[if_pos (.inl h0)]
    generalize readF fs k=r at *
    exact ⟨ep,by simp[e19,st19,planA,Str.a,l_qaq_2,hlt,hR,h0,wrap_lt hk hm,roundEnd_same]⟩
   ·obtain ⟨to,hto,g,hg⟩:=readF_lt h0
    have hA:=places19_v fs k f hf n hn
    have hB:=places19_v fs to g hg n hn
    simp only[planA]at hA hB
    rw[hto]at hR ⊢
    have h0':¬((to:Int) < 0):=by omega
    unfold skipH
    by_cases h1:0≤s0.frag∧(k:Int)≠s0.frag
    ·rw[if_pos (.inr (by simp[h1.1,h1.2]))]
     exact ⟨ep,by simp[e19,st19,planA,Str.a,l_qaq_2,hlt,hR,h0',h1.1,h1.2,bne_t h1.2,wrap_lt hk hm,roundEnd_same]⟩
    ·have g1:(decide (0≤s0.frag)&&((k:Int) != s0.frag))=false:=by
      rw[Bool.and_eq_false_iff,decide_eq_false_iff_not,bne_eq_false_iff_eq]
      by_cases h:0≤s0.frag
      ·exact .inr (Classical.byContradiction fun hh=>h1 ⟨h,hh⟩)
      ·exact .inl h
     by_cases h2:0≤to0∧(to:Int)≠to0
     ·rw[if_pos (.inr (by simp[h2.1,h2.2]))]
      refine ⟨ep,?_⟩
      by_cases h3:0≤s0.frag
      ·have h4:((k:Int) != s0.frag)=false:=by simpa [h3] using g1
       simp[e19,st19,planA,Str.a,l_qaq_2,hlt,hR,h0',h3,h4,h2.1,h2.2,bne_t h2.2,wrap_lt hk hm,roundEnd_same]
      ·simp[e19,st19,planA,Str.a,l_qaq_2,hlt,hR,h0',h3,h2.1,h2.2,bne_t h2.2,wrap_lt hk hm,roundEnd_same]
     ·have g2:(decide (0≤to0)&&((to:Int) != to0))=false:=by
       rw[Bool.and_eq_false_iff,decide_eq_false_iff_not,bne_eq_false_iff_eq]
       by_cases h:0≤to0
       ·exact .inr (Classical.byContradiction fun hh=>h2 ⟨h,hh⟩)
       ·exact .inl h
      rw[if_neg (by simp[g1,g2])]
      rw[show ((to:Int)).toNat=to by omega,show fs.getD to f=g by rw[List.getD_eq_getElem?_getD,hg];rfl]
      obtain ⟨ep',hI⟩:=str_1 fs n s0 to0 k to (placesF f n) (placesF g n) (placesF_len f n hn) (placesF_len g n hn) ep acc hac
      generalize flatK (rowF (endsH s0) k to (placesF g n)) 0 (placesF f n)=one at *
      generalize placesF f n=A at *
      generalize placesF g n=B at *
      simp only[e19,st19,planA]at hI
      simp at hI
      refine ⟨ep',?_⟩
      have g3:(k:Int)≠s0.frag→¬0≤s0.frag:=fun a b=>h1 ⟨b,a⟩
      have g4:(to:Int)≠to0→¬0≤to0:=fun a b=>h2 ⟨b,a⟩
      by_cases h3:0≤s0.frag
      ·have h4:((k:Int) != s0.frag)=false:=by simpa [h3] using g1
       by_cases h5:0≤to0
       ·have h6:((to:Int) != to0)=false:=by simpa [h5] using g2
        simp[e19,st19,planA,Str.a,l_qaq_2,hlt,hR,h0',h3,h4,h5,h6,hA,hB,wrap_lt hk hm,roundEnd_same]
        simp[Str.a]at hI
        simp[hI,wrap_lt hk hm,roundEnd_same]
       ·simp[e19,st19,planA,Str.a,l_qaq_2,hlt,hR,h0',h3,h4,h5,hA,hB,wrap_lt hk hm,roundEnd_same]
        simp[Str.a]at hI
        simp[hI,wrap_lt hk hm,roundEnd_same]
      ·by_cases h5:0≤to0
       ·have h6:((to:Int) != to0)=false:=by simpa [h5] using g2
        simp[e19,st19,planA,Str.a,l_qaq_2,hlt,hR,h0',h3,h5,h6,hA,hB,wrap_lt hk hm,roundEnd_same]
        simp[Str.a]at hI
        simp[hI,wrap_lt hk hm,roundEnd_same]
       ·simp[e19,st19,planA,Str.a,l_qaq_2,hlt,hR,h0',h3,h5,hA,hB,wrap_lt hk hm,roundEnd_same]
        simp[Str.a]at hI
        simp[hI,wrap_lt hk hm,roundEnd_same])
  (fun ep acc=>by simp[e19,st19,planA,l_qaq_2]) 0 [] (Nat.le_refl _)
 rw[List.nil_append]at hL
 generalize flatK (fragR fs n s0 to0) 0 fs=out at *
 simp only[e19,st19,planA,show ((0:Nat):Int)=0 from rfl]at hL
 simp[f_qaq,b_qaq]
 simp at hL
 simp[hL,hsf,hnc]
end Go.AM
end
section
namespace Go.AM
open P
set_option maxHeartbeats 16000000
set_option maxRecDepth 8000
attribute [local simp] condRun_if when_if
theorem flatK_congr{α β:Type}{f g:Nat→α→List β}(h:∀ k y,f k y=g k y):∀ (l:List α) (k:Nat),flatK f k l=flatK g k l
 | [],_=>rfl
 | y::l,k=>by simp only[flatK,h k y,flatK_congr h l (k+1)]
theorem flatK_nil{α β:Type}{f:Nat→α→List β}(h:∀ k y,f k y=[]):∀ (l:List α) (k:Nat),flatK f k l=[]
 | [],_=>rfl
 | y::l,k=>by simp only[flatK,h k y,flatK_nil h l (k+1),List.nil_append]
theorem rowF_congr{h g:Str→Int→Bool}(k to:Int)(B:List Int)(e:∀ a b,h ⟨k,a,b⟩ to=g ⟨k,a,b⟩ to)(A:List Int):flatK (rowF h k to B) 0 A=flatK (rowF g k to B) 0 A:=
 flatK_congr (fun _ a=>flatK_congr (fun _ b=>by simp only[oneF,e a b]) B 0) A 0
theorem rowF_nil{h:Str→Int→Bool}(k to:Int)(B:List Int)(e:∀ a b,h ⟨k,a,b⟩ to=false)(A:List Int):flatK (rowF h k to B) 0 A=[]:=
 flatK_nil (fun _ a=>flatK_nil (fun _ b=>by simp[oneF,e a b]) B 0) A 0
theorem into_is(fs:List FrX)(n:Nat)(nu no:Int)(h1:0≤nu)(h2:0≤no):flatK (fragR fs n ⟨-1,-1,no⟩ nu) 0 fs=streamsF fs n (intoH nu no):=by
 refine flatK_congr (fun k f=>?_) fs 0
 unfold fragR fragS
 by_cases h0:readF fs k < 0
 ·rw[if_pos (.inl h0),if_pos h0]
 ·rw[if_neg h0]
  by_cases h3:readF fs k=nu
  ·rw[if_neg (fun h=>h.elim h0 (fun h=>by simp[skipH,h3]at h))]
   exact rowF_congr _ _ _ (fun a b=>by
    have:¬no < 0:=by omega
    simp[endsH,intoH,h3,this]
    rfl) _
  ·rw[if_pos (.inr (by simp[skipH,h1,h3]))]
   exact (rowF_nil _ _ _ (fun a b=>by simp[intoH,h3]) _).symm
theorem outof_is(fs:List FrX)(n:Nat)(nu no:Int)(h1:0≤nu)(h2:0≤no):flatK (fragR fs n ⟨nu,no,-1⟩ (-1)) 0 fs=streamsF fs n (outofH nu no):=by
 refine flatK_congr (fun k f=>?_) fs 0
 unfold fragR fragS
 by_cases h0:readF fs k < 0
 ·rw[if_pos (.inl h0),if_pos h0]
 ·rw[if_neg h0]
  by_cases h3:(k:Int)=nu
  ·rw[if_neg (fun h=>h.elim h0 (fun h=>by simp[skipH,h3]at h))]
   exact rowF_congr _ _ _ (fun a b=>by
    have:¬no < 0:=by omega
    simp[endsH,outofH,h3,this]
    rfl) _
  ·rw[if_pos (.inr (by simp[skipH,h1,h3]))]
   exact (rowF_nil _ _ _ (fun a b=>by simp[outofH,h3]) _).symm
theorem places_nonneg(f:FrX)(n:Nat):∀ y∈placesF f n,0≤y:=by
 intro y hy
 unfold placesF at hy
 split at hy
 ·simp at hy;omega
 ·simp[upF1]at hy
  omega
def inQ(e:Int)(s:Str):AVal:=.agg [.int .i64 s.frag,.int .i64 s.src,.int .u32 e,.int .u64 1,.nil0,.nil0,.int .i64 8,.bool false,.nil0]
def outQ(e:Int)(s:Str):AVal:=.agg [.int .i64 s.dst,.int .u32 e,.int .u64 1,.nil0,.int .u64 0,.int .u64 0,.int .i64 0,.bool false,.nil0]
instance (e:Int):Nc (inQ e) 9 true:=⟨fun _=>rfl,fun _=>rfl⟩
instance (e:Int):Nc (outQ e) 9 true:=⟨fun _=>rfl,fun _=>rfl⟩
theorem inQ_lo(e:Int)(base:Nat)(σ:Store)(m:Nat)(s:Str):fz false false base σ (m+3) (inQ e s)=inF e s:=by simp[inQ,inF]
theorem outQ_lo(e:Int)(base:Nat)(σ:Store)(m:Nat)(s:Str):fz false false base σ (m+3) (outQ e s)=outF e s:=by simp[outQ,outF]
theorem inQ_low(e:Int)(base:Nat)(σ:Store)(m:Nat):(fz false false base σ (m+3)∘inQ e)=inF e:=by funext s;simp[inQ,inF]
theorem outQ_low(e:Int)(base:Nat)(σ:Store)(m:Nat):(fz false false base σ (m+3)∘outQ e)=outF e:=by funext s;simp[outQ,outF]
abbrev stQ(o1 o2 o3:Obj)(fs:List FrX)(T:AVal)(X:Store):Store:=o1::o2::o3::.arr 1 0 [planA fs]::.arr 13 0 [zeroT]::.arr 13 0 [T]::X
abbrev envQ(fs:List FrX)(e si nu no:Int)(pl:List Int)(at':Int)(l e14 e15 e19 e20:AVal):List AVal:=
 [planA fs,.int .i64 e,.int .i64 si,.int .i64 nu,.int .i64 no,.ptr 3 0 0 0,.ptr 4 0 0 0,.int .i64 0,.imm false (intsA pl),.bool true,.int .i64 pl.length,.int .i64 at',.ptr 5 0 0 0,l,e14,e15,.bool false,.bool false,.bool false,e19,e20]
theorem there_loop(o1 o2 o3:Obj)(fs:List FrX)(e si nu no:Int)(pl:List Int)(hl:pl.length≤8) :
  rounds code 5 [17] l_qav_2 ⟨[planA fs,.int .i64 e,.int .i64 si,.int .i64 nu,.int .i64 no,.ptr 3 0 0 0,.ptr 4 0 0 0,.int .i64 0,.imm false (intsA pl),.bool false,.int .i64 0,.any,.any,.any,.any,.any,.bool false,.any,.any,.any,.any],[o1,o2,o3,.arr 1 0 [planA fs],.arr 13 0 [zeroT]]⟩ =
   some (.ext 0,⟨[planA fs,.int .i64 e,.int .i64 si,.int .i64 nu,.int .i64 no,.ptr 3 0 0 0,.ptr 4 0 0 0,.int .i64 0,.imm false (intsA pl),.bool (pl.any fun y=>no == y),.int .i64 pl.length,.any,.any,.any,.any,.any,.bool false,.bool false,.any,.any,.any],[o1,o2,o3,.arr 1 0 [planA fs],.arr 13 0 [zeroT]]⟩):=by
 have hm:pl.length≤most:=by unfold most;omega
 have hf:∀ (l:List Int) (s:Bool),l.foldl (fun s y=>s || no == y) s=(s || l.any fun y=>no == y):=by
  intro l
  induction l with
  | nil=>intro s;simp
  | cons y l ih=>intro s;rw[List.foldl_cons,ih,List.any_cons,Bool.or_assoc]
 have h:=(rounds_fold (base:=5) (clr:=[17]) (b:=l_qav_2) pl
  (fun k (s:Bool)=>⟨[planA fs,.int .i64 e,.int .i64 si,.int .i64 nu,.int .i64 no,.ptr 3 0 0 0,.ptr 4 0 0 0,.int .i64 0,.imm false (intsA pl),.bool s,.int .i64 k,.any,.any,.any,.any,.any,.bool false,.any,.any,.any,.any],[o1,o2,o3,.arr 1 0 [planA fs],.arr 13 0 [zeroT]]⟩)
  (fun _ _=>True) (fun s y=>s || no == y)
  (fun s=>(.ext 0,⟨[planA fs,.int .i64 e,.int .i64 si,.int .i64 nu,.int .i64 no,.ptr 3 0 0 0,.ptr 4 0 0 0,.int .i64 0,.imm false (intsA pl),.bool s,.int .i64 pl.length,.any,.any,.any,.any,.any,.bool false,.bool false,.any,.any,.any],[o1,o2,o3,.arr 1 0 [planA fs],.arr 13 0 [zeroT]]⟩))
  (fun k y s hk hy _=>by
   have hlt:((k:Int) < (pl.length:Int)):=by omega
   have hyl:∀ hh:k < pl.length,pl[k]'hh=y:=fun hh=>(List.getElem?_eq_some_iff.1 hy).2
   refine ⟨?_,trivial⟩
   cases s with
   | true=>simp[l_qav_2,hlt,hy,hyl,wrap_lt hk hm,roundEnd_same]
   | false=>
    by_cases h1:y=no
    ·subst h1
     simp[l_qav_2,hlt,hy,hyl,wrap_lt hk hm,roundEnd_same]
    ·have h2:(no == y)=false:=by simp;exact fun h=>h1 h.symm
     simp[l_qav_2,hlt,hy,hyl,h1,h2,beq_f h1,wrap_lt hk hm,roundEnd_same])
  (fun s _=>by simp[l_qav_2]) false trivial).1
 rw[hf,Bool.false_or]at h
 exact h
theorem rbegin_1(o1 o2 o3:Obj)(fs:List FrX)(e si nu no:Int)(he1:1≤e)(he2:e≤12)(f:FrX)(pl:List Int)(at':Int)(comes:List Str)(hc:comes.length≤8000) :
  ∃ ep,rounds code 7 [19] l_qav_1 ⟨envQ fs e si nu no pl at' (.imm false (comes.map Str.a)) (.int .i64 0) .any .any .any,stQ o1 o2 o3 fs (cellT e si nu no f (.sl 6 0 0 0) .nil0) [.arr 9 0 []]⟩ =
   some (.ext 2,⟨envQ fs e si nu no pl at' (.imm false (comes.map Str.a)) (.int .i64 comes.length) .any (.bool false) .any,stQ o1 o2 o3 fs (cellT e si nu no f (.sl 6 ep 0 comes.length) .nil0) [.arr 9 ep (comes.map (inQ e))]⟩):=by
 have hm:comes.length≤most:=by unfold most;omega
 have hw:=u32_conv e he1 he2
 have hfl:=flatK_one comes 0
 obtain ⟨ep,h⟩:=rounds_add (base:=7) (clr:=[19]) (b:=l_qav_1) comes
  (fun j ep (acc:List Str)=>⟨envQ fs e si nu no pl at' (.imm false (comes.map Str.a)) (.int .i64 j) .any .any .any,stQ o1 o2 o3 fs (cellT e si nu no f (.sl 6 ep 0 acc.length) .nil0) [.arr 9 ep (acc.map (inQ e))]⟩)
  (fun _ y=>[y]) (fun ep acc=>(.ext 2,⟨envQ fs e si nu no pl at' (.imm false (comes.map Str.a)) (.int .i64 comes.length) .any (.bool false) .any,stQ o1 o2 o3 fs (cellT e si nu no f (.sl 6 ep 0 acc.length) .nil0) [.arr 9 ep (acc.map (inQ e))]⟩)) 0 1 (fun _ _ _=>by simp)
  (fun j s ep acc hj hs hacc=>by
   have hlt:((j:Int) < (comes.length:Int)):=by omega
   have h5:acc.length+1≤most:=by unfold most;omega
   have hsl:∀ hh:j < comes.length,comes[j]'hh=s:=fun hh=>(List.getElem?_eq_some_iff.1 hs).2
   refine ⟨ep+1,?_⟩
   simp[envQ,stQ,cellT,planA,l_qav_1,hlt,hs,hsl,Str.a,hw,inQ,append,h5,wrap_lt hj hm,roundEnd_same])
  (fun ep acc=>by simp[envQ,stQ,l_qav_1]) 0 [] (Nat.le_refl _)
 rw[hfl,List.nil_append]at h
 exact ⟨ep,h⟩
theorem rbegin_2(o1 o2 o3:Obj)(fs:List FrX)(e si nu no:Int)(he1:1≤e)(he2:e≤12)(f:FrX)(pl:List Int)(at':Int)(comes:List Str)(ep1 k14:Nat)(goes:List Str)(hc:goes.length≤8000) :
  ∃ ep,rounds code 8 [20] l_qav_0 ⟨envQ fs e si nu no pl at' (.imm false (goes.map Str.a)) (.int .i64 k14) (.int .i64 0) (.bool false) .any,stQ o1 o2 o3 fs (cellT e si nu no f (.sl 6 ep1 0 comes.length) (.sl 7 0 0 0)) [.arr 9 ep1 (comes.map (inQ e)),.arr 9 0 []]⟩ =
   some (.ext 4,⟨envQ fs e si nu no pl at' (.imm false (goes.map Str.a)) (.int .i64 k14) (.int .i64 goes.length) (.bool false) (.bool false),stQ o1 o2 o3 fs (cellT e si nu no f (.sl 6 ep1 0 comes.length) (.sl 7 ep 0 goes.length)) [.arr 9 ep1 (comes.map (inQ e)),.arr 9 ep (goes.map (outQ e))]⟩):=by
 have hm:goes.length≤most:=by unfold most;omega
 have hw:=u32_conv e he1 he2
 have hfl:=flatK_one goes 0
 obtain ⟨ep,h⟩:=rounds_add (base:=8) (clr:=[20]) (b:=l_qav_0) goes
  (fun j ep (acc:List Str)=>⟨envQ fs e si nu no pl at' (.imm false (goes.map Str.a)) (.int .i64 k14) (.int .i64 j) (.bool false) .any,stQ o1 o2 o3 fs (cellT e si nu no f (.sl 6 ep1 0 comes.length) (.sl 7 ep 0 acc.length)) [.arr 9 ep1 (comes.map (inQ e)),.arr 9 ep (acc.map (outQ e))]⟩)
  (fun _ y=>[y]) (fun ep acc=>(.ext 4,⟨envQ fs e si nu no pl at' (.imm false (goes.map Str.a)) (.int .i64 k14) (.int .i64 goes.length) (.bool false) (.bool false),stQ o1 o2 o3 fs (cellT e si nu no f (.sl 6 ep1 0 comes.length) (.sl 7 ep 0 acc.length)) [.arr 9 ep1 (comes.map (inQ e)),.arr 9 ep (acc.map (outQ e))]⟩)) 0 1 (fun _ _ _=>by simp)
  (fun j s ep acc hj hs hacc=>by
   have hlt:((j:Int) < (goes.length:Int)):=by omega
   have h5:acc.length+1≤most:=by unfold most;omega
   have hsl:∀ hh:j < goes.length,goes[j]'hh=s:=fun hh=>(List.getElem?_eq_some_iff.1 hs).2
   refine ⟨ep+1,?_⟩
   simp[envQ,stQ,cellT,planA,l_qav_0,hlt,hs,hsl,Str.a,hw,outQ,append,h5,wrap_lt hj hm,roundEnd_same])
  (fun ep acc=>by simp[envQ,stQ,l_qav_0]) 0 [] (Nat.le_refl _)
 rw[hfl,List.nil_append]at h
 exact ⟨ep,h⟩
theorem trunc_3{o1 o2 o3:Obj}(h1:FirmO o1)(h2:FirmO o2)(h3:FirmO o3)(o:Obj)(t:Store)(v:AVal):truncTo [o1,o2,o3] (o1::o2::o3::o::t) v=(freeze 3 (o1::o2::o3::o::t) v,[o1,o2,o3]):=
 truncTo_app (σ:=[o1,o2,o3]) (fun τ b _=>by simp only[List.map_cons,List.map_nil,h1 τ b,h2 τ b,h3 τ b]) o t v
theorem RBegin_v{o1 o2 o3:Obj}(h1:FirmO o1)(h2:FirmO o2)(h3:FirmO o3)(fs:List FrX)(hS:FrSm fs)(e si nu no:Int) :
  acall code I.qav [planA fs,.int .i64 e,.int .i64 si,.int .i64 nu,.int .i64 no] [o1,o2,o3]=some (begunF fs e si nu no,[o1,o2,o3]):=by
 rw[acall_trunc c_qav rfl]
 have hT:=trunc_3 h1 h2 h3
 unfold begunF
 by_cases he1:e < 1
 ·rw[if_pos (.inr (.inl he1))]
  simp[f_qav,b_qav,he1,hT,freeze,fuel]
 by_cases he2:12 < e
 ·rw[if_pos (.inr (.inr he2))]
  simp[f_qav,b_qav,he1,he2,hT,freeze,fuel]
 by_cases hs1:si < 1
 ·rw[if_pos (.inl (by simp[askP,hs1]))]
  simp[f_qav,b_qav,he1,he2,hs1,hT,freeze,fuel]
 by_cases hs2:8 < si
 ·rw[if_pos (.inl (by simp[askP,hs2]))]
  simp[f_qav,b_qav,he1,he2,hs1,hs2,hT,freeze,fuel]
 by_cases hl:30 < fs.length
 ·have hl':(30:Int) < (fs.length:Int):=by omega
  rw[if_pos (.inl (by simp[askP,hl]))]
  simp[f_qav,b_qav,he1,he2,hs1,hs2,hl',hT,freeze,fuel]
 have hl':¬(30:Int) < (fs.length:Int):=by omega
 by_cases hn1:nu < 0
 ·rw[if_pos (.inl (by simp[askP,hn1]))]
  simp[f_qav,b_qav,he1,he2,hs1,hs2,hl',hn1,hT,freeze,fuel]
 by_cases hn2:(fs.length:Int)≤nu
 ·rw[if_pos (.inl (by simp[askP,hn2]))]
  simp[f_qav,b_qav,he1,he2,hs1,hs2,hl',hn1,hn2,hT,freeze,fuel]
 have ha:askP fs nu si=false:=by simp[askP,hl,hn1,hn2,hs1,hs2]
 obtain ⟨i,n,f,rfl,rfl,hn,hn',hf,hfl⟩:=askP_false ha
 rw[ha,if_neg (by simp[he1,he2]),show ((i:Int)).toNat=i by omega,show ((n:Int)).toNat=n by omega,hf]
 simp only
 have hP:=places19_v fs i f hf n hn
 simp only[planA]at hP
 have hil:((i:Int) < (fs.length:Int)):=by have:=(List.getElem?_eq_some_iff.1 hf).1;omega
 have hge:∀ hh:i < fs.length,fs[i]'hh=f:=fun hh=>(List.getElem?_eq_some_iff.1 hf).2
 have hfm:f∈fs:=List.mem_of_getElem? hf
 obtain ⟨X,hK⟩:=Kinds18_v true f.nodes (fun x hx=>hS.small f hfm x hx) (Nat.le_trans (hS.nodes f hfm) (by decide))
 have hL:=there_loop o1 o2 o3 fs e n i no (placesF f n) (placesF_len f n hn)
 simp only[planA]at hL
 try simp at hL
 cases hc:((placesF f n).any fun y=>no == y) with
 | false=>
  rw[hc]at hL
  rw[if_neg (by simp)]
  cases X<;>simp[f_qav,b_qav,he1,he2,hs1,hs2,hl',hn1,hn2,hP,hL,hf,hge,FrX.a,hK,hT,freeze,fuel]
 | true=>
  rw[hc]at hL
  by_cases hat:at18 f.nodes < 0
  ·have hat':¬0≤at18 f.nodes:=by omega
   have hno:0≤no:=by
    obtain ⟨y,hy,he⟩:=List.any_eq_true.1 hc
    have:=places_nonneg f n y hy
    simp at he
    omega
   rw[if_pos ⟨rfl,hat⟩]
   have hI:=Streams19_v fs hS n hn ⟨-1,-1,no⟩ i
   have hO:=Streams19_v fs hS n hn ⟨i,no,-1⟩ (-1)
   rw[into_is fs n i no (by omega) hno]at hI
   rw[outof_is fs n i no (by omega) hno]at hO
   have l1:=streamsF_len fs n hn (intoH i no) (by omega)
   have l2:=streamsF_len fs n hn (outofH i no) (by omega)
   generalize streamsF fs n (intoH i no)=comes at *
   generalize streamsF fs n (outofH i no)=goes at *
   generalize at18 f.nodes=at' at *
   obtain ⟨ep1,hL1⟩:=rbegin_1 o1 o2 o3 fs e n i no (by omega) (by omega) f (placesF f n) at' comes l1
   obtain ⟨ep2,hL2⟩:=rbegin_2 o1 o2 o3 fs e n i no (by omega) (by omega) f (placesF f n) at' comes ep1 comes.length goes l2
   simp only[planA,Str.a]at hI hO
   simp only[envQ,stQ,planA,cellT]at hL1 hL2
   try simp at hL1
   try simp at hL2
   cases X<;>simp[f_qav,b_qav,he1,he2,hs1,hs2,hl',hn1,hn2,hP,hL,hf,hge,FrX.a,hK,hat',hI,hL1,hO,hL2,hT,freeze,fuel,taskF,inQ_lo,outQ_lo,inQ_low,outQ_low,show ∀ s,ncells (inF e s)=9 from fun _=>rfl,show ∀ s,ncells (outF e s)=9 from fun _=>rfl,show ∀ s,ncells (inQ e s)=9 from fun _=>rfl,show ∀ s,ncells (outQ e s)=9 from fun _=>rfl]
  ·have hat':0≤at18 f.nodes:=by omega
   rw[if_neg (fun h=>hat h.2)]
   cases X<;>simp[f_qav,b_qav,he1,he2,hs1,hs2,hl',hn1,hn2,hP,hL,hf,hge,FrX.a,hK,hat',hT,freeze,fuel]
end Go.AM
end
section
namespace Go.AM
open P
set_option maxHeartbeats 16000000
set_option maxRecDepth 8000
attribute [local simp] condRun_if when_if
def longV(x:EN):Bool:=decide (100 < x.v.s.length)
def overE(l:List EN):Bool:=decide (60 < l.length) || l.any longV
theorem overExpr_v(b:Bool)(l:List EN):pcall I.qc [.agg [.imm b (l.map EN.a)]]=some (.bool (overE l)):=by
 rw[pcall_eq c_qc rfl]
 unfold overE
 by_cases h1:60 < l.length
 ·have h1':(60:Int) < (l.length:Int):=by omega
  cases b<;>simp[f_qc,b_qc,h1,h1']
 ·have h1':¬(60:Int) < (l.length:Int):=by omega
  have hm:l.length≤most:=by unfold most;omega
  have key:=rounds_any (base:=1) (clr:=[2,3,8,9]) (b:=l_qc_0) l
   (fun k=>⟨[.agg [.imm b (l.map EN.a)],.ptr 0 0 0 0,.any,.any,.bool false,.imm b (l.map EN.a),.int .i64 l.length,.int .i64 k,.any,.any],[.arr 1 0 [.agg [.imm b (l.map EN.a)]]]⟩) longV
   (.ext 0,⟨[.agg [.imm b (l.map EN.a)],.ptr 0 0 0 0,.any,.any,.bool false,.imm b (l.map EN.a),.int .i64 l.length,.int .i64 l.length,.bool false,.any],[.arr 1 0 [.agg [.imm b (l.map EN.a)]]]⟩)
   (fun o=>∃ s,o=(.ret,s)∧s.env[2]?=some (.bool true))
   (fun k x hk hx hp=>by
    have hlt:((k:Int) < (l.length:Int)):=by omega
    have hp':¬(100:Int) < (x.v.s.length:Int):=by simp[longV]at hp;omega
    have hxl:∀ hh:k < l.length,l[k]'hh=x:=fun hh=>(List.getElem?_eq_some_iff.1 hx).2
    simp[l_qc_0,hlt,hx,hxl,EN.a,hp',wrap_lt hk hm,roundEnd,freezeObj,freeze,fuel])
   (fun k x hk hx hp=>by
    have hlt:((k:Int) < (l.length:Int)):=by omega
    have hp':(100:Int) < (x.v.s.length:Int):=by simp[longV]at hp;omega
    have hxl:∀ hh:k < l.length,l[k]'hh=x:=fun hh=>(List.getElem?_eq_some_iff.1 hx).2
    exact ⟨_,by simp[l_qc_0,hlt,hx,hxl,EN.a,hp'];rfl,_,rfl,rfl⟩)
   (by simp[l_qc_0])
  simp only[show ((0:Nat):Int)=0 from rfl]at key
  rcases key with ⟨ha,h⟩|⟨ha,o,h,s,rfl,hs⟩
  ·rw[ha]
   try simp at h
   cases b<;>simp[f_qc,b_qc,h1,h1',h]
  ·rw[ha]
   try simp at h
   cases b<;>simp[f_qc,b_qc,h1,h1',h,hs]
def longN(x:LNX):Bool:=decide (20 < x.kinds.length) || decide (20 < x.keys.length) || decide (20 < x.ords.length) || decide (20 < x.items.length) || decide (20 < x.aggs.length) || overE x.cond || (x.items.any fun e=>overE e.l) || (x.aggs.any fun g=>overE g.arg)
abbrev oN(nodes:List LNX)(k:Nat)(e4 e11 e12 e13 e14 e15 e16 e17 e18 e19 e20:AVal):List AVal:=
 [.imm true (nodes.map LNX.a),.any,.ptr 0 0 0 0,.any,e4,.bool false,.imm true (nodes.map LNX.a),.int .i64 nodes.length,.int .i64 k,.bool true,.bool false,e11,e12,e13,e14,e15,e16,e17,e18,e19,e20]
theorem overItems(nodes:List LNX)(k:Nat)(n:LNX)(bi:Bool)(l:List ExX)(hl:l.length≤20) :
  ((l.any fun e=>overE e.l)=false∧rounds code 1 [1,3,14,15] l_qd_1 ⟨oN nodes k .any (.imm bi (l.map ExX.a)) (.int .i64 l.length) (.int .i64 0) .any .any .any .any .any .any .any,[.arr 12 0 [n.a]]⟩ =
   some (.ext 2,⟨oN nodes k .any (.imm bi (l.map ExX.a)) (.int .i64 l.length) (.int .i64 l.length) (.bool false) .any .any .any .any .any .any,[.arr 12 0 [n.a]]⟩)) ∨
  ((l.any fun e=>overE e.l)=true∧∃ o,rounds code 1 [1,3,14,15] l_qd_1 ⟨oN nodes k .any (.imm bi (l.map ExX.a)) (.int .i64 l.length) (.int .i64 0) .any .any .any .any .any .any .any,[.arr 12 0 [n.a]]⟩=some o∧∃ s,o=(.ret,s)∧s.env[1]?=some (.bool true)):=by
 have hm:l.length≤most:=by unfold most;omega
 have hnz:∀ (N:LNX) base σ m,fz false true base σ (m+3) N.a=N.a:=fun N base σ m=>Ft.ft false true base σ m N rfl
 refine rounds_any (base:=1) (clr:=[1,3,14,15]) (b:=l_qd_1) l
  (fun j=>⟨oN nodes k .any (.imm bi (l.map ExX.a)) (.int .i64 l.length) (.int .i64 j) .any .any .any .any .any .any .any,[.arr 12 0 [n.a]]⟩) (fun e=>overE e.l) _ _ ?_ ?_ ?_
 ·intro j x hj hx hp
  have hlt:((j:Int) < (l.length:Int)):=by omega
  have hxl:∀ hh:j < l.length,l[j]'hh=x:=fun hh=>(List.getElem?_eq_some_iff.1 hx).2
  have hO:=overExpr_v
  obtain ⟨b',xl⟩:=x
  simp only at hp
  cases b'<;>cases bi<;>simp[oN,l_qd_1,hlt,hx,hxl,ExX.a,hO,hp,hnz,wrap_lt hj hm,roundEnd,freezeObj,freeze,fuel]
 ·intro j x hj hx hp
  have hlt:((j:Int) < (l.length:Int)):=by omega
  have hxl:∀ hh:j < l.length,l[j]'hh=x:=fun hh=>(List.getElem?_eq_some_iff.1 hx).2
  have hO:=overExpr_v
  obtain ⟨b',xl⟩:=x
  simp only at hp
  cases b'<;>exact ⟨_,by simp[oN,l_qd_1,hlt,hx,hxl,ExX.a,hO,hp];rfl,_,rfl,rfl⟩
 ·simp[oN,l_qd_1]
theorem overAggs(nodes:List LNX)(k:Nat)(n:LNX)(items n12:AVal)(bg:Bool)(l:List AggX)(hl:l.length≤20)(hi:∀ base σ,freeze base σ items=items∧freeze base σ n12=n12) :
  ((l.any fun e=>overE e.arg)=false∧rounds code 1 [1,4,19,20] l_qd_0 ⟨oN nodes k .any items n12 n12 (.bool false) .any (.imm bg (l.map AggX.a)) (.int .i64 l.length) (.int .i64 0) .any .any,[.arr 12 0 [n.a]]⟩ =
   some (.ext 4,⟨oN nodes k .any items n12 n12 (.bool false) .any (.imm bg (l.map AggX.a)) (.int .i64 l.length) (.int .i64 l.length) (.bool false) .any,[.arr 12 0 [n.a]]⟩)) ∨
  ((l.any fun e=>overE e.arg)=true∧∃ o,rounds code 1 [1,4,19,20] l_qd_0 ⟨oN nodes k .any items n12 n12 (.bool false) .any (.imm bg (l.map AggX.a)) (.int .i64 l.length) (.int .i64 0) .any .any,[.arr 12 0 [n.a]]⟩=some o∧∃ s,o=(.ret,s)∧s.env[1]?=some (.bool true)):=by
 have hm:l.length≤most:=by unfold most;omega
 have hnz:∀ (N:LNX) base σ m,fz false true base σ (m+3) N.a=N.a:=fun N base σ m=>Ft.ft false true base σ m N rfl
 have hi1:=fun base σ=>(hi base σ).1
 have hi2:=fun base σ=>(hi base σ).2
 simp only[freeze,fuel]at hi1 hi2
 refine rounds_any (base:=1) (clr:=[1,4,19,20]) (b:=l_qd_0) l
  (fun j=>⟨oN nodes k .any items n12 n12 (.bool false) .any (.imm bg (l.map AggX.a)) (.int .i64 l.length) (.int .i64 j) .any .any,[.arr 12 0 [n.a]]⟩) (fun e=>overE e.arg) _ _ ?_ ?_ ?_
 ·intro j x hj hx hp
  have hlt:((j:Int) < (l.length:Int)):=by omega
  have hxl:∀ hh:j < l.length,l[j]'hh=x:=fun hh=>(List.getElem?_eq_some_iff.1 hx).2
  have hO:=overExpr_v
  obtain ⟨t',b',xl⟩:=x
  simp only at hp
  cases b'<;>cases bg<;>simp[oN,l_qd_0,hlt,hx,hxl,AggX.a,hO,hp,hnz,hi1,hi2,wrap_lt hj hm,roundEnd,freezeObj,freeze,fuel]
 ·intro j x hj hx hp
  have hlt:((j:Int) < (l.length:Int)):=by omega
  have hxl:∀ hh:j < l.length,l[j]'hh=x:=fun hh=>(List.getElem?_eq_some_iff.1 hx).2
  have hO:=overExpr_v
  obtain ⟨t',b',xl⟩:=x
  simp only at hp
  cases b'<;>exact ⟨_,by simp[oN,l_qd_0,hlt,hx,hxl,AggX.a,hO,hp];rfl,_,rfl,rfl⟩
 ·simp[oN,l_qd_0]
def overN(l:List LNX):Bool:=decide (32 < l.length) || l.any longN
theorem longN_false{x:LNX}(h:longN x=false):x.kinds.length≤20∧x.keys.length≤20∧x.ords.length≤20∧x.items.length≤20∧x.aggs.length≤20∧overE x.cond=false∧(x.items.any fun e=>overE e.l)=false∧(x.aggs.any fun g=>overE g.arg)=false:=by
 unfold longN at h
 simp only[Bool.or_eq_false_iff,decide_eq_false_iff_not,Nat.not_lt]at h
 obtain ⟨⟨⟨⟨⟨⟨⟨h1,h2⟩,h3⟩,h4⟩,h5⟩,h6⟩,h7⟩,h8⟩:=h
 exact ⟨h1,h2,h3,h4,h5,h6,h7,h8⟩
theorem overNode(nodes:List LNX)(hn:nodes.length≤32)(k:Nat)(n:LNX)(hk:nodes[k]?=some n) :
  (longN n=false→thenLoop 0 [1,2,3,4,9,10,11,12,13,14,15,16,17,18,19,20] l_qd_2 (run code l_qd_2 ⟨[.imm true (nodes.map LNX.a),.any,.any,.any,.any,.bool false,.imm true (nodes.map LNX.a),.int .i64 nodes.length,.int .i64 k,.any,.any,.any,.any,.any,.any,.any,.any,.any,.any,.any,.any],[]⟩) =
   rounds code 0 [1,2,3,4,9,10,11,12,13,14,15,16,17,18,19,20] l_qd_2 ⟨[.imm true (nodes.map LNX.a),.any,.any,.any,.any,.bool false,.imm true (nodes.map LNX.a),.int .i64 nodes.length,.int .i64 (k+1:Nat),.any,.any,.any,.any,.any,.any,.any,.any,.any,.any,.any,.any],[]⟩) ∧
  (longN n=true→∃ o,thenLoop 0 [1,2,3,4,9,10,11,12,13,14,15,16,17,18,19,20] l_qd_2 (run code l_qd_2 ⟨[.imm true (nodes.map LNX.a),.any,.any,.any,.any,.bool false,.imm true (nodes.map LNX.a),.int .i64 nodes.length,.int .i64 k,.any,.any,.any,.any,.any,.any,.any,.any,.any,.any,.any,.any],[]⟩)=some o∧∃ s,o=(.ret,s)∧s.env[1]?=some (.bool true)):=by
 have hm:nodes.length≤most:=by unfold most;omega
 have hkl:=(List.getElem?_eq_some_iff.1 hk).1
 have hlt:((k:Int) < (nodes.length:Int)):=by omega
 have hnl:∀ hh:k < nodes.length,nodes[k]'hh=n:=fun hh=>(List.getElem?_eq_some_iff.1 hk).2
 have hO:=overExpr_v n.bc n.cond
 have hI:=fun h=>overItems nodes k n n.bi n.items h
 have hA:=fun h=>overAggs nodes k n (.imm n.bi (n.items.map ExX.a)) (.int .i64 n.items.length) n.bg n.aggs h (fun base σ=>⟨by cases n.bi<;>simp[freeze,fuel],by simp[freeze,fuel]⟩)
 obtain ⟨op,l,r,tab,bk,kinds,left,bc,cond,by',keys,bg,aggs,bi,items,bo,ords,limit⟩:=n
 simp only[longN]at *
 have c1:decide ((20:Int) < (kinds.length:Int))=decide (20 < kinds.length):=by rw[Bool.eq_iff_iff];simp;omega
 have c2:decide ((20:Int) < (keys.length:Int))=decide (20 < keys.length):=by rw[Bool.eq_iff_iff];simp;omega
 have c3:decide ((20:Int) < (ords.length:Int))=decide (20 < ords.length):=by rw[Bool.eq_iff_iff];simp;omega
 have c4:decide ((20:Int) < (items.length:Int))=decide (20 < items.length):=by rw[Bool.eq_iff_iff];simp;omega
 have c5:decide ((20:Int) < (aggs.length:Int))=decide (20 < aggs.length):=by rw[Bool.eq_iff_iff];simp;omega
 cases g1:decide (20 < kinds.length) with
 | true=>
  rw[g1]at c1
  refine ⟨fun h=>by simp at h,fun _=>⟨_,by simp[l_qd_2,hlt,hk,hnl,LNX.a,c1];rfl,_,rfl,rfl⟩⟩
 | false=>
 rw[g1]at c1
 cases g2:decide (20 < keys.length) with
 | true=>
  rw[g2]at c2
  refine ⟨fun h=>by simp at h,fun _=>⟨_,by simp[l_qd_2,hlt,hk,hnl,LNX.a,c1,c2];rfl,_,rfl,rfl⟩⟩
 | false=>
 rw[g2]at c2
 cases g3:decide (20 < ords.length) with
 | true=>
  rw[g3]at c3
  refine ⟨fun h=>by simp at h,fun _=>⟨_,by simp[l_qd_2,hlt,hk,hnl,LNX.a,c1,c2,c3];rfl,_,rfl,rfl⟩⟩
 | false=>
 rw[g3]at c3
 cases g4:decide (20 < items.length) with
 | true=>
  rw[g4]at c4
  refine ⟨fun h=>by simp at h,fun _=>⟨_,by simp[l_qd_2,hlt,hk,hnl,LNX.a,c1,c2,c3,c4];rfl,_,rfl,rfl⟩⟩
 | false=>
 rw[g4]at c4
 cases g5:decide (20 < aggs.length) with
 | true=>
  rw[g5]at c5
  refine ⟨fun h=>by simp at h,fun _=>⟨_,by simp[l_qd_2,hlt,hk,hnl,LNX.a,c1,c2,c3,c4,c5];rfl,_,rfl,rfl⟩⟩
 | false=>
 rw[g5]at c5
 cases g6:overE cond with
 | true=>
  rw[g6]at hO
  refine ⟨fun h=>by simp at h,fun _=>⟨_,by simp[l_qd_2,hlt,hk,hnl,LNX.a,c1,c2,c3,c4,c5,hO];rfl,_,rfl,rfl⟩⟩
 | false=>
 rw[g6]at hO
 have hil:items.length≤20:=by simpa using g4
 have hal:aggs.length≤20:=by simpa using g5
 have hI:=hI hil
 have hA:=hA hal
 simp only[oN,LNX.a]at hI hA
 rcases hI with ⟨ha,hI⟩|⟨ha,o,hI,s,rfl,hs⟩
 ·rw[ha]
  try simp at hI
  rcases hA with ⟨hb,hA⟩|⟨hb,o,hA,s,rfl,hs⟩
  ·rw[hb]
   try simp at hA
   refine ⟨fun _=>?_,fun h=>by simp at h⟩
   simp[l_qd_2,hlt,hk,hnl,LNX.a,c1,c2,c3,c4,c5,hO,hI,hA,wrap_lt hkl hm,roundEnd,freezeObj,freeze,fuel]
  ·rw[hb]
   try simp at hA
   refine ⟨fun h=>by simp at h,fun _=>⟨_,by simp[l_qd_2,hlt,hk,hnl,LNX.a,c1,c2,c3,c4,c5,hO,hI,hA],_,rfl,hs⟩⟩
 ·rw[ha]
  try simp at hI
  refine ⟨fun h=>by simp at h,fun _=>⟨_,by simp[l_qd_2,hlt,hk,hnl,LNX.a,c1,c2,c3,c4,c5,hO,hI],_,rfl,hs⟩⟩
theorem overNodes_v(nodes:List LNX):pcall I.qd [.imm true (nodes.map LNX.a)]=some (.bool (overN nodes)):=by
 rw[pcall_eq c_qd rfl]
 unfold overN
 by_cases h1:32 < nodes.length
 ·have h1':(32:Int) < (nodes.length:Int):=by omega
  simp[f_qd,b_qd,h1,h1']
 ·have h1':¬(32:Int) < (nodes.length:Int):=by omega
  have key:=rounds_any (base:=0) (clr:=[1,2,3,4,9,10,11,12,13,14,15,16,17,18,19,20]) (b:=l_qd_2) nodes
   (fun k=>⟨[.imm true (nodes.map LNX.a),.any,.any,.any,.any,.bool false,.imm true (nodes.map LNX.a),.int .i64 nodes.length,.int .i64 k,.any,.any,.any,.any,.any,.any,.any,.any,.any,.any,.any,.any],[]⟩) longN
   (.ext 0,⟨[.imm true (nodes.map LNX.a),.any,.any,.any,.any,.bool false,.imm true (nodes.map LNX.a),.int .i64 nodes.length,.int .i64 nodes.length,.bool false,.any,.any,.any,.any,.any,.any,.any,.any,.any,.any,.any],[]⟩)
   (fun o=>∃ s,o=(.ret,s)∧s.env[1]?=some (.bool true))
   (fun k x hk hx hp=>(overNode nodes (by omega) k x hx).1 hp)
   (fun k x hk hx hp=>(overNode nodes (by omega) k x hx).2 hp)
   (by simp[l_qd_2])
  simp only[show ((0:Nat):Int)=0 from rfl]at key
  rcases key with ⟨ha,h⟩|⟨ha,o,h,s,rfl,hs⟩
  ·rw[ha]
   try simp at h
   simp[f_qd,b_qd,h1,h1',h]
  ·rw[ha]
   try simp at h
   simp[f_qd,b_qd,h1,h1',h,hs]
def longF(f:FrX):Bool:=decide (20 < f.cols.length) || overN f.nodes
def overP(fs:List FrX):Bool:=decide (40 < fs.length) || fs.any longF
theorem overPlan_v(fs:List FrX):pcall I.qe [planA fs]=some (.bool (overP fs)):=by
 rw[pcall_eq c_qe rfl]
 unfold overP
 by_cases h1:40 < fs.length
 ·have h1':(40:Int) < (fs.length:Int):=by omega
  simp[f_qe,b_qe,h1,h1']
 ·have h1':¬(40:Int) < (fs.length:Int):=by omega
  have hm:fs.length≤most:=by unfold most;omega
  have hfn:∀ f:FrX,ncells f.a=4∧isAgg f.a=true:=fun _=>⟨rfl,rfl⟩
  have key:=rounds_any (base:=1) (clr:=[2,3,8,9]) (b:=l_qe_0) fs
   (fun k=>⟨[planA fs,.ptr 0 0 0 0,.any,.any,.bool false,.imm true (fs.map FrX.a),.int .i64 fs.length,.int .i64 k,.any,.any],[.arr 1 0 [planA fs]]⟩) longF
   (.ext 0,⟨[planA fs,.ptr 0 0 0 0,.any,.any,.bool false,.imm true (fs.map FrX.a),.int .i64 fs.length,.int .i64 fs.length,.bool false,.any],[.arr 1 0 [planA fs]]⟩)
   (fun o=>∃ s,o=(.ret,s)∧s.env[2]?=some (.bool true))
   (fun k f hk hf hp=>by
    have hlt:((k:Int) < (fs.length:Int)):=by omega
    have hge:∀ hh:k < fs.length,fs[k]'hh=f:=fun hh=>(List.getElem?_eq_some_iff.1 hf).2
    unfold longF at hp
    simp only[Bool.or_eq_false_iff,decide_eq_false_iff_not]at hp
    have hc:¬(20:Int) < (f.cols.length:Int):=by omega
    have hN:=overNodes_v f.nodes
    rw[hp.2]at hN
    simp[planA,l_qe_0,hlt,hf,hge,FrX.a,hc,hN,wrap_lt hk hm,roundEnd,freezeObj,freeze,fuel])
   (fun k f hk hf hp=>by
    have hlt:((k:Int) < (fs.length:Int)):=by omega
    have hge:∀ hh:k < fs.length,fs[k]'hh=f:=fun hh=>(List.getElem?_eq_some_iff.1 hf).2
    unfold longF at hp
    have hN:=overNodes_v f.nodes
    by_cases hc:20 < f.cols.length
    ·have hc':(20:Int) < (f.cols.length:Int):=by omega
     exact ⟨_,by simp[planA,l_qe_0,hlt,hf,hge,FrX.a,hc'];rfl,_,rfl,rfl⟩
    ·have hc':¬(20:Int) < (f.cols.length:Int):=by omega
     rw[decide_eq_false hc,Bool.false_or]at hp
     rw[hp]at hN
     exact ⟨_,by simp[planA,l_qe_0,hlt,hf,hge,FrX.a,hc',hN];rfl,_,rfl,rfl⟩)
   (by simp[l_qe_0])
  simp only[show ((0:Nat):Int)=0 from rfl]at key
  rcases key with ⟨ha,h⟩|⟨ha,o,h,s,rfl,hs⟩
  ·rw[ha]
   try simp at h
   simp[f_qe,b_qe,h1,h1',h]
  ·rw[ha]
   try simp at h
   simp[f_qe,b_qe,h1,h1',h,hs]
theorem overE_le{l:List EN}(h:overE l=false):l.length≤m32:=by
 unfold overE at h
 simp only[Bool.or_eq_false_iff,decide_eq_false_iff_not]at h
 have:60≤m32:=by decide
 omega
theorem small_of{fs:List FrX}(h:overP fs=false):FrSm fs:=by
 have h20:20≤m32:=by decide
 unfold overP at h
 simp only[Bool.or_eq_false_iff,decide_eq_false_iff_not]at h
 have hF:∀ f∈fs,overN f.nodes=false:=fun f hf=>by
  have:=List.any_eq_false.1 h.2 f hf
  unfold longF at this
  simp only[Bool.or_eq_true,not_or,Bool.not_eq_true]at this
  exact this.2
 refine ⟨by omega,fun f hf=>?_,fun f hf n hn=>?_⟩
 ·have:=hF f hf
  unfold overN at this
  simp only[Bool.or_eq_false_iff,decide_eq_false_iff_not]at this
  omega
 ·have:=hF f hf
  unfold overN at this
  simp only[Bool.or_eq_false_iff]at this
  have hx:longN n=false:=by simpa using List.any_eq_false.1 this.2 n hn
  obtain ⟨h1,h2,h3,h4,h5,h6,h7,h8⟩:=longN_false hx
  exact ⟨⟨by omega,overE_le h6,by omega,by omega,fun g hg=>overE_le (by simpa using List.any_eq_false.1 h8 g hg),by omega,fun e he=>overE_le (by simpa using List.any_eq_false.1 h7 e he),by omega⟩,by omega,by omega,by omega⟩
end Go.AM
end
section
namespace Go.AM
open P
set_option maxHeartbeats 16000000
set_option maxRecDepth 8000
attribute [local simp] condRun_if when_if
theorem rows0_run:callN code 60 I.qar [.imm false [],.imm false []] []=some (.bool true,[]):=by kernel_rfl
theorem rows0_same:pcall I.qar [.imm false [],.imm false []]=some (.bool true):=pcall_from rows0_run
theorem bat0_run:callN code 60 I.qas [.imm false [],.imm false []] []=some (.bool true,[]):=by kernel_rfl
theorem bat0_same:pcall I.qas [.imm false [],.imm false []]=some (.bool true):=pcall_from bat0_run
abbrev zeroS:AVal:=.agg [.int .i64 0,.int .i64 0,.int .i64 0,.int .i64 0,.imm false [],.int .i64 0,.int .i64 0,.imm false [],.int .i64 0,.imm false [],.imm false [],.imm false [],.int .i64 0]
theorem zeroS_run:callN code 100 I.qaw [zeroS,zeroS] []=some (.bool true,[]):=by kernel_rfl
theorem zeroS_same:pcall I.qaw [zeroS,zeroS]=some (.bool true):=pcall_from zeroS_run
theorem recv_same(e:Int):pcall I.qat [recvA e,recvA e]=some (.bool true):=by
 rw[pcall_eq c_qat rfl]
 have h:=bat0_same
 have hL:rounds code 2 [4,5,9,10] l_qat_0 ⟨[recvA e,recvA e,.ptr 0 0 0 0,.ptr 1 0 0 0,.any,.any,.bool false,.int .i64 0,.int .i64 0,.any,.any],[.arr 6 0 [recvA e],.arr 6 0 [recvA e]]⟩=some (.ext 0,⟨[recvA e,recvA e,.ptr 0 0 0 0,.ptr 1 0 0 0,.any,.any,.bool false,.int .i64 0,.int .i64 0,.bool false,.any],[.arr 6 0 [recvA e],.arr 6 0 [recvA e]]⟩):=by
  rw[rounds_go0]
  simp[l_qat_0]
 simp only[recvA]at hL ⊢
 simp[f_qat,b_qat,hL,h]
theorem send_same(e:Int):pcall I.qau [sendA e,sendA e]=some (.bool true):=by
 rw[pcall_eq c_qau rfl]
 have h:=bat0_same
 simp[f_qau,b_qau,sendA,h]
abbrev cellS(e si nu no:Int)(f:FrX)(ins outs:List Str):AVal:=
 .agg [.int .i64 e,.int .i64 si,.int .i64 nu,.int .i64 no,.imm true (f.nodes.map LNX.a),.int .i64 f.at',.int .i64 f.way,.imm true (f.cols.map (.int .i64)),.int .i64 1,.imm false (ins.map (inF e)),.imm false (outs.map (outF e)),.imm false [],.int .i64 0]
abbrev envT(e si nu no:Int)(f:FrX)(ins outs:List Str)(e5 e8 e13 e15:AVal):List AVal:=
 [cellS e si nu no f ins outs,cellS e si nu no f ins outs,.ptr 0 0 0 0,.ptr 1 0 0 0,.any,e5,.any,.any,e8,.any,.any,.bool false,.bool false,e13,.any,e15,.any]
abbrev stT(e si nu no:Int)(f:FrX)(ins outs:List Str):Store:=[.arr 13 0 [cellS e si nu no f ins outs],.arr 13 0 [cellS e si nu no f ins outs]]
theorem same_ins(e si nu no:Int)(f:FrX)(ins outs:List Str)(hl:ins.length≤8000) :
  rounds code 2 [4,6,7,13,14] l_qaw_1 ⟨envT e si nu no f ins outs (.int .i64 0) .any .any .any,stT e si nu no f ins outs⟩=some (.ext 0,⟨envT e si nu no f ins outs (.int .i64 ins.length) .any (.bool false) .any,stT e si nu no f ins outs⟩):=by
 have hm:ins.length≤most:=by unfold most;omega
 have hR:=recv_same e
 have h0:=rows0_same
 simp only[recvA]at hR
 refine rounds_iter (base:=2) (clr:=[4,6,7,13,14]) (b:=l_qaw_1) (fun k=>⟨envT e si nu no f ins outs (.int .i64 k) .any .any .any,stT e si nu no f ins outs⟩) ins.length _ (fun k hk=>?_) ?_
 ·obtain ⟨s,hs⟩:∃ s,ins[k]?=some s:=⟨_,List.getElem?_eq_getElem hk⟩
  have hsl:∀ hh:k < ins.length,ins[k]'hh=s:=fun hh=>(List.getElem?_eq_some_iff.1 hs).2
  have hlt:((k:Int) < (ins.length:Int)):=by omega
  have hse:inF e s=.agg [.int .i64 s.frag,.int .i64 s.src,.int .u32 e,.int .u64 1,.imm false [],.imm false [],.int .i64 8,.bool false,.imm false []]:=rfl
  simp[l_qaw_1,hlt,hs,hsl,hse,hR,h0,wrap_lt hk hm,roundEnd,freezeObj,freeze,fuel]
 ·simp[l_qaw_1]
theorem same_outs(e si nu no:Int)(f:FrX)(ins outs:List Str)(k5:Nat)(hl:outs.length≤8000) :
  rounds code 2 [4,9,10,15,16] l_qaw_0 ⟨envT e si nu no f ins outs (.int .i64 k5) (.int .i64 0) (.bool false) .any,stT e si nu no f ins outs⟩=some (.ext 2,⟨envT e si nu no f ins outs (.int .i64 k5) (.int .i64 outs.length) (.bool false) (.bool false),stT e si nu no f ins outs⟩):=by
 have hm:outs.length≤most:=by unfold most;omega
 have hR:=send_same e
 have h0:=rows0_same
 simp only[sendA]at hR
 refine rounds_iter (base:=2) (clr:=[4,9,10,15,16]) (b:=l_qaw_0) (fun k=>⟨envT e si nu no f ins outs (.int .i64 k5) (.int .i64 k) (.bool false) .any,stT e si nu no f ins outs⟩) outs.length _ (fun k hk=>?_) ?_
 ·obtain ⟨s,hs⟩:∃ s,outs[k]?=some s:=⟨_,List.getElem?_eq_getElem hk⟩
  have hsl:∀ hh:k < outs.length,outs[k]'hh=s:=fun hh=>(List.getElem?_eq_some_iff.1 hs).2
  have hlt:((k:Int) < (outs.length:Int)):=by omega
  have hse:outF e s=.agg [.int .i64 s.dst,.int .u32 e,.int .u64 1,.imm false [],.int .u64 0,.int .u64 0,.int .i64 0,.bool false,.imm false []]:=rfl
  simp[l_qaw_0,hlt,hs,hsl,hse,hR,h0,wrap_lt hk hm,roundEnd,freezeObj,freeze,fuel]
 ·simp[l_qaw_0]
theorem task_same(e si nu no:Int)(f:FrX)(ins outs:List Str)(hl:ins.length≤8000)(ho:outs.length≤8000)(hf:pcall I.qag [.agg [.imm true [f.a]],.agg [.imm true [f.a]]]=some (.bool true)) :
  pcall I.qaw [cellS e si nu no f ins outs,cellS e si nu no f ins outs]=some (.bool true):=by
 rw[pcall_eq c_qaw rfl]
 have h1:=same_ins e si nu no f ins outs hl
 have h2:=same_outs e si nu no f ins outs ins.length ho
 have h0:=rows0_same
 simp only[envT,stT,cellS]at h1 h2
 simp only[FrX.a]at hf
 try simp at h1
 try simp at h2
 simp[f_qaw,b_qaw,h0,h1,h2,hf]
end Go.AM
end
