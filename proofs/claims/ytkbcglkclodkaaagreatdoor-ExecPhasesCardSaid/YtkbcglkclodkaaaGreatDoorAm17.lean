/- Part of the proof. -/
import Derived.Test.YtkbcglkclodkaaaGreatDoorAm16
import Derived.KernelRfl
set_option linter.unusedVariables false
set_option linter.unusedSimpArgs false
section
namespace Go.AM
open P
set_option maxHeartbeats 4000000
set_option maxRecDepth 8000
theorem fresh_map{α:Type}{f:α→AVal}{m:Nat}{g:Bool}[Nc f m g][Fx f](l:List α)(id ep:Nat)(σ:Store)(h:σ[id]?=some (.arr m ep (l.map f))):freshOf m σ (.sl id ep 0 l.length)=.frs m (l.map f):=by
 have h9:(l.map f).take l.length=l.map f:=List.take_of_length_le (by simp)
 have h10:∀ σ',(l.map f).map (frozen σ')=l.map f:=fun σ'=>by
  rw[List.map_map];exact List.map_congr_left fun y _=>Fx.fx false false 0 σ' 17 y
 simp only[freshOf,h,h9,h10,frsAt]
 simp
theorem w64{n:Int}(h1:-9223372036854775808≤n)(h2:n < 9223372036854775808):IntKind.i64.wrap n=n:=wrap64_id ⟨h1,h2⟩
abbrev Still(f:AVal):Prop:=∀ σ,fz true false 0 σ 20 f=f
def ixF{α:Type}(p:α→Bool)(l:List α):Int:=if l.any p then ((l.findIdx p:Nat):Int) else -1
theorem Index_int_int{α:Type}{enc:α→AVal}{b:Bool}{l:List α}{f:AVal}{p:α→Bool}(hn:l.length≤most)(he:∀ y,ncells (enc y)=1∧isAgg (enc y)=false)(hs:Still f)
  (h:∀ y∈l,acallV code f [enc y] []=some (.bool (p y),[])):pcall I.qgk [.imm b (l.map enc),f]=some (.int .i64 (ixF p l)):=by
 rw[pcall_eq c_qgk rfl]
 have hs0:=hs []
 have hstep:∀ k,k < l.length→∀ y,l[k]?=some y→p y=false→thenLoop 0 [2,3,6,7] l_qgk_0 (run code l_qgk_0 ⟨[.imm b (l.map enc),f,.any,.any,.int .i64 l.length,.int .i64 k,.any,.any],[]⟩) =
   rounds code 0 [2,3,6,7] l_qgk_0 ⟨[.imm b (l.map enc),f,.any,.any,.int .i64 l.length,.int .i64 (k+1:Nat),.any,.any],[]⟩:=fun k hk y hy hp=>by
  have h2:=he y
  have h3:=h y (List.mem_of_getElem? hy)
  rw[hp]at h3
  have hlt:((k:Int) < (l.length:Int)):=by omega
  simp[l_qgk_0,hy,h2,h3,hlt,wrap_lt hk hn,roundEnd_same]
 unfold ixF
 by_cases ha:l.any p=true
 ·have hlt:=List.findIdx_lt_length_of_exists (List.any_eq_true.1 ha)
  have hp:p l[l.findIdx p]=true:=List.findIdx_getElem (w:=hlt)
  have hloop:=rounds_iter (base:=0) (clr:=[2,3,6,7]) (b:=l_qgk_0) (fun k=>⟨[.imm b (l.map enc),f,.any,.any,.int .i64 l.length,.int .i64 k,.any,.any],[]⟩) (l.findIdx p)
   (.ret,⟨[.imm b (l.map enc),f,.int .i64 (l.findIdx p),.int .i64 (l.findIdx p),.int .i64 l.length,.int .i64 (l.findIdx p),.bool true,.bool true],[]⟩)
   (fun k hk=>hstep k (by omega) _ (List.getElem?_eq_getElem (by omega)) (by simpa using List.not_of_lt_findIdx hk))
   (by
    have h1:l[l.findIdx p]?=some l[l.findIdx p]:=List.getElem?_eq_getElem hlt
    have h2:=he l[l.findIdx p]
    have h3:=h _ (List.getElem_mem hlt)
    rw[hp]at h3
    have hlt':((l.findIdx p:Int) < (l.length:Int)):=by omega
    simp[l_qgk_0,h1,h2,h3,hlt'])
  simp at hloop
  simp[f_qgk,b_qgk,hs0,hloop,ha]
 ·have hall:∀ y∈l,p y=false:=fun y hy=>by simpa using List.any_eq_false.1 (Bool.not_eq_true _ ▸ ha) y hy
  have hloop:=rounds_iter (base:=0) (clr:=[2,3,6,7]) (b:=l_qgk_0) (fun k=>⟨[.imm b (l.map enc),f,.any,.any,.int .i64 l.length,.int .i64 k,.any,.any],[]⟩) l.length
   (.ext 0,⟨[.imm b (l.map enc),f,.any,.any,.int .i64 l.length,.int .i64 l.length,.bool false,.any],[]⟩)
   (fun k hk=>hstep k hk _ (List.getElem?_eq_getElem hk) (hall _ (List.getElem_mem hk)))
   (by simp[l_qgk_0])
  simp at hloop
  simp[f_qgk,b_qgk,hs0,hloop,ha]
theorem Contains_int_int{α:Type}{enc:α→AVal}{b:Bool}{l:List α}{f:AVal}{p:α→Bool}(hn:l.length≤most)(he:∀ y,ncells (enc y)=1∧isAgg (enc y)=false)(hs:Still f)
  (h:∀ y∈l,acallV code f [enc y] []=some (.bool (p y),[])):pcall I.qfy [.imm b (l.map enc),f]=some (.bool (l.any p)):=by
 rw[pcall_eq c_qfy rfl]
 have h:=Index_int_int (b:=b) hn he hs h
 have hs0:=hs []
 unfold ixF at h
 cases ha:l.any p<;>rw[ha]at h<;>simp[f_qfy,b_qfy,hs0,h]
theorem Index_api_Ord_api_Ord{α:Type}{enc:α→AVal}{b:Bool}{l:List α}{f:AVal}{p:α→Bool}(hn:l.length≤most)(he:∀ y,ncells (enc y)=2∧isAgg (enc y)=true)(hs:Still f)
  (h:∀ y∈l,acallV code f [enc y] []=some (.bool (p y),[])):pcall I.qgg [.imm b (l.map enc),f]=some (.int .i64 (ixF p l)):=by
 rw[pcall_eq c_qgg rfl]
 have hs0:=hs []
 have hstep:∀ k,k < l.length→∀ y,l[k]?=some y→p y=false→thenLoop 0 [2,3,6,7] l_qgg_0 (run code l_qgg_0 ⟨[.imm b (l.map enc),f,.any,.any,.int .i64 l.length,.int .i64 k,.any,.any],[]⟩) =
   rounds code 0 [2,3,6,7] l_qgg_0 ⟨[.imm b (l.map enc),f,.any,.any,.int .i64 l.length,.int .i64 (k+1:Nat),.any,.any],[]⟩:=fun k hk y hy hp=>by
  have h2:=he y
  have h3:=h y (List.mem_of_getElem? hy)
  rw[hp]at h3
  have hlt:((k:Int) < (l.length:Int)):=by omega
  simp[l_qgg_0,hy,h2,h3,hlt,wrap_lt hk hn,roundEnd_same]
 unfold ixF
 by_cases ha:l.any p=true
 ·have hlt:=List.findIdx_lt_length_of_exists (List.any_eq_true.1 ha)
  have hp:p l[l.findIdx p]=true:=List.findIdx_getElem (w:=hlt)
  have hloop:=rounds_iter (base:=0) (clr:=[2,3,6,7]) (b:=l_qgg_0) (fun k=>⟨[.imm b (l.map enc),f,.any,.any,.int .i64 l.length,.int .i64 k,.any,.any],[]⟩) (l.findIdx p)
   (.ret,⟨[.imm b (l.map enc),f,.int .i64 (l.findIdx p),.int .i64 (l.findIdx p),.int .i64 l.length,.int .i64 (l.findIdx p),.bool true,.bool true],[]⟩)
   (fun k hk=>hstep k (by omega) _ (List.getElem?_eq_getElem (by omega)) (by simpa using List.not_of_lt_findIdx hk))
   (by
    have h1:l[l.findIdx p]?=some l[l.findIdx p]:=List.getElem?_eq_getElem hlt
    have h2:=he l[l.findIdx p]
    have h3:=h _ (List.getElem_mem hlt)
    rw[hp]at h3
    have hlt':((l.findIdx p:Int) < (l.length:Int)):=by omega
    simp[l_qgg_0,h1,h2,h3,hlt'])
  simp at hloop
  simp[f_qgg,b_qgg,hs0,hloop,ha]
 ·have hall:∀ y∈l,p y=false:=fun y hy=>by simpa using List.any_eq_false.1 (Bool.not_eq_true _ ▸ ha) y hy
  have hloop:=rounds_iter (base:=0) (clr:=[2,3,6,7]) (b:=l_qgg_0) (fun k=>⟨[.imm b (l.map enc),f,.any,.any,.int .i64 l.length,.int .i64 k,.any,.any],[]⟩) l.length
   (.ext 0,⟨[.imm b (l.map enc),f,.any,.any,.int .i64 l.length,.int .i64 l.length,.bool false,.any],[]⟩)
   (fun k hk=>hstep k hk _ (List.getElem?_eq_getElem hk) (hall _ (List.getElem_mem hk)))
   (by simp[l_qgg_0])
  simp at hloop
  simp[f_qgg,b_qgg,hs0,hloop,ha]
theorem Contains_api_Ord_api_Ord{α:Type}{enc:α→AVal}{b:Bool}{l:List α}{f:AVal}{p:α→Bool}(hn:l.length≤most)(he:∀ y,ncells (enc y)=2∧isAgg (enc y)=true)(hs:Still f)
  (h:∀ y∈l,acallV code f [enc y] []=some (.bool (p y),[])):pcall I.qfu [.imm b (l.map enc),f]=some (.bool (l.any p)):=by
 rw[pcall_eq c_qfu rfl]
 have h:=Index_api_Ord_api_Ord (b:=b) hn he hs h
 have hs0:=hs []
 unfold ixF at h
 cases ha:l.any p<;>rw[ha]at h<;>simp[f_qfu,b_qfu,hs0,h]
theorem Index_api_Row_api_Row{α:Type}{enc:α→AVal}{b:Bool}{l:List α}{f:AVal}{p:α→Bool}(hn:l.length≤most)(he:∀ y,ncells (enc y)=1∧isAgg (enc y)=false)(hs:Still f)
  (h:∀ y∈l,acallV code f [enc y] []=some (.bool (p y),[])):pcall I.qgh [.imm b (l.map enc),f]=some (.int .i64 (ixF p l)):=by
 rw[pcall_eq c_qgh rfl]
 have hs0:=hs []
 have hstep:∀ k,k < l.length→∀ y,l[k]?=some y→p y=false→thenLoop 0 [2,3,6,7] l_qgh_0 (run code l_qgh_0 ⟨[.imm b (l.map enc),f,.any,.any,.int .i64 l.length,.int .i64 k,.any,.any],[]⟩) =
   rounds code 0 [2,3,6,7] l_qgh_0 ⟨[.imm b (l.map enc),f,.any,.any,.int .i64 l.length,.int .i64 (k+1:Nat),.any,.any],[]⟩:=fun k hk y hy hp=>by
  have h2:=he y
  have h3:=h y (List.mem_of_getElem? hy)
  rw[hp]at h3
  have hlt:((k:Int) < (l.length:Int)):=by omega
  simp[l_qgh_0,hy,h2,h3,hlt,wrap_lt hk hn,roundEnd_same]
 unfold ixF
 by_cases ha:l.any p=true
 ·have hlt:=List.findIdx_lt_length_of_exists (List.any_eq_true.1 ha)
  have hp:p l[l.findIdx p]=true:=List.findIdx_getElem (w:=hlt)
  have hloop:=rounds_iter (base:=0) (clr:=[2,3,6,7]) (b:=l_qgh_0) (fun k=>⟨[.imm b (l.map enc),f,.any,.any,.int .i64 l.length,.int .i64 k,.any,.any],[]⟩) (l.findIdx p)
   (.ret,⟨[.imm b (l.map enc),f,.int .i64 (l.findIdx p),.int .i64 (l.findIdx p),.int .i64 l.length,.int .i64 (l.findIdx p),.bool true,.bool true],[]⟩)
   (fun k hk=>hstep k (by omega) _ (List.getElem?_eq_getElem (by omega)) (by simpa using List.not_of_lt_findIdx hk))
   (by
    have h1:l[l.findIdx p]?=some l[l.findIdx p]:=List.getElem?_eq_getElem hlt
    have h2:=he l[l.findIdx p]
    have h3:=h _ (List.getElem_mem hlt)
    rw[hp]at h3
    have hlt':((l.findIdx p:Int) < (l.length:Int)):=by omega
    simp[l_qgh_0,h1,h2,h3,hlt'])
  simp at hloop
  simp[f_qgh,b_qgh,hs0,hloop,ha]
 ·have hall:∀ y∈l,p y=false:=fun y hy=>by simpa using List.any_eq_false.1 (Bool.not_eq_true _ ▸ ha) y hy
  have hloop:=rounds_iter (base:=0) (clr:=[2,3,6,7]) (b:=l_qgh_0) (fun k=>⟨[.imm b (l.map enc),f,.any,.any,.int .i64 l.length,.int .i64 k,.any,.any],[]⟩) l.length
   (.ext 0,⟨[.imm b (l.map enc),f,.any,.any,.int .i64 l.length,.int .i64 l.length,.bool false,.any],[]⟩)
   (fun k hk=>hstep k hk _ (List.getElem?_eq_getElem hk) (hall _ (List.getElem_mem hk)))
   (by simp[l_qgh_0])
  simp at hloop
  simp[f_qgh,b_qgh,hs0,hloop,ha]
theorem Contains_api_Row_api_Row{α:Type}{enc:α→AVal}{b:Bool}{l:List α}{f:AVal}{p:α→Bool}(hn:l.length≤most)(he:∀ y,ncells (enc y)=1∧isAgg (enc y)=false)(hs:Still f)
  (h:∀ y∈l,acallV code f [enc y] []=some (.bool (p y),[])):pcall I.qfv [.imm b (l.map enc),f]=some (.bool (l.any p)):=by
 rw[pcall_eq c_qfv rfl]
 have h:=Index_api_Row_api_Row (b:=b) hn he hs h
 have hs0:=hs []
 unfold ixF at h
 cases ha:l.any p<;>rw[ha]at h<;>simp[f_qfv,b_qfv,hs0,h]
theorem Index_api_Value_api_Value{α:Type}{enc:α→AVal}{b:Bool}{l:List α}{f:AVal}{p:α→Bool}(hn:l.length≤most)(he:∀ y,ncells (enc y)=4∧isAgg (enc y)=true)(hs:Still f)
  (h:∀ y∈l,acallV code f [enc y] []=some (.bool (p y),[])):pcall I.qgj [.imm b (l.map enc),f]=some (.int .i64 (ixF p l)):=by
 rw[pcall_eq c_qgj rfl]
 have hs0:=hs []
 have hstep:∀ k,k < l.length→∀ y,l[k]?=some y→p y=false→thenLoop 0 [2,3,6,7] l_qgj_0 (run code l_qgj_0 ⟨[.imm b (l.map enc),f,.any,.any,.int .i64 l.length,.int .i64 k,.any,.any],[]⟩) =
   rounds code 0 [2,3,6,7] l_qgj_0 ⟨[.imm b (l.map enc),f,.any,.any,.int .i64 l.length,.int .i64 (k+1:Nat),.any,.any],[]⟩:=fun k hk y hy hp=>by
  have h2:=he y
  have h3:=h y (List.mem_of_getElem? hy)
  rw[hp]at h3
  have hlt:((k:Int) < (l.length:Int)):=by omega
  simp[l_qgj_0,hy,h2,h3,hlt,wrap_lt hk hn,roundEnd_same]
 unfold ixF
 by_cases ha:l.any p=true
 ·have hlt:=List.findIdx_lt_length_of_exists (List.any_eq_true.1 ha)
  have hp:p l[l.findIdx p]=true:=List.findIdx_getElem (w:=hlt)
  have hloop:=rounds_iter (base:=0) (clr:=[2,3,6,7]) (b:=l_qgj_0) (fun k=>⟨[.imm b (l.map enc),f,.any,.any,.int .i64 l.length,.int .i64 k,.any,.any],[]⟩) (l.findIdx p)
   (.ret,⟨[.imm b (l.map enc),f,.int .i64 (l.findIdx p),.int .i64 (l.findIdx p),.int .i64 l.length,.int .i64 (l.findIdx p),.bool true,.bool true],[]⟩)
   (fun k hk=>hstep k (by omega) _ (List.getElem?_eq_getElem (by omega)) (by simpa using List.not_of_lt_findIdx hk))
   (by
    have h1:l[l.findIdx p]?=some l[l.findIdx p]:=List.getElem?_eq_getElem hlt
    have h2:=he l[l.findIdx p]
    have h3:=h _ (List.getElem_mem hlt)
    rw[hp]at h3
    have hlt':((l.findIdx p:Int) < (l.length:Int)):=by omega
    simp[l_qgj_0,h1,h2,h3,hlt'])
  simp at hloop
  simp[f_qgj,b_qgj,hs0,hloop,ha]
 ·have hall:∀ y∈l,p y=false:=fun y hy=>by simpa using List.any_eq_false.1 (Bool.not_eq_true _ ▸ ha) y hy
  have hloop:=rounds_iter (base:=0) (clr:=[2,3,6,7]) (b:=l_qgj_0) (fun k=>⟨[.imm b (l.map enc),f,.any,.any,.int .i64 l.length,.int .i64 k,.any,.any],[]⟩) l.length
   (.ext 0,⟨[.imm b (l.map enc),f,.any,.any,.int .i64 l.length,.int .i64 l.length,.bool false,.any],[]⟩)
   (fun k hk=>hstep k hk _ (List.getElem?_eq_getElem hk) (hall _ (List.getElem_mem hk)))
   (by simp[l_qgj_0])
  simp at hloop
  simp[f_qgj,b_qgj,hs0,hloop,ha]
theorem Contains_api_Value_api_Value{α:Type}{enc:α→AVal}{b:Bool}{l:List α}{f:AVal}{p:α→Bool}(hn:l.length≤most)(he:∀ y,ncells (enc y)=4∧isAgg (enc y)=true)(hs:Still f)
  (h:∀ y∈l,acallV code f [enc y] []=some (.bool (p y),[])):pcall I.qfx [.imm b (l.map enc),f]=some (.bool (l.any p)):=by
 rw[pcall_eq c_qfx rfl]
 have h:=Index_api_Value_api_Value (b:=b) hn he hs h
 have hs0:=hs []
 unfold ixF at h
 cases ha:l.any p<;>rw[ha]at h<;>simp[f_qfx,b_qfx,hs0,h]
theorem Clone_int_int{α:Type}{enc:α→AVal}[Nc enc 1 false][Fx enc](b:Bool)(l:List α)(hn:l.length≤most):pcall I.qfn [.imm b (l.map enc)]=some (.frs 1 (l.map enc)):=by
 cases l with
 | nil=>cases b<;>exact pcall_from (n:=20) (σ:=[]) (by kernel_rfl)
 | cons v r=>
  have hall:=all_nc (f:=enc) (v::r)
  have hl:((v::r).map enc).length=r.length+1:=by simp
  have hne:emptyS [] (.imm b ((v::r).map enc))=false:=rfl
  unfold pcall
  rw[acall_nilfn good c_qfn,hne]
  simp only[Bool.false_eq_true,if_false]
  unfold acallG
  have hn':r.length+1≤most:=by simpa using hn
  have hnil:nilsV false [] (.imm b ((v::r).map enc))=some (.bool false):=rfl
  have hf:=fresh_map (f:=enc) (v::r) 0 0 [.arr 1 0 ((v::r).map enc)] rfl
  have hx:(v::r).map enc≠[]:=by simp
  have hy:∀ x,x∈(v::r).map enc→ncells x=1:=fun x hx=>by simpa using List.all_eq_true.1 hall x hx
  have ht:((v::r).map enc).take (r.length+1)=(v::r).map enc:=List.take_of_length_le (by simp)
  simp only[List.length_cons]at hf
  generalize (v::r).map enc=xs at *
  simp[f_qfn,b_qfn,enter,leave,append,hall,hl,hn',-nilsV,hnil,hx]
  rw[if_pos hy]
  simp[leave]
  exact hf
@[simp] theorem aClone_int_int{α:Type}{enc:α→AVal}[Nc enc 1 false][Fx enc](b:Bool)(l:List α)(hn:l.length≤most)(σ:Store):acall code I.qfn [.imm b (l.map enc)] σ=some (.frs 1 (l.map enc),σ):=by
 rw[acall_nil c_qfn rfl,Clone_int_int b l hn];rfl
theorem Clone_api_Row_api_Row{α:Type}{enc:α→AVal}[Nc enc 1 false][Fx enc](b:Bool)(l:List α)(hn:l.length≤most):pcall I.qfk [.imm b (l.map enc)]=some (.frs 1 (l.map enc)):=by
 cases l with
 | nil=>cases b<;>exact pcall_from (n:=20) (σ:=[]) (by kernel_rfl)
 | cons v r=>
  have hall:=all_nc (f:=enc) (v::r)
  have hl:((v::r).map enc).length=r.length+1:=by simp
  have hne:emptyS [] (.imm b ((v::r).map enc))=false:=rfl
  unfold pcall
  rw[acall_nilfn good c_qfk,hne]
  simp only[Bool.false_eq_true,if_false]
  unfold acallG
  have hn':r.length+1≤most:=by simpa using hn
  have hnil:nilsV false [] (.imm b ((v::r).map enc))=some (.bool false):=rfl
  have hf:=fresh_map (f:=enc) (v::r) 0 0 [.arr 1 0 ((v::r).map enc)] rfl
  have hx:(v::r).map enc≠[]:=by simp
  have hy:∀ x,x∈(v::r).map enc→ncells x=1:=fun x hx=>by simpa using List.all_eq_true.1 hall x hx
  have ht:((v::r).map enc).take (r.length+1)=(v::r).map enc:=List.take_of_length_le (by simp)
  simp only[List.length_cons]at hf
  generalize (v::r).map enc=xs at *
  simp[f_qfk,b_qfk,enter,leave,append,hall,hl,hn',-nilsV,hnil,hx]
  rw[if_pos hy]
  simp[leave]
  exact hf
@[simp] theorem aClone_api_Row_api_Row{α:Type}{enc:α→AVal}[Nc enc 1 false][Fx enc](b:Bool)(l:List α)(hn:l.length≤most)(σ:Store):acall code I.qfk [.imm b (l.map enc)] σ=some (.frs 1 (l.map enc),σ):=by
 rw[acall_nil c_qfk rfl,Clone_api_Row_api_Row b l hn];rfl
theorem Clone_api_Row_api_Value{α:Type}{enc:α→AVal}[Nc enc 4 true][Fx enc](b:Bool)(l:List α)(hn:l.length≤most):pcall I.qfl [.imm b (l.map enc)]=some (.frs 4 (l.map enc)):=by
 cases l with
 | nil=>cases b<;>exact pcall_from (n:=20) (σ:=[]) (by kernel_rfl)
 | cons v r=>
  have hall:=all_nc (f:=enc) (v::r)
  have hl:((v::r).map enc).length=r.length+1:=by simp
  have hne:emptyS [] (.imm b ((v::r).map enc))=false:=rfl
  unfold pcall
  rw[acall_nilfn good c_qfl,hne]
  simp only[Bool.false_eq_true,if_false]
  unfold acallG
  have hn':r.length+1≤most:=by simpa using hn
  have hnil:nilsV false [] (.imm b ((v::r).map enc))=some (.bool false):=rfl
  have hf:=fresh_map (f:=enc) (v::r) 0 0 [.arr 4 0 ((v::r).map enc)] rfl
  have hx:(v::r).map enc≠[]:=by simp
  have hy:∀ x,x∈(v::r).map enc→ncells x=4:=fun x hx=>by simpa using List.all_eq_true.1 hall x hx
  have ht:((v::r).map enc).take (r.length+1)=(v::r).map enc:=List.take_of_length_le (by simp)
  simp only[List.length_cons]at hf
  generalize (v::r).map enc=xs at *
  simp[f_qfl,b_qfl,enter,leave,append,hall,hl,hn',-nilsV,hnil,hx]
  rw[if_pos hy]
  simp[leave]
  exact hf
@[simp] theorem aClone_api_Row_api_Value{α:Type}{enc:α→AVal}[Nc enc 4 true][Fx enc](b:Bool)(l:List α)(hn:l.length≤most)(σ:Store):acall code I.qfl [.imm b (l.map enc)] σ=some (.frs 4 (l.map enc),σ):=by
 rw[acall_nil c_qfl rfl,Clone_api_Row_api_Value b l hn];rfl
theorem Clone_api_Value_api_Value{α:Type}{enc:α→AVal}[Nc enc 4 true][Fx enc](b:Bool)(l:List α)(hn:l.length≤most):pcall I.qfm [.imm b (l.map enc)]=some (.frs 4 (l.map enc)):=by
 cases l with
 | nil=>cases b<;>exact pcall_from (n:=20) (σ:=[]) (by kernel_rfl)
 | cons v r=>
  have hall:=all_nc (f:=enc) (v::r)
  have hl:((v::r).map enc).length=r.length+1:=by simp
  have hne:emptyS [] (.imm b ((v::r).map enc))=false:=rfl
  unfold pcall
  rw[acall_nilfn good c_qfm,hne]
  simp only[Bool.false_eq_true,if_false]
  unfold acallG
  have hn':r.length+1≤most:=by simpa using hn
  have hnil:nilsV false [] (.imm b ((v::r).map enc))=some (.bool false):=rfl
  have hf:=fresh_map (f:=enc) (v::r) 0 0 [.arr 4 0 ((v::r).map enc)] rfl
  have hx:(v::r).map enc≠[]:=by simp
  have hy:∀ x,x∈(v::r).map enc→ncells x=4:=fun x hx=>by simpa using List.all_eq_true.1 hall x hx
  have ht:((v::r).map enc).take (r.length+1)=(v::r).map enc:=List.take_of_length_le (by simp)
  simp only[List.length_cons]at hf
  generalize (v::r).map enc=xs at *
  simp[f_qfm,b_qfm,enter,leave,append,hall,hl,hn',-nilsV,hnil,hx]
  rw[if_pos hy]
  simp[leave]
  exact hf
@[simp] theorem aClone_api_Value_api_Value{α:Type}{enc:α→AVal}[Nc enc 4 true][Fx enc](b:Bool)(l:List α)(hn:l.length≤most)(σ:Store):acall code I.qfm [.imm b (l.map enc)] σ=some (.frs 4 (l.map enc),σ):=by
 rw[acall_nil c_qfm rfl,Clone_api_Value_api_Value b l hn];rfl
theorem Concat_int_int{α:Type}{enc:α→AVal}[Nc enc 1 false][Fx enc](b:Bool)(ls:List (SlX α))(hn:(ls.flatMap (·.l)).length≤most)(hl:ls.length≤most) :
  pcall I.qft [.imm b (ls.map (SlX.c enc))]=some (.imm false ((ls.flatMap (·.l)).map enc)):=by
 rw[pcall_eq c_qft rfl]
 have hsum0:∀ (r:List (SlX α)) (k:Nat),ls.drop k=r→(ls.flatMap (·.l)).length=((ls.take k).flatMap (·.l)).length+(r.flatMap (·.l)).length:=fun r k h=>by
  have:=congrArg (fun x=>(x.flatMap (fun (s:SlX α)=>s.l)).length) (List.take_append_drop k ls)
  simp only[List.flatMap_append,List.length_append,h]at this
  omega
 generalize hF:ls.flatMap (·.l)=F at *
 have hn':F.length≤68719476736:=hn
 have hsum:=hsum0
 have h1:∀ (r:List (SlX α)) (k:Nat),ls.drop k=r→k≤ls.length→rounds code 0 [3,9,10] l_qft_1 ⟨[.imm b (ls.map (SlX.c enc)),.nil0,.int .i64 (((ls.take k).flatMap (·.l)).length:Nat),.any,.any,.any,.imm b (ls.map (SlX.c enc)),.int .i64 ls.length,.int .i64 k,.any,.any,.any,.any,.any,.any],[]⟩ =
   some (.ext 0,⟨[.imm b (ls.map (SlX.c enc)),.nil0,.int .i64 (F.length:Nat),.any,.any,.any,.imm b (ls.map (SlX.c enc)),.int .i64 ls.length,.int .i64 ls.length,.bool false,.any,.any,.any,.any,.any],[]⟩):=by
  intro r
  induction r with
  | nil=>
   intro k hd hk
   have:k=ls.length:=by
    have:=congrArg List.length hd
    simp at this;omega
   subst this
   rw[rounds_go0,List.take_length,hF]
   simp[l_qft_1]
  | cons y r ih=>
   intro k hd hk
   have hlt:k < ls.length:=by
    have:=congrArg List.length hd
    simp at this;omega
   have hy:ls[k]?=some y:=by
    have:=congrArg (·[0]?) hd
    simpa using this
   have hr:ls.drop (k+1)=r:=by
    have:=congrArg List.tail hd
    simpa [List.tail_drop] using this
   have hi:((k:Int) < (ls.length:Int)):=by omega
   have hs1:=hsum r (k+1) hr
   have ht:((ls.take (k+1)).flatMap (·.l)).length=((ls.take k).flatMap (·.l)).length+y.l.length:=by
    rw[List.take_add_one,hy];simp
   have ih:=ih (k+1) hr (by omega)
   rw[ht]at ih hs1
   generalize ((ls.take k).flatMap (·.l)).length=s at *
   have w:=w64 (n:=(s:Int)+(y.l.length:Int)) (by omega) (by omega)
   have hneg:¬((s:Int)+(y.l.length:Int) < 0):=by omega
   rw[rounds_go0,← ih]
   simp[l_qft_1,hi,hy,w,hneg,wrap_lt hlt hl,roundEnd_same]
 have h1:=h1 ls 0 (by simp) (by simp)
 simp at h1
 have h2:∀ (r:List (SlX α)) (k ep:Nat) (es:List AVal),ls.drop k=r→k≤ls.length→es.take ((ls.take k).flatMap (·.l)).length=((ls.take k).flatMap (·.l)).map enc→((ls.take k).flatMap (·.l)).length≤es.length→∃ ep' es',es'.take F.length=F.map enc∧F.length≤es'.length ∧
   rounds code 1 [5,14] l_qft_0 ⟨[.imm b (ls.map (SlX.c enc)),.nil0,.int .i64 (F.length:Nat),.any,.sl 0 ep 0 ((ls.take k).flatMap (·.l)).length,.any,.imm b (ls.map (SlX.c enc)),.int .i64 ls.length,.int .i64 ls.length,.bool false,.any,.imm b (ls.map (SlX.c enc)),.int .i64 ls.length,.int .i64 k,.any],[.arr 1 ep es]⟩ =
   some (.ext 2,⟨[.imm b (ls.map (SlX.c enc)),.nil0,.int .i64 (F.length:Nat),.any,.sl 0 ep' 0 F.length,.any,.imm b (ls.map (SlX.c enc)),.int .i64 ls.length,.int .i64 ls.length,.bool false,.any,.imm b (ls.map (SlX.c enc)),.int .i64 ls.length,.int .i64 ls.length,.bool false],[.arr 1 ep' es']⟩):=by
  intro r
  induction r with
  | nil=>
   intro k ep es hd hk he hel
   have:k=ls.length:=by
    have:=congrArg List.length hd
    simp at this;omega
   subst this
   rw[List.take_length,hF]at he hel
   refine ⟨ep,es,he,hel,?_⟩
   rw[rounds_go0,List.take_length,hF]
   simp[l_qft_0]
  | cons y r ih=>
   intro k ep es hd hk he hel
   have hlt:k < ls.length:=by
    have:=congrArg List.length hd
    simp at this;omega
   have hy:ls[k]?=some y:=by
    have:=congrArg (·[0]?) hd
    simpa using this
   have hr:ls.drop (k+1)=r:=by
    have:=congrArg List.tail hd
    simpa [List.tail_drop] using this
   have hi:((k:Int) < (ls.length:Int)):=by omega
   have hs1:=hsum r (k+1) hr
   have hT:(ls.take (k+1)).flatMap (·.l)=(ls.take k).flatMap (·.l)++y.l:=by
    rw[List.take_add_one,hy];simp
   have ih:=fun ep es=>ih (k+1) ep es hr (by omega)
   rw[hT]at ih hs1
   generalize (ls.take k).flatMap (·.l)=s at *
   rw[List.length_append]at hs1
   by_cases hy0:y.l=[]
   ·rw[hy0,List.append_nil]at ih
    obtain ⟨ep',es',q1,q2,q3⟩:=ih ep es he hel
    refine ⟨ep',es',q1,q2,?_⟩
    rw[rounds_go0,← q3]
    simp[l_qft_0,hi,hy,hy0,append,wrap_lt hlt hl,roundEnd_same]
   ·obtain ⟨ep',es',q1,q2,q3⟩:=ih (ep+1) (s.map enc++y.l.map enc) (by rw[← List.map_append];exact List.take_of_length_le (by simp)) (by simp)
    refine ⟨ep',es',q1,q2,?_⟩
    have hm:s.length+y.l.length≤most:=by unfold most;omega
    have hall:∀ x∈y.l,ncells (enc x)=1:=fun x _=>Nc.nc x
    rw[List.length_append]at q3
    rw[rounds_go0,← q3]
    simp[l_qft_0,hi,hy,hy0,append,hel,he,hm,wrap_lt hlt hl,roundEnd_same]
    rw[if_pos hall]
    simp[roundEnd_same,wrap_lt hlt hl]
 have hgrow:0 < F.length→acall code I.qgf [.nil0,.int .i64 (F.length:Nat)] []=some (.sl 0 0 0 0,[.arr 1 0 (List.replicate F.length (.int .i64 0))]):=fun h0=>by
  rw[acall_keep c_qgf rfl]
  generalize F.length=n at *
  have e1:¬((n:Int) < 0):=by omega
  have e2:(0:Int) < (n:Int):=by omega
  have e3:=w64 (n:=(n:Int)) (by omega) (by omega)
  have e4:IntKind.i64.wrap 0=0:=rfl
  simp[f_qgf,b_qgf,e1,e2,e3,e4,append,hn,h0,show ¬n=0 by omega,show (n:Int).toNat=n by omega]
 have hgrow0:acall code I.qgf [.nil0,.int .i64 0] []=some (.nil0,[]):=by
  rw[acall_keep c_qgf rfl]
  have e4:IntKind.i64.wrap 0=0:=rfl
  simp[f_qgf,b_qgf,e4]
 by_cases h0:F.length=0
 ·have h3:∀ (r:List (SlX α)) (k:Nat),ls.drop k=r→k≤ls.length→rounds code 0 [5,14] l_qft_0 ⟨[.imm b (ls.map (SlX.c enc)),.nil0,.int .i64 0,.any,.nil0,.any,.imm b (ls.map (SlX.c enc)),.int .i64 ls.length,.int .i64 ls.length,.bool false,.any,.imm b (ls.map (SlX.c enc)),.int .i64 ls.length,.int .i64 k,.any],[]⟩ =
    some (.ext 2,⟨[.imm b (ls.map (SlX.c enc)),.nil0,.int .i64 0,.any,.nil0,.any,.imm b (ls.map (SlX.c enc)),.int .i64 ls.length,.int .i64 ls.length,.bool false,.any,.imm b (ls.map (SlX.c enc)),.int .i64 ls.length,.int .i64 ls.length,.bool false],[]⟩):=by
   intro r
   induction r with
   | nil=>
    intro k hd hk
    have:k=ls.length:=by
     have:=congrArg List.length hd
     simp at this;omega
    subst this
    rw[rounds_go0]
    simp[l_qft_0]
   | cons y r ih=>
    intro k hd hk
    have hlt:k < ls.length:=by
     have:=congrArg List.length hd
     simp at this;omega
    have hy:ls[k]?=some y:=by
     have:=congrArg (·[0]?) hd
     simpa using this
    have hr:ls.drop (k+1)=r:=by
     have:=congrArg List.tail hd
     simpa [List.tail_drop] using this
    have hi:((k:Int) < (ls.length:Int)):=by omega
    have hy0:y.l=[]:=by
     have h':=List.eq_nil_of_length_eq_zero h0
     rw[← hF,List.flatMap_eq_nil_iff]at h'
     exact h' y (List.mem_of_getElem? hy)
    rw[rounds_go0,← ih (k+1) hr (by omega)]
    simp[l_qft_0,hi,hy,hy0,append,wrap_lt hlt hl,roundEnd_same]
  have h3:=h3 ls 0 (by simp) (by simp)
  simp at h3
  have h0':=List.eq_nil_of_length_eq_zero h0
  subst h0'
  simp at h1
  simp[f_qft,b_qft,h1,h3,hgrow0]
 ·obtain ⟨ep,es,q1,q2,q3⟩:=h2 ls 0 0 (List.replicate F.length (.int .i64 0)) (by simp) (by simp) (by simp) (by simp)
  have hg:=hgrow (by omega)
  simp at q3
  simp[f_qft,b_qft,h1,hg,q3,q1,q2]
  exact fun y _=>by rw[Fx.fx]
end Go.AM
end
section
namespace Go.AM
open P
set_option maxHeartbeats 2000000
set_option maxRecDepth 4000
@[simp] theorem rowsV_take(rs:List (List AVal)):(rowsV rs).take rs.length=rowsV rs:=List.take_of_length_le (by simp)
@[simp] theorem rowsV_drop(rs:List (List AVal)):(rowsV rs).drop rs.length=[]:=List.drop_of_length_le (by simp)
end Go.AM
end
section
namespace Go.AM
open P
set_option maxHeartbeats 8000000
set_option maxRecDepth 8000
attribute [local simp] condRun_if when_if
def rowX(r:List Val):AVal:=.imm false (r.map Val.a)
instance:Nc rowX 1 false:=⟨fun _=>rfl,fun _=>rfl⟩
instance:Fx rowX:=⟨fun fl top base σ n y=>by simp[rowX]⟩
@[simp] theorem rowX_nc(r:List Val):ncells (rowX r)=1:=rfl
@[simp] theorem rowX_agg(r:List Val):isAgg (rowX r)=false:=rfl
@[simp] theorem rowX_fz(r:List Val)(fl top:Bool)(base:Nat)(σ:Store)(n:Nat):fz fl top base σ (n+3) (rowX r)=rowX r:=Fx.fx fl top base σ n r
instance:Nc (SlX.c rowX) 1 false:=⟨fun _=>rfl,fun _=>rfl⟩
theorem rowsA_X(rs:List (List Val)):rowsA false rs=rs.map rowX:=rfl
theorem right_X(r:List Val):pcall I.qfd [rowX r]=some (.bool (okR r)):=right_spec false r
theorem lists_inner(c:Bool)(Ls:List (SlX (List Val)))(m:Int)(j:Nat)(s:SlX (List Val))(hn:s.l.length≤8000)(hr:∀ r∈s.l,okR r=true) :
  rounds code 0 [1,4,12,13] l_qfb_0 ⟨[.imm c (Ls.map (SlX.c rowX)),.any,.int .i64 m,.imm s.b (s.l.map rowX),.any,.imm c (Ls.map (SlX.c rowX)),.int .i64 Ls.length,.int .i64 j,.bool true,.imm s.b (s.l.map rowX),.int .i64 s.l.length,.int .i64 0,.any,.any,.any],[]⟩ =
  some (.ext 2,⟨[.imm c (Ls.map (SlX.c rowX)),.any,.int .i64 m,.imm s.b (s.l.map rowX),.any,.imm c (Ls.map (SlX.c rowX)),.int .i64 Ls.length,.int .i64 j,.bool true,.imm s.b (s.l.map rowX),.int .i64 s.l.length,.int .i64 s.l.length,.bool false,.any,.any],[]⟩):=by
 have hm:s.l.length≤most:=by unfold most;omega
 have h:=rounds_fold (base:=0) (clr:=[1,4,12,13]) (b:=l_qfb_0) s.l (fun k (_:Unit)=>⟨[.imm c (Ls.map (SlX.c rowX)),.any,.int .i64 m,.imm s.b (s.l.map rowX),.any,.imm c (Ls.map (SlX.c rowX)),.int .i64 Ls.length,.int .i64 j,.bool true,.imm s.b (s.l.map rowX),.int .i64 s.l.length,.int .i64 k,.any,.any,.any],[]⟩)
  (fun _ _=>True) (fun _ _=>()) (fun _=>(.ext 2,⟨[.imm c (Ls.map (SlX.c rowX)),.any,.int .i64 m,.imm s.b (s.l.map rowX),.any,.imm c (Ls.map (SlX.c rowX)),.int .i64 Ls.length,.int .i64 j,.bool true,.imm s.b (s.l.map rowX),.int .i64 s.l.length,.int .i64 s.l.length,.bool false,.any,.any],[]⟩))
  (fun k y _ hk hy _=>by
   have hlt:((k:Int) < (s.l.length:Int)):=by omega
   have h2:=right_X y
   rw[hr y (List.mem_of_getElem? hy)]at h2
   simp[l_qfb_0,hlt,hy,h2,wrap_lt hk hm,roundEnd_same])
  (fun _ _=>by simp[l_qfb_0]) () trivial
 simpa using h.1
theorem lists_ok(c:Bool)(Ls:List (SlX (List Val)))(hl:Ls.length≤most)(hn:∀ s∈Ls,s.l.length≤8000)(hr:∀ s∈Ls,∀ r∈s.l,okR r=true) :
  pcall I.qfb [.imm c (Ls.map (SlX.c rowX))]=some (.int .i64 0):=by
 rw[pcall_eq c_qfb rfl]
 have h:=rounds_fold (base:=0) (clr:=[1,3,4,8,9,10,11,12,13]) (b:=l_qfb_1) Ls (fun k (m:Int)=>⟨[.imm c (Ls.map (SlX.c rowX)),.any,.int .i64 m,.any,.any,.imm c (Ls.map (SlX.c rowX)),.int .i64 Ls.length,.int .i64 k,.any,.any,.any,.any,.any,.any,.any],[]⟩)
  (fun _ m=>m≤8000) (fun m s=>if m < (s.l.length:Int) then (s.l.length:Int) else m) (fun m=>(.ext 0,⟨[.imm c (Ls.map (SlX.c rowX)),.any,.int .i64 m,.any,.any,.imm c (Ls.map (SlX.c rowX)),.int .i64 Ls.length,.int .i64 Ls.length,.bool false,.any,.any,.any,.any,.any,.any],[]⟩))
  (fun k s m hk hy hm=>by
   have hlt:((k:Int) < (Ls.length:Int)):=by omega
   have hs:=hn s (List.mem_of_getElem? hy)
   have hi:=lists_inner c Ls m k s hs (hr s (List.mem_of_getElem? hy))
   refine ⟨?_,by split<;>omega⟩
   simp[l_qfb_1,hlt,hy,hi,wrap_lt hk hl,roundEnd])
  (fun m _=>by simp[l_qfb_1]) 0 (by omega)
 obtain ⟨h1,h2⟩:=h
 generalize Ls.foldl (fun m s=>if m < (s.l.length:Int) then (s.l.length:Int) else m) 0=m at h1 h2
 simp at h1
 have h3:¬((8000:Int) < m):=by omega
 simp[f_qfb,b_qfb,h1,h3]
theorem rowA_ok{r:List Val}(h:okR r=true):RowOk (rowA r):=by
 have hl:r.length≤16:=by unfold okR at h;simp at h;exact h.1
 refine ⟨fun v hv=>?_,clone_spec false r (by unfold most;omega),?_⟩
 ·obtain ⟨x,_,rfl⟩:=List.mem_map.1 hv
  exact ⟨rfl,rfl,fun fl top base σ n=>a_fz x fl top base σ n⟩
 ·rw[right_spec,h]
theorem copies_X(b:Bool)(rs:List (List Val))(hn:rs.length≤most)(hr:∀ r∈rs,okR r=true):pcall I.qex [.imm b (rs.map rowX)]=some (.frs 1 (rs.map rowX)):=by
 have h:=copies_spec (b:=b) (rs:=rs.map rowA) (by simpa using hn) (fun r hr'=>by
  obtain ⟨x,hx,rfl⟩:=List.mem_map.1 hr'
  exact rowA_ok (hr x hx))
 have e:rowsV (rs.map rowA)=rs.map rowX:=by unfold rowsV;rw[List.map_map];rfl
 rw[e]at h
 exact h
theorem order_acallX(r q:List Val)(hr:r.length≤most):acall code 140 [.imm false (rowA r),.imm false (rowA q)] []=some (.int .i64 (cmpR r q),[]):=by
 have:=acall_pure (f:=I.qfc) c_qfc rfl [.imm false (rowA r),.imm false (rowA q)] []
 simp only[List.map_cons,List.map_nil,snap_eq,fz_immf]at this
 rw[order_spec false false r q hr]at this
 exact this
theorem sortR_spec{rs:List (List Val)}(hn:rs.length≤most)(hok:∀ r∈rs,r.length≤most){σ:Store}{id ep:Nat}(h:σ[id]?=some (.arr 1 ep (rs.map rowX))) :
  acall code 67 [.sl id ep 0 rs.length,.fn 140 [] []] σ=some (.any,σ.set id (.arr 1 ep ((sortC cmpR rs).map rowX))):=by
 rw[← rowsA_X]at h ⊢
 have hk:∀ x∈rowsA false rs,∃ r,r∈rs∧x=.imm false (rowA r):=fun x hx=>by
  obtain ⟨r,h1,h2⟩:=List.mem_map.1 hx
  exact ⟨r,h1,h2.symm⟩
 obtain ⟨n,hf⟩:=all_fuel (F:=fun n (x:AVal)=>∀ y∈rowsA false rs,callN code n 140 [x,y] []=some (.int .i64 (cmpR (asRow x) (asRow y)),[]))
  (fun n m x hnm h y hy=>(callN_mono good _ _ _).le hnm (h y hy)) (rowsA false rs) (fun x hx=>by
   obtain ⟨n,hn⟩:=all_fuel (F:=fun n (y:AVal)=>callN code n 140 [x,y] []=some (.int .i64 (cmpR (asRow x) (asRow y)),[]))
    (fun n m y hnm h=>(callN_mono good _ _ _).le hnm h) (rowsA false rs) (fun y hy=>by
     obtain ⟨r,hr,rfl⟩:=hk x hx
     obtain ⟨q,hq,rfl⟩:=hk y hy
     rw[asRow_a,asRow_a]
     exact (lim_eq (callN_mono good _ _ _) _).1 (order_acallX r q (hok r hr)))
   exact ⟨n,fun y hy=>hn y hy⟩)
 have hc:∀ r q,r∈rs→q∈rs→cmpOf (callN code n) (.fn 140 [] []) (.imm false (rowA r)) (.imm false (rowA q))=some (cmpR r q):=fun r q hr hq=>by
  have:=hf (.imm false (rowA r)) (List.mem_map.2 ⟨r,hr,rfl⟩) (.imm false (rowA q)) (List.mem_map.2 ⟨q,hq,rfl⟩)
  unfold cmpOf callV
  simp at this
  simp[this]
 have hO:orderedB (cmpOf (callN code n) (.fn 140 [] [])) (rowsA false rs)=true:=by
  rw[orderedB_iff]
  refine ⟨fun x hx y hy=>?_,fun x hx y hy a b e1 e2=>?_,fun x hx y hy e=>?_,fun x hx=>?_,fun x hx y hy z hz a b c e1 e2 e3 h1 h2=>?_⟩
  ·obtain ⟨r,hr,rfl⟩:=hk x hx
   obtain ⟨q,hq,rfl⟩:=hk y hy
   have:=cmpR_range r q
   exact ⟨_,hc r q hr hq,by omega,by omega⟩
  ·obtain ⟨r,hr,rfl⟩:=hk x hx
   obtain ⟨q,hq,rfl⟩:=hk y hy
   rw[hc r q hr hq]at e1
   rw[hc q r hq hr]at e2
   cases e1;cases e2
   exact cmpR_ok.anti r q
  ·obtain ⟨r,hr,rfl⟩:=hk x hx
   obtain ⟨q,hq,rfl⟩:=hk y hy
   rw[hc r q hr hq]at e
   rw[cmpR_zero (Option.some.inj e)]
  ·obtain ⟨r,hr,rfl⟩:=hk x hx
   rw[hc r r hr hr,cmpR_ok.self]
  ·obtain ⟨r,hr,rfl⟩:=hk x hx
   obtain ⟨q,hq,rfl⟩:=hk y hy
   obtain ⟨s,hs,rfl⟩:=hk z hz
   rw[hc r q hr hq]at e1
   rw[hc q s hq hs]at e2
   rw[hc r s hr hs]at e3
   cases e1;cases e2;cases e3
   exact cmpR_ok.lt_le h1 (Int.le_of_lt h2)
 refine acall_prim good (k:=1) (n:=n) rfl ?_
 have hp:code.prims 1 (callN code n)=sortFunc (callN code n):=rfl
 rw[hp]
 have h9:(rowsA false rs).take rs.length=rowsA false rs:=List.take_of_length_le (by simp)
 have h10:((rowsA false rs).all fun x=>same (snap (σ.set id .dead) x) x&&ncells x == 1&&!isAgg x&&!plainArg x)=true:=by
  rw[List.all_eq_true]
  intro x hx
  obtain ⟨r,hr,rfl⟩:=hk x hx
  simp[plainArg]
 simp only[sortFunc,h,List.drop_zero,h9]
 have h11:snap (σ.set id .dead) (.fn 140 [] [])=.fn 140 [] []:=by simp
 have h13:sortBy (leOf (cmpOf (callN code n) (.fn 140 [] []))) (rowsA false rs)=rowsA false (sortC cmpR rs):=by
  unfold rowsA
  refine sortBy_map fun r hr q hq=>?_
  unfold leOf
  rw[hc r q hr hq]
 rw[if_pos ⟨by trivial,by simp,hn,h10,by rw[h11];exact hO,by rw[h11];rfl⟩,h11,h13]
 have h12:(rowsA false rs).drop (0+rs.length)=[]:=List.drop_of_length_le (by simp)
 rw[h12,rowsA_X]
 simp
theorem sorted_X(b:Bool)(rs:List (List Val))(hn:rs.length≤most)(hr:∀ r∈rs,okR r=true):pcall I.qfh [.imm b (rs.map rowX)]=some (.frs 1 ((sortC cmpR rs).map rowX)):=by
 rw[pcall_eq c_qfh rfl]
 have h1:=fun b=>copies_X b rs hn hr
 have e3:=sortR_spec hn (fun r h=>by have:=hr r h;unfold okR at this;simp at this;unfold most;omega) (σ:=[.arr 1 0 (rs.map rowX)]) (id:=0) (ep:=0) rfl
 simp at e3
 have hf:=fun σ h=>fresh_map (f:=rowX) (m:=1) (sortC cmpR rs) 0 0 σ h
 rw[sortC_length]at hf
 simp[f_qfh,b_qfh,h1,e3,hf]
theorem Sorted_X(b:Bool)(rs:List (List Val))(hn:rs.length≤8000)(hr:∀ r∈rs,okR r=true):pcall I.qeu [.imm b (rs.map rowX)]=some (.tup [.imm false ((sortC cmpR rs).map rowX),.int .i64 0]):=by
 rw[pcall_eq c_qeu rfl]
 have hm:rs.length≤most:=by unfold most;omega
 have h1:=fun c=>lists_ok c [⟨b,rs⟩] (by simp[most]) (by simpa using hn) (by simpa using hr)
 have h2:=fun b=>sorted_X b rs hm hr
 simp at h1
 simp[f_qeu,b_qeu,h1,h2]
end Go.AM
end
section
namespace Go.AM
open P
set_option maxHeartbeats 8000000
set_option maxRecDepth 8000
attribute [local simp] condRun_if when_if
def fitV(v:Val)(k:Int):Bool:=okV v&&(v.k == 0 || v.k == k)
def fitR(kinds:List Int)(r:List Val):Bool:=r.length == kinds.length&&(r.zip kinds).all fun p=>fitV p.1 p.2
theorem fit11_spec(v:Val)(k:Int):pcall I.qbx [v.a,.int .i64 k]=some (.bool (fitV v k)):=by
 rw[pcall_eq c_qbx rfl]
 have h:=Check_spec v
 obtain ⟨vk,vn,vu,vs⟩:=v
 unfold fitV
 cases hv:okV ⟨vk,vn,vu,vs⟩<;>rw[hv]at h<;>simp[Val.a]at h<;>simp[f_qbx,b_qbx,Val.a,h]
 repeat' (split<;>(try simp_all))
theorem EqualFit(b bk:Bool)(r:List Val)(kinds:List Int)(hn:r.length≤most) :
  pcall I.qgb [.imm b (r.map Val.a),.imm bk (kinds.map (.int .i64)),.fn 254 [] []]=some (.bool (fitR kinds r)):=by
 rw[pcall_eq c_qgb rfl]
 unfold fitR
 by_cases hl:r.length=kinds.length
 ·have hzl:(r.zip kinds).length=r.length:=by simp[hl]
  have h:=rounds_any (base:=0) (clr:=[3,4,5,6,11,12]) (b:=l_qgb_0) (r.zip kinds) (fun k=>⟨[.imm b (r.map Val.a),.imm bk (kinds.map (.int .i64)),.fn 254 [] [],.any,.any,.any,.any,.bool false,.imm b (r.map Val.a),.int .i64 r.length,.int .i64 k,.any,.any],[]⟩)
   (fun p=>!fitV p.1 p.2)
   (.ext 0,⟨[.imm b (r.map Val.a),.imm bk (kinds.map (.int .i64)),.fn 254 [] [],.any,.any,.any,.any,.bool false,.imm b (r.map Val.a),.int .i64 r.length,.int .i64 r.length,.bool false,.any],[]⟩)
   (fun o=>∃ s,o=(.ret,s)∧thenLeave .pure [.env 3] (some (.ret,s))=some (.bool false))
   (fun k p hk hy hp=>by
    obtain ⟨v,kd⟩:=p
    rw[List.getElem?_zip_eq_some]at hy
    have hlt:((k:Int) < (r.length:Int)):=by omega
    have hf:=fit11_spec v kd
    simp only[Bool.not_eq_false']at hp
    rw[hp]at hf
    simp[l_qgb_0,hlt,hy.1,hy.2,hf,wrap_lt (by omega:k < r.length) hn,roundEnd])
   (fun k p hk hy hp=>by
    obtain ⟨v,kd⟩:=p
    rw[List.getElem?_zip_eq_some]at hy
    have hlt:((k:Int) < (r.length:Int)):=by omega
    have hf:=fit11_spec v kd
    simp only[Bool.not_eq_true']at hp
    rw[hp]at hf
    exact ⟨_,by simp[l_qgb_0,hlt,hy.1,hy.2,hf];rfl,_,rfl,by simp⟩)
   (by rw[hzl];simp[l_qgb_0])
  have hne:((r.length:Int) != (kinds.length:Int))=false:=by simp[hl]
  have hb:(r.length == kinds.length)=true:=by simp[hl]
  have hall:((r.zip kinds).all fun p=>fitV p.1 p.2)=!((r.zip kinds).any fun p=>!fitV p.1 p.2):=by
   rw[List.not_any_eq_all_not];simp
  rw[hall]
  rcases h with ⟨h1,h2⟩|⟨h1,o,h2,s,rfl,h3⟩
  ·rw[h1]
   simp at h2
   simp[f_qgb,b_qgb,hne,h2,hb]
  ·rw[h1]
   simp at h2
   simp[f_qgb,b_qgb,hne,h2,hb,-thenLeave_ret]
   exact h3
 ·have hne:((r.length:Int) != (kinds.length:Int))=true:=by simp;omega
  simp[f_qgb,b_qgb,hne,hl]
theorem fit1X_spec(b bk t:Bool)(r:List Val)(kinds:List Int)(hn:r.length≤most):pcall I.qbw [.imm b (r.map Val.a),.cptr t (.imm bk (kinds.map (.int .i64))) 0]=some (.bool (!fitR kinds r)):=by
 rw[pcall_eq c_qbw rfl]
 have h:=fun b bk=>EqualFit b bk r kinds hn
 cases hv:fitR kinds r<;>rw[hv]at h<;>cases t<;>simp[f_qbw,b_qbw,h]
def fitL(kinds:List Int)(rs:List (List Val)):Bool:=decide (rs.length≤8000)&&rs.all (fitR kinds)
theorem fitX_spec(b bk:Bool)(rs:List (List Val))(kinds:List Int)(hn:∀ r∈rs,r.length≤most):pcall I.qbv [.imm b (rs.map rowX),.imm bk (kinds.map (.int .i64))]=some (.bool (fitL kinds rs)):=by
 rw[pcall_eq c_qbv rfl]
 unfold fitL
 by_cases hl:rs.length≤8000
 ·have hl':¬((8000:Int) < (rs.length:Int)):=by omega
  have hm:rs.length≤most:=by unfold most;omega
  have hC:=Contains_api_Row_api_Row (enc:=rowX) (b:=b) (l:=rs) (f:=snap [.arr 1 0 [.imm bk (kinds.map (.int .i64))]] (.fn 161 [] [.ptr 0 0 0 0])) (p:=fun r=>!fitR kinds r) hm (fun _=>⟨rfl,rfl⟩) (fun σ=>snap_idem _ _ _) (fun r hr=>by
   have:=fit1X_spec false bk true r kinds (hn r hr)
   simp[rowX,this])
  simp at hC
  have hall:rs.all (fitR kinds)=!(rs.any fun r=>!fitR kinds r):=by rw[List.not_any_eq_all_not];simp
  rw[hall]
  cases hA:(rs.any fun r=>!fitR kinds r)<;>rw[hA]at hC<;>simp[f_qbv,b_qbv,hl,hl',hC]
 ·have hl':((8000:Int) < (rs.length:Int)):=by omega
  simp[f_qbv,b_qbv,hl,hl']
end Go.AM
end
section
namespace Go.AM
open P
set_option maxRecDepth 20000
set_option maxHeartbeats 8000000
attribute [local simp] condRun_if when_if
instance:Nc (AVal.int .u8) 1 false:=⟨fun _=>rfl,fun _=>rfl⟩
instance:Fx (AVal.int .u8):=⟨fun _ _ _ _ _ _=>rfl⟩
instance:Nc (fun (c:UInt8)=>AVal.int .u8 (c.toNat:Int)) 1 false:=⟨fun _=>rfl,fun _=>rfl⟩
instance:Fx (fun (c:UInt8)=>AVal.int .u8 (c.toNat:Int)):=⟨fun _ _ _ _ _ _=>rfl⟩
end Go.AM
end
section
namespace Go.AM
open P
set_option maxRecDepth 8000
set_option maxHeartbeats 8000000
attribute [local simp] condRun_if when_if
abbrev intC(l:List Int):List AVal:=l.map (.int .i64)
def inC(r:List Val)(c:Int):Bool:=decide (0≤c)&&decide (c < r.length)
def hasC(r:List Val)(cols:List Int):Bool:=decide (cols.length≤16)&&cols.all (inC r)
def takeR(r:List Val)(cols:List Int):List Val:=cols.map (colV r)
theorem rhas1_spec(t b:Bool)(c:Int)(r:List Val):pcall I.qfa [.int .i64 c,.cptr t (.imm b (r.map Val.a)) 0]=some (.bool (!inC r c)):=by
 rw[pcall_eq c_qfa rfl]
 unfold inC
 by_cases h1:c < 0
 ·have h2:¬(0≤c):=by omega
  cases t<;>simp[f_qfa,b_qfa,h1,h2]
 ·have h2:0≤c:=by omega
  by_cases h3:c < r.length
  ·have h4:¬((r.length:Int)≤c):=by omega
   cases t<;>simp[f_qfa,b_qfa,h1,h2,h3,h4]
  ·have h4:((r.length:Int)≤c):=by omega
   cases t<;>simp[f_qfa,b_qfa,h1,h2,h3,h4]
theorem rhas_spec(bc:Bool)(r:List Val)(cols:List Int):pcall I.qez [rowX r,.imm bc (intC cols)]=some (.bool (hasC r cols)):=by
 rw[pcall_eq c_qez rfl]
 unfold hasC
 by_cases hl:cols.length≤16
 ·have hl':((cols.length:Int)≤16):=by omega
  have hC:=Contains_int_int (enc:=.int .i64) (b:=bc) (l:=cols) (f:=snap [.arr 1 0 [rowX r]] (.fn 230 [] [.ptr 0 0 0 0])) (p:=fun c=>!inC r c) (by unfold most;omega) (fun _=>⟨rfl,rfl⟩) (fun σ=>snap_idem _ _ _) (fun c _=>by
   have:=rhas1_spec true false c r
   simp[rowX,this])
  simp at hC
  have hall:cols.all (inC r)=!(cols.any fun c=>!inC r c):=by rw[List.not_any_eq_all_not];simp
  rw[hall]
  cases hA:(cols.any fun c=>!inC r c)<;>rw[hA]at hC<;>simp[f_qez,b_qez,hl,hl',hC]
 ·have hl':¬((cols.length:Int)≤16):=by omega
  simp[f_qez,b_qez,hl,hl']
theorem asked1_spec(c:Int):pcall I.qew [.int .i64 c]=some (.bool (decide (c < 0))):=by
 rw[pcall_eq c_qew rfl]
 simp[f_qew,b_qew]
theorem asked_ok(b bc:Bool)(rs:List (List Val))(cols:List Int)(hn:rs.length≤8000)(hr:∀ r∈rs,okR r=true)(hc:cols.length≤16)(h0:∀ c∈cols,0≤c)(hh:∀ r∈rs,hasC r cols=true) :
  pcall I.qev [.imm b (rs.map rowX),.imm bc (intC cols)]=some (.int .i64 0):=by
 rw[pcall_eq c_qev rfl]
 have hm:rs.length≤most:=by unfold most;omega
 have h1:=fun c=>lists_ok c [⟨b,rs⟩] (by simp[most]) (by simpa using hn) (by simpa using hr)
 simp at h1
 have hC:=fun bc=>Contains_int_int (enc:=.int .i64) (b:=bc) (l:=cols) (f:=.fn 139 [] []) (p:=fun c=>decide (c < 0)) (by unfold most;omega) (fun _=>⟨rfl,rfl⟩) (fun σ=>by simp) (fun c _=>by simp[asked1_spec])
 rw[show (cols.any fun c=>decide (c < 0))=false by
  rw[List.any_eq_false]
  intro c hc'
  have:=h0 c hc'
  simp;omega]at hC
 have hl':¬((16:Int) < (cols.length:Int)):=by omega
 have hl:=rounds_fold (base:=0) (clr:=[2,5,11,12]) (b:=l_qev_0) rs (fun k (_:Unit)=>⟨[.imm b (rs.map rowX),.imm bc (intC cols),.any,.int .i64 0,.fn 139 [] [],.any,.bool false,.bool false,.imm b (rs.map rowX),.int .i64 rs.length,.int .i64 k,.any,.any],[]⟩)
  (fun _ _=>True) (fun _ _=>()) (fun _=>(.ext 0,⟨[.imm b (rs.map rowX),.imm bc (intC cols),.any,.int .i64 0,.fn 139 [] [],.any,.bool false,.bool false,.imm b (rs.map rowX),.int .i64 rs.length,.int .i64 rs.length,.bool false,.any],[]⟩))
  (fun k y _ hk hy _=>by
   have hlt:((k:Int) < (rs.length:Int)):=by omega
   have h2:=fun bc=>rhas_spec bc y cols
   rw[hh y (List.mem_of_getElem? hy)]at h2
   simp[l_qev_0,hlt,hy,h2,wrap_lt hk hm,roundEnd])
  (fun _ _=>by simp[l_qev_0]) () trivial
 have hl:=hl.1
 simp at hl
 simp[f_qev,b_qev,h1,hC,hl',hl]
theorem take_spec(bc:Bool)(r:List Val)(cols:List Int)(hc:cols.length≤16)(hh:∀ c∈cols,0≤c∧c < r.length) :
  pcall I.qfi [rowX r,.imm bc (intC cols)]=some (rowX (takeR r cols)):=by
 rw[pcall_eq c_qfi rfl]
 have hm:cols.length≤most:=by unfold most;omega
 have hl:=rounds_fold (base:=1) (clr:=[4,8]) (b:=l_qfi_0) cols (fun k (s:List Val)=>⟨[rowX r,.imm bc (intC cols),.nil0,.sl 0 k 0 s.length,.any,.imm bc (intC cols),.int .i64 cols.length,.int .i64 k,.any],[.arr 4 k (s.map Val.a)]⟩)
  (fun k s=>s.length=k) (fun s c=>s++[colV r c]) (fun s=>(.ext 0,⟨[rowX r,.imm bc (intC cols),.nil0,.sl 0 cols.length 0 s.length,.any,.imm bc (intC cols),.int .i64 cols.length,.int .i64 cols.length,.bool false],[.arr 4 cols.length (s.map Val.a)]⟩))
  (fun k c s hk hy hs=>by
   have hlt:((k:Int) < (cols.length:Int)):=by omega
   obtain ⟨c0,c1⟩:=hh c (List.mem_of_getElem? hy)
   have hcv:(r.map Val.a)[c.toNat]?=some (colV r c).a:=row_col ⟨c0,c1⟩
   have hct:c.toNat < r.length:=by omega
   have hkm:k+1≤most:=by omega
   subst hs
   refine ⟨?_,by simp⟩
   have hcv':r[c.toNat]=colV r c:=by simp[colV,List.getD_eq_getElem?_getD,hct]
   simp[l_qfi_0,hlt,hy,rowX,c0,hct,hcv',append,hkm,roundEnd,wrap_lt hk hm])
  (fun s _=>by simp[l_qfi_0]) [] rfl
 have hf:∀ (l:List Int) (s:List Val),l.foldl (fun s c=>s++[colV r c]) s=s++l.map (colV r):=by
  intro l
  induction l with
  | nil=>intro s;simp
  | cons a l ih=>intro s;rw[List.foldl_cons,ih];simp
 rw[hf]at hl
 have hl:=hl.1
 unfold takeR
 have hlen:(cols.map (colV r)).length=cols.length:=by simp
 rw[List.nil_append]at hl
 generalize cols.map (colV r)=t at hl hlen ⊢
 simp at hl
 simp[f_qfi,b_qfi,hl]
 rfl
theorem hasC_in{r:List Val}{cols:List Int}(h:hasC r cols=true):cols.length≤16∧∀ c∈cols,0≤c∧c < r.length:=by
 unfold hasC at h
 simp only[Bool.and_eq_true,decide_eq_true_eq]at h
 refine ⟨h.1,fun c hc=>?_⟩
 have:=List.all_eq_true.1 h.2 c hc
 unfold inC at this
 simpa using this
theorem okV_len{v:Val}(h:okV v=true):v.s.length≤1000:=by
 unfold okV at h
 simp only[beq_iff_eq]at h
 have hs:=congrArg Val.s h
 unfold blankV at hs
 repeat' split at hs
 all_goals (simp at hs)
 all_goals (first|(rw[hs];simp)|omega)
theorem okR_len{r:List Val}(h:okR r=true):r.length≤16∧∀ v∈r,v.s.length≤1000:=by
 unfold okR at h
 simp only[Bool.and_eq_true,decide_eq_true_eq]at h
 exact ⟨h.1,fun v hv=>okV_len (List.all_eq_true.1 h.2 v hv)⟩
theorem takeR_sub{r:List Val}{cols:List Int}(h:∀ c∈cols,0≤c∧c < r.length):∀ v∈takeR r cols,v∈r:=by
 intro v hv
 obtain ⟨c,hc,rfl⟩:=List.mem_map.1 hv
 have:=h c hc
 have hlt:c.toNat < r.length:=by omega
 unfold colV
 rw[List.getD_eq_getElem?_getD,List.getElem?_eq_getElem hlt]
 exact List.getElem_mem hlt
end Go.AM
end
section
namespace Go.AM
open P
set_option maxHeartbeats 8000000
set_option maxRecDepth 8000
attribute [local simp] condRun_if when_if
theorem sortG_spec{rs:List (List Val)}(hn:rs.length≤most)(c:List Val→List Val→Int)(F:AVal)(g:Nat)(cap:List AVal)(hW:WOk c)(hz:∀ r q,c r q=0→r=q)(hR:∀ r q,-1≤c r q∧c r q≤1)
  {σ:Store} {id ep:Nat} (h:σ[id]?=some (.arr 1 ep (rs.map rowX))) (hF:snap (σ.set id .dead) F=.fn g [] cap) (hcall:∀ r∈rs,∀ q∈rs,acall code g (rowX r::rowX q::cap) []=some (.int .i64 (c r q),[])) :
  acall code 67 [.sl id ep 0 rs.length,F] σ=some (.any,σ.set id (.arr 1 ep ((sortC c rs).map rowX))):=by
 have hk:∀ x∈rs.map rowX,∃ r,r∈rs∧x=rowX r:=fun x hx=>by
  obtain ⟨r,h1,h2⟩:=List.mem_map.1 hx
  exact ⟨r,h1,h2.symm⟩
 have ha:∀ r,asRow (rowX r)=r:=fun r=>asRow_a false r
 obtain ⟨n,hf⟩:=all_fuel (F:=fun n (x:AVal)=>∀ y∈rs.map rowX,callN code n g (x::y::cap) []=some (.int .i64 (c (asRow x) (asRow y)),[]))
  (fun n m x hnm h y hy=>(callN_mono good _ _ _).le hnm (h y hy)) (rs.map rowX) (fun x hx=>by
   obtain ⟨n,hn⟩:=all_fuel (F:=fun n (y:AVal)=>callN code n g (x::y::cap) []=some (.int .i64 (c (asRow x) (asRow y)),[]))
    (fun n m y hnm h=>(callN_mono good _ _ _).le hnm h) (rs.map rowX) (fun y hy=>by
     obtain ⟨r,hr,rfl⟩:=hk x hx
     obtain ⟨q,hq,rfl⟩:=hk y hy
     rw[ha,ha]
     exact (lim_eq (callN_mono good _ _ _) _).1 (hcall r hr q hq))
   exact ⟨n,fun y hy=>hn y hy⟩)
 have hc:∀ r q,r∈rs→q∈rs→cmpOf (callN code n) (.fn g [] cap) (rowX r) (rowX q)=some (c r q):=fun r q hr hq=>by
  have:=hf (rowX r) (List.mem_map.2 ⟨r,hr,rfl⟩) (rowX q) (List.mem_map.2 ⟨q,hq,rfl⟩)
  unfold cmpOf callV
  rw[ha,ha]at this
  simp[this]
 have hO:orderedB (cmpOf (callN code n) (.fn g [] cap)) (rs.map rowX)=true:=by
  rw[orderedB_iff]
  refine ⟨fun x hx y hy=>?_,fun x hx y hy a b e1 e2=>?_,fun x hx y hy e=>?_,fun x hx=>?_,fun x hx y hy z hz' a b d e1 e2 e3 h1 h2=>?_⟩
  ·obtain ⟨r,hr,rfl⟩:=hk x hx
   obtain ⟨q,hq,rfl⟩:=hk y hy
   have:=hR r q
   exact ⟨_,hc r q hr hq,by omega,by omega⟩
  ·obtain ⟨r,hr,rfl⟩:=hk x hx
   obtain ⟨q,hq,rfl⟩:=hk y hy
   rw[hc r q hr hq]at e1
   rw[hc q r hq hr]at e2
   cases e1;cases e2
   exact hW.anti r q
  ·obtain ⟨r,hr,rfl⟩:=hk x hx
   obtain ⟨q,hq,rfl⟩:=hk y hy
   rw[hc r q hr hq]at e
   rw[hz r q (Option.some.inj e)]
  ·obtain ⟨r,hr,rfl⟩:=hk x hx
   rw[hc r r hr hr,hW.self]
  ·obtain ⟨r,hr,rfl⟩:=hk x hx
   obtain ⟨q,hq,rfl⟩:=hk y hy
   obtain ⟨s,hs,rfl⟩:=hk z hz'
   rw[hc r q hr hq]at e1
   rw[hc q s hq hs]at e2
   rw[hc r s hr hs]at e3
   cases e1;cases e2;cases e3
   exact hW.lt_le h1 (Int.le_of_lt h2)
 refine acall_prim good (k:=1) (n:=n) rfl ?_
 have hp:code.prims 1 (callN code n)=sortFunc (callN code n):=rfl
 rw[hp]
 have h9:(rs.map rowX).take rs.length=rs.map rowX:=List.take_of_length_le (by simp)
 have h10:((rs.map rowX).all fun x=>same (snap (σ.set id .dead) x) x&&ncells x == 1&&!isAgg x&&!plainArg x)=true:=by
  rw[List.all_eq_true]
  intro x hx
  obtain ⟨r,hr,rfl⟩:=hk x hx
  simp only[rowX]
  simp[plainArg]
 simp only[sortFunc,h,List.drop_zero,h9]
 have h13:sortBy (leOf (cmpOf (callN code n) (.fn g [] cap))) (rs.map rowX)=(sortC c rs).map rowX:=by
  refine sortBy_map fun r hr q hq=>?_
  unfold leOf
  rw[hc r q hr hq]
 rw[if_pos ⟨by trivial,by simp,hn,h10,by rw[hF];exact hO,by rw[hF];rfl⟩,hF,h13]
 have h12:(rs.map rowX).drop (0+rs.length)=[]:=List.drop_of_length_le (by simp)
 rw[h12]
 simp
def cmpG(cols:List Int)(r q:List Val):Int:=lex (cmpR (takeR r cols) (takeR q cols)) (cmpR r q)
theorem cmpG_ok(cols:List Int):WOk (cmpG cols):=(cmpR_ok.on fun r=>takeR r cols).lex cmpR_ok
theorem cmpG_zero{cols:List Int}{r q:List Val}(h:cmpG cols r q=0):r=q:=cmpR_zero (lex_zero h).2
theorem cmpG_range(cols:List Int)(r q:List Val):-1≤cmpG cols r q∧cmpG cols r q≤1:=lex_range (cmpR_range _ _) (cmpR_range _ _)
theorem Or2(b:Bool)(a c:Int):pcall I.qat [.imm b [.int .i64 a,.int .i64 c]]=some (.int .i64 (lex a c)):=by
 rw[pcall_eq c_qat rfl]
 unfold lex
 by_cases ha:a=0
 ·by_cases hc:c=0
  ·subst ha hc
   simp[f_qat,b_qat,l_qat_0,rounds_go,roundEnd,IntKind.wrap,IntKind.bits,IntKind.signed]
  ·subst ha
   simp[f_qat,b_qat,l_qat_0,rounds_go,roundEnd,IntKind.wrap,IntKind.bits,IntKind.signed,bne_t hc]
 ·simp[f_qat,b_qat,l_qat_0,rounds_go,roundEnd,IntKind.wrap,IntKind.bits,IntKind.signed,bne_t ha,ha]
theorem order_X(b b':Bool)(r q:List Val)(hr:r.length≤most):pcall I.qfc [.imm b (r.map Val.a),.imm b' (q.map Val.a)]=some (.int .i64 (cmpR r q)):=order_spec b b' r q hr
theorem takeR_len(r:List Val)(cols:List Int):(takeR r cols).length=cols.length:=by simp[takeR]
theorem Groups1_v(t bc:Bool)(cols:List Int)(r q:List Val)(hc:cols.length≤16)(hl:r.length≤most)(hr:∀ c∈cols,0≤c∧c < r.length)(hq:∀ c∈cols,0≤c∧c < q.length) :
  pcall I.qer [rowX r,rowX q,.cptr t (.imm bc (intC cols)) 0]=some (.int .i64 (cmpG cols r q)):=by
 rw[pcall_eq c_qer rfl]
 have h1:=fun bc=>take_spec bc r cols hc hr
 have h2:=fun bc=>take_spec bc q cols hc hq
 have h3:=fun b b'=>order_X b b' (takeR r cols) (takeR q cols) (by rw[takeR_len];unfold most;omega)
 have h4:=fun b b'=>order_X b b' r q hl
 have h5:=fun b=>Or2 b (cmpR (takeR r cols) (takeR q cols)) (cmpR r q)
 simp only[rowX]at *
 unfold cmpG
 cases t<;>simp[f_qer,b_qer,h1,h2,h3,h4,h5]
end Go.AM
end
section
namespace Go.AM
open P
set_option maxHeartbeats 8000000
set_option maxRecDepth 8000
attribute [local simp] condRun_if when_if
theorem eqa_val(v w:Val):eqa true [0,0,0,2] v.a w.a=some (.bool (!decide (v=w))):=by
 obtain ⟨k,n,u,s⟩:=v
 obtain ⟨k',n',u',s'⟩:=w
 simp only[a_mk]
 by_cases h1:k=k'
 ·by_cases h2:n=n'
  ·by_cases h3:u=u'
   ·by_cases h4:s=s'
    ·subst h1 h2 h3 h4;simp
    ·have h4':(s == s')=false:=by simp[h4]
     subst h1 h2 h3;simp[h4,h4']
   ·subst h1 h2;simp[beq_f h3,h3]
  ·subst h1;simp[beq_f h2,h2]
 ·simp[beq_f h1,h1]
theorem zip_eq{α:Type}[DecidableEq α]:∀ {r q:List α},r.length=q.length→((r.zip q).any fun p=>!decide (p.1=p.2))=!decide (r=q)
 | [],[],_=>rfl
 | a::r,b::q,h=>by
  have ih:=zip_eq (r:=r) (q:=q) (by simpa using h)
  rw[List.zip_cons_cons,List.any_cons,ih]
  by_cases e:a=b
  ·subst e;simp
  ·simp[e]
theorem SEqual_v(b b':Bool)(r q:List Val)(hr:r.length≤most):pcall I.qgc [.imm b (r.map Val.a),.imm b' (q.map Val.a)]=some (.bool (decide (r=q))):=by
 rw[pcall_eq c_qgc rfl]
 by_cases hl:r.length=q.length
 ·have h:=rounds_any (base:=0) (clr:=[2,3,7,8]) (b:=l_qgc_0) (r.zip q)
   (fun k=>⟨[.imm b (r.map Val.a),.imm b' (q.map Val.a),.any,.any,.bool false,.int .i64 r.length,.int .i64 k,.any,.any],[]⟩) (fun p=>!decide (p.1=p.2))
   (.ext 0,⟨[.imm b (r.map Val.a),.imm b' (q.map Val.a),.any,.any,.bool false,.int .i64 r.length,.int .i64 r.length,.bool false,.any],[]⟩)
   (fun o=>∃ s,o=(.ret,s)∧thenLeave .pure [.env 2] (some (.ret,s))=some (.bool false))
   (fun k p hk hy hp=>by
    have hk':k < r.length:=by simp at hk;omega
    have hk2:k < q.length:=by omega
    have hz:p=(r[k],q[k]):=by
     have:=List.getElem?_eq_some_iff.1 hy
     obtain ⟨_,h2⟩:=this
     rw[List.getElem_zip]at h2;exact h2.symm
    subst hz
    have hlt:((k:Int) < (r.length:Int)):=by omega
    have e:=eqa_val r[k] q[k]
    have hd:decide (r[k]=q[k])=true:=by simpa using hp
    rw[hd]at e
    have g1:r[k]?=some r[k]:=List.getElem?_eq_getElem hk'
    have g2:q[k]?=some q[k]:=List.getElem?_eq_getElem hk2
    generalize r[k]=x at *
    generalize q[k]=y at *
    simp[l_qgc_0,hlt,g1,g2,-eqa,e,wrap_lt hk' hr,roundEnd_same])
   (fun k p hk hy hp=>by
    have hk':k < r.length:=by simp at hk;omega
    have hk2:k < q.length:=by omega
    have hz:p=(r[k],q[k]):=by
     have:=List.getElem?_eq_some_iff.1 hy
     obtain ⟨_,h2⟩:=this
     rw[List.getElem_zip]at h2;exact h2.symm
    subst hz
    have hlt:((k:Int) < (r.length:Int)):=by omega
    have e:=eqa_val r[k] q[k]
    have hd:decide (r[k]=q[k])=false:=by simpa using hp
    rw[hd]at e
    have g1:r[k]?=some r[k]:=List.getElem?_eq_getElem hk'
    have g2:q[k]?=some q[k]:=List.getElem?_eq_getElem hk2
    generalize r[k]=x at *
    generalize q[k]=y at *
    exact ⟨_,by simp[l_qgc_0,hlt,g1,g2,-eqa,e];rfl,_,rfl,by simp⟩)
   (by simp[l_qgc_0,hl])
  rw[zip_eq hl]at h
  have hl':(r.length:Int)=q.length:=by omega
  rcases h with ⟨ha,h⟩|⟨ha,o,h,s,rfl,h2⟩
  ·simp at ha h
   rw[show decide (r=q)=true by simpa using ha]
   simp[f_qgc,b_qgc,hl]
   rw[hl]at h
   rw[h]
   simp
  ·have hd:decide (r=q)=false:=by simpa using ha
   rw[hd]
   simp at h
   rw[hl]at h
   simp[f_qgc,b_qgc,hl,h,-thenLeave_ret]
   exact h2
 ·have hd:decide (r=q)=false:=by
   rw[decide_eq_false_iff_not];intro e;exact hl (by rw[e])
  have hl':¬(r.length:Int)=q.length:=by omega
  rw[hd]
  simp[f_qgc,b_qgc,hl',bne_t hl']
theorem equal_X(b b':Bool)(r q:List Val)(hr:r.length≤most):pcall I.qey [.imm b (r.map Val.a),.imm b' (q.map Val.a)]=some (.bool (decide (r=q))):=by
 rw[pcall_eq c_qey rfl]
 have h:=fun b b'=>SEqual_v b b' r q hr
 simp[f_qey,b_qey,h]
def alikeG(cols:List Int)(r q:List Val):Bool:=decide (takeR r cols=takeR q cols)
theorem Groups2_v(t bc:Bool)(cols:List Int)(r q:List Val)(hc:cols.length≤16)(hr:∀ c∈cols,0≤c∧c < r.length)(hq:∀ c∈cols,0≤c∧c < q.length) :
  pcall I.qes [rowX r,rowX q,.cptr t (.imm bc (intC cols)) 0]=some (.bool (alikeG cols r q)):=by
 rw[pcall_eq c_qes rfl]
 have h1:=fun bc=>take_spec bc r cols hc hr
 have h2:=fun bc=>take_spec bc q cols hc hq
 have h3:=fun b b'=>equal_X b b' (takeR r cols) (takeR q cols) (by rw[takeR_len];unfold most;omega)
 simp only[rowX]at *
 unfold alikeG
 cases t<;>simp[f_qes,b_qes,h1,h2,h3]
end Go.AM
end
section
namespace Go.AM
open P
set_option maxHeartbeats 4000000
set_option maxRecDepth 8000
abbrev intsA(l:List Int):List AVal:=l.map (.int .i64)
def compactL(l:List Int):List Int:=l.foldl (fun acc x=>if acc.getLast?=some x then acc else acc++[x]) []
theorem compactL_snoc(l:List Int)(x:Int):compactL (l++[x])=if (compactL l).getLast?=some x then compactL l else compactL l++[x]:=by
 unfold compactL;simp[List.foldl_append]
theorem snoc_ind{α:Type}{p:List α→Prop}(l:List α)(h0:p [])(h1:∀ l x,p l→p (l++[x])):p l:=by
 have:∀ m:List α,p m.reverse:=fun m=>by
  induction m with
  | nil=>simpa using h0
  | cons a m ih=>rw[List.reverse_cons];exact h1 _ _ ih
 simpa using this l.reverse
theorem compactL_last(l:List Int):(compactL l).getLast?=l.getLast?:=by
 refine snoc_ind (p:=fun l=>(compactL l).getLast?=l.getLast?) l rfl fun l x ih=>?_
 rw[compactL_snoc]
 split
 ·rename_i h;rw[h];simp
 ·simp
theorem compactL_mem(l:List Int)(x:Int):x∈compactL l↔x∈l:=by
 refine snoc_ind (p:=fun l=>x∈compactL l↔x∈l) l (by simp[compactL]) fun l y ih=>?_
 rw[compactL_snoc]
 split
 ·rename_i h
  rw[ih]
  constructor
  ·intro h';simp[h']
  ·intro h'
   rcases List.mem_append.1 h' with h'|h'
   ·exact h'
   ·simp at h';subst h'
    rw[compactL_last]at h
    exact List.mem_of_getLast? h
 ·simp[ih]
theorem compactL_le(l:List Int):(compactL l).length≤l.length:=by
 refine snoc_ind (p:=fun l=>(compactL l).length≤l.length) l (Nat.le_refl _) fun l y ih=>?_
 rw[compactL_snoc]
 split<;>simp<;>omega
theorem compactL_take{l:List Int}{j:Nat}(hj:j < l.length)(h0:0 < j):compactL (l.take (j+1))=if l[j - 1]=l[j] then compactL (l.take j) else compactL (l.take j)++[l[j]]:=by
 rw[List.take_succ_eq_append_getElem hj,compactL_snoc,compactL_last]
 have:(l.take j).getLast?=some l[j - 1]:=by
  rw[List.getLast?_eq_getElem?]
  simp[List.getElem?_take]
  have:min j l.length=j:=by omega
  rw[this]
  simp[show j - 1 < j by omega,show j - 1 < l.length by omega]
 rw[this]
 simp
theorem setG{σ:Store}{id:Nat}{o o':Obj}(h:σ[id]?=some o):(σ.set id o')[id]?=some o':=by
 have:=(List.getElem?_eq_some_iff.1 h).1
 simp[this]
def stepA(l:List Int)(k0:Nat):Nat→List Int×Nat
 | 0=>(l,k0)
 | m+1=>let p:=stepA l k0 m
  if l.getD (k0+m+1) 0=l.getD (k0+m) 0 then p else (p.1.set p.2 (l.getD (k0+m+1) 0),p.2+1)
theorem stepA_ok{l:List Int}{k0:Nat}(h0:0 < k0)(hk:k0 < l.length)(hd:l[k0 - 1]=l[k0])(hp:compactL (l.take k0)=l.take k0):∀ m,k0+m < l.length →
  (stepA l k0 m).1.length=l.length∧(stepA l k0 m).2≤k0+m∧(stepA l k0 m).1.take (stepA l k0 m).2=compactL (l.take (k0+m+1))∧(stepA l k0 m).1.drop (k0+m)=l.drop (k0+m)
 | 0,_=>by
  have:=compactL_take (l:=l) hk h0
  rw[if_pos hd,hp]at this
  simp[stepA,this]
 | m+1,hm=>by
  obtain ⟨i1,i2,i3,i4⟩:=stepA_ok h0 hk hd hp m (by omega)
  have g1:l.getD (k0+m+1) 0=l[k0+m+1]:=by simp[List.getD_eq_getElem?_getD,show k0+m+1 < l.length by omega]
  have g2:l.getD (k0+m) 0=l[k0+m]:=by simp[List.getD_eq_getElem?_getD,show k0+m < l.length by omega]
  have hc:=compactL_take (l:=l) (j:=k0+m+1) (by omega) (by omega)
  have e1:(stepA l k0 m).1.drop (k0+(m+1))=l.drop (k0+(m+1)):=by
   have:=congrArg (List.drop 1) i4
   simpa [List.drop_drop,Nat.add_assoc,Nat.add_comm,Nat.add_left_comm] using this
  unfold stepA
  simp only[g1,g2]
  by_cases hq:l[k0+m+1]=l[k0+m]
  ·rw[if_pos hq]
   rw[if_pos (by simpa using hq.symm)]at hc
   exact ⟨i1,by omega,by rw[i3];simpa [Nat.add_assoc] using hc.symm,e1⟩
  ·rw[if_neg hq]
   rw[if_neg (by simpa using fun e=>hq e.symm)]at hc
   refine ⟨by simp[i1],by simp;omega,?_,?_⟩
   ·have h2:(stepA l k0 m).2 < (stepA l k0 m).1.length:=by omega
    simp only
    rw[List.take_succ_eq_append_getElem (by simpa using h2),List.take_set_of_le (by omega),i3]
    simp only[List.getElem_set_self]
    simpa [Nat.add_assoc] using hc.symm
   ·simp only
    rw[List.drop_set_of_lt (by omega)]
    exact e1
theorem ints_get{l:List Int}{k:Nat}(h:k < l.length):(intsA l)[k]?=some (.int .i64 l[k]):=by simp[intsA,h]
theorem ints_set(l:List Int)(k:Nat)(x:Int):(intsA l).set k (.int .i64 x)=intsA (l.set k x):=by simp[intsA,List.map_set]
abbrev innS(σ:Store)(id ep n k0:Nat)(l:List Int)(m:Nat):St:=
 ⟨[.sl id ep 0 n,.any,.int .i64 ((stepA l k0 m).2:Nat),.sl id ep k0 (n - k0),.int .i64 ((m+1:Nat):Int),.bool false,.bool true,.bool true,.any,.any],σ.set id (.arr 1 ep (intsA (stepA l k0 m).1))⟩
theorem compact_inn{σ:Store}{id ep k0:Nat}{l:List Int}(hσ:σ[id]?=some (.arr 1 ep (intsA l)))(hn:l.length≤most)(h0:0 < k0)(hk:k0 < l.length)(hd:l[k0 - 1]=l[k0])(hp:compactL (l.take k0)=l.take k0) :
  rounds code σ.length [8,9] l_qfp_0 (innS σ id ep l.length k0 l 0)=some (.ext 2,⟨[.sl id ep 0 l.length,.any,.int .i64 ((compactL l).length:Nat),.sl id ep k0 (l.length - k0),.int .i64 ((l.length - k0:Nat):Int),.bool false,.bool true,.bool true,.bool false,.any],σ.set id (.arr 1 ep (intsA (stepA l k0 (l.length - k0 - 1)).1))⟩):=by
 refine rounds_iter (innS σ id ep l.length k0 l) (l.length - k0 - 1) _ (fun m hm=>?_) ?_
 ·obtain ⟨i1,i2,i3,i4⟩:=stepA_ok h0 hk hd hp m (by omega)
  have hs:stepA l k0 (m+1)=if l.getD (k0+m+1) 0=l.getD (k0+m) 0 then stepA l k0 m else ((stepA l k0 m).1.set (stepA l k0 m).2 (l.getD (k0+m+1) 0),(stepA l k0 m).2+1):=rfl
  have g1:l.getD (k0+m+1) 0=l[k0+m+1]:=by simp[List.getD_eq_getElem?_getD,show k0+m+1 < l.length by omega]
  have g2:l.getD (k0+m) 0=l[k0+m]:=by simp[List.getD_eq_getElem?_getD,show k0+m < l.length by omega]
  rw[g1,g2]at hs
  clear g1 g2
  unfold innS
  rcases hA:stepA l k0 m with ⟨A,k⟩
  rw[hA]at i1 i2 i3 i4 hs
  rw[hs]
  clear hs hA
  simp only at i1 i2 i3 i4
  have hg:=setG (o':=.arr 1 ep (intsA A)) hσ
  have a1:(intsA A)[k0+(m+1)]?=some (.int .i64 l[k0+m+1]):=by
   have:A[k0+(m+1)]=l[k0+m+1]:=by
    have:=congrArg (fun x=>x[1]?) i4
    simp only[List.getElem?_drop]at this
    rw[List.getElem?_eq_getElem (by omega),List.getElem?_eq_getElem (by omega)]at this
    simpa [Nat.add_assoc] using this
   rw[ints_get (by omega),this]
  have a2:(intsA A)[k0+m]?=some (.int .i64 l[k0+m]):=by
   have:A[k0+m]=l[k0+m]:=by
    have:=congrArg (fun x=>x[0]?) i4
    simp only[List.getElem?_drop]at this
    rw[List.getElem?_eq_getElem (by omega),List.getElem?_eq_getElem (by omega)]at this
    simpa [Nat.add_assoc] using this
   rw[ints_get (by omega),this]
  have hlt:((m:Int)+1 < ((l.length - k0:Nat):Int)):=by omega
  have hn':l.length≤68719476736:=hn
  have w1:=w64 (n:=(m:Int)) (by omega) (by omega)
  have w2:=w64 (n:=(m:Int)+1+1) (by omega) (by omega)
  have w3:=w64 (n:=(k:Int)+1) (by omega) (by omega)
  have c1:m+1 < l.length - k0:=by omega
  have c2:m < l.length - k0:=by omega
  have c3:k < l.length:=by omega
  have cst:((m:Int)+1).toNat=m+1:=by omega
  have nn:(0:Int)≤(m:Int)+1:=by omega
  have c4:k < A.length:=by omega
  have hset:(intsA A)[k]?=some (.int .i64 A[k]):=ints_get c4
  by_cases hq:l[k0+m+1]=l[k0+m]
  ·rw[if_pos hq]
   simp[l_qfp_0,hlt,hg,a1,a2,c1,c2,w1,w2,w3,cst,nn,hq,roundEnd_same,-List.getElem?_map]
  ·rw[if_neg hq]
   simp[l_qfp_0,hlt,hg,a1,a2,c1,c2,c3,w1,w2,w3,cst,nn,hq,roundEnd_same,hset,bne_t hq,-List.getElem?_map]
 ·obtain ⟨i1,i2,i3,i4⟩:=stepA_ok h0 hk hd hp (l.length - k0 - 1) (by omega)
  have hlen:(compactL l).length=(stepA l k0 (l.length - k0 - 1)).2:=by
   rw[show k0+(l.length - k0 - 1)+1=l.length by omega,List.take_length]at i3
   rw[← i3,List.length_take];omega
  rw[hlen]
  unfold innS
  rcases hA:stepA l k0 (l.length - k0 - 1) with ⟨A,k⟩
  have hg:=setG (o':=.arr 1 ep (intsA A)) hσ
  have e1:l.length - k0 - 1+1=l.length - k0:=by omega
  rw[e1]
  simp[l_qfp_0,hg]
theorem set_sameX{σ:Store}{id:Nat}{o:Obj}(h:σ[id]?=some o):σ.set id o=σ:=by
 refine List.ext_getElem? fun i=>?_
 by_cases hi:id=i
 ·subst hi;rw[setG h,h]
 ·rw[List.getElem?_set_ne hi]
theorem compact_id{l:List Int}(h:∀ k (_:0 < k) (hk:k < l.length),l[k - 1]≠l[k]):∀ j,j≤l.length→compactL (l.take j)=l.take j
 | 0,_=>by simp[compactL]
 | 1,hj=>by
  match l,hj with
  | a::r,_=>simp[compactL]
 | j+2,hj=>by
  rw[compactL_take (j:=j+1) (by omega) (by omega),if_neg (h (j+1) (by omega) (by omega)),compact_id h (j+1) (by omega),← List.take_succ_eq_append_getElem]
abbrev outS(σ:Store)(id ep n:Nat)(m:Nat):St:=⟨[.sl id ep 0 n,.any,.int .i64 ((m+1:Nat):Int),.any,.any,.bool false,.any,.any,.any,.any],σ⟩
theorem compact_outStep{σ:Store}{id ep:Nat}{l:List Int}(hσ:σ[id]?=some (.arr 1 ep (intsA l)))(hn:l.length≤most)(m:Nat)(hm:m+1 < l.length)(hd:l[m]≠l[m+1]) :
  thenLoop σ.length [1,3,4,6,7,8,9] l_qfp_1 (run code l_qfp_1 (outS σ id ep l.length m))=rounds code σ.length [1,3,4,6,7,8,9] l_qfp_1 (outS σ id ep l.length (m+1)):=by
 have hn':l.length≤68719476736:=hn
 have w1:=w64 (n:=(m:Int)) (by omega) (by omega)
 have w2:=w64 (n:=(m:Int)+1+1) (by omega) (by omega)
 have hlt:((m:Int)+1 < (l.length:Int)):=by omega
 have a1:=ints_get (l:=l) (k:=m+1) hm
 have a2:=ints_get (l:=l) (k:=m) (by omega)
 have cst:((m:Int)+1).toNat=m+1:=by omega
 have nn:(0:Int)≤(m:Int)+1:=by omega
 have c2:m < l.length:=by omega
 have hb:(l[m+1] == l[m])=false:=beq_f (Ne.symm hd)
 simp[l_qfp_1,outS,hlt,hσ,a1,a2,w1,w2,cst,nn,hm,c2,hb,roundEnd_same,-List.getElem?_map]
theorem first_dup(l:List Int):(∀ k (_:0 < k) (hk:k < l.length),l[k - 1]≠l[k])∨∃ k0,∃ (_:0 < k0) (hk:k0 < l.length),l[k0 - 1]=l[k0]∧∀ k (_:0 < k) (hk':k < k0),l[k - 1]≠l[k]:=by
 have key:∀ n,n≤l.length→(∀ k (_:0 < k) (hk:k < n) (hk':k < l.length),l[k - 1]≠l[k])∨∃ k0,∃ (_:0 < k0) (hk:k0 < l.length),l[k0 - 1]=l[k0]∧∀ k (_:0 < k) (hk':k < k0),l[k - 1]≠l[k]:=by
  intro n
  induction n with
  | zero=>intro _;exact .inl fun k _ hk=>absurd hk (Nat.not_lt_zero _)
  | succ n ih=>
   intro hn
   rcases ih (by omega) with h|h
   ·by_cases h0:0 < n
    ·by_cases hd:l[n - 1]=l[n]
     ·exact .inr ⟨n,h0,by omega,hd,fun k hk hk'=>h k hk hk' (by omega)⟩
     ·exact .inl fun k hk hkn hk'=>by
       by_cases he:k=n
       ·subst he;exact hd
       ·exact h k hk (by omega) hk'
    ·exact .inl fun k hk hkn hk'=>by omega
   ·exact .inr h
 rcases key l.length (Nat.le_refl _) with h|h
 ·exact .inl fun k h0 hk=>h k h0 hk hk
 ·exact .inr h
theorem compact_spec{σ:Store}{id ep:Nat}{l:List Int}(hσ:σ[id]?=some (.arr 1 ep (intsA l)))(hn:l.length≤most) :
  ∃ A:List Int,acall code I.qfp [.sl id ep 0 l.length] σ=some (.sl id ep 0 (compactL l).length,σ.set id (.arr 1 ep (intsA A)))∧A.length=l.length∧A.take (compactL l).length=compactL l:=by
 rw[acall_keep c_qfp rfl]
 by_cases h2:l.length < 2
 ·have hc:=compact_id (l:=l) (fun k h0 hk=>by omega) l.length (Nat.le_refl _)
  rw[List.take_length]at hc
  refine ⟨l,?_,rfl,by rw[hc,List.take_length]⟩
  have hi:((l.length:Int) < 2):=by omega
  rw[hc,set_sameX hσ]
  simp[f_qfp,b_qfp,hσ,hi]
 ·have hi:¬((l.length:Int) < 2):=by omega
  rcases first_dup l with h|⟨k0,h0,hk,hd,hb⟩
  ·have hc:=compact_id h l.length (Nat.le_refl _)
   rw[List.take_length]at hc
   refine ⟨l,?_,rfl,by rw[hc,List.take_length]⟩
   have hloop:=rounds_iter (base:=σ.length) (clr:=[1,3,4,6,7,8,9]) (b:=l_qfp_1) (outS σ id ep l.length) (l.length - 1)
    (.ext 0,⟨[.sl id ep 0 l.length,.any,.int .i64 l.length,.any,.any,.bool false,.bool false,.any,.any,.any],σ⟩)
    (fun m hm=>compact_outStep hσ hn m (by omega) (h (m+1) (by omega) (by omega))) (by
     unfold outS
     rw[show l.length - 1+1=l.length by omega]
     simp[l_qfp_1,hσ])
   unfold outS at hloop
   simp at hloop
   rw[hc,set_sameX hσ]
   simp[f_qfp,b_qfp,hσ,hi,hloop]
  ·have hp:compactL (l.take k0)=l.take k0:=by
    have:=compact_id (l:=l.take k0) (fun k hk0 hkk=>by
     simp at hkk
     simpa using hb k hk0 (by omega)) k0 (by simp;omega)
    rwa [List.take_take,Nat.min_self]at this
   have hin:=compact_inn (ep:=ep) hσ hn h0 hk hd hp
   obtain ⟨i1,i2,i3,i4⟩:=stepA_ok h0 hk hd hp (l.length - k0 - 1) (by omega)
   rw[show k0+(l.length - k0 - 1)+1=l.length by omega,List.take_length]at i3
   have hle:(stepA l k0 (l.length - k0 - 1)).2=(compactL l).length:=by rw[← i3,List.length_take];omega
   rw[hle]at i3
   generalize (stepA l k0 (l.length - k0 - 1)).1=A at *
   have hcl:=compactL_le l
   generalize hC:(compactL l).length=c at *
   have hg:=fun o'=>setG (o':=o') hσ
   refine ⟨A.take c++List.replicate (l.length - c) 0++A.drop (c+(l.length - c)),?_,by simp;omega,by
    rw[List.append_assoc,List.take_left' (by simp;omega)];exact i3⟩
   have hloop:=rounds_iter (base:=σ.length) (clr:=[1,3,4,6,7,8,9]) (b:=l_qfp_1) (outS σ id ep l.length) (k0 - 1)
    (.ret,⟨[.sl id ep 0 l.length,.sl id ep 0 c,.int .i64 c,.sl id ep k0 (l.length - k0),.int .i64 ((l.length - k0:Nat):Int),.bool false,.bool true,.bool true,.bool false,.any],σ.set id (.arr 1 ep (intsA (A.take c++List.replicate (l.length - c) 0++A.drop (c+(l.length - c)))))⟩)
    (fun m hm=>compact_outStep hσ hn m (by omega) (hb (m+1) (by omega) (by omega))) (by
     unfold outS
     rw[show k0 - 1+1=k0 by omega]
     have hn':l.length≤68719476736:=hn
     have w1:=w64 (n:=(k0:Int) - 1) (by omega) (by omega)
     have w2:((k0:Int) - 1).toNat=k0 - 1:=by omega
     have w3:(0:Int)≤(k0:Int) - 1:=by omega
     have w4:(1:Int)≤(k0:Int):=by omega
     have hlt:((k0:Int) < (l.length:Int)):=by omega
     have a1:=ints_get (l:=l) (k:=k0) hk
     have a2:=ints_get (l:=l) (k:=k0 - 1) (by omega)
     have c3:k0 - 1 < l.length:=by omega
     have c4:k0≤l.length:=by omega
     have c5:c+(l.length - c)=l.length:=by omega
     unfold innS at hin
     simp[stepA]at hin
     rw[set_sameX hσ]at hin
     simp[l_qfp_1,hlt,hσ,a1,a2,w1,w2,w3,w4,c3,c4,hd,hin,hk,hg,hcl,i1,c5,-List.getElem?_map])
   unfold outS at hloop
   simp at hloop
   simp[f_qfp,b_qfp,hσ,hi,hloop]
end Go.AM
end
namespace Go.AM
structure EN where
 tag:Int
 l:Int
 r:Int
 col:Int
 v:Val
 deriving DecidableEq,Inhabited
def EN.a(n:EN):AVal:=.agg [.int .i64 n.tag,.int .i64 n.l,.int .i64 n.r,.int .i64 n.col,.int .i64 n.v.k,.int .i64 n.v.n,.int .u64 n.v.u,.str n.v.s]
end Go.AM
section
namespace Go.AM
open P
set_option maxHeartbeats 4000000
set_option maxRecDepth 4000
@[simp] theorem en_ncells(n:EN):ncells n.a=8:=rfl
@[simp] theorem en_isAgg(n:EN):isAgg n.a=true:=rfl
@[simp] theorem en_fz(n:EN)(fl top:Bool)(base:Nat)(σ:Store)(m:Nat):fz fl top base σ (m+2) n.a=n.a:=by simp[EN.a]
def ensA(e:List EN):List AVal:=e.map EN.a
@[simp] theorem ensA_length(e:List EN):(ensA e).length=e.length:=by simp[ensA]
theorem ensA_get{e:List EN}{k:Nat}(h:k < e.length):(ensA e)[k]?=some e[k].a:=by simp[ensA,h]
def exprA(b:Bool)(e:List EN):AVal:=.agg [.imm b (ensA e)]
def eparts(t:Int):Int:=if t=1∨t=2 then 0 else if 4≤t∧t≤7 then 1 else if 12≤t∧t≤23 then 2 else -1
theorem parts_spec(t:Int):pcall I.qdo [.int .i64 t]=some (.int .i64 (eparts t)):=by
 rw[pcall_eq c_qdo rfl]
 unfold eparts
 by_cases h1:t=1
 ·subst h1;simp[f_qdo,b_qdo]
 ·by_cases h2:t=2
  ·subst h2;simp[f_qdo,b_qdo]
  ·have e12:¬(t=1∨t=2):=by omega
   rw[if_neg e12]
   by_cases h3:4≤t
   ·by_cases h4:t≤7
    ·simp[f_qdo,b_qdo,beq_f h1,beq_f h2,h3,h4]
    ·by_cases h5:12≤t
     ·by_cases h6:t≤23
      ·simp[f_qdo,b_qdo,beq_f h1,beq_f h2,h3,h4,h5,h6]
      ·simp[f_qdo,b_qdo,beq_f h1,beq_f h2,h3,h4,h5,h6]
     ·simp[f_qdo,b_qdo,beq_f h1,beq_f h2,h3,h4,h5]
   ·have h5:¬(12≤t):=by omega
    simp[f_qdo,b_qdo,beq_f h1,beq_f h2,h3,h5]
def plainV(v:Val):Bool:=okV v&&v.k != 4
theorem Plain_spec(v:Val):pcall I.qhe [v.a]=some (.bool (plainV v)):=by
 rw[pcall_eq c_qhe rfl]
 have h:=Check_spec v
 unfold plainV
 obtain ⟨k,n,u,s⟩:=v
 simp only[a_mk]at *
 cases hv:okV ⟨k,n,u,s⟩<;>rw[hv]at h<;>simp[f_qhe,b_qhe,h]
def zeroV:Val:=⟨0,0,0,[]⟩
def countsE(n:EN):Bool:=if n.tag=1 then plainV n.v&&n.col == 0 else if n.tag=2 then n.v == zeroV&&decide (0≤n.col)&&decide (n.col < 16) else n.v == zeroV&&n.col == 0
theorem zero_eq(v:Val):eqCells [0,0,0,2] [.int .i64 v.k,.int .i64 v.n,.int .u64 v.u,.str v.s] [.int .i64 0,.int .i64 0,.int .u64 0,.str []]=some (v == zeroV):=by
 obtain ⟨k,n,u,s⟩:=v
 unfold zeroV
 by_cases hk:k=0
 ·by_cases hn:n=0
  ·by_cases hu:u=0
   ·by_cases hs:s=[]
    ·subst hk hn hu hs;simp
    ·have hs':(s == [])=false:=by simp[hs]
     have e:((⟨k,n,u,s⟩:Val) == ⟨0,0,0,[]⟩)=false:=by simp[hs]
     rw[e];simp[hk,hn,hu,hs']
   ·have e:((⟨k,n,u,s⟩:Val) == ⟨0,0,0,[]⟩)=false:=by simp[hu]
    rw[e];simp[hk,hn,beq_f hu]
  ·have e:((⟨k,n,u,s⟩:Val) == ⟨0,0,0,[]⟩)=false:=by simp[hn]
   rw[e];simp[hk,beq_f hn]
 ·have e:((⟨k,n,u,s⟩:Val) == ⟨0,0,0,[]⟩)=false:=by simp[hk]
  rw[e];simp[beq_f hk]
theorem counts_spec(n:EN):pcall I.qdb [n.a]=some (.bool (countsE n)):=by
 rw[pcall_eq c_qdb rfl]
 have hp:=Plain_spec n.v
 have hz:=zero_eq n.v
 unfold countsE EN.a
 unfold Val.a at hp
 by_cases h1:n.tag=1
 ·cases hv:plainV n.v<;>rw[hv]at hp<;>simp[f_qdb,b_qdb,h1,hp]
 ·by_cases h2:n.tag=2
  ·cases hv:(n.v == zeroV)<;>rw[hv]at hz<;>simp[f_qdb,b_qdb,h2,hz,-eqCells]
   by_cases h3:0≤n.col<;>simp[h3]
  ·cases hv:(n.v == zeroV)<;>rw[hv]at hz<;>simp[f_qdb,b_qdb,h1,h2,beq_f h1,beq_f h2,hz,-eqCells]
end Go.AM
end
namespace Go.AM
instance:Nc EN.a 8 true:=⟨fun _=>rfl,fun _=>rfl⟩
instance:Fx EN.a:=⟨fun fl top base σ n y=>en_fz y fl top base σ (n+1)⟩
structure AggX where
 tag:Int
 b:Bool
 arg:List EN
def AggX.a(a:AggX):AVal:=.agg [.int .i64 a.tag,.imm a.b (a.arg.map EN.a)]
structure ExX where
 b:Bool
 l:List EN
def ExX.a(e:ExX):AVal:=.agg [.imm e.b (e.l.map EN.a)]
structure LNX where
 op:Int
 l:Int
 r:Int
 tab:Int
 bk:Bool
 kinds:List Int
 left:Bool
 bc:Bool
 cond:List EN
 by':Bool
 keys:List Int
 bg:Bool
 aggs:List AggX
 bi:Bool
 items:List ExX
 bo:Bool
 ords:List (Int×Bool)
 limit:Int
def LNX.a(n:LNX):AVal:=.agg [.int .i64 n.op,.int .i64 n.l,.int .i64 n.r,.int .i64 n.tab,.imm n.bk (n.kinds.map (.int .i64)),.bool n.left,.imm n.bc (n.cond.map EN.a),.imm n.by' (n.keys.map (.int .i64)),.imm n.bg (n.aggs.map AggX.a),.imm n.bi (n.items.map ExX.a),.imm n.bo (n.ords.map ordA),.int .i64 n.limit]
instance:Nc AggX.a 2 true:=⟨fun _=>rfl,fun _=>rfl⟩
instance:Ft AggX.a:=⟨fun fl top base σ n y h=>by cases fl<;>cases top<;>simp[AggX.a]at h ⊢⟩
instance:Nc ExX.a 1 true:=⟨fun _=>rfl,fun _=>rfl⟩
instance:Ft ExX.a:=⟨fun fl top base σ n y h=>by cases fl<;>cases top<;>simp[ExX.a]at h ⊢⟩
instance:Nc ordA 2 true:=⟨fun _=>rfl,fun _=>rfl⟩
instance:Fx ordA:=⟨fun fl top base σ n y=>by simp[ordA]⟩
instance:Nc LNX.a 12 true:=⟨fun _=>rfl,fun _=>rfl⟩
instance:Ft LNX.a:=⟨fun fl top base σ n y h=>by cases fl<;>cases top<;>simp[LNX.a]at h ⊢⟩
instance:Nc (SlX.c (AVal.int .i64)) 1 false:=⟨fun _=>rfl,fun _=>rfl⟩
instance:Ft (SlX.c (AVal.int .i64)):=⟨fun fl top base σ n y h=>by cases fl<;>cases top<;>simp at h ⊢⟩
end Go.AM
section
namespace Go.AM
open P
set_option maxHeartbeats 4000000
set_option maxRecDepth 8000
attribute [local simp] condRun_if when_if
def partsF(op:Int):Int:=if op=1∨op=9 then 0 else if op=2∨op=7 then 2 else if op=3∨op=4∨op=5∨op=6∨op=8∨op=10∨op=11 then 1 else -1
theorem parts18_spec(op:Int):pcall I.qel [.int .i64 op]=some (.int .i64 (partsF op)):=by
 rw[pcall_eq c_qel rfl]
 unfold partsF
 simp[f_qel,b_qel]
 repeat' (split<;>(try simp_all))
def blankF(n:LNX):Bool:=
 (n.op == 1 || n.op == 9 || n.tab == 0&&n.kinds.length == 0)&&(n.op == 2 || !n.left)&&(n.op == 2 || n.op == 3 || n.cond.length == 0) &&
 (n.op == 4 || n.op == 10 || n.op == 11 || (n.keys.length:Int)+n.aggs.length == 0)&&(n.op == 5 || n.items.length == 0)&&(n.op == 8 || n.ords.length == 0&&n.limit == 0)
theorem blank18_spec(n:LNX)(h1:n.keys.length≤most)(h2:n.aggs.length≤most):pcall I.qdv [n.a]=some (.bool (blankF n)):=by
 rw[pcall_eq c_qdv rfl]
 have hw:IntKind.i64.wrap ((n.keys.length:Int)+(n.aggs.length:Int))=(n.keys.length:Int)+n.aggs.length:=wrap64_id (by unfold most at *;omega)
 unfold blankF
 simp[f_qdv,b_qdv,LNX.a,hw]
 repeat' (split<;>(try simp_all))
end Go.AM
end
section
namespace Go.AM
open P
set_option maxHeartbeats 4000000
set_option maxRecDepth 8000
attribute [local simp] condRun_if when_if
def arithF(t:Int):Bool:=t == 4 || decide (12≤t)&&decide (t≤15)
@[simp] theorem arithmetic_spec(t:Int):pcall I.qda [.int .i64 t]=some (.bool (arithF t)):=by
 rw[pcall_eq c_qda rfl]
 unfold arithF
 simp[f_qda,b_qda]
 repeat' (split<;>(try simp_all))
 all_goals omega
def ownG(own k:Int):Int:=if k=0∨k=own then own else if own=0 then k else -1
def kind1F(kinds:List Int)(n:EN)(l:List Int):Int×Int:=
 let own:=l.foldl ownG 0
 if n.tag=1 then (n.v.k,0) else if n.tag=2 then (kinds.getD n.col.toNat 0,0) else
 let want:=if arithF n.tag then 2 else if n.tag=5∨n.tag=22∨n.tag=23 then 1 else own
 if own=-1∨own≠0∧own≠want then (0,201) else (if arithF n.tag then 2 else 1,0)
theorem kind1_spec(n:EN)(b:Bool)(l:List Int)(bk:Bool)(kinds:List Int)(hl:l.length≤most)(hc:n.tag=2→0≤n.col∧n.col < kinds.length) :
  pcall I.qcz [n.a,.imm b (l.map (.int .i64)),.cptr true (.imm bk (kinds.map (.int .i64))) 0]=some (.tup [.int .i64 (kind1F kinds n l).1,.int .i64 (kind1F kinds n l).2]):=by
 rw[pcall_eq c_qcz rfl]
 have h:=fun x=>(rounds_fold (base:=1) (clr:=[7,13,14,15]) (b:=l_qcz_0) l
  (fun k (own:Int)=>⟨[n.a,.imm b (l.map (.int .i64)),.cptr true (.imm bk (kinds.map (.int .i64))) 0,.ptr 0 0 0 0,.int .i64 0,.int .i64 0,.int .i64 own,.any,.any,.any,.imm b (l.map (.int .i64)),.int .i64 l.length,.int .i64 k,.any,.any,.any,.any,.any,.any,.any,.any],[.arr 8 0 [n.a]]⟩)
  (fun _ _=>True) ownG
  (fun own=>(.ext 0,⟨[n.a,.imm b (l.map (.int .i64)),.cptr true (.imm bk (kinds.map (.int .i64))) 0,.ptr 0 0 0 0,.int .i64 0,.int .i64 0,.int .i64 own,.any,.any,.any,.imm b (l.map (.int .i64)),.int .i64 l.length,.int .i64 l.length,.bool false,.any,.any,.any,.any,.any,.any,.any],[.arr 8 0 [n.a]]⟩))
  (fun k y own hk hy _=>by
   refine ⟨?_,trivial⟩
   have hlt:((k:Int) < (l.length:Int)):=by omega
   unfold ownG
   simp[l_qcz_0,hlt,hy,roundEnd_same]
   repeat' (split<;>(try simp_all[wrap_lt hk hl,roundEnd_same])))
  (fun own _=>by simp[l_qcz_0]) 0 x).1
 have h:=h trivial
 simp[EN.a]at h
 unfold kind1F
 simp[f_qcz,b_qcz,h,EN.a]
 generalize l.foldl ownG 0=own
 repeat' (split<;>(try simp_all))
end Go.AM
end
section
namespace Go.AM
open P
set_option maxHeartbeats 8000000
set_option maxRecDepth 8000
def natsA(l:List Nat):List AVal:=l.map fun (n:Nat)=>.int .i64 (n:Int)
@[simp] theorem natsA_length(l:List Nat):(natsA l).length=l.length:=by simp[natsA]
@[simp] theorem natsA_nil:natsA []=[]:=rfl
theorem natsA_get{l:List Nat}{k:Nat}(h:k < l.length):(natsA l)[k]?=some (.int .i64 (l[k]:Int)):=by simp[natsA,h]
theorem natsA_getE{l:List Nat}{k:Nat}(h:k < (natsA l).length):(natsA l)[k]=.int .i64 ((l[k]'(by simpa using h):Nat):Int):=by simp[natsA]
theorem natsA_append(l m:List Nat):natsA (l++m)=natsA l++natsA m:=by simp[natsA]
@[simp] theorem natsA_one(n:Nat):natsA [n]=[.int .i64 (n:Int)]:=rfl
@[simp] theorem natsA_two(n m:Nat):natsA [n,m]=[.int .i64 (n:Int),.int .i64 (m:Int)]:=rfl
theorem natsA_fz(l:List Nat)(fl top:Bool)(base:Nat)(σ:Store)(m:Nat):(natsA l).map (fz fl top base σ (m+1))=natsA l:=by
 unfold natsA
 rw[List.map_map]
 exact List.map_congr_left fun n _=>by simp
theorem natsA_freeze(l:List Nat)(base:Nat)(σ:Store):(natsA l).map (freeze base σ)=natsA l:=natsA_fz l false true base σ 19
def stepE(i:Nat)(n:EN)(all opn:List Nat):Option (List Nat×List Nat):=
 if eparts n.tag < 0∨opn.length < eparts n.tag∨countsE n=false then none else
 match opn.drop (opn.length - (eparts n.tag).toNat) with
 | []=>if n.l=-1∧n.r=-1 then some (all++[i],opn++[i]) else none
 | [p]=>if n.l=p∧n.r=-1 then some (all++[min i (all.getD p 0)],opn.take (opn.length - 1)++[i]) else none
 | [p,q]=>if n.l=p∧n.r=q then some (all++[min (min i (all.getD p 0)) (all.getD q 0)],opn.take (opn.length - 2)++[i]) else none
 | _=>none
abbrev firstsSt(b:Bool)(e:List EN)(k:Nat)(all opn:List Nat):St:=
 ⟨[.agg [.imm b (ensA e)],.ptr 0 0 0 0,.any,.any,.sl 1 k 0 all.length,.sl 2 k 0 opn.length,.any,.any,.any,.any,.any,.any,.any,.any,.imm b (ensA e),.int .i64 e.length,.int .i64 k,.any,.any,.any,.any,.any,.any,.any],
  [.arr 1 0 [.agg [.imm b (ensA e)]],.arr 1 k (natsA all),.arr 1 k (natsA opn)]⟩
theorem eparts_le(t:Int):-1≤eparts t∧eparts t≤2:=by
 unfold eparts
 repeat' split
 all_goals omega
theorem wrap1:IntKind.i64.wrap 1=1:=rfl
theorem wrap2:IntKind.i64.wrap 2=2:=rfl
theorem firsts_step{b:Bool}{e:List EN}{k:Nat}{all opn all' opn':List Nat}(hk:k < e.length)(hn:e.length≤most)(ha:all.length=k)(ho:∀ p∈opn,p < k)(hol:opn.length≤k)
  (h:stepE k e[k] all opn=some (all',opn')) :
  thenLoop 3 [2,3,6,7,8,9,10,11,12,13,17,18,19,20,21,22,23] l_qdf_1 (run code l_qdf_1 (firstsSt b e k all opn)) =
   rounds code 3 [2,3,6,7,8,9,10,11,12,13,17,18,19,20,21,22,23] l_qdf_1 (firstsSt b e (k+1) all' opn'):=by
 have h1:=ensA_get hk
 have hp:=parts_spec e[k].tag
 have hc:=counts_spec e[k]
 have hlt:((k:Int) < (e.length:Int)):=by omega
 unfold stepE at h
 split at h
 ·cases h
 rename_i hneg
 have hc1:countsE e[k]=true:=by cases hq:countsE e[k]<;>simp_all
 rw[hc1]at hc
 have hk0:¬(eparts e[k].tag < 0):=by omega
 have hk1:¬((opn.length:Int) < eparts e[k].tag):=by omega
 have hk2:=eparts_le e[k].tag
 have hm:k+1≤most:=by omega
 have hcases:eparts e[k].tag=0∨eparts e[k].tag=1∨eparts e[k].tag=2:=by omega
 rcases hcases with h0|h0|h0
 ·rw[h0]at h hp
  simp at h
  obtain ⟨⟨e1,e2⟩,rfl,rfl⟩:=h
  unfold EN.a at h1 hc
  rw[e1,e2]at h1 hc
  have t1:(natsA all).take k=natsA all:=List.take_of_length_le (by simp[ha])
  have t2:(natsA opn).take opn.length=natsA opn:=List.take_of_length_le (by simp)
  have f1:=natsA_fz all
  have f2:=natsA_fz opn
  have g1:=natsA_freeze all
  have g2:=natsA_freeze opn
  have hnn:¬((opn.length:Int) < 0):=by omega
  have hw:IntKind.i64.wrap (opn.length:Int)=opn.length:=wrap64_id (by unfold most at hn;omega)
  have hm':opn.length+1≤most:=by omega
  simp[firstsSt,l_qdf_1,h1,hlt,hp,hc,ha,t1,t2,f1,f2,g1,g2,hnn,hw,append,natsA_append,hm,hm',wrap_lt hk hn,roundEnd,freezeObj,rounds_go 5,rounds_go 6,l_qdf_0]
 ·rw[h0]at h hp hk1
  have hol1:1≤opn.length:=by omega
  obtain ⟨o,p,rfl⟩:∃ o p,opn=o++[p]:=⟨opn.dropLast,opn.getLast (by intro e;subst e;simp at hol1),(List.dropLast_concat_getLast _).symm⟩
  simp at h
  obtain ⟨⟨e1,e2⟩,rfl,rfl⟩:=h
  have hpk:p < k:=ho p (by simp)
  unfold EN.a at h1 hc
  rw[e1,e2]at h1 hc
  have hpa:p < all.length:=by omega
  have q1:=natsA_get hpa
  have t1:(natsA all).take k=natsA all:=List.take_of_length_le (by simp[ha])
  have t2:(natsA (o++[p])).take o.length=natsA o:=by rw[natsA_append,List.take_left' (by simp)]
  have t3:(natsA (o++[p]))[o.length]?=some (.int .i64 (p:Int)):=by rw[natsA_append,List.getElem?_append_right (by simp)];simp
  have f1:=natsA_fz all
  have f2:=natsA_fz o
  have g1:=natsA_freeze all
  have g2:=natsA_freeze o
  have hlen:(o++[p]).length=o.length+1:=by simp
  have hnn:¬((o.length:Int)+1 < 1):=by omega
  have hw:IntKind.i64.wrap ((o.length:Int)+1 - 1)=o.length:=by rw[wrap64_id (by simp at hol;unfold most at hn;omega)];omega
  have hw1:IntKind.i64.wrap (o.length:Int)=o.length:=by rw[wrap64_id (by simp at hol;unfold most at hn;omega)]
  have hm':o.length+1≤most:=by simp at hol;omega
  simp at hol
  have hd:all[p]?.getD 0=all[p]:=by simp[hpa]
  have hmin:(if all[p] < k then (all[p]:Int) else (k:Int))=((min k all[p]:Nat):Int):=by split<;>omega
  simp[firstsSt,l_qdf_1,h1,hlt,hp,hc,ha,t1,t2,t3,f1,f2,g1,g2,hnn,hw,hw1,append,natsA_append,hm,hm',wrap_lt hk hn,roundEnd,freezeObj,rounds_go 5,l_qdf_0,q1,hpk,hpa,natsA_getE,hmin,wrap1]
 ·rw[h0]at h hp hk1
  have hol1:2≤opn.length:=by omega
  obtain ⟨o',q,rfl⟩:∃ o p,opn=o++[p]:=⟨opn.dropLast,opn.getLast (by intro e;subst e;simp at hol1),(List.dropLast_concat_getLast _).symm⟩
  have hol2:1≤o'.length:=by simp at hol1;omega
  obtain ⟨o,p,rfl⟩:∃ o p,o'=o++[p]:=⟨o'.dropLast,o'.getLast (by intro e;subst e;simp at hol2),(List.dropLast_concat_getLast _).symm⟩
  have hdrop:(o++[p]++[q]).drop ((o++[p]++[q]).length - (2:Int).toNat)=[p,q]:=by
   simp
  have htake:(o++[p]++[q]).take ((o++[p]++[q]).length - 2)=o:=by
   rw[List.append_assoc,List.take_left' (by simp)]
  rw[hdrop]at h
  simp only[htake]at h
  split at h
  ·rename_i e12
   obtain ⟨e1,e2⟩:=e12
   simp only[Option.some.injEq,Prod.mk.injEq]at h
   obtain ⟨rfl,rfl⟩:=h
   have hpk:p < k:=ho p (by simp)
   have hqk:q < k:=ho q (by simp)
   unfold EN.a at h1 hc
   rw[e1,e2]at h1 hc
   have hpa:p < all.length:=by omega
   have hqa:q < all.length:=by omega
   have q1:=natsA_get hpa
   have q2:=natsA_get hqa
   have t1:(natsA all).take k=natsA all:=List.take_of_length_le (by simp[ha])
   have hN:natsA (o++[p]++[q])=natsA o++([.int .i64 (p:Int),.int .i64 (q:Int)]:List AVal):=by simp[natsA_append]
   have t2:(natsA o++([.int .i64 (p:Int),.int .i64 (q:Int)]:List AVal)).take o.length=natsA o:=by rw[List.take_left' (by simp)]
   have t3:(natsA o++([.int .i64 (p:Int),.int .i64 (q:Int)]:List AVal))[o.length]?=some (.int .i64 (p:Int)):=by rw[List.getElem?_append_right (by simp)];simp
   have t4:(natsA o++([.int .i64 (p:Int),.int .i64 (q:Int)]:List AVal))[o.length+1]?=some (.int .i64 (q:Int)):=by rw[List.getElem?_append_right (by simp)];simp
   have f1:=natsA_fz all
   have f2:=natsA_fz o
   have g1:=natsA_freeze all
   have g2:=natsA_freeze o
   simp at hol
   have hnn:¬((o.length:Int)+1+1 < 2):=by omega
   have hnn':¬((o.length:Int)+2 < 2):=by omega
   have hw:IntKind.i64.wrap ((o.length:Int)+1+1 - 2)=o.length:=by rw[wrap64_id (by unfold most at hn;omega)];omega
   have hw':IntKind.i64.wrap ((o.length:Int)+2 - 2)=o.length:=by rw[wrap64_id (by unfold most at hn;omega)];omega
   have hw1:IntKind.i64.wrap (o.length:Int)=o.length:=by rw[wrap64_id (by unfold most at hn;omega)]
   have hm':o.length+1≤most:=by omega
   have hd:all[p]?.getD 0=all[p]:=by simp[hpa]
   have hd2:all[q]?.getD 0=all[q]:=by simp[hqa]
   have hmin:(if all[p] < k then (all[p]:Int) else (k:Int))=((min k all[p]:Nat):Int):=by split<;>omega
   have hmin2:(if all[q] < min k all[p] then (all[q]:Int) else ((min k all[p]:Nat):Int))=((min (min k all[p]) all[q]:Nat):Int):=by split<;>omega
   unfold firstsSt
   rw[hN]
   simp[l_qdf_1,h1,hlt,hp,hc,ha,t1,t2,t3,t4,f1,f2,g1,g2,hnn,hnn',hw,hw',hw1,append,natsA_append,hm,hm',wrap_lt hk hn,roundEnd,freezeObj,rounds_go 5,l_qdf_0,q1,q2,hpk,hpa,hqk,hqa,natsA_getE,hmin,hmin2,wrap1,wrap2]
  ·cases h
end Go.AM
end
section
namespace Go.AM
open P
set_option maxHeartbeats 8000000
set_option maxRecDepth 8000
abbrev firstsClr:List Nat:=[2,3,6,7,8,9,10,11,12,13,17,18,19,20,21,22,23]
def FirstsNo(r:Option (Ex×St)):Prop:=∃ s,r=some (.ret,s)∧nth s.env 2=.nil0∧nth s.env 3=.bool false
theorem stepE_none{k:Nat}{n:EN}{all opn:List Nat}(h:stepE k n all opn=none) :
  (eparts n.tag < 0∨opn.length < eparts n.tag∨countsE n=false) ∨
  ((0≤eparts n.tag∧eparts n.tag≤opn.length∧countsE n=true) ∧
   ((eparts n.tag=0∧¬(n.l=-1∧n.r=-1))∨(∃ (o:List Nat) (p:Nat),eparts n.tag=1∧opn=o++[p]∧¬(n.l=(p:Int)∧n.r=-1))∨(∃ (o:List Nat) (p q:Nat),eparts n.tag=2∧opn=o++[p,q]∧¬(n.l=(p:Int)∧n.r=(q:Int))))):=by
 unfold stepE at h
 split at h
 ·exact .inl (by assumption)
 ·rename_i hneg
  have hc:countsE n=true:=by cases hq:countsE n<;>simp_all
  have hk2:=eparts_le n.tag
  refine .inr ⟨⟨by omega,by omega,hc⟩,?_⟩
  rcases (show eparts n.tag=0∨eparts n.tag=1∨eparts n.tag=2 by omega) with h0|h0|h0
  ·rw[h0]at h
   simp at h
   exact .inl ⟨h0,fun ⟨a,b⟩=>h a b⟩
  ·rw[h0]at h
   have hol1:1≤opn.length:=by omega
   obtain ⟨o,p,rfl⟩:∃ o p,opn=o++[p]:=⟨opn.dropLast,opn.getLast (by intro e;subst e;simp at hol1),(List.dropLast_concat_getLast _).symm⟩
   simp at h
   exact .inr (.inl ⟨o,p,h0,rfl,fun ⟨a,b⟩=>h a b⟩)
  ·rw[h0]at h
   have hol1:2≤opn.length:=by omega
   obtain ⟨o',q,rfl⟩:∃ o p,opn=o++[p]:=⟨opn.dropLast,opn.getLast (by intro e;subst e;simp at hol1),(List.dropLast_concat_getLast _).symm⟩
   have hol2:1≤o'.length:=by simp at hol1;omega
   obtain ⟨o,p,rfl⟩:∃ o p,o'=o++[p]:=⟨o'.dropLast,o'.getLast (by intro e;subst e;simp at hol2),(List.dropLast_concat_getLast _).symm⟩
   have hdrop:(o++[p]++[q]).drop ((o++[p]++[q]).length - (2:Int).toNat)=[p,q]:=by simp
   rw[hdrop]at h
   simp only at h
   split at h
   ·cases h
   ·rename_i hne
    exact .inr (.inr ⟨o,p,q,h0,by simp,hne⟩)
theorem eqa2{a b c d:Int}(h:¬(c=a∧d=b)):eqa true [0,0] (.agg [.int .i64 a,.int .i64 b]) (.agg [.int .i64 c,.int .i64 d])=some (.bool true):=by
 by_cases h1:c=a
 ·have h2:¬b=d:=fun e=>h ⟨h1,e.symm⟩
  simp[h1,beq_f h2]
 ·have h2:¬a=c:=fun e=>h1 e.symm
  simp[beq_f h2]
theorem firsts_fail{b:Bool}{e:List EN}{k:Nat}{all opn:List Nat}(hk:k < e.length)(hn:e.length≤most)(ha:all.length=k)(ho:∀ p∈opn,p < k)(hol:opn.length≤k)
  (h:stepE k e[k] all opn=none):FirstsNo (thenLoop 3 firstsClr l_qdf_1 (run code l_qdf_1 (firstsSt b e k all opn))):=by
 have h1:=ensA_get hk
 have hp:=parts_spec e[k].tag
 have hc:=counts_spec e[k]
 have hlt:((k:Int) < (e.length:Int)):=by omega
 rcases stepE_none h with hA|⟨⟨h0,h2,h3⟩,hB⟩
 ·unfold EN.a at h1 hc
  by_cases hk0:eparts e[k].tag < 0
  ·exact ⟨_,by simp[firstsSt,l_qdf_1,h1,hlt,hp,hk0];rfl,rfl,rfl⟩
  ·by_cases hk1:(opn.length:Int) < eparts e[k].tag
   ·exact ⟨_,by simp[firstsSt,l_qdf_1,h1,hlt,hp,hk0,hk1];rfl,rfl,rfl⟩
   ·have hc1:countsE e[k]=false:=hA.elim (fun h=>absurd h hk0) fun h=>h.elim (fun h=>absurd h hk1) id
    rw[hc1]at hc
    exact ⟨_,by simp[firstsSt,l_qdf_1,h1,hlt,hp,hk0,hk1,hc];rfl,rfl,rfl⟩
 ·have hk0:¬(eparts e[k].tag < 0):=by omega
  have hk1:¬((opn.length:Int) < eparts e[k].tag):=by omega
  rw[h3]at hc
  unfold EN.a at h1 hc
  have hw1:IntKind.i64.wrap (opn.length:Int)=opn.length:=by rw[wrap64_id (by unfold most at hn;omega)]
  rcases hB with ⟨h0,hne⟩|⟨o,p,h0,rfl,hne⟩|⟨o,p,q,h0,rfl,hne⟩
  ·rw[h0]at hp
   have hx:=eqa2 hne
   have hnn:¬((opn.length:Int) < 0):=by omega
   exact ⟨_,by simp[firstsSt,l_qdf_1,h1,hlt,hp,hnn,hc,hw1,rounds_go 5,rounds_go 6,l_qdf_0,-eqa,hx];rfl,rfl,rfl⟩
  ·rw[h0]at hp
   have hx:=eqa2 hne
   have hpk:p < k:=ho p (by simp)
   have hpa:p < all.length:=by omega
   have q1:=natsA_get hpa
   simp at hol
   have t3:(natsA (o++[p]))[o.length]?=some (.int .i64 (p:Int)):=by rw[natsA_append,List.getElem?_append_right (by simp)];simp
   have hnn:¬((o.length:Int)+1 < 1):=by omega
   have hw:IntKind.i64.wrap ((o.length:Int)+1 - 1)=o.length:=by rw[wrap64_id (by unfold most at hn;omega)];omega
   have hw2:IntKind.i64.wrap (o.length:Int)=o.length:=by rw[wrap64_id (by unfold most at hn;omega)]
   exact ⟨_,by simp[firstsSt,l_qdf_1,h1,hlt,hp,hnn,hc,hw,hw2,ha,t3,q1,hpk,hpa,natsA_getE,natsA_append,roundEnd,freezeObj,rounds_go 5,l_qdf_0,wrap1,-eqa,hx];rfl,rfl,rfl⟩
  ·rw[h0]at hp
   have hx:=eqa2 hne
   have hpk:p < k:=ho p (by simp)
   have hqk:q < k:=ho q (by simp)
   have hpa:p < all.length:=by omega
   have hqa:q < all.length:=by omega
   have q1:=natsA_get hpa
   have q2:=natsA_get hqa
   simp at hol
   have hN:natsA (o++[p,q])=natsA o++([.int .i64 (p:Int),.int .i64 (q:Int)]:List AVal):=by simp[natsA_append]
   have t3:(natsA o++([.int .i64 (p:Int),.int .i64 (q:Int)]:List AVal))[o.length]?=some (.int .i64 (p:Int)):=by rw[List.getElem?_append_right (by simp)];simp
   have t4:(natsA o++([.int .i64 (p:Int),.int .i64 (q:Int)]:List AVal))[o.length+1]?=some (.int .i64 (q:Int)):=by rw[List.getElem?_append_right (by simp)];simp
   have hnn:¬((o.length:Int)+2 < 2):=by omega
   have hw:IntKind.i64.wrap ((o.length:Int)+2 - 2)=o.length:=by rw[wrap64_id (by unfold most at hn;omega)];omega
   have hw2:IntKind.i64.wrap (o.length:Int)=o.length:=by rw[wrap64_id (by unfold most at hn;omega)]
   unfold firstsSt
   rw[hN]
   exact ⟨_,by simp[l_qdf_1,h1,hlt,hp,hnn,hc,hw,hw2,ha,t3,t4,q1,q2,hpk,hpa,hqk,hqa,natsA_getE,natsA_append,roundEnd,freezeObj,rounds_go 5,l_qdf_0,wrap1,wrap2,-eqa,hx];rfl,rfl,rfl⟩
def firstsL:List EN→Nat→List Nat→List Nat→Option (List Nat×List Nat)
 | [],_,all,opn=>some (all,opn)
 | n::r,i,all,opn=>(stepE i n all opn).bind fun q=>firstsL r (i+1) q.1 q.2
theorem stepE_inv{k:Nat}{n:EN}{all opn all' opn':List Nat}(ha:all.length=k)(ho:∀ p∈opn,p < k)(hol:opn.length≤k)(h:stepE k n all opn=some (all',opn')) :
  all'.length=k+1∧(∀ p∈opn',p < k+1)∧opn'.length≤k+1:=by
 unfold stepE at h
 split at h
 ·cases h
 split at h
 ·split at h
  ·cases h
   exact ⟨by simp[ha],fun p hp=>by
    rcases List.mem_append.1 hp with hp|hp
    ·have:=ho p hp;omega
    ·simp at hp;omega,by simp;omega⟩
  ·cases h
 ·split at h
  ·cases h
   exact ⟨by simp[ha],fun p hp=>by
    rcases List.mem_append.1 hp with hp|hp
    ·have:=ho p (List.mem_of_mem_take hp);omega
    ·simp at hp;omega,by simp;omega⟩
  ·cases h
 ·split at h
  ·cases h
   exact ⟨by simp[ha],fun p hp=>by
    rcases List.mem_append.1 hp with hp|hp
    ·have:=ho p (List.mem_of_mem_take hp);omega
    ·simp at hp;omega,by simp;omega⟩
  ·cases h
 ·cases h
theorem firsts_loop{b:Bool}{e:List EN}(hn:e.length≤most):∀ (m k:Nat) (all opn:List Nat),k+m=e.length→all.length=k→(∀ p∈opn,p < k)→opn.length≤k →
  (match firstsL (e.drop k) k all opn with
   | none=>FirstsNo (rounds code 3 firstsClr l_qdf_1 (firstsSt b e k all opn))
   | some (all',opn')=>all'.length=e.length∧∃ x,rounds code 3 firstsClr l_qdf_1 (firstsSt b e k all opn) =
     some (.ext 0,⟨[.agg [.imm b (ensA e)],.ptr 0 0 0 0,.any,.any,.sl 1 e.length 0 all'.length,.sl 2 e.length 0 opn'.length,.any,.any,.any,.any,.any,.any,.any,.any,.imm b (ensA e),.int .i64 e.length,.int .i64 e.length,x,.any,.any,.any,.any,.any,.any],
      [.arr 1 0 [.agg [.imm b (ensA e)]],.arr 1 e.length (natsA all'),.arr 1 e.length (natsA opn')]⟩))
 | 0,k,all,opn,hk,ha,ho,hol=>by
  have hk:k=e.length:=by omega
  subst hk
  rw[List.drop_length]
  simp only[firstsL]
  refine ⟨ha,.bool false,?_⟩
  rw[rounds_go]
  simp[firstsSt,l_qdf_1]
 | m+1,k,all,opn,hk,ha,ho,hol=>by
  have hk':k < e.length:=by omega
  rw[List.drop_eq_getElem_cons hk']
  simp only[firstsL]
  cases hs:stepE k e[k] all opn with
  | none=>
   simp only[Option.bind_none]
   rw[rounds_go]
   exact firsts_fail hk' hn ha ho hol hs
  | some q=>
   obtain ⟨all',opn'⟩:=q
   simp only[Option.bind_some]
   obtain ⟨i1,i2,i3⟩:=stepE_inv ha ho hol hs
   have ih:=firsts_loop (b:=b) hn m (k+1) all' opn' (by omega) i1 i2 i3
   have hst:=firsts_step (b:=b) hk' hn ha ho hol hs
   rw[rounds_go 3 firstsClr l_qdf_1 (firstsSt b e k all opn),hst]
   exact ih
theorem natsA_nc'(l:List Nat)(fl top:Bool)(base:Nat)(σ:Store)(n:Nat):∀ a,a∈natsA l→ncells (fz fl top base σ (n+1) a)=ncells a:=fun a ha=>by
 obtain ⟨k,_,rfl⟩:=List.mem_map.1 ha
 simp
def okE(e:List EN):Bool:=match firstsL e 0 [] [] with
 | none=>false
 | some (all,opn)=>opn.length == 1&&decide (all.length≤1000)
theorem firsts_spec(b:Bool)(e:List EN)(hn:e.length≤most):∃ x,pcall I.qdf [exprA b e]=some (.tup [x,.bool (okE e)])∧(okE e=true→∃ all,firstsL e 0 [] []=some all∧x=.imm false (natsA all.1)):=by
 rw[pcall_eq c_qdf rfl]
 have h:=firsts_loop (b:=b) hn e.length 0 [] [] (by omega) rfl (by simp) (by simp)
 rw[List.drop_zero]at h
 unfold okE exprA
 cases hf:firstsL e 0 [] [] with
 | none=>
  rw[hf]at h
  obtain ⟨s,h1,h2,h3⟩:=h
  refine ⟨.imm false [],?_,fun h=>by cases h⟩
  unfold firstsSt at h1
  simp at h1
  have h2':s.env[2]?.getD .any=.nil0:=h2
  have h3':s.env[3]?.getD .any=.bool false:=h3
  simp[f_qdf,b_qdf,h1,h2',h3']
 | some q=>
  rw[hf]at h
  obtain ⟨all,opn⟩:=q
  obtain ⟨hl,x,h1⟩:=h
  refine ⟨.imm false (natsA all),?_,fun _=>⟨_,rfl,rfl⟩⟩
  unfold firstsSt at h1
  simp at h1
  have t1:(natsA all).take all.length=natsA all:=List.take_of_length_le (by simp)
  have f1:=natsA_fz all
  by_cases ho:opn.length=1
  ·simp[f_qdf,b_qdf,h1,ho,t1,f1]
   exact ⟨natsA_nc' all _ _ _ _ _,by omega⟩
  ·have ho':¬((opn.length:Int)=1):=by omega
   simp[f_qdf,b_qdf,h1,ho,beq_f ho',t1,f1]
   exact natsA_nc' all _ _ _ _ _
theorem eCheck_spec(b:Bool)(e:List EN)(hn:e.length≤most):pcall I.qcu [exprA b e]=some (.int .i64 (if okE e then 0 else 200)):=by
 rw[pcall_eq c_qcu rfl]
 obtain ⟨x,h,_⟩:=firsts_spec b e hn
 have hx:∀ b',b'=b∨b'=true→True:=fun _ _=>trivial
 unfold exprA at *
 cases ho:okE e<;>rw[ho]at h<;>simp[f_qcu,b_qcu,h]
end Go.AM
end
section
namespace Go.AM
open P
set_option maxHeartbeats 4000000
set_option maxRecDepth 8000
attribute [local simp] condRun_if when_if
def insI(x:Int):List Int→List Int
 | []=>[x]
 | y::r=>if x≤y then x::y::r else y::insI x r
def sortI:List Int→List Int
 | []=>[]
 | x::r=>insI x (sortI r)
theorem insI_mem(x z:Int):∀ l:List Int,z∈insI x l↔z=x∨z∈l
 | []=>by simp[insI]
 | y::r=>by
  unfold insI
  split
  ·simp
  ·simp[insI_mem x z r]
   constructor<;>rintro (h|h|h)<;>simp[h]
theorem sortI_mem(z:Int):∀ l:List Int,z∈sortI l↔z∈l
 | []=>by simp[sortI]
 | x::r=>by simp[sortI,insI_mem,sortI_mem z r]
theorem insI_len(x:Int):∀ l:List Int,(insI x l).length=l.length+1
 | []=>rfl
 | y::r=>by
  unfold insI
  split<;>simp[insI_len x r]
theorem sortI_len:∀ l:List Int,(sortI l).length=l.length
 | []=>rfl
 | x::r=>by simp[sortI,insI_len,sortI_len r]
theorem insI_by(x:Int):∀ l:List Int,insertBy leInt (.int .i64 x) (l.map (.int .i64))=(insI x l).map (.int .i64)
 | []=>rfl
 | y::r=>by
  by_cases h:x≤y
  ·simp[insertBy,insI,leInt,h]
  ·simp[insertBy,insI,leInt,h,insI_by x r]
theorem sortI_by:∀ l:List Int,sortBy leInt (l.map (.int .i64))=(sortI l).map (.int .i64)
 | []=>rfl
 | x::r=>by simp only[List.map_cons,sortBy,sortI_by r,insI_by];rfl
theorem ints_some:∀ l:List Int,ints (l.map (.int .i64))=some l
 | []=>rfl
 | x::r=>by simp[ints,ints_some r]
theorem sort_call{σ:Store}{id ep:Nat}{l:List Int}(hσ:σ[id]?=some (.arr 1 ep (intsA l)))(hn:l.length≤most) :
  acall code I.slices_Sort_int_int [.sl id ep 0 l.length] σ=some (.any,σ.set id (.arr 1 ep (intsA (sortI l)))):=by
 refine acall_prim good (k:=2) (n:=0) c_slices_Sort_int_int ?_
 have hp:code.prims=prims:=rfl
 rw[hp]
 have h1:((intsA l).drop 0).take l.length=intsA l:=by simp
 have h2:(intsA l).drop l.length=[]:=by simp
 simp only[prims,sortInts,hσ,h1,h2,Nat.zero_add,ints_some,sortI_by]
 rw[if_pos (by simp[hn])]
 simp
def colsE(e:List EN):List Int:=e.flatMap fun n=>if n.tag=2 then [n.col] else []
theorem colsE_le(e:List EN):(colsE e).length≤e.length:=by
 induction e with
 | nil=>exact Nat.le_refl _
 | cons n e ih=>
  unfold colsE at *
  simp only[List.flatMap_cons,List.length_append,List.length_cons]
  split<;>simp only[List.length_cons,List.length_nil]<;>omega
def colsF(e:List EN):List Int:=compactL (sortI (colsE e))
theorem Cols_spec(b:Bool)(e:List EN)(hn:e.length≤most)(ho:okE e=true):pcall I.qcv [.agg [.imm b (e.map EN.a)]]=some (.imm false (intsA (colsF e))):=by
 rw[pcall_eq c_qcv rfl]
 have hc:=fun b=>eCheck_spec b e hn
 rw[ho]at hc
 simp only[exprA,ensA]at hc
 have hm:(colsE e).length≤most:=Nat.le_trans (colsE_le e) hn
 obtain ⟨ep,hl⟩:=rounds_acc (base:=2) (clr:=[4,9,10]) (b:=l_qcv_0) e
  (fun k ep (acc:List Int)=>⟨[.agg [.imm b (e.map EN.a)],.ptr 0 0 0 0,.nil0,.sl 1 ep 0 acc.length,.any,.bool false,.imm b (e.map EN.a),.int .i64 e.length,.int .i64 k,.any,.any],[.arr 1 0 [.agg [.imm b (e.map EN.a)]],.arr 1 ep (intsA acc)]⟩)
  (fun n=>if n.tag=2 then [n.col] else [])
  (fun ep acc=>(.ext 0,⟨[.agg [.imm b (e.map EN.a)],.ptr 0 0 0 0,.nil0,.sl 1 ep 0 acc.length,.any,.bool false,.imm b (e.map EN.a),.int .i64 e.length,.int .i64 e.length,.bool false,.any],[.arr 1 0 [.agg [.imm b (e.map EN.a)]],.arr 1 ep (intsA acc)]⟩)) 1
  (fun n _=>by split<;>simp)
  (fun k n ep acc hk hy ha=>by
   have hlt:((k:Int) < (e.length:Int)):=by omega
   have h5:acc.length+1≤most:=by omega
   by_cases ht:n.tag=2
   ·exact ⟨ep+1,by simp[l_qcv_0,hlt,hy,EN.a,ht,append,h5,wrap_lt hk hn,roundEnd,freezeObj]⟩
   ·exact ⟨ep,by simp[l_qcv_0,hlt,hy,EN.a,ht,beq_f ht,wrap_lt hk hn,roundEnd,freezeObj]⟩)
  (fun ep acc _=>by simp[l_qcv_0]) 0
 have hs:=fun σ':Obj=>sort_call (σ:=[σ',.arr 1 ep (intsA (colsE e))]) (id:=1) (ep:=ep) rfl hm
 obtain ⟨A,h1,h2,h3⟩:=compact_spec (σ:=[.arr 1 0 [.agg [.imm b (e.map EN.a)]],.arr 1 ep (intsA (sortI (colsE e)))]) (id:=1) (ep:=ep) (l:=sortI (colsE e)) rfl (by rw[sortI_len];exact hm)
 simp only[intsA,List.map_nil,List.length_nil,show ((0:Nat):Int)=0 from rfl]at hl
 rw[sortI_len]at h1
 unfold colsF
 have hcl:=compactL_le (sortI (colsE e))
 have hfl:(e.flatMap fun n=>if n.tag=2 then [n.col] else [])=colsE e:=rfl
 rw[hfl]at hl
 have hA:(intsA A).take (compactL (sortI (colsE e))).length=intsA (compactL (sortI (colsE e))):=by
  unfold intsA;rw[← List.map_take,h3]
 generalize compactL (sortI (colsE e))=c at *
 generalize sortI (colsE e)=s at *
 generalize colsE e=cs at *
 have hle:c.length≤A.length:=by omega
 simp[f_qcv,b_qcv,hc,hl,hs,h1,hA,hle]
end Go.AM
end
