/- Part of the proof. -/
import Derived.Test.YtpdimbocafbieaaGreatDoorAm13
import Derived.Test.YtpdimbocafbieaaGreatDoorAm21
import Derived.Test.YtpdimbocafbieaaGreatDoorCards
set_option linter.unusedVariables false
set_option linter.unusedSimpArgs false
namespace Go.Proofs.YtpdimbocafbieaaGreatDoor.taskBegins
open Go.AM Go.ChangeShapes Go.WideShapes Go.ChangeAt Go.RowKit
def shapes:List (Bool×List Sh):=[(true,planS),(true,[.int .i64,.int .i64,.int .i64,.int .i64])]
theorem shapes_ok:Tryz.f3.params.toList.mapM (shOf Tryz.prog 16)=some shapes:=by kernel_rfl
theorem law(args:List AVal)(h:ArgsSh shapes args):∃ n,callN (codeOf P.tbl) n I.qa args []=some (.bool true,[]):=by
 cases h with
 | cons h1 h=>
 cases h with
 | cons h2 h=>
 cases h
 obtain ⟨fs,rfl,hf⟩:=plan_of h1
 obtain ⟨e,si,nu,no,rfl⟩:=where_of h2
 have hp:=begins_law fs e si nu no hf
 have ha:=acall_pure c_qa rfl [planA fs,.agg [.int .i64 e,.int .i64 si,.int .i64 nu,.int .i64 no]] []
 have hsn:([planA fs,.agg [.int .i64 e,.int .i64 si,.int .i64 nu,.int .i64 no]]:List AVal).map (snap [])=[planA fs,.agg [.int .i64 e,.int .i64 si,.int .i64 nu,.int .i64 no]]:=by simp[planA]
 rw[hsn,hp]at ha
 exact (lim_eq (callN_mono good _ _ _) _).1 ha
theorem globals(g:Nat)(a:AVal)(h:S.glob g=some a):∃ n d vs,(n,d)∈Rows.taskBeginsRow.laid∧Tryz.prog.globalNamed n=some g∧flat d=some vs∧(cellsOf a).map toV=vs.map some∧ncells a=vs.length∧vs≠[]:=by
 unfold S.glob at h
 split at h
 ·cases h
  exact ⟨_,_,_,List.mem_singleton.2 rfl,by kernel_rfl,rfl,rfl,rfl,by simp⟩
 ·cases h
set_option maxRecDepth 100000 in
theorem contract(H:Type)(enc:TypeId×Value→H)(W:World)(base:Nat)(args:Array Value)(ds gs:List (DataW H))(before:List MemPlace)
  (hval:∀ (j:Nat) t v,Tryz.f3.params[j]?=some t→args[j]?=some v→Value.okWide Tryz.prog W .any base t v)
  (hW:DataW.Whole enc Tryz.prog Tryz.f3.params.toList Rows.taskBeginsSpec.vars false W args.toList ds gs before) (hL:laidMetH Tryz.prog Rows.taskBeginsRow.laid W) :
  Calls Tryz.prog 3 args W fun e W'=>∃ v,e=.returned v∧Rows.taskBeginsSpec.post enc Tryz.prog Tryz.f3 false true false false W args v W':=by
 refine law_contract (fm:=S.fm) (f:=I.qa) (k:=16) (ss:=shapes) (tb:=4) fine laid_out maps_rowed slices_full params_in globals_in globals shapes_ok ⟨0,_,rfl,rfl⟩ rfl (by kernel_rfl) Tryz.underlying4 (fun ds hd=>?_) law hval hW hL
 have:Tryz.f3.params.size=2:=by kernel_rfl
 rw[this]at hd
 match ds,hd with
 | [_,_],_=>rfl
end Go.Proofs.YtpdimbocafbieaaGreatDoor.taskBegins
