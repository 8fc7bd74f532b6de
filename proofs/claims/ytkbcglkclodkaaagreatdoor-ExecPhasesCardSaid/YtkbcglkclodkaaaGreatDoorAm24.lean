/- Part of the proof. -/
import Derived.Test.YtkbcglkclodkaaaGreatDoorAm15
import Derived.Test.YtkbcglkclodkaaaGreatDoorAm23
import Derived.Test.YtkbcglkclodkaaaGreatDoorCards
set_option linter.unusedVariables false
set_option linter.unusedSimpArgs false
namespace Go.Proofs.YtkbcglkclodkaaaGreatDoor.execPhases
open Go.AM Go.ChangeShapes Go.WideShapes Go.ChangeAt Go.RowKit
def shapes:List (Bool×List Sh):=[(true,lnX),(false,[.sl false [.sl true [.int .i64,.int .i64,.int .u64,.str]]]),(false,[.sl false [.int .i64]])]
theorem shapes_ok:Tryz.f6.params.toList.mapM (shOf Tryz.prog 16)=some shapes:=by kernel_rfl
theorem law(args:List AVal)(h:ArgsSh shapes args):∃ n,callN (codeOf P.tbl) n I.qt args []=some (.bool true,[]):=by
 cases h with
 | cons h1 h=>
 cases h with
 | cons h2 h=>
 cases h with
 | cons h3 h=>
 cases h
 obtain ⟨n,rfl,hn⟩:=nodeR_of h1
 obtain ⟨rs,rfl,hr⟩:=rowsR_of (argSh_one h2)
 obtain ⟨by',rfl⟩:=intsX_of (argSh_one h3)
 have hp:pcall I.qt [n.a,.imm true (rowsA true rs),.imm true (by'.map (.int .i64))]=some (.bool true):=phases_law n hn rs hr by'
 have ha:=acall_pure c_qt rfl [n.a,.imm true (rowsA true rs),.imm true (by'.map (.int .i64))] []
 have hsn:([n.a,.imm true (rowsA true rs),.imm true (by'.map (.int .i64))]:List AVal).map (snap [])=[n.a,.imm true (rowsA true rs),.imm true (by'.map (.int .i64))]:=by
  have h1:snap [] n.a=n.a:=Ft.ft true false 0 [] 17 n rfl
  show [snap [] n.a,snap [] (.imm true (rowsA true rs)),snap [] (.imm true (by'.map (.int .i64)))]=_
  rw[h1];rfl
 rw[hsn,hp]at ha
 exact (lim_eq (callN_mono good _ _ _) _).1 ha
theorem globals(g:Nat)(a:AVal)(h:S.glob g=some a):∃ n d vs,(n,d)∈Rows.execPhasesRow.laid∧Tryz.prog.globalNamed n=some g∧flat d=some vs∧(cellsOf a).map toV=vs.map some∧ncells a=vs.length∧vs≠[]:=by
 unfold S.glob at h
 split at h
 ·cases h
  exact ⟨_,_,_,List.mem_singleton.2 rfl,by kernel_rfl,rfl,rfl,rfl,by simp⟩
 ·cases h
set_option maxRecDepth 100000 in
theorem contract(H:Type)(enc:TypeId×Value→H)(W:World)(base:Nat)(args:Array Value)(ds gs:List (DataW H))(before:List MemPlace)
  (hval:∀ (j:Nat) t v,Tryz.f6.params[j]?=some t→args[j]?=some v→Value.okWide Tryz.prog W .any base t v)
  (hW:DataW.Whole enc Tryz.prog Tryz.f6.params.toList Rows.execPhasesSpec.vars false W args.toList ds gs before) (hL:laidMetH Tryz.prog Rows.execPhasesRow.laid W) :
  Calls Tryz.prog 6 args W fun e W'=>∃ v,e=.returned v∧Rows.execPhasesSpec.post enc Tryz.prog Tryz.f6 false true false false W args v W':=by
 refine law_contract (fm:=S.fm) (f:=I.qt) (k:=16) (ss:=shapes) (tb:=4) fine laid_out maps_rowed slices_full params_in globals_in globals shapes_ok ⟨0,_,rfl,rfl⟩ rfl (by kernel_rfl) Tryz.underlying4 (fun ds hd=>?_) law hval hW hL
 have:Tryz.f6.params.size=3:=by kernel_rfl
 rw[this]at hd
 match ds,hd with
 | [_,_,_],_=>rfl
end Go.Proofs.YtkbcglkclodkaaaGreatDoor.execPhases
