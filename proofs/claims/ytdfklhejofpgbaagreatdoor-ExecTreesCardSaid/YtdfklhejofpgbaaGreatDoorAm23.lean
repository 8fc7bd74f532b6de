/- Part of the proof. -/
import Derived.Test.YtdfklhejofpgbaaGreatDoorAm12
import Derived.Test.YtdfklhejofpgbaaGreatDoorAm22
import Derived.Test.YtdfklhejofpgbaaGreatDoorCards
set_option linter.unusedVariables false
set_option linter.unusedSimpArgs false
set_option linter.unusedSectionVars false
namespace Go.Proofs.YtdfklhejofpgbaaGreatDoor.execTrees
open Go.AM Go.ChangeShapes Go.WideShapes Go.ChangeAt Go.RowKit
def Ot:List (Bool×List Sh):=[(false,[.sl true lnX]),(false,[.sl false [.sl false [.sl true [.int .i64,.int .i64,.int .u64,.str]]]])]
theorem Td:Tryz.f3.params.toList.mapM (ue Tryz.prog 16)=some Ot:=by kernel_rfl
theorem law(args:List ap)(h:ya Ot args):∃n,dl (xE P.tbl) n I.qs args []=some (.bool true,[]):=by
 cases h with
 |cons h1 h=>
 cases h with
 |cons h2 h=>
 cases h;obtain⟨l,rfl,hl⟩:=TR (G8 h1);obtain⟨T,rfl,hT,hn⟩:=UI (G8 h2);have hp:=Sx l hl T hT hn;have ha:=cG aeJ rfl [.aa true (l.map bL.a),.aa true (T.map oE)] [];have hsn:([.aa true (l.map bL.a),.aa true (T.map oE)]:List ap).map (fS [])=[.aa true (l.map bL.a),.aa true (T.map oE)]:=rfl;rw[hsn,hp]at ha;exact (mH (fw fg _ _ _) _).1 ha
theorem globals(g:Nat)(a:ap)(h:S.glob g=some a):∃n d vs,(n,d)∈Rows.execTreesRow.laid∧Tryz.prog.globalNamed n=some g∧flat d=some vs∧(cellsOf a).map toV=vs.map some∧aC a=vs.length∧vs≠[]:=by
 unfold S.glob at h;split at h
 ·cases h;exact⟨_,_,_,ce.2 rfl,by kernel_rfl,rfl,rfl,rfl,by simp⟩
 cases h
set_option maxRecDepth 100000 in
theorem Xm(H:Type)(enc:TypeId×Value→H)(W:World)(base:Nat)(args:Array Value)(ds gs:List (DataW H))(before:List MemPlace)
  (hval:∀(j:Nat) t v,Tryz.f3.params[j]?=some t→args[j]?=some v→Value.okWide Tryz.prog W .any base t v)
  (hW:DataW.Whole enc Tryz.prog Tryz.f3.params.toList Rows.execTreesSpec.vars false W args.toList ds gs before) (hL:laidMetH Tryz.prog Rows.execTreesRow.laid W) :
  Calls Tryz.prog 3 args W fun e W'=>∃v,e=.returned v∧Rows.execTreesSpec.post enc Tryz.prog Tryz.f3 false true false false W args v W':=by
 refine ID (fm:=S.fm) (f:=I.qs) (k:=16) (ss:=Ot) (tb:=4) fine VB Np MG TI O5 globals Td ⟨0,_,rfl,rfl⟩ rfl (by kernel_rfl) Tryz.underlying4 (fun ds hd=>?_) law hval hW hL;have:Tryz.f3.params.size=2:=by kernel_rfl
 rw[this]at hd
 match ds,hd with
 |[_,_],_=>rfl
end Go.Proofs.YtdfklhejofpgbaaGreatDoor.execTrees
