/- Part of the proof. -/
import Derived.Test.YtchifcbclnonbaaGreatDoorAm16
import Derived.Test.YtchifcbclnonbaaGreatDoorAm22
import Derived.MakeChecks
set_option linter.unusedVariables false
set_option linter.unusedSimpArgs false
set_option linter.unusedSectionVars false
namespace Go.Proofs.YtchifcbclnonbaaGreatDoor.lowerDoes
open Go.AM Go.ChangeShapes Go.WideShapes Go.ChangeAt Go.RowKit
def Oz:List (Bool×List Sh):=[(true,acv),(false,[.sl true bdX])]
theorem Tg:Tryz.f3.params.toList.mapM (uc Tryz.prog 16)=some Oz:=by kernel_rfl
theorem law(args:List ap)(h:zf Oz args):∃n,dG (yS P.tbl) n I.qal args []=some (.bool true,[]):=by
 cases h with
 |cons h1 h=>
 cases h with
 |cons h2 h=>
 cases h;obtain⟨a,rfl⟩:=Zz h1;obtain⟨b,rfl⟩:=Ol (SS h2);have hp:=GJ Zc true true a b;have ha:=mY aan rfl [.agg [.aa true (a.map gE.a)],.aa true (b.map zi.a)] [];have hsn:([.agg [.aa true (a.map gE.a)],.aa true (b.map zi.a)]:List ap).map (iC [])=[.agg [.aa true (a.map gE.a)],.aa true (b.map zi.a)]:=by simp
 rw[hsn,hp]at ha;exact (qg (ku gz _ _ _) _).1 ha
theorem globals(g:Nat)(a:ap)(h:S.glob g=some a):∃n d vs,(n,d)∈Rows.lowerDoesRow.laid∧Tryz.prog.globalNamed n=some g∧wi d=some vs∧(cellsOf a).map toV=vs.map some∧aC a=vs.length∧vs≠[]:=by
 unfold S.glob at h;split at h
 ·cases h;exact⟨_,_,_,.tail _ (.tail _ (.tail _ (.tail _ (.tail _ (.tail _ (.tail _ (.tail _ (.head _)))))))),by kernel_rfl,rfl,rfl,rfl,by simp⟩
 ·cases h;exact⟨_,_,_,.tail _ (.tail _ (.tail _ (.tail _ (.tail _ (.tail _ (.head _)))))),by kernel_rfl,rfl,rfl,rfl,by simp⟩
 ·cases h;exact⟨_,_,_,.tail _ (.tail _ (.tail _ (.tail _ (.tail _ (.tail _ (.tail _ (.head _))))))),by kernel_rfl,rfl,rfl,rfl,by simp⟩
 cases h
set_option maxRecDepth 100000 in
theorem Wo(H:Type)(enc:TypeId×Value→H)(W:World)(base:Nat)(args:Array Value)(ds gs:List (DataW H))(before:List MemPlace)
  (hval:∀(j:Nat) t v,Tryz.f3.params[j]?=some t→args[j]?=some v→Value.okWide Tryz.prog W .any base t v)
  (hW:DataW.Whole enc Tryz.prog Tryz.f3.params.toList Rows.lowerDoesSpec.vars false W args.toList ds gs before) (hL:laidMetH Tryz.prog Rows.lowerDoesRow.laid W) :
  Calls Tryz.prog 3 args W fun e W'=>∃v,e=.returned v∧Rows.lowerDoesSpec.post enc Tryz.prog Tryz.f3 false true false false W args v W':=by
 refine I8 (fm:=S.fm) (f:=I.qal) (k:=16) (ss:=Oz) (tb:=4) al3 Vl Pw Ms Th Pk globals Tg ⟨0,_,rfl,rfl⟩ rfl (by kernel_rfl) Tryz.underlying4 (fun ds hd=>?_) Tryz.tabs_laid law hval hW (by rw[MakeChecks.laidMetH_plain _ _ _ (by kernel_rfl)]at hL;exact hL);have:Tryz.f3.params.size=2:=by kernel_rfl
 rw[this]at hd
 match ds,hd with
 |[_,_],_=>rfl
end Go.Proofs.YtchifcbclnonbaaGreatDoor.lowerDoes
