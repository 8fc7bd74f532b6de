/- Part of the proof. -/
import Derived.Test.YtmpmbfpkpannjaaGreatDoorAm16
import Derived.Test.YtmpmbfpkpannjaaGreatDoorAm24
import Derived.MakeChecks
set_option linter.unusedVariables false
set_option linter.unusedSimpArgs false
set_option linter.unusedSectionVars false
namespace Go.Proofs.YtmpmbfpkpannjaaGreatDoor.lowerAll
open Go.AM Go.ChangeShapes Go.WideShapes Go.ChangeAt Go.RowKit
def Ss:List (Bool×List Sh):=[(true,aiV),(false,[.str])]
theorem We:Tryz.f3.params.toList.mapM (xn Tryz.prog 16)=some Ss:=by kernel_rfl
theorem law(args:List aq)(h:BM Ss args):∃n,dV (BZ P.tbl) n I.qaq args []=some (.bool true,[]):=by
 cases h with
 |cons h1 h=>
 cases h with
 |cons h2 h=>
 cases h;obtain⟨a,rfl⟩:=ad5 h1;obtain⟨s,rfl,_⟩:=(WN h2).str_inv;have hp:=Lb aeb true a s;have ha:=oC afj rfl [.agg [.aa true (a.map iD.a)],.str s] [];have hsn:([.agg [.aa true (a.map iD.a)],.str s]:List aq).map (snap [])=[.agg [.aa true (a.map iD.a)],.str s]:=by simp
 rw[hsn,hp]at ha;exact (sL (mf good _ _ _) _).1 ha
theorem globals(g:Nat)(a:aq)(h:S.glob g=some a):∃n d vs,(n,d)∈Rows.lowerAllRow.laid∧Tryz.prog.globalNamed n=some g∧yZ d=some vs∧(cellsOf a).map toV=vs.map some∧aM a=vs.length∧vs≠[]:=by
 unfold S.glob at h;split at h
 ·cases h;exact⟨_,_,_,.tail _ (.tail _ (.tail _ (.tail _ (.tail _ (.tail _ (.tail _ (.tail _ (.head _)))))))),by kernel_rfl,rfl,rfl,rfl,by simp⟩
 ·cases h;exact⟨_,_,_,.tail _ (.tail _ (.tail _ (.tail _ (.tail _ (.tail _ (.head _)))))),by kernel_rfl,rfl,rfl,rfl,by simp⟩
 ·cases h;exact⟨_,_,_,.tail _ (.tail _ (.tail _ (.tail _ (.tail _ (.tail _ (.tail _ (.head _))))))),by kernel_rfl,rfl,rfl,rfl,by simp⟩
 cases h
set_option maxRecDepth 100000 in
theorem aaf(H:Type)(enc:TypeId×Value→H)(W:World)(base:Nat)(args:Array Value)(ds gs:List (DataW H))(before:List MemPlace)
  (hval:∀(j:Nat) t v,Tryz.f3.params[j]?=some t→args[j]?=some v→Value.okWide Tryz.prog W .any base t v)
  (hW:DataW.Whole enc Tryz.prog Tryz.f3.params.toList Rows.lowerAllSpec.vars false W args.toList ds gs before) (hL:laidMetH Tryz.prog Rows.lowerAllRow.laid W) :
  Calls Tryz.prog 3 args W fun e W'=>∃v,e=.returned v∧Rows.lowerAllSpec.post enc Tryz.prog Tryz.f3 false true false false W args v W':=by
 refine Lf (fm:=S.fm) (f:=I.qaq) (k:=16) (ss:=Ss) (tb:=4) ap1 aak Qr Od WB PW globals We ⟨0,_,rfl,rfl⟩ rfl (by kernel_rfl) Tryz.underlying4 (fun ds hd=>?_) Tryz.tabs_laid law hval hW (by rw[MakeChecks.laidMetH_plain _ _ _ (by kernel_rfl)]at hL;exact hL);have:Tryz.f3.params.size=2:=by kernel_rfl
 rw[this]at hd
 match ds,hd with
 |[_,_],_=>rfl
end Go.Proofs.YtmpmbfpkpannjaaGreatDoor.lowerAll
