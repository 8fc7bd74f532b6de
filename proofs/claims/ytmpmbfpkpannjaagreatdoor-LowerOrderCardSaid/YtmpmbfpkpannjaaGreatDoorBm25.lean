/- Part of the proof. -/
import Derived.Test.YtmpmbfpkpannjaaGreatDoorBm16
import Derived.Test.YtmpmbfpkpannjaaGreatDoorBm24
import Derived.MakeChecks
set_option linter.unusedVariables false
set_option linter.unusedSimpArgs false
set_option linter.unusedSectionVars false
namespace Go.Proofs.YtmpmbfpkpannjaaGreatDoor.lowerOrder
open Go.AM Go.ChangeShapes Go.WideShapes Go.ChangeAt Go.RowKit
def Sb:List (Bool×List Sh):=[(true,ahX),(false,[.str]),(false,[.int .i64])]
theorem WL:Tryz.f4.params.toList.mapM (xh Tryz.prog 16)=some Sb:=by kernel_rfl
theorem law(args:List aq)(h:BE Sb args):∃n,dV (Bk P.tbl) n I.qar args []=some (.bool true,[]):=by
 cases h with
 |cons h1 h=>
 cases h with
 |cons h2 h=>
 cases h with
 |cons h3 h=>
 cases h;obtain⟨a,rfl⟩:=ab5 h1;obtain⟨s,rfl,_⟩:=(Kh h2).str_inv;obtain⟨z,rfl,_⟩:=(Kh h3).int_inv;have hp:=G9 adM true a s z;have ha:=nZ agQ rfl [.agg [.aa true (a.map iH.a)],.str s,.int .i64 z] [];have hsn:([.agg [.aa true (a.map iH.a)],.str s,.int .i64 z]:List aq).map (snap [])=[.agg [.aa true (a.map iH.a)],.str s,.int .i64 z]:=by simp
 rw[hsn,hp]at ha;exact (su (mn good _ _ _) _).1 ha
theorem globals(g:Nat)(a:aq)(h:S.glob g=some a):∃n d vs,(n,d)∈Rows.lowerOrderRow.laid∧Tryz.prog.globalNamed n=some g∧yL d=some vs∧(cellsOf a).map toV=vs.map some∧aM a=vs.length∧vs≠[]:=by
 unfold S.glob at h;split at h
 ·cases h;exact⟨_,_,_,.tail _ (.tail _ (.tail _ (.tail _ (.tail _ (.tail _ (.tail _ (.tail _ (.head _)))))))),by kernel_rfl,rfl,rfl,rfl,by simp⟩
 ·cases h;exact⟨_,_,_,.tail _ (.tail _ (.tail _ (.tail _ (.tail _ (.tail _ (.head _)))))),by kernel_rfl,rfl,rfl,rfl,by simp⟩
 ·cases h;exact⟨_,_,_,.tail _ (.tail _ (.tail _ (.tail _ (.tail _ (.tail _ (.tail _ (.head _))))))),by kernel_rfl,rfl,rfl,rfl,by simp⟩
 cases h
set_option maxRecDepth 100000 in
theorem XS(H:Type)(enc:TypeId×Value→H)(W:World)(base:Nat)(args:Array Value)(ds gs:List (DataW H))(before:List MemPlace)
  (hval:∀(j:Nat) t v,Tryz.f4.params[j]?=some t→args[j]?=some v→Value.okWide Tryz.prog W .any base t v)
  (hW:DataW.Whole enc Tryz.prog Tryz.f4.params.toList Rows.lowerOrderSpec.vars false W args.toList ds gs before) (hL:laidMetH Tryz.prog Rows.lowerOrderRow.laid W) :
  Calls Tryz.prog 4 args W fun e W'=>∃v,e=.returned v∧Rows.lowerOrderSpec.post enc Tryz.prog Tryz.f4 false true false false W args v W':=by
 refine Ln (fm:=S.fm) (f:=I.qar) (k:=16) (ss:=Sb) (tb:=4) ap7 aam R7 O9 WG P3 globals WL ⟨0,_,rfl,rfl⟩ rfl (by kernel_rfl) Tryz.underlying4 (fun ds hd=>?_) Tryz.tabs_laid law hval hW (by rw[MakeChecks.laidMetH_plain _ _ _ (by kernel_rfl)]at hL;exact hL);have:Tryz.f4.params.size=3:=by kernel_rfl
 rw[this]at hd
 match ds,hd with
 |[_,_,_],_=>rfl
end Go.Proofs.YtmpmbfpkpannjaaGreatDoor.lowerOrder
