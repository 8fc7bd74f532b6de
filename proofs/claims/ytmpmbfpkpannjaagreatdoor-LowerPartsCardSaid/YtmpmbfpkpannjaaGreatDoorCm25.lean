/- Part of the proof. -/
import Derived.Test.YtmpmbfpkpannjaaGreatDoorCm16
import Derived.Test.YtmpmbfpkpannjaaGreatDoorCm24
import Derived.MakeChecks
set_option linter.unusedVariables false
set_option linter.unusedSimpArgs false
set_option linter.unusedSectionVars false
namespace Go.Proofs.YtmpmbfpkpannjaaGreatDoor.lowerParts
open Go.AM Go.ChangeShapes Go.WideShapes Go.ChangeAt Go.RowKit
def Q5:List (Bool×List Sh):=[(true,ai7),(false,[.str])]
theorem Wu:Tryz.f5.params.toList.mapM (xz Tryz.prog 16)=some Q5:=by kernel_rfl
theorem law(args:List aq)(h:Ba Q5 args):∃n,dV (Bu P.tbl) n I.qas args []=some (.bool true,[]):=by
 cases h with
 |cons h1 h=>
 cases h with
 |cons h2 h=>
 cases h;obtain⟨a,rfl⟩:=adx h1;obtain⟨s,rfl,_⟩:=(VH h2).str_inv;have hp:=Ig acq true a s;have ha:=oB agi rfl [.agg [.aa true (a.map iI.a)],.str s] [];have hsn:([.agg [.aa true (a.map iI.a)],.str s]:List aq).map (snap [])=[.agg [.aa true (a.map iI.a)],.str s]:=by simp
 rw[hsn,hp]at ha;exact (sy (mf good _ _ _) _).1 ha
theorem globals(g:Nat)(a:aq)(h:S.glob g=some a):∃n d vs,(n,d)∈Rows.lowerPartsRow.laid∧Tryz.prog.globalNamed n=some g∧zk d=some vs∧(cellsOf a).map toV=vs.map some∧aM a=vs.length∧vs≠[]:=by
 unfold S.glob at h;split at h
 ·cases h;exact⟨_,_,_,.tail _ (.tail _ (.tail _ (.tail _ (.tail _ (.tail _ (.tail _ (.tail _ (.head _)))))))),by kernel_rfl,rfl,rfl,rfl,by simp⟩
 ·cases h;exact⟨_,_,_,.tail _ (.tail _ (.tail _ (.tail _ (.tail _ (.tail _ (.head _)))))),by kernel_rfl,rfl,rfl,rfl,by simp⟩
 ·cases h;exact⟨_,_,_,.tail _ (.tail _ (.tail _ (.tail _ (.tail _ (.tail _ (.tail _ (.head _))))))),by kernel_rfl,rfl,rfl,rfl,by simp⟩
 cases h
set_option maxRecDepth 100000 in
theorem XM(H:Type)(enc:TypeId×Value→H)(W:World)(base:Nat)(args:Array Value)(ds gs:List (DataW H))(before:List MemPlace)
  (hval:∀(j:Nat) t v,Tryz.f5.params[j]?=some t→args[j]?=some v→Value.okWide Tryz.prog W .any base t v)
  (hW:DataW.Whole enc Tryz.prog Tryz.f5.params.toList Rows.lowerPartsSpec.vars false W args.toList ds gs before) (hL:laidMetH Tryz.prog Rows.lowerPartsRow.laid W) :
  Calls Tryz.prog 5 args W fun e W'=>∃v,e=.returned v∧Rows.lowerPartsSpec.post enc Tryz.prog Tryz.f5 false true false false W args v W':=by
 refine Na (fm:=S.fm) (f:=I.qas) (k:=16) (ss:=Q5) (tb:=4) apA Yw Sr OY VD Q9 globals Wu ⟨0,_,rfl,rfl⟩ rfl (by kernel_rfl) Tryz.underlying4 (fun ds hd=>?_) Tryz.tabs_laid law hval hW (by rw[MakeChecks.laidMetH_plain _ _ _ (by kernel_rfl)]at hL;exact hL);have:Tryz.f5.params.size=2:=by kernel_rfl
 rw[this]at hd
 match ds,hd with
 |[_,_],_=>rfl
end Go.Proofs.YtmpmbfpkpannjaaGreatDoor.lowerParts
