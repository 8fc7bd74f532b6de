/- Part of the proof. -/
import Derived.Test.YtegkopkbogoajaaGreatDoorAm14
import Derived.Test.YtegkopkbogoajaaGreatDoorAm21
import Derived.Test.YtegkopkbogoajaaGreatDoorCards
set_option linter.unusedVariables false
set_option linter.unusedSimpArgs false
namespace Go.Proofs.YtegkopkbogoajaaGreatDoor.execGroups
open Go.AM Go.ChangeShapes Go.WideShapes Go.ChangeAt Go.RowKit
def Sv:List (Bool×List Sh):=[(true,gW),(false,[.sl false [.sl true [.int .i64,.int .i64,.int .u64,.str]]])]
theorem XF:Tryz.f3.params.toList.mapM (tw Tryz.prog 16)=some Sv:=by kernel_rfl
theorem lD(args:List aa)(h:zN Sv args):∃n,bJ (zh P.tbl) n I.qt args []=some (.bool true,[]):=by
 cases h with
 |cons h1 h=>
 cases h with
 |cons h2 h=>
 cases h;obtain⟨n,rfl,hn⟩:=aaZ h1;obtain⟨rs,rfl,hr,hu⟩:=aaL (XW h2);have hp:az I.qt [n.a,.wh true (ce true rs)]=some (.bool true):=Th n hn rs hr hu;have ha:=bW anp rfl [n.a,.wh true (ce true rs)] [];have hsn:([n.a,.wh true (ce true rs)]:List aa).map (dW [])=[n.a,.wh true (ce true rs)]:=by
  have h1:dW [] n.a=n.a:=Ft.ft true false 0 [] 17 n rfl;show [dW [] n.a,dW [] (.wh true (ce true rs))]=_;rw[h1];rfl
 rw[hsn,hp]at ha;exact (kW (ez good _ _ _) _).1 ha
theorem globals(g:Nat)(a:aa)(h:S.glob g=some a):∃n d vs,(n,d)∈Rows.execGroupsRow.laid∧Tryz.prog.globalNamed n=some g∧uT d=some vs∧(cellsOf a).map iq=vs.map some∧aw a=vs.length∧vs≠[]:=by
 unfold S.glob at h;split at h
 ·cases h;exact⟨_,_,_,arq.2 rfl,by kernel_rfl,rfl,rfl,rfl,by simp⟩
 cases h
set_option maxRecDepth 100000 in
theorem Z2(H:Type)(enc:TypeId×Value→H)(W:World)(base:Nat)(args:Array Value)(ds gs:List (DataW H))(before:List MemPlace)
  (hval:∀(j:Nat) t v,Tryz.f3.params[j]?=some t→args[j]?=some v→Value.okWide Tryz.prog W .any base t v)
  (hW:DataW.Whole enc Tryz.prog Tryz.f3.params.toList Rows.execGroupsSpec.vars false W args.toList ds gs before) (hL:laidMetH Tryz.prog Rows.execGroupsRow.laid W) :
  Calls Tryz.prog 3 args W fun e W'=>∃v,e=.returned v∧Rows.execGroupsSpec.post enc Tryz.prog Tryz.f3 false true false false W args v W':=by
 refine M2 (fm:=S.fm) (f:=I.qt) (k:=16) (ss:=Sv) (tb:=4) fine ab8 SN OK YF Ul globals XF ⟨0,_,rfl,rfl⟩ rfl (by kernel_rfl) Tryz.underlying4 (fun ds hd=>?_) lD hval hW hL;have:Tryz.f3.params.size=2:=by kernel_rfl
 rw[this]at hd
 match ds,hd with
 |[_,_],_=>rfl
end Go.Proofs.YtegkopkbogoajaaGreatDoor.execGroups
