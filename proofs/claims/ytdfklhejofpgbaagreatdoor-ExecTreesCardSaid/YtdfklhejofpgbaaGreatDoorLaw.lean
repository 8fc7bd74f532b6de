/- The law bowspritlaw20.ExecTrees answers true for every tree and every list of tables: a tree that runs as one fragment comes to what the tree comes to. CONDITIONS: those of the row's card alone. -/
import Derived.Test.YtdfklhejofpgbaaGreatDoorAm23
import Derived.Test.YtdfklhejofpgbaaGreatDoorAm25
import Derived.Test.YtdfklhejofpgbaaGreatDoorAm29
import Derived.Test.YtdfklhejofpgbaaGreatDoorTie
set_option linter.unusedVariables false
set_option linter.unusedSimpArgs false
namespace Go.Proofs.YtdfklhejofpgbaaGreatDoor.execTrees
open Go.AM Go.ChangeShapes Go.WideShapes Go.ChangeAt Go.RowKit
set_option maxRecDepth 100000 in
theorem lifted(os:Os)(started:os.Started)(H:Type)(enc:TypeId×Value→H)(F:Stop.Interp) :
  ReturnsInHanded {} Tryz.checked os 3 .any ((OpenSpec.ofChange Rows.execTreesSpec).preRow enc Tryz.prog Tryz.f3 Rows.execTreesRow.domain false Rows.execTreesRow.laid) (((OpenSpec.ofChange Rows.execTreesSpec).at F).post enc Tryz.prog Tryz.f3 false true false false):=by
 refine returnsInHanded_of_row (C:=Tryz.checked) (s:=OpenSpec.ofChange Rows.execTreesSpec) MY started (by kernel_rfl) Tryz.func3 (Z1 os H enc) ?_;intro W base args ds gs before hval hW _ _ _ hL _ _;exact Xm H enc W base args ds gs before hval hW hL
theorem al7:Rows.ExecTreesSaid:=
 OpenClaim.holds_of_cond 3 Tryz.f3 rfl rfl rfl rfl rfl rfl rfl ⟨rfl,rfl,rfl,rfl,rfl⟩ rfl rfl rfl rfl rfl named Tryz.func3 closed
  (ll amP) wrap
  (fun os started H enc _ F=>by rw[OpenClaim.pre_eq_preRow];exact lifted os started H enc F)
theorem plain(f:FuncId)(fn:Func)(hf:Tryz.pinned.checked.prog.funcNamed "bowsprit/bowspritlaw20.ExecTrees" = some f)(hfn:Tryz.pinned.checked.prog.funcs[f]?=some fn) :
  false=Tryz.pinned.checked.prog.looks []∧∀(j:Nat) t,fn.params[j]?=some t→Tryz.pinned.checked.prog.wantsStandIn t=false:=by
 obtain rfl:f=3:=Option.some.inj ((show Tryz.prog.funcNamed "bowsprit/bowspritlaw20.ExecTrees" = some 3 from named).symm.trans hf) |>.symm;obtain rfl:fn=Tryz.f3:=(Option.some.inj (Tryz.func3.symm.trans hfn)).symm;refine⟨Te,fun j t ht=>?_⟩;have h1:=LH;have h2:=List.all_eq_true.1 h1 t (by simpa using Array.mem_of_getElem? ht);have h3:Tryz.prog.wantsStandIn t=false:=by simpa using h2
 exact h3
theorem card:Rows.ExecTreesCardSaid:=
 Claim7.holds_tied_plain_at .later [] _ _ _ _ al7 (fun _ h=>by cases h) Yv (fun _ h=>by cases h) execTrees_row_tie rfl ⟨rfl,rfl⟩ Yl rfl plain amJ
end Go.Proofs.YtdfklhejofpgbaaGreatDoor.execTrees
