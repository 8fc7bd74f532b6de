/- The lD bowspritlaw20.ExecGroups answers true for every node and every row of rows: aggregates of some rows, and aggregates put together, are the document's. CONDITIONS: those of the row's card alone. -/
import Derived.Test.YtegkopkbogoajaaGreatDoorAm22
import Derived.Test.YtegkopkbogoajaaGreatDoorAm24
import Derived.Test.YtegkopkbogoajaaGreatDoorAm28
import Derived.Test.YtegkopkbogoajaaGreatDoorTie
set_option linter.unusedVariables false
set_option linter.unusedSimpArgs false
namespace Go.Proofs.YtegkopkbogoajaaGreatDoor.execGroups
open Go.AM Go.ChangeShapes Go.WideShapes Go.ChangeAt Go.RowKit
set_option maxRecDepth 100000 in
theorem lifted(os:Os)(started:os.Started)(H:Type)(enc:TypeId×Value→H)(F:Stop.Interp) :
  ReturnsInHanded {} Tryz.checked os 3 .any ((OpenSpec.ofChange Rows.execGroupsSpec).preRow enc Tryz.prog Tryz.f3 Rows.execGroupsRow.domain false Rows.execGroupsRow.laid) (((OpenSpec.ofChange Rows.execGroupsSpec).at F).post enc Tryz.prog Tryz.f3 false true false false):=by
 refine returnsInHanded_of_row (C:=Tryz.checked) (s:=OpenSpec.ofChange Rows.execGroupsSpec) own started (by kernel_rfl) Tryz.func3 (aek os H enc) ?_;intro W base args ds gs before hval hW _ _ _ hL _ _;exact Z2 H enc W base args ds gs before hval hW hL
theorem asO:Rows.ExecGroupsSaid:=
 OpenClaim.holds_of_cond 3 Tryz.f3 rfl rfl rfl rfl rfl rfl rfl ⟨rfl,rfl,rfl,rfl,rfl⟩ rfl rfl rfl rfl rfl named Tryz.func3 closed
  (avH asB) wrap
  (fun os started H enc _ F=>by rw[OpenClaim.pre_eq_preRow];exact lifted os started H enc F)
theorem plain(f:FuncId)(fn:Func)(hf:Tryz.pinned.checked.prog.funcNamed "bowsprit/bowspritlaw20.ExecGroups" = some f)(hfn:Tryz.pinned.checked.prog.funcs[f]?=some fn) :
  false=Tryz.pinned.checked.prog.looks []∧∀(j:Nat) t,fn.params[j]?=some t→Tryz.pinned.checked.prog.wantsStandIn t=false:=by
 obtain rfl:f=3:=Option.some.inj ((show Tryz.prog.funcNamed "bowsprit/bowspritlaw20.ExecGroups" = some 3 from named).symm.trans hf) |>.symm;obtain rfl:fn=Tryz.f3:=(Option.some.inj (Tryz.func3.symm.trans hfn)).symm;refine⟨Ym,fun j t ht=>?_⟩;have h1:=PV;have h2:=List.all_eq_true.1 h1 t (by simpa using Array.mem_of_getElem? ht);have h3:Tryz.prog.wantsStandIn t=false:=by simpa using h2
 exact h3
theorem card:Rows.ExecGroupsCardSaid:=
 Claim7.holds_tied_plain_at .later [] _ _ _ _ asO (fun _ h=>by cases h) aez (fun _ h=>by cases h) execGroups_row_tie rfl ⟨rfl,rfl⟩ aeD rfl plain arT
end Go.Proofs.YtegkopkbogoajaaGreatDoor.execGroups
