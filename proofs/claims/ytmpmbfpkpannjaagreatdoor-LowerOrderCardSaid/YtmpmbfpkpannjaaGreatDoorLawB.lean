/- The law bowspritlaw14.LowerOrder answers true at every input; the input reads as it did. CONDITIONS: none but the variables that the row lists (laid). -/
import Derived.Test.YtmpmbfpkpannjaaGreatDoorBm25
import Derived.Test.YtmpmbfpkpannjaaGreatDoorBm27
import Derived.Test.YtmpmbfpkpannjaaGreatDoorBm31
import Derived.Test.YtmpmbfpkpannjaaGreatDoorTie
set_option linter.unusedVariables false
set_option linter.unusedSimpArgs false
set_option linter.unusedSectionVars false
namespace Go.Proofs.YtmpmbfpkpannjaaGreatDoor.lowerOrder
open Go.AM Go.ChangeShapes Go.WideShapes Go.ChangeAt Go.RowKit
set_option maxRecDepth 100000 in
theorem lifted(os:Os)(started:os.Started)(H:Type)(enc:TypeId×Value→H)(F:Stop.Interp) :
  ReturnsInHanded {} Tryz.checked os 4 .any ((OpenSpec.ofChange Rows.lowerOrderSpec).preRow enc Tryz.prog Tryz.f4 Rows.lowerOrderRow.domain false Rows.lowerOrderRow.laid) (((OpenSpec.ofChange Rows.lowerOrderSpec).at F).post enc Tryz.prog Tryz.f4 false true false false):=by
 refine returnsInHanded_of_row (C:=Tryz.checked) (s:=OpenSpec.ofChange Rows.lowerOrderSpec) own started (by kernel_rfl) Tryz.func4 (adn os H enc) ?_;intro W base args ds gs before hval hW _ _ _ hL _ _;exact XS H enc W base args ds gs before hval hW hL
theorem apE:Rows.LowerOrderSaid:=
 OpenClaim.holds_of_cond 4 Tryz.f4 rfl rfl rfl rfl rfl rfl rfl ⟨rfl,rfl,rfl,rfl,rfl⟩ rfl rfl rfl rfl rfl named Tryz.func4 closed
  (of_decide_eq_true apv) wrap
  (fun os started H enc _ F=>by rw[OpenClaim.pre_eq_preRow];exact lifted os started H enc F)
theorem plain(f:FuncId)(fn:Func)(hf:Tryz.pinned.checked.prog.funcNamed "bowsprit/bowspritlaw14.LowerOrder" = some f)(hfn:Tryz.pinned.checked.prog.funcs[f]?=some fn) :
  true=Tryz.pinned.checked.prog.looks []∧∀(j:Nat) t,fn.params[j]?=some t→Tryz.pinned.checked.prog.wantsStandIn t=false:=by
 obtain rfl:f=4:=Option.some.inj ((show Tryz.prog.funcNamed "bowsprit/bowspritlaw14.LowerOrder" = some 4 from named).symm.trans hf) |>.symm;obtain rfl:fn=Tryz.f4:=(Option.some.inj (Tryz.func4.symm.trans hfn)).symm;refine⟨WN,fun j t ht=>?_⟩;have h1:=Of;have h2:=List.all_eq_true.1 h1 t (by simpa using Array.mem_of_getElem? ht);have h3:Tryz.prog.wantsStandIn t=false:=by simpa using h2
 exact h3
theorem card:Rows.LowerOrderCardSaid:=
 Claim7.holds_tied_plain_at .later [] _ _ _ _ apE (fun _ h=>by cases h) ace (fun _ h=>by cases h) lowerOrder_row_tie rfl ⟨rfl,rfl⟩ adL rfl plain goes
end Go.Proofs.YtmpmbfpkpannjaaGreatDoor.lowerOrder
