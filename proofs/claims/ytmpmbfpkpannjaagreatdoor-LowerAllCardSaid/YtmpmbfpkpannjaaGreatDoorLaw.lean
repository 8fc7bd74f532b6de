/- The law bowspritlaw14.LowerAll answers true at every input; the input reads as it did. CONDITIONS: none but the variables that the row lists (laid). -/
import Derived.Test.YtmpmbfpkpannjaaGreatDoorAm25
import Derived.Test.YtmpmbfpkpannjaaGreatDoorAm27
import Derived.Test.YtmpmbfpkpannjaaGreatDoorAm31
import Derived.Test.YtmpmbfpkpannjaaGreatDoorTie
set_option linter.unusedVariables false
set_option linter.unusedSimpArgs false
set_option linter.unusedSectionVars false
namespace Go.Proofs.YtmpmbfpkpannjaaGreatDoor.lowerAll
open Go.AM Go.ChangeShapes Go.WideShapes Go.ChangeAt Go.RowKit
set_option maxRecDepth 100000 in
theorem lifted(os:Os)(started:os.Started)(H:Type)(enc:TypeId×Value→H)(F:Stop.Interp) :
  ReturnsInHanded {} Tryz.checked os 3 .any ((OpenSpec.ofChange Rows.lowerAllSpec).preRow enc Tryz.prog Tryz.f3 Rows.lowerAllRow.domain false Rows.lowerAllRow.laid) (((OpenSpec.ofChange Rows.lowerAllSpec).at F).post enc Tryz.prog Tryz.f3 false true false false):=by
 refine returnsInHanded_of_row (C:=Tryz.checked) (s:=OpenSpec.ofChange Rows.lowerAllSpec) own started (by kernel_rfl) Tryz.func3 (aee os H enc) ?_;intro W base args ds gs before hval hW _ _ _ hL _ _;exact aaf H enc W base args ds gs before hval hW hL
theorem apG:Rows.LowerAllSaid:=
 OpenClaim.holds_of_cond 3 Tryz.f3 rfl rfl rfl rfl rfl rfl rfl ⟨rfl,rfl,rfl,rfl,rfl⟩ rfl rfl rfl rfl rfl named Tryz.func3 closed
  (of_decide_eq_true ape) wrap
  (fun os started H enc _ F=>by rw[OpenClaim.pre_eq_preRow];exact lifted os started H enc F)
theorem plain(f:FuncId)(fn:Func)(hf:Tryz.pinned.checked.prog.funcNamed "bowsprit/bowspritlaw14.LowerAll" = some f)(hfn:Tryz.pinned.checked.prog.funcs[f]?=some fn) :
  true=Tryz.pinned.checked.prog.looks []∧∀(j:Nat) t,fn.params[j]?=some t→Tryz.pinned.checked.prog.wantsStandIn t=false:=by
 obtain rfl:f=3:=Option.some.inj ((show Tryz.prog.funcNamed "bowsprit/bowspritlaw14.LowerAll" = some 3 from named).symm.trans hf) |>.symm;obtain rfl:fn=Tryz.f3:=(Option.some.inj (Tryz.func3.symm.trans hfn)).symm;refine⟨V5,fun j t ht=>?_⟩;have h1:=Pi;have h2:=List.all_eq_true.1 h1 t (by simpa using Array.mem_of_getElem? ht);have h3:Tryz.prog.wantsStandIn t=false:=by simpa using h2
 exact h3
theorem card:Rows.LowerAllCardSaid:=
 Claim7.holds_tied_plain_at .later [] _ _ _ _ apG (fun _ h=>by cases h) adT (fun _ h=>by cases h) lowerAll_row_tie rfl ⟨rfl,rfl⟩ adK rfl plain goes
end Go.Proofs.YtmpmbfpkpannjaaGreatDoor.lowerAll
