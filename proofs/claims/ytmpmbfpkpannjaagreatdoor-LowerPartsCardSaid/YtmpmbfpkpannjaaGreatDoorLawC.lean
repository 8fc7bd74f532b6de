/- The law bowspritlaw14.LowerParts answers true at every input; the input reads as it did. CONDITIONS: none but the variables that the row lists (laid). -/
import Derived.Test.YtmpmbfpkpannjaaGreatDoorCm25
import Derived.Test.YtmpmbfpkpannjaaGreatDoorCm27
import Derived.Test.YtmpmbfpkpannjaaGreatDoorCm31
import Derived.Test.YtmpmbfpkpannjaaGreatDoorTie
set_option linter.unusedVariables false
set_option linter.unusedSimpArgs false
set_option linter.unusedSectionVars false
namespace Go.Proofs.YtmpmbfpkpannjaaGreatDoor.lowerParts
open Go.AM Go.ChangeShapes Go.WideShapes Go.ChangeAt Go.RowKit
set_option maxRecDepth 100000 in
theorem lifted(os:Os)(started:os.Started)(H:Type)(enc:TypeId×Value→H)(F:Stop.Interp) :
  ReturnsInHanded {} Tryz.checked os 5 .any ((OpenSpec.ofChange Rows.lowerPartsSpec).preRow enc Tryz.prog Tryz.f5 Rows.lowerPartsRow.domain false Rows.lowerPartsRow.laid) (((OpenSpec.ofChange Rows.lowerPartsSpec).at F).post enc Tryz.prog Tryz.f5 false true false false):=by
 refine returnsInHanded_of_row (C:=Tryz.checked) (s:=OpenSpec.ofChange Rows.lowerPartsSpec) own started (by kernel_rfl) Tryz.func5 (ac7 os H enc) ?_;intro W base args ds gs before hval hW _ _ _ hL _ _;exact XM H enc W base args ds gs before hval hW hL
theorem aqb:Rows.LowerPartsSaid:=
 OpenClaim.holds_of_cond 5 Tryz.f5 rfl rfl rfl rfl rfl rfl rfl ⟨rfl,rfl,rfl,rfl,rfl⟩ rfl rfl rfl rfl rfl named Tryz.func5 closed
  (of_decide_eq_true apr) wrap
  (fun os started H enc _ F=>by rw[OpenClaim.pre_eq_preRow];exact lifted os started H enc F)
theorem plain(f:FuncId)(fn:Func)(hf:Tryz.pinned.checked.prog.funcNamed "bowsprit/bowspritlaw14.LowerParts" = some f)(hfn:Tryz.pinned.checked.prog.funcs[f]?=some fn) :
  true=Tryz.pinned.checked.prog.looks []∧∀(j:Nat) t,fn.params[j]?=some t→Tryz.pinned.checked.prog.wantsStandIn t=false:=by
 obtain rfl:f=5:=Option.some.inj ((show Tryz.prog.funcNamed "bowsprit/bowspritlaw14.LowerParts" = some 5 from named).symm.trans hf) |>.symm;obtain rfl:fn=Tryz.f5:=(Option.some.inj (Tryz.func5.symm.trans hfn)).symm;refine⟨WG,fun j t ht=>?_⟩;have h1:=Pw;have h2:=List.all_eq_true.1 h1 t (by simpa using Array.mem_of_getElem? ht);have h3:Tryz.prog.wantsStandIn t=false:=by simpa using h2
 exact h3
theorem card:Rows.LowerPartsCardSaid:=
 Claim7.holds_tied_plain_at .later [] _ _ _ _ aqb (fun _ h=>by cases h) acC (fun _ h=>by cases h) lowerParts_row_tie rfl ⟨rfl,rfl⟩ acj rfl plain goes
end Go.Proofs.YtmpmbfpkpannjaaGreatDoor.lowerParts
