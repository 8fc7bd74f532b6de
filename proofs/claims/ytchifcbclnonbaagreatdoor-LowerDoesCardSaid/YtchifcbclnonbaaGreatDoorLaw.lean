/- The law bowspritlaw14.LowerDoes answers true at every input; the input reads as it did. CONDITIONS: none but the variables that the row lists (laid). -/
import Derived.Test.YtchifcbclnonbaaGreatDoorAm23
import Derived.Test.YtchifcbclnonbaaGreatDoorAm25
import Derived.Test.YtchifcbclnonbaaGreatDoorAm29
import Derived.Test.YtchifcbclnonbaaGreatDoorTie
set_option linter.unusedVariables false
set_option linter.unusedSimpArgs false
set_option linter.unusedSectionVars false
namespace Go.Proofs.YtchifcbclnonbaaGreatDoor.lowerDoes
open Go.AM Go.ChangeShapes Go.WideShapes Go.ChangeAt Go.RowKit
set_option maxRecDepth 100000 in
theorem lifted(os:Os)(started:os.Started)(H:Type)(enc:TypeId×Value→H)(F:Stop.Interp) :
  ReturnsInHanded {} Tryz.checked os 3 .any ((OpenSpec.ofChange Rows.lowerDoesSpec).preRow enc Tryz.prog Tryz.f3 Rows.lowerDoesRow.domain false Rows.lowerDoesRow.laid) (((OpenSpec.ofChange Rows.lowerDoesSpec).at F).post enc Tryz.prog Tryz.f3 false true false false):=by
 refine returnsInHanded_of_row (C:=Tryz.checked) (s:=OpenSpec.ofChange Rows.lowerDoesSpec) own started (by kernel_rfl) Tryz.func3 (ZK os H enc) ?_;intro W base args ds gs before hval hW _ _ _ hL _ _;exact Wo H enc W base args ds gs before hval hW hL
theorem amu:Rows.LowerDoesSaid:=
 OpenClaim.holds_of_cond 3 Tryz.f3 rfl rfl rfl rfl rfl rfl rfl ⟨rfl,rfl,rfl,rfl,rfl⟩ rfl rfl rfl rfl rfl named Tryz.func3 closed
  (jd alX) wrap
  (fun os started H enc _ F=>by rw[OpenClaim.pre_eq_preRow];exact lifted os started H enc F)
theorem plain(f:FuncId)(fn:Func)(hf:Tryz.pinned.checked.prog.funcNamed "bowsprit/bowspritlaw14.LowerDoes" = some f)(hfn:Tryz.pinned.checked.prog.funcs[f]?=some fn) :
  true=Tryz.pinned.checked.prog.looks []∧∀(j:Nat) t,fn.params[j]?=some t→Tryz.pinned.checked.prog.wantsStandIn t=false:=by
 obtain rfl:f=3:=Option.some.inj ((show Tryz.prog.funcNamed "bowsprit/bowspritlaw14.LowerDoes" = some 3 from named).symm.trans hf) |>.symm;obtain rfl:fn=Tryz.f3:=(Option.some.inj (Tryz.func3.symm.trans hfn)).symm;refine⟨S2,fun j t ht=>?_⟩;have h1:=MH;have h2:=List.all_eq_true.1 h1 t (by simpa using Array.mem_of_getElem? ht);have h3:Tryz.prog.wantsStandIn t=false:=by simpa using h2
 exact h3
theorem card:Rows.LowerDoesCardSaid:=
 Claim7.holds_tied_plain_at .later [] _ _ _ _ amu (fun _ h=>by cases h) ZG (fun _ h=>by cases h) lowerDoes_row_tie rfl ⟨rfl,rfl⟩ ZT rfl plain goes
end Go.Proofs.YtchifcbclnonbaaGreatDoor.lowerDoes
