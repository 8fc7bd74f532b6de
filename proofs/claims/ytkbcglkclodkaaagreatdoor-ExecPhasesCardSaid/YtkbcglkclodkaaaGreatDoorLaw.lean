/- The law ExecPhases of bowspritlaw20 answers true for every plan node, list of rows and list of numbers that the rows are dealt by, and leaves its arguments as they were. CONDITIONS: none beyond the given row's own (the package variable bowsprit/value.truths starts as the program's text lays it: the card ties it). -/
import Derived.Test.YtkbcglkclodkaaaGreatDoorAm24
import Derived.Test.YtkbcglkclodkaaaGreatDoorAm26
import Derived.Test.YtkbcglkclodkaaaGreatDoorAm30
import Derived.Test.YtkbcglkclodkaaaGreatDoorTie
set_option linter.unusedVariables false
set_option linter.unusedSimpArgs false
namespace Go.Proofs.YtkbcglkclodkaaaGreatDoor.execPhases
open Go.AM Go.ChangeShapes Go.WideShapes Go.ChangeAt Go.RowKit
set_option maxRecDepth 100000 in
theorem lifted(os:Os)(started:os.Started)(H:Type)(enc:TypeId×Value→H)(F:Stop.Interp) :
  ReturnsInHanded {} Tryz.checked os 6 .any ((OpenSpec.ofChange Rows.execPhasesSpec).preRow enc Tryz.prog Tryz.f6 Rows.execPhasesRow.domain false Rows.execPhasesRow.laid) (((OpenSpec.ofChange Rows.execPhasesSpec).at F).post enc Tryz.prog Tryz.f6 false true false false):=by
 refine returnsInHanded_of_row (C:=Tryz.checked) (s:=OpenSpec.ofChange Rows.execPhasesSpec) own started (by kernel_rfl) Tryz.func6 (witness os H enc) ?_
 intro W base args ds gs before hval hW _ _ _ hL _ _
 exact contract H enc W base args ds gs before hval hW hL
theorem said:Rows.ExecPhasesSaid:=
 OpenClaim.holds_of_cond 6 Tryz.f6 rfl rfl rfl rfl rfl rfl rfl ⟨rfl,rfl,rfl,rfl,rfl⟩ rfl rfl rfl rfl rfl named Tryz.func6 closed
  (of_decide_eq_true inst) wrap
  (fun os started H enc _ F=>by rw[OpenClaim.pre_eq_preRow];exact lifted os started H enc F)
theorem plain(f:FuncId)(fn:Func)(hf:Tryz.pinned.checked.prog.funcNamed "bowsprit/bowspritlaw20.ExecPhases" = some f)(hfn:Tryz.pinned.checked.prog.funcs[f]?=some fn) :
  false=Tryz.pinned.checked.prog.looks []∧∀ (j:Nat) t,fn.params[j]?=some t→Tryz.pinned.checked.prog.wantsStandIn t=false:=by
 obtain rfl:f=6:=Option.some.inj ((show Tryz.prog.funcNamed "bowsprit/bowspritlaw20.ExecPhases" = some 6 from named).symm.trans hf) |>.symm
 obtain rfl:fn=Tryz.f6:=(Option.some.inj (Tryz.func6.symm.trans hfn)).symm
 refine ⟨looks_off,fun j t ht=>?_⟩
 have h1:=no_stand_in
 have h2:=List.all_eq_true.1 h1 t (by simpa using Array.mem_of_getElem? ht)
 have h3:Tryz.prog.wantsStandIn t=false:=by simpa using h2
 exact h3
theorem card:Rows.ExecPhasesCardSaid:=
 Claim7.holds_tied_plain_at .later [] _ _ _ _ said (fun _ h=>by cases h) by_text (fun _ h=>by cases h) execPhases_row_tie rfl ⟨rfl,rfl⟩ main_is rfl plain goes
end Go.Proofs.YtkbcglkclodkaaaGreatDoor.execPhases
