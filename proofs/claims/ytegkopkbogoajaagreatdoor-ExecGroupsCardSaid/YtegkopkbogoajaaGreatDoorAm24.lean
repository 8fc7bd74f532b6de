/- Part of the proof. -/
import Derived.Test.YtegkopkbogoajaaGreatDoorAm23
set_option linter.unusedVariables false
set_option linter.unusedSimpArgs false
namespace Go.Proofs.YtegkopkbogoajaaGreatDoor.execGroups
open Go.ChangeShapes Go.WideShapes Go.ChangeAt
set_option maxRecDepth 100000 in
theorem aek(os:Os)(H:Type)(enc:TypeId×Value→H) :
  ∃(w:World) (tape:Tape) (i:Input),w.os=os∧(w.forCall tape i).Shaped Tryz.prog∧i.vars=[]∧Input.okWide Tryz.prog (w.forCall tape i) .any w.heap.size 3 i ∧
   (OpenSpec.ofChange Rows.execGroupsSpec).preRow enc Tryz.prog Tryz.f3 Rows.execGroupsRow.domain false Rows.execGroupsRow.laid (w.forCall tape i).memory i.args∧({}:Assume).holds Tryz.prog (lone (Frame.enter Tryz.prog 3 i.args .normal) [] (w.forCall tape i)):=by
 obtain⟨places,hx⟩:=ana os enc
 exact witness_row_at (enc:=enc) (C:=Tryz.checked) false (Dl os) UN rfl (by kernel_rfl) (by kernel_rfl) (by kernel_rfl)
   (OpenSpec.preRow_of_cond 20 hx (by kernel_rfl) (fun k hk=>by cases hk) (by kernel_rfl) (ab6 os))
end Go.Proofs.YtegkopkbogoajaaGreatDoor.execGroups
