/- Part of the proof. -/
import Derived.Test.YtdfklhejofpgbaaGreatDoorAm24
set_option linter.unusedVariables false
set_option linter.unusedSimpArgs false
namespace Go.Proofs.YtdfklhejofpgbaaGreatDoor.execTrees
open Go.ChangeShapes Go.WideShapes Go.ChangeAt
set_option maxRecDepth 100000 in
theorem Z1(os:Os)(H:Type)(enc:TypeId×Value→H) :
  ∃(w:World) (tape:Tape) (i:Input),w.os=os∧(w.forCall tape i).Shaped Tryz.prog∧i.vars=[]∧Input.okWide Tryz.prog (w.forCall tape i) .any w.heap.size 3 i ∧
   (OpenSpec.ofChange Rows.execTreesSpec).preRow enc Tryz.prog Tryz.f3 Rows.execTreesRow.domain false Rows.execTreesRow.laid (w.forCall tape i).memory i.args∧({}:Assume).holds Tryz.prog (lone (Frame.enter Tryz.prog 3 i.args .normal) [] (w.forCall tape i)):=by
 obtain⟨places,hx⟩:=ajp os enc
 exact witness_row_at (enc:=enc) (C:=Tryz.checked) false (Bk os) RW rfl (by kernel_rfl) (by kernel_rfl) (by kernel_rfl)
   (OpenSpec.preRow_of_cond 20 hx (by kernel_rfl) (fun k hk=>by cases hk) (by kernel_rfl) (V6 os))
end Go.Proofs.YtdfklhejofpgbaaGreatDoor.execTrees
