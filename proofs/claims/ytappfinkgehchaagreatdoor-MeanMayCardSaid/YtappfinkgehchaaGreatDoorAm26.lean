/- A world and arguments for the witness. -/
import Derived.Test.YtappfinkgehchaaGreatDoorCards
import Derived.Deep.DeepHandedRow
import Derived.LaidLaws
import Derived.Lay
import Derived.KernelRfl
set_option linter.unusedVariables false
set_option linter.unusedSimpArgs false
set_option linter.unusedSectionVars false
namespace Go.Proofs.YtappfinkgehchaaGreatDoor.meanMay
open Go.ChangeShapes Go.WideShapes Go.ChangeAt
noncomputable def laidWorld (os : Os) : World := World.laidAll Tryz.prog os Rows.meanMayRow.laid
def wargs : Array Value := #[.agg #[.slice none 0 0, .bool false, .bool false], .agg #[.slice none 0 0, .bool false, .bool false], .int .i64 0]
theorem laid_met (os : Os) : laidMet Tryz.prog Rows.meanMayRow.laid ((laidWorld os).forCall (fun _ _ => 0) ⟨#[], wargs, []⟩).memory :=
  laidMet_laidAll _ (by kernel_rfl) (by kernel_rfl)
theorem reads (os : Os) {H : Type} (enc : TypeId × Value → H) : ∃ places, DataW.whole enc Tryz.prog ((laidWorld os).forCall (fun _ _ => 0) ⟨#[], wargs, []⟩).memory Tryz.f3.params.toList Rows.meanMaySpec.vars false wargs.toList 20 = some ([.agg [.nil, .lit (.bool false), .lit (.bool false)], .agg [.nil, .lit (.bool false), .lit (.bool false)], .lit (.int .i64 0)], [], places) :=
  ⟨[], by kernel_rfl⟩
end Go.Proofs.YtappfinkgehchaaGreatDoor.meanMay
