/- A world and arguments for the witness. -/
import Derived.Test.YtmkkmacbmlcfaaaGreatDoorCards
import Derived.Deep.DeepHandedRow
import Derived.LaidLaws
import Derived.Lay
import Derived.KernelRfl
set_option linter.unusedVariables false
set_option linter.unusedSimpArgs false
set_option linter.unusedSectionVars false
namespace Go.Proofs.YtmkkmacbmlcfaaaGreatDoor.queryEnds
open Go.ChangeShapes Go.WideShapes Go.ChangeAt
noncomputable def laidWorld (os : Os) : World := World.laidAll Tryz.prog os Rows.queryEndsRow.laid
def wargs : Array Value := #[.agg #[.int .i64 0, .int .i64 0, .slice none 0 0, .slice none 0 0, .int .i64 0, .int .i64 0, .slice none 0 0, .slice none 0 0], .slice none 0 0, .int .i64 0]
theorem laid_met (os : Os) : laidMet Tryz.prog Rows.queryEndsRow.laid ((laidWorld os).forCall (fun _ _ => 0) ⟨#[], wargs, []⟩).memory :=
  laidMet_laidAll _ (by kernel_rfl) (by kernel_rfl)
theorem reads (os : Os) {H : Type} (enc : TypeId × Value → H) : ∃ places, DataW.whole enc Tryz.prog ((laidWorld os).forCall (fun _ _ => 0) ⟨#[], wargs, []⟩).memory Tryz.f3.params.toList Rows.queryEndsSpec.vars false wargs.toList 20 = some ([.agg [.lit (.int .i64 0), .lit (.int .i64 0), .agg [.agg [.nil], .nil], .agg [.lit (.int .i64 0), .lit (.int .i64 0), .nil, .nil]], .nil, .lit (.int .i64 0)], [], places) :=
  ⟨[], by kernel_rfl⟩
end Go.Proofs.YtmkkmacbmlcfaaaGreatDoor.queryEnds
