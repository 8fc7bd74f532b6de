/- Part of the proof. -/
import Derived.Test.YtchifcbclnonbaaGreatDoorCards
import Derived.Deep.DeepHandedRow
import Derived.LaidLaws
import Derived.Lay
import Derived.KernelRfl
set_option linter.unusedVariables false
set_option linter.unusedSimpArgs false
set_option linter.unusedSectionVars false
namespace Go.Proofs.YtchifcbclnonbaaGreatDoor.lowerDoes
open Go.ChangeShapes Go.WideShapes Go.ChangeAt
noncomputable def B7(os:Os):World:=World.laidAll Tryz.prog os Rows.lowerDoesRow.laid
def PY:Array Value:=#[.agg #[.slice none 0 0],.slice none 0 0]
theorem V3(os:Os):laidMet Tryz.prog Rows.lowerDoesRow.laid ((B7 os).forCall (fun _ _=>0) ⟨#[],PY,[]⟩).memory:=
 laidMet_laidAll _ (by kernel_rfl) (by kernel_rfl)
theorem reads(os:Os){H:Type}(enc:TypeId×Value→H):∃places,DataW.whole enc Tryz.prog ((B7 os).forCall (fun _ _=>0) ⟨#[],PY,[]⟩).memory Tryz.f3.params.toList Rows.lowerDoesSpec.vars false PY.toList 20=some ([.agg [.nil],.nil],[],places):=
 ⟨[],by kernel_rfl⟩
end Go.Proofs.YtchifcbclnonbaaGreatDoor.lowerDoes
