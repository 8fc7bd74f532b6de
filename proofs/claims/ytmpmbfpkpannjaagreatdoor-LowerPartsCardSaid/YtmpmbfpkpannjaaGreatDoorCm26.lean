/- Part of the proof. -/
import Derived.Test.YtmpmbfpkpannjaaGreatDoorCards
import Derived.Deep.DeepHandedRow
import Derived.LaidLaws
import Derived.Lay
import Derived.KernelRfl
set_option linter.unusedVariables false
set_option linter.unusedSimpArgs false
set_option linter.unusedSectionVars false
namespace Go.Proofs.YtmpmbfpkpannjaaGreatDoor.lowerParts
open Go.ChangeShapes Go.WideShapes Go.ChangeAt
noncomputable def EI(os:Os):World:=World.laidAll Tryz.prog os Rows.lowerPartsRow.laid
def Ud:Array Value:=#[.agg #[.slice none 0 0],.string ⟨#[]⟩]
theorem XY(os:Os):laidMet Tryz.prog Rows.lowerPartsRow.laid ((EI os).forCall (fun _ _=>0) ⟨#[],Ud,[]⟩).memory:=
 laidMet_laidAll _ (by kernel_rfl) (by kernel_rfl)
theorem reads(os:Os){H:Type}(enc:TypeId×Value→H):∃places,DataW.whole enc Tryz.prog ((EI os).forCall (fun _ _=>0) ⟨#[],Ud,[]⟩).memory Tryz.f5.params.toList Rows.lowerPartsSpec.vars false Ud.toList 20=some ([.agg [.nil],.lit (.string [])],[],places):=
 ⟨[],by kernel_rfl⟩
end Go.Proofs.YtmpmbfpkpannjaaGreatDoor.lowerParts
