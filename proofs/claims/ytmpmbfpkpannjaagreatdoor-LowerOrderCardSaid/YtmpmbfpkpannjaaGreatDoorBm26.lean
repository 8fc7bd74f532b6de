/- Part of the proof. -/
import Derived.Test.YtmpmbfpkpannjaaGreatDoorCards
import Derived.Deep.DeepHandedRow
import Derived.LaidLaws
import Derived.Lay
import Derived.KernelRfl
set_option linter.unusedVariables false
set_option linter.unusedSimpArgs false
set_option linter.unusedSectionVars false
namespace Go.Proofs.YtmpmbfpkpannjaaGreatDoor.lowerOrder
open Go.ChangeShapes Go.WideShapes Go.ChangeAt
noncomputable def DS(os:Os):World:=World.laidAll Tryz.prog os Rows.lowerOrderRow.laid
def U6:Array Value:=#[.agg #[.slice none 0 0],.string ⟨#[]⟩,.int .i64 0]
theorem Y6(os:Os):laidMet Tryz.prog Rows.lowerOrderRow.laid ((DS os).forCall (fun _ _=>0) ⟨#[],U6,[]⟩).memory:=
 laidMet_laidAll _ (by kernel_rfl) (by kernel_rfl)
theorem reads(os:Os){H:Type}(enc:TypeId×Value→H):∃places,DataW.whole enc Tryz.prog ((DS os).forCall (fun _ _=>0) ⟨#[],U6,[]⟩).memory Tryz.f4.params.toList Rows.lowerOrderSpec.vars false U6.toList 20=some ([.agg [.nil],.lit (.string []),.lit (.int .i64 0)],[],places):=
 ⟨[],by kernel_rfl⟩
end Go.Proofs.YtmpmbfpkpannjaaGreatDoor.lowerOrder
