/- Part of the proof. -/
import Derived.Test.YtmpmbfpkpannjaaGreatDoorCards
import Derived.Deep.DeepHandedRow
import Derived.LaidLaws
import Derived.Lay
import Derived.KernelRfl
set_option linter.unusedVariables false
set_option linter.unusedSimpArgs false
set_option linter.unusedSectionVars false
namespace Go.Proofs.YtmpmbfpkpannjaaGreatDoor.lowerAll
open Go.ChangeShapes Go.WideShapes Go.ChangeAt
noncomputable def Ea(os:Os):World:=World.laidAll Tryz.prog os Rows.lowerAllRow.laid
def Uq:Array Value:=#[.agg #[.slice none 0 0],.string ⟨#[]⟩]
theorem abh(os:Os):laidMet Tryz.prog Rows.lowerAllRow.laid ((Ea os).forCall (fun _ _=>0) ⟨#[],Uq,[]⟩).memory:=
 laidMet_laidAll _ (by kernel_rfl) (by kernel_rfl)
theorem reads(os:Os){H:Type}(enc:TypeId×Value→H):∃places,DataW.whole enc Tryz.prog ((Ea os).forCall (fun _ _=>0) ⟨#[],Uq,[]⟩).memory Tryz.f3.params.toList Rows.lowerAllSpec.vars false Uq.toList 20=some ([.agg [.nil],.lit (.string [])],[],places):=
 ⟨[],by kernel_rfl⟩
end Go.Proofs.YtmpmbfpkpannjaaGreatDoor.lowerAll
