/- Part of the proof. -/
import Derived.Test.YtegkopkbogoajaaGreatDoorCards
import Derived.Deep.DeepHandedRow
import Derived.LaidLaws
import Derived.KernelRfl
set_option linter.unusedVariables false
set_option linter.unusedSimpArgs false
namespace Go.Proofs.YtegkopkbogoajaaGreatDoor.execGroups
open Go.ChangeShapes Go.WideShapes Go.ChangeAt
noncomputable def Dl(os:Os):World:=
 { World.holding Tryz.prog os ⟨#[],#[],[]⟩ with heap:=(World.holding Tryz.prog os ⟨#[],#[],[]⟩).heap.modify 0 fun
   |.cells _ t jj=>.cells #[.int .i64 1,.int .i64 0,.int .u64 0,.string ⟨#[]⟩,.int .i64 0,.int .i64 0,.int .u64 0,.string ⟨#[]⟩,.int .i64 1,.int .i64 1,.int .u64 0,.string ⟨#[]⟩] t jj
   |o=>o }
def UN:Array Value:=#[.agg #[.int .i64 0,.int .i64 0,.int .i64 0,.int .i64 0,.slice none 0 0,.bool false,.slice none 0 0,.slice none 0 0,.slice none 0 0,.slice none 0 0,.slice none 0 0,.int .i64 0],.slice none 0 0]
theorem ab6(os:Os):laidMet Tryz.prog Rows.execGroupsRow.laid ((Dl os).forCall (fun _ _=>0) ⟨#[],UN,[]⟩).memory:=
 laidMet_of_run' 8 (by kernel_rfl) (by kernel_rfl)
theorem ana(os:Os){H:Type}(enc:TypeId×Value→H):∃places,DataW.whole enc Tryz.prog ((Dl os).forCall (fun _ _=>0) ⟨#[],UN,[]⟩).memory Tryz.f3.params.toList Rows.execGroupsSpec.vars false UN.toList 20=some ([.agg [.lit (.int .i64 0),.lit (.int .i64 0),.lit (.int .i64 0),.lit (.int .i64 0),.nil,.lit (.bool false),.agg [.nil],.nil,.nil,.nil,.nil,.lit (.int .i64 0)],.nil],[],places):=
 ⟨[],by kernel_rfl⟩
end Go.Proofs.YtegkopkbogoajaaGreatDoor.execGroups
