/- Part of the proof. -/
import Derived.Test.YtdfklhejofpgbaaGreatDoorCards
import Derived.Deep.DeepHandedRow
import Derived.LaidLaws
import Derived.KernelRfl
set_option linter.unusedVariables false
set_option linter.unusedSimpArgs false
namespace Go.Proofs.YtdfklhejofpgbaaGreatDoor.execTrees
open Go.ChangeShapes Go.WideShapes Go.ChangeAt
noncomputable def Bk(os:Os):World:=
 { World.holding Tryz.prog os ⟨#[],#[],[]⟩ with heap:=(World.holding Tryz.prog os ⟨#[],#[],[]⟩).heap.modify 0 fun
   |.cells _ t lz=>.cells #[.int .i64 1,.int .i64 0,.int .u64 0,.string ⟨#[]⟩,.int .i64 0,.int .i64 0,.int .u64 0,.string ⟨#[]⟩,.int .i64 1,.int .i64 1,.int .u64 0,.string ⟨#[]⟩] t lz
   |o=>o }
def RW:Array Value:=#[.slice none 0 0,.slice none 0 0]
theorem V6(os:Os):laidMet Tryz.prog Rows.execTreesRow.laid ((Bk os).forCall (fun _ _=>0) ⟨#[],RW,[]⟩).memory:=
 laidMet_of_run' 8 (by kernel_rfl) (by kernel_rfl)
theorem ajp(os:Os){H:Type}(enc:TypeId×Value→H):∃places,DataW.whole enc Tryz.prog ((Bk os).forCall (fun _ _=>0) ⟨#[],RW,[]⟩).memory Tryz.f3.params.toList Rows.execTreesSpec.vars false RW.toList 20=some ([.nil,.nil],[],places):=
 ⟨[],by kernel_rfl⟩
end Go.Proofs.YtdfklhejofpgbaaGreatDoor.execTrees
