/- The law, as the abstract machine comes to it, at the program. -/
import Derived.Test.YtappfinkgehchaaGreatDoorAm17
import Derived.Test.YtappfinkgehchaaGreatDoorAm24
import Derived.Test.YtappfinkgehchaaGreatDoorCards
import Derived.MakeChecks
set_option linter.unusedVariables false
set_option linter.unusedSimpArgs false
set_option linter.unusedSectionVars false
namespace Go.Proofs.YtappfinkgehchaaGreatDoor.meanMay
open Go.AM Go.ChangeShapes Go.WideShapes Go.ChangeAt Go.RowKit
def shapes : List (Bool × List Sh) := [(true, meanS), (true, meanS), (false, [.int .i64])]
theorem shapes_ok : Tryz.f3.params.toList.mapM (shOf Tryz.prog 16) = some shapes := by kernel_rfl
theorem law (args : List AVal) (h : ArgsSh shapes args) : ∃ n, callN (codeOf P.tbl) n I.blaw21_MeanMay args [] = some (.bool true, []) := by
  cases h with
  | cons h1 h =>
  cases h with
  | cons h2 h =>
  cases h with
  | cons h3 h =>
  cases h
  obtain ⟨a, rfl⟩ := mean_arg h1
  obtain ⟨b, rfl⟩ := mean_arg h2
  obtain ⟨e, rfl, _⟩ := (argSh_one h3).int_inv
  have hp := may_law a b e
  have ha := acall_pure c_blaw21_MeanMay rfl [a.a, b.a, .int .i64 e] []
  have hsn : ([a.a, b.a, .int .i64 e] : List AVal).map (snap []) = [a.a, b.a, .int .i64 e] := by simp [MeanT.a]
  rw [hsn, hp] at ha
  exact (lim_eq (callN_mono good _ _ _) _).1 ha
theorem globals (g : Nat) (a : AVal) (h : S.glob g = some a) : ∃ n d vs, (n, d) ∈ Rows.meanMayRow.laid ∧ Tryz.prog.globalNamed n = some g ∧ flat d = some vs ∧ (cellsOf a).map toV = vs.map some ∧ ncells a = vs.length ∧ vs ≠ [] := by
  unfold S.glob at h
  split at h
  · cases h
    exact ⟨_, _, _, .tail _ (.tail _ (.head _)), by kernel_rfl, rfl, rfl, rfl, by simp⟩
  · cases h
    exact ⟨_, _, _, .tail _ (.head _), by kernel_rfl, rfl, rfl, rfl, by simp⟩
  · cases h
    exact ⟨_, _, _, .head _, by kernel_rfl, rfl, rfl, rfl, by simp⟩
  · cases h
    exact ⟨_, _, _, .tail _ (.tail _ (.tail _ (.head _))), by kernel_rfl, rfl, rfl, rfl, by simp⟩
  · cases h
set_option maxRecDepth 100000 in
theorem contract (H : Type) (enc : TypeId × Value → H) (W : World) (base : Nat) (args : Array Value) (ds gs : List (DataW H)) (before : List MemPlace)
    (hval : ∀ (j : Nat) t v, Tryz.f3.params[j]? = some t → args[j]? = some v → Value.okWide Tryz.prog W .any base t v)
    (hW : DataW.Whole enc Tryz.prog Tryz.f3.params.toList Rows.meanMaySpec.vars false W args.toList ds gs before) (hL : laidMetH Tryz.prog Rows.meanMayRow.laid W) :
    Calls Tryz.prog 3 args W fun e W' => ∃ v, e = .returned v ∧ Rows.meanMaySpec.post enc Tryz.prog Tryz.f3 false true false false W args v W' := by
  refine law_contract (fm := S.fm) (f := I.blaw21_MeanMay) (k := 16) (ss := shapes) (tb := 4) fine laid_out maps_rowed slices_full params_in globals_in globals shapes_ok ⟨0, _, rfl, rfl⟩ rfl (by kernel_rfl) Tryz.underlying4 (fun ds hd => ?_) law hval hW (by rw [MakeChecks.laidMetH_plain _ _ _ (by kernel_rfl)] at hL; exact hL)
  have : Tryz.f3.params.size = 3 := by kernel_rfl
  rw [this] at hd
  match ds, hd with
  | [_, _, _], _ => rfl
end Go.Proofs.YtappfinkgehchaaGreatDoor.meanMay
