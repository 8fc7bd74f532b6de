/- The law, as the abstract machine comes to it, at the program. -/
import Derived.Test.YtmkkmacbmlcfaaaGreatDoorAm19
import Derived.Test.YtmkkmacbmlcfaaaGreatDoorAm26
import Derived.Test.YtmkkmacbmlcfaaaGreatDoorCards
import Derived.MakeChecks
set_option linter.unusedVariables false
set_option linter.unusedSimpArgs false
set_option linter.unusedSectionVars false
namespace Go.Proofs.YtmkkmacbmlcfaaaGreatDoor.queryEnds
open Go.AM Go.ChangeShapes Go.WideShapes Go.ChangeAt Go.RowKit
theorem wakes_v : pcall I.blaw27_wakes [] = some (.bool true) := by
  have h := (lim_eq (callN_mono good _ _ _) _).2 ⟨160, wakes_run⟩
  have h2 : acall code I.blaw27_wakes [] [] = some (.bool true, []) := h
  unfold pcall
  rw [h2]; rfl
def shapes : List (Bool × List Sh) := [(true, lifeS), (false, [.sl false [.sl true valS]]), (false, [.int .i64])]
theorem shapes_ok : Tryz.f3.params.toList.mapM (shOf Tryz.prog 16) = some shapes := by kernel_rfl
theorem law (args : List AVal) (h : ArgsSh shapes args) : ∃ n, callN (codeOf P.tbl) n I.blaw27_QueryEnds args [] = some (.bool true, []) := by
  cases h with
  | cons h1 h =>
  cases h with
  | cons h2 h =>
  cases h with
  | cons h3 h =>
  cases h
  obtain ⟨a, rfl⟩ := life_arg h1
  obtain ⟨b, rfl⟩ := rowsT_of (argSh_one h2)
  obtain ⟨e, rfl, _⟩ := (argSh_one h3).int_inv
  have hp := ends_law wakes_v a b e
  have ha := acall_pure c_blaw27_QueryEnds rfl [a.a, slA RowT.a b, .int .i64 e] []
  have hsn : ([a.a, slA RowT.a b, .int .i64 e] : List AVal).map (snap []) = [a.a, slA RowT.a b, .int .i64 e] := by simp [LifeT.a]
  rw [hsn, hp] at ha
  exact (lim_eq (callN_mono good _ _ _) _).1 ha
theorem globals (g : Nat) (a : AVal) (h : S.glob g = some a) : ∃ n d vs, (n, d) ∈ Rows.queryEndsRow.laid ∧ Tryz.prog.globalNamed n = some g ∧ flat d = some vs ∧ (cellsOf a).map toV = vs.map some ∧ ncells a = vs.length ∧ vs ≠ [] := by
  unfold S.glob at h
  split at h
  · cases h
    exact ⟨_, _, _, .tail _ (.tail _ (.tail _ (.tail _ (.tail _ (.tail _ (.tail _ (.tail _ (.tail _ (.head _))))))))), by kernel_rfl, rfl, rfl, rfl, by simp⟩
  · cases h
    exact ⟨_, _, _, .tail _ (.tail _ (.tail _ (.tail _ (.tail _ (.tail _ (.tail _ (.tail _ (.head _)))))))), by kernel_rfl, rfl, rfl, rfl, by simp⟩
  · cases h
    exact ⟨_, _, _, .tail _ (.tail _ (.tail _ (.tail _ (.tail _ (.tail _ (.head _)))))), by kernel_rfl, rfl, rfl, rfl, by simp⟩
  · cases h
    exact ⟨_, _, _, .tail _ (.tail _ (.tail _ (.tail _ (.tail _ (.tail _ (.tail _ (.head _))))))), by kernel_rfl, rfl, rfl, rfl, by simp⟩
  · cases h
set_option maxRecDepth 100000 in
theorem contract (H : Type) (enc : TypeId × Value → H) (W : World) (base : Nat) (args : Array Value) (ds gs : List (DataW H)) (before : List MemPlace)
    (hval : ∀ (j : Nat) t v, Tryz.f3.params[j]? = some t → args[j]? = some v → Value.okWide Tryz.prog W .any base t v)
    (hW : DataW.Whole enc Tryz.prog Tryz.f3.params.toList Rows.queryEndsSpec.vars false W args.toList ds gs before) (hL : laidMetH Tryz.prog Rows.queryEndsRow.laid W) :
    Calls Tryz.prog 3 args W fun e W' => ∃ v, e = .returned v ∧ Rows.queryEndsSpec.post enc Tryz.prog Tryz.f3 false true false false W args v W' := by
  refine law_contract (fm := S.fm) (f := I.blaw27_QueryEnds) (k := 16) (ss := shapes) (tb := 4) fine laid_out maps_rowed slices_full params_in globals_in globals shapes_ok ⟨0, _, rfl, rfl⟩ rfl (by kernel_rfl) Tryz.underlying4 (fun ds hd => ?_) law hval hW (by rw [MakeChecks.laidMetH_plain _ _ _ (by kernel_rfl)] at hL; exact hL)
  have : Tryz.f3.params.size = 3 := by kernel_rfl
  rw [this] at hd
  match ds, hd with
  | [_, _, _], _ => rfl
end Go.Proofs.YtmkkmacbmlcfaaaGreatDoor.queryEnds
