/- The law, as the abstract machine comes to it, at the program. -/
import Derived.Test.YtkbcglkclodkaaaGreatDoorAm17
import Derived.Test.YtkbcglkclodkaaaGreatDoorAm24
import Derived.Test.YtkbcglkclodkaaaGreatDoorCards
set_option linter.unusedVariables false
set_option linter.unusedSimpArgs false
namespace Go.Proofs.YtkbcglkclodkaaaGreatDoor.execSplits
open Go.AM Go.ChangeShapes Go.WideShapes Go.ChangeAt Go.RowKit
def shapes : List (Bool × List Sh) := [(true, fragX), (false, [.sl false [.sl true [.int .i64, .int .i64, .int .u64, .str]]]), (false, [.int .i64])]
theorem shapes_ok : Tryz.f8.params.toList.mapM (shOf Tryz.prog 16) = some shapes := by kernel_rfl
theorem law (args : List AVal) (h : ArgsSh shapes args) : ∃ n, callN (codeOf P.tbl) n I.blaw20_ExecSplits args [] = some (.bool true, []) := by
  cases h with
  | cons h1 h =>
  cases h with
  | cons h2 h =>
  cases h with
  | cons h3 h =>
  cases h
  obtain ⟨nodes, at', way, cols, rfl⟩ := fragX_of h1
  obtain ⟨rs, rfl⟩ := rows_of (argSh_one h2)
  obtain ⟨n, rfl, _⟩ := (argSh_one h3).int_inv
  have hp := splits_law true nodes at' way true cols rs n
  have ha := acall_pure c_blaw20_ExecSplits rfl [fragA true nodes at' way true cols, .imm true (rowsA true rs), .int .i64 n] []
  have hsn : ([fragA true nodes at' way true cols, .imm true (rowsA true rs), .int .i64 n] : List AVal).map (snap []) = [fragA true nodes at' way true cols, .imm true (rowsA true rs), .int .i64 n] := by simp [fragA]
  rw [hsn, hp] at ha
  exact (lim_eq (callN_mono good _ _ _) _).1 ha
theorem globals (g : Nat) (a : AVal) (h : S.glob g = some a) : ∃ n d vs, (n, d) ∈ Rows.execSplitsRow.laid ∧ Tryz.prog.globalNamed n = some g ∧ flat d = some vs ∧ (cellsOf a).map toV = vs.map some ∧ ncells a = vs.length ∧ vs ≠ [] := by
  unfold S.glob at h
  split at h
  · cases h
    exact ⟨_, _, _, List.mem_singleton.2 rfl, by kernel_rfl, rfl, rfl, rfl, by simp⟩
  · cases h
set_option maxRecDepth 100000 in
theorem contract (H : Type) (enc : TypeId × Value → H) (W : World) (base : Nat) (args : Array Value) (ds gs : List (DataW H)) (before : List MemPlace)
    (hval : ∀ (j : Nat) t v, Tryz.f8.params[j]? = some t → args[j]? = some v → Value.okWide Tryz.prog W .any base t v)
    (hW : DataW.Whole enc Tryz.prog Tryz.f8.params.toList Rows.execSplitsSpec.vars false W args.toList ds gs before) (hL : laidMetH Tryz.prog Rows.execSplitsRow.laid W) :
    Calls Tryz.prog 8 args W fun e W' => ∃ v, e = .returned v ∧ Rows.execSplitsSpec.post enc Tryz.prog Tryz.f8 false true false false W args v W' := by
  refine law_contract (fm := S.fm) (f := I.blaw20_ExecSplits) (k := 16) (ss := shapes) (tb := 4) fine laid_out maps_rowed slices_full params_in globals_in globals shapes_ok ⟨0, _, rfl, rfl⟩ rfl (by kernel_rfl) Tryz.underlying4 (fun ds hd => ?_) law hval hW hL
  have : Tryz.f8.params.size = 3 := by kernel_rfl
  rw [this] at hd
  match ds, hd with
  | [_, _, _], _ => rfl
end Go.Proofs.YtkbcglkclodkaaaGreatDoor.execSplits
