/- The law ExecOver of bowspritlaw20 answers true for every two counts and either truth, and leaves its arguments as they were. CONDITIONS: none beyond the given row's own (the package variable bowsprit/value.truths starts as the program's text lays it: the card ties it). -/
import Derived.Test.YtcnmoddcjdgfiaaGreatDoorAm08
import Derived.Test.YtcnmoddcjdgfiaaGreatDoorAm13
import Derived.Test.YtcnmoddcjdgfiaaGreatDoorAm18
import Derived.Test.YtcnmoddcjdgfiaaGreatDoorCards
import Derived.Test.YtcnmoddcjdgfiaaGreatDoorTie
namespace Go.Proofs.YtcnmoddcjdgfiaaGreatDoor.execOver
open Go.AM Go.ChangeShapes Go.WideShapes Go.ChangeAt Go.RowKit
theorem own : ownKnob Tryz.prog.godebug = none := by kernel_rfl
theorem fine : CodeFine (Names.of Tryz.prog S.fm S.glob S.sites) Tryz.prog (presOf P.tbl) (codeOf P.tbl) := fine_of (em := S.em) (by kernel_rfl) K.all K.site_of K.prims_ok
def shapes : List (Bool × List Sh) := [(true, [.int .i64, .int .i64]), (false, [.bool])]
theorem shapes_ok : Tryz.f3.params.toList.mapM (shOf Tryz.prog 4) = some shapes := by kernel_rfl
theorem law (args : List AVal) (h : ArgsSh shapes args) : ∃ n, callN (codeOf P.tbl) n I.blaw20_ExecOver args [] = some (.bool true, []) := by
  cases h with
  | cons h1 h =>
  cases h with
  | cons h2 h =>
  cases h
  rename_i x y
  have hx : ∃ a b, x = .agg [.int .i64 a, .int .i64 b] := by
    obtain ⟨cs, rfl, e, hc⟩ := argSh_agg h1
    match cs, e, hc with
    | [u, v], _, hc =>
      obtain ⟨a, rfl, _⟩ := (hc 0 (by simp) (by simp)).int_inv
      obtain ⟨b, rfl, _⟩ := (hc 1 (by simp) (by simp)).int_inv
      exact ⟨a, b, rfl⟩
  have hy : ∃ m, y = .bool m := (argSh_one h2).bool_inv
  obtain ⟨a, b, rfl⟩ := hx
  obtain ⟨m, rfl⟩ := hy
  have hp : pcall I.blaw20_ExecOver [.agg [.int .i64 a, .int .i64 b], .bool m] = some (.bool true) := by
    cases m
    · exact law_false a b
    · exact law_true a b
  have ha := acall_pure c_blaw20_ExecOver rfl [.agg [.int .i64 a, .int .i64 b], .bool m] []
  have hsn : ([.agg [.int .i64 a, .int .i64 b], .bool m] : List AVal).map (snap []) = [.agg [.int .i64 a, .int .i64 b], .bool m] := by simp
  rw [hsn, hp] at ha
  exact (lim_eq (callN_mono good _ _ _) _).1 ha
theorem globals (g : Nat) (a : AVal) (h : S.glob g = some a) : ∃ n d vs, (n, d) ∈ Rows.execOverRow.laid ∧ Tryz.prog.globalNamed n = some g ∧ flat d = some vs ∧ (cellsOf a).map toV = vs.map some ∧ ncells a = vs.length ∧ vs ≠ [] := by
  unfold S.glob at h
  split at h
  · cases h
    exact ⟨_, _, _, List.mem_singleton.2 rfl, by kernel_rfl, rfl, rfl, rfl, by simp⟩
  · cases h
set_option maxRecDepth 100000 in
theorem contract (H : Type) (enc : TypeId × Value → H) (W : World) (base : Nat) (args : Array Value) (ds gs : List (DataW H)) (before : List MemPlace)
    (hval : ∀ (j : Nat) t v, Tryz.f3.params[j]? = some t → args[j]? = some v → Value.okWide Tryz.prog W .any base t v)
    (hW : DataW.Whole enc Tryz.prog Tryz.f3.params.toList Rows.execOverSpec.vars false W args.toList ds gs before) (hL : laidMetH Tryz.prog Rows.execOverRow.laid W) :
    Calls Tryz.prog 3 args W fun e W' => ∃ v, e = .returned v ∧ Rows.execOverSpec.post enc Tryz.prog Tryz.f3 false true false false W args v W' := by
  refine law_contract (fm := S.fm) (f := I.blaw20_ExecOver) (k := 4) (ss := shapes) (tb := 4) fine (by kernel_rfl) (by kernel_rfl) (by kernel_rfl) (by kernel_rfl) (by kernel_rfl) globals shapes_ok ⟨0, _, rfl, rfl⟩ rfl (by kernel_rfl) Tryz.underlying4 (fun ds hd => ?_) law hval hW hL
  have : Tryz.f3.params.size = 2 := by kernel_rfl
  rw [this] at hd
  match ds, hd with
  | [_, _], _ => rfl
noncomputable def laidWorld (os : Os) : World :=
  { World.holding Tryz.prog os ⟨#[], #[], []⟩ with heap := (World.holding Tryz.prog os ⟨#[], #[], []⟩).heap.modify 0 fun
      | .cells _ t frozen => .cells #[.int .i64 1, .int .i64 0, .int .u64 0, .string ⟨#[]⟩, .int .i64 0, .int .i64 0, .int .u64 0, .string ⟨#[]⟩, .int .i64 1, .int .i64 1, .int .u64 0, .string ⟨#[]⟩] t frozen
      | o => o }
def wargs : Array Value := #[.agg #[.int .i64 0, .int .i64 0], .bool false]
theorem laid_met (os : Os) : laidMet Tryz.prog Rows.execOverRow.laid ((laidWorld os).forCall (fun _ _ => 0) ⟨#[], wargs, []⟩).memory :=
  laidMet_of_run' 8 (by kernel_rfl) (by kernel_rfl)
theorem reads (os : Os) {H : Type} (enc : TypeId × Value → H) : ∃ places, DataW.whole enc Tryz.prog ((laidWorld os).forCall (fun _ _ => 0) ⟨#[], wargs, []⟩).memory Tryz.f3.params.toList Rows.execOverSpec.vars false wargs.toList 8 = some ([.agg [.lit (.int .i64 0), .lit (.int .i64 0)], .lit (.bool false)], [], places) :=
  ⟨[], by kernel_rfl⟩
set_option maxRecDepth 100000 in
theorem lifted (os : Os) (started : os.Started) (H : Type) (enc : TypeId × Value → H) (F : Stop.Interp) :
    ReturnsInHanded {} Tryz.checked os 3 .any ((OpenSpec.ofChange Rows.execOverSpec).preRow enc Tryz.prog Tryz.f3 Rows.execOverRow.domain false Rows.execOverRow.laid) (((OpenSpec.ofChange Rows.execOverSpec).at F).post enc Tryz.prog Tryz.f3 false true false false) := by
  obtain ⟨places, hx⟩ := reads os enc
  refine returnsInHanded_of_row (C := Tryz.checked) (s := OpenSpec.ofChange Rows.execOverSpec) own started (by kernel_rfl) Tryz.func3
    (witness_row_at (enc := enc) (C := Tryz.checked) false (laidWorld os) wargs rfl (by kernel_rfl) (by kernel_rfl) (by kernel_rfl)
      (OpenSpec.preRow_of_cond 8 hx (by kernel_rfl) (fun k hk => by cases hk) (by kernel_rfl) (laid_met os))) ?_
  intro W base args ds gs before hval hW _ _ _ hL _ _
  exact contract H enc W base args ds gs before hval hW hL
theorem said : Rows.ExecOverSaid :=
  OpenClaim.holds_of_cond 3 Tryz.f3 rfl rfl rfl rfl rfl rfl rfl ⟨rfl, rfl, rfl, rfl, rfl⟩ rfl rfl rfl rfl rfl (by kernel_rfl) Tryz.func3 (by kernel_rfl)
    (of_decide_eq_true (by kernel_rfl)) (by unfold Func.isWrapper; first | (rw [if_pos (by decide +kernel)]; kernel_rfl) | (rw [if_neg (by decide +kernel)]; exact ⟨rfl, rfl⟩))
    (fun os started H enc _ F => by rw [OpenClaim.pre_eq_preRow]; exact lifted os started H enc F)
theorem plain (f : FuncId) (fn : Func) (hf : Tryz.pinned.checked.prog.funcNamed "bowsprit/bowspritlaw20.ExecOver" = some f) (hfn : Tryz.pinned.checked.prog.funcs[f]? = some fn) :
    false = Tryz.pinned.checked.prog.looks [] ∧ ∀ (j : Nat) t, fn.params[j]? = some t → Tryz.pinned.checked.prog.wantsStandIn t = false := by
  obtain rfl : f = 3 := Option.some.inj ((show Tryz.prog.funcNamed "bowsprit/bowspritlaw20.ExecOver" = some 3 by kernel_rfl).symm.trans hf) |>.symm
  obtain rfl : fn = Tryz.f3 := (Option.some.inj (Tryz.func3.symm.trans hfn)).symm
  refine ⟨by kernel_rfl, fun j t ht => ?_⟩
  have h1 : (Tryz.f3.params.toList.all fun t => !Tryz.prog.wantsStandIn t) = true := by kernel_rfl
  have h2 := List.all_eq_true.1 h1 t (by simpa using Array.mem_of_getElem? ht)
  have h3 : Tryz.prog.wantsStandIn t = false := by simpa using h2
  exact h3
theorem card : Rows.ExecOverCardSaid :=
  Claim7.holds_tied_plain_at .later [] _ _ _ _ said (fun _ h => by cases h) (by kernel_rfl) (fun _ h => by cases h) execOver_row_tie rfl ⟨rfl, rfl⟩ (by kernel_rfl) rfl plain (by kernel_rfl)
end Go.Proofs.YtcnmoddcjdgfiaaGreatDoor.execOver
