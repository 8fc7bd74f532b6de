/- The law of tasks that are the same, in the abstract machine. -/
import Derived.Test.YtmkdaehnmhgjmaaGreatDoorAm21
import Derived.Test.YtmkdaehnmhgjmaaGreatDoorAm22
import Derived.Test.YtmkdaehnmhgjmaaGreatDoorAm19
import Derived.KernelRfl
import Derived.Test.YtmkdaehnmhgjmaaGreatDoorAm16
set_option linter.unusedVariables false
set_option linter.unusedSimpArgs false
section
namespace Go.AM
open P
set_option maxHeartbeats 8000000
set_option maxRecDepth 8000
theorem msg_run : callN code 300 I.bref23_Same [.agg [.int .i64 0, .int .i64 0, .int .i64 0, .int .i64 0, .int .i64 0, .int .i64 0, .imm false [], .int .i64 0, .int .u32 0, .int .u64 0, .int .u64 0, .imm false [], .bool false, .int .u64 0, .int .i64 0], .agg [.int .i64 0, .int .i64 0, .int .i64 0, .int .i64 0, .int .i64 0, .int .i64 0, .imm false [], .int .i64 0, .int .u32 0, .int .u64 0, .int .u64 0, .imm false [], .bool false, .int .u64 0, .int .i64 0]] [] = some (.bool true, []) := by kernel_rfl
theorem wakes25_true : pcall I.blaw25_wakes [] = some (.bool true) := pcall_from wakes25_run
theorem msg_true : pcall I.bref23_Same [.agg [.int .i64 0, .int .i64 0, .int .i64 0, .int .i64 0, .int .i64 0, .int .i64 0, .imm false [], .int .i64 0, .int .u32 0, .int .u64 0, .int .u64 0, .imm false [], .bool false, .int .u64 0, .int .i64 0], .agg [.int .i64 0, .int .i64 0, .int .i64 0, .int .i64 0, .int .i64 0, .int .i64 0, .imm false [], .int .i64 0, .int .u32 0, .int .u64 0, .int .u64 0, .imm false [], .bool false, .int .u64 0, .int .i64 0]] = some (.bool true) := pcall_from msg_run
theorem taskSame_415 (a b : TaskT) : pcall I.blaw25_TaskSame [a.a, b.a] = some (.bool true) := by
  rw [pcall_eq c_blaw25_TaskSame rfl]
  obtain ⟨c1, h1⟩ := over_413 a
  obtain ⟨c2, h2⟩ := over_413 b
  have h3 := task_Same_410 a b
  have h4 := task_Same_411 a b
  have h5 := task_Same_410 a a
  simp only [TaskT.a] at h1 h2 h3 h4 h5 ⊢
  cases c1
  · cases c2
    · simp [f_blaw25_TaskSame, b_blaw25_TaskSame, wakes25_true, msg_true, h1, h2, h3, h4, h5]
    · simp [f_blaw25_TaskSame, b_blaw25_TaskSame, wakes25_true, h1, h2]
  · simp [f_blaw25_TaskSame, b_blaw25_TaskSame, wakes25_true, h1]
end Go.AM
end

namespace Go.AM
theorem HasSh.sl_inv {a : Bool} {cs : List Sh} {x : AVal} (h : HasSh (.sl a cs) x) : ∃ xs, x = .imm true xs ∧ xs.length ≤ maxLen ∧ (∀ x ∈ xs, isAgg x = a ∧ (cellsOf x).length = cs.length ∧ ncells x = cs.length) ∧
    ∀ x ∈ xs, ∀ i (h : i < cs.length) (h' : i < (cellsOf x).length), HasSh cs[i] (cellsOf x)[i] := by
  cases h with
  | sl h1 h2 h3 => exact ⟨_, rfl, h1, h2, h3⟩
theorem unmap {α : Type} (f : α → AVal) : ∀ {l : List AVal}, (∀ x ∈ l, ∃ a, x = f a) → ∃ m : List α, l = m.map f
  | [], _ => ⟨[], rfl⟩
  | x :: l, h => by
    obtain ⟨a, rfl⟩ := h x (List.mem_cons_self ..)
    obtain ⟨m, rfl⟩ := unmap f fun y hy => h y (List.mem_cons_of_mem _ hy)
    exact ⟨a :: m, rfl⟩
theorem agg_elem {cs : List Sh} {x : AVal} (h : isAgg x = true ∧ (cellsOf x).length = cs.length ∧ ncells x = cs.length) (h' : ∀ i (h : i < cs.length) (h' : i < (cellsOf x).length), HasSh cs[i] (cellsOf x)[i]) :
    ∃ ys, x = .agg ys ∧ ys.length = cs.length ∧ ∀ i (h : i < cs.length) (h' : i < ys.length), HasSh cs[i] ys[i] := by
  cases x with
  | agg ys => exact ⟨ys, rfl, h.2.1, h'⟩
  | _ => cases h.1
theorem one_elem {s : Sh} {x : AVal} (h : isAgg x = false ∧ (cellsOf x).length = [s].length ∧ ncells x = [s].length) (h' : ∀ i (h : i < [s].length) (h' : i < (cellsOf x).length), HasSh [s][i] (cellsOf x)[i]) : HasSh s x := by
  have hc : cellsOf x = [x] := by
    cases x with
    | agg ys => cases h.1
    | _ => rfl
  have := h' 0 (by simp) (by rw [hc]; simp)
  simpa only [hc, List.getElem_cons_zero] using this
end Go.AM

namespace Go.AM
theorem sl_agg {α : Type} {cs : List Sh} {f : α → AVal} (hd : ∀ ys : List AVal, ys.length = cs.length → (∀ i (h : i < cs.length) (h' : i < ys.length), HasSh cs[i] ys[i]) → ∃ a, AVal.agg ys = f a) {x : AVal} (h : HasSh (.sl true cs) x) : ∃ l : SL α, x = slA f l := by
  obtain ⟨xs, rfl, hn, h1, h2⟩ := h.sl_inv
  obtain ⟨m, rfl⟩ := unmap f (l := xs) fun x hx => by
    obtain ⟨ys, rfl, hl, hy⟩ := agg_elem (h1 x hx) (h2 x hx)
    exact hd ys hl hy
  exact ⟨⟨m, by simpa using hn⟩, rfl⟩
theorem sl_one {α : Type} {s : Sh} {f : α → AVal} (hd : ∀ y : AVal, HasSh s y → ∃ a, y = f a) {x : AVal} (h : HasSh (.sl false [s]) x) : ∃ l : SL α, x = slA f l := by
  obtain ⟨xs, rfl, hn, h1, h2⟩ := h.sl_inv
  obtain ⟨m, rfl⟩ := unmap f (l := xs) fun x hx => hd x (one_elem (h1 x hx) (h2 x hx))
  exact ⟨⟨m, by simpa using hn⟩, rfl⟩
theorem ints_of {x : AVal} (h : HasSh (.sl false [.int .i64]) x) : ∃ l : SL Int, x = slA (AVal.int .i64) l := sl_one (fun y h => by
  obtain ⟨a, rfl, _⟩ := h.int_inv
  exact ⟨a, rfl⟩) h
abbrev valS : List Sh := [.int .i64, .int .i64, .int .u64, .str]
theorem val_of (ys : List AVal) (hl : ys.length = valS.length) (hy : ∀ i (h : i < valS.length) (h' : i < ys.length), HasSh valS[i] ys[i]) : ∃ a, AVal.agg ys = Val.a a := by
  match ys, hl, hy with
  | [y0, y1, y2, y3], _, hy =>
    obtain ⟨v0, rfl, _⟩ := (hy 0 (by simp) (by simp)).int_inv
    obtain ⟨v1, rfl, _⟩ := (hy 1 (by simp) (by simp)).int_inv
    obtain ⟨v2, rfl, _⟩ := (hy 2 (by simp) (by simp)).int_inv
    obtain ⟨v3, rfl, _⟩ := (hy 3 (by simp) (by simp)).str_inv
    exact ⟨⟨v0, v1, v2, v3⟩, rfl⟩
theorem rowT_of {x : AVal} (h : HasSh (.sl true valS) x) : ∃ l : RowT, x = slA Val.a l := sl_agg val_of h
theorem rowsT_of {x : AVal} (h : HasSh (.sl false [.sl true valS]) x) : ∃ l : SL RowT, x = slA RowT.a l := sl_one (fun y h => rowT_of h) h
abbrev enS : List Sh := [.int .i64, .int .i64, .int .i64, .int .i64, .int .i64, .int .i64, .int .u64, .str]
theorem en_of (ys : List AVal) (hl : ys.length = enS.length) (hy : ∀ i (h : i < enS.length) (h' : i < ys.length), HasSh enS[i] ys[i]) : ∃ a, AVal.agg ys = EN.a a := by
  match ys, hl, hy with
  | [y0, y1, y2, y3, y4, y5, y6, y7], _, hy =>
    obtain ⟨v0, rfl, _⟩ := (hy 0 (by simp) (by simp)).int_inv
    obtain ⟨v1, rfl, _⟩ := (hy 1 (by simp) (by simp)).int_inv
    obtain ⟨v2, rfl, _⟩ := (hy 2 (by simp) (by simp)).int_inv
    obtain ⟨v3, rfl, _⟩ := (hy 3 (by simp) (by simp)).int_inv
    obtain ⟨v4, rfl, _⟩ := (hy 4 (by simp) (by simp)).int_inv
    obtain ⟨v5, rfl, _⟩ := (hy 5 (by simp) (by simp)).int_inv
    obtain ⟨v6, rfl, _⟩ := (hy 6 (by simp) (by simp)).int_inv
    obtain ⟨v7, rfl, _⟩ := (hy 7 (by simp) (by simp)).str_inv
    exact ⟨⟨v0, v1, v2, v3, ⟨v4, v5, v6, v7⟩⟩, rfl⟩
abbrev exprS : List Sh := [.sl true enS]
theorem expr_of (ys : List AVal) (hl : ys.length = exprS.length) (hy : ∀ i (h : i < exprS.length) (h' : i < ys.length), HasSh exprS[i] ys[i]) : ∃ a, AVal.agg ys = ExprT.a a := by
  match ys, hl, hy with
  | [y0], _, hy =>
    obtain ⟨v0, rfl⟩ := sl_agg en_of (hy 0 (by simp) (by simp))
    exact ⟨v0, rfl⟩
abbrev aggS : List Sh := [.int .i64, .sl true enS]
theorem agg_of (ys : List AVal) (hl : ys.length = aggS.length) (hy : ∀ i (h : i < aggS.length) (h' : i < ys.length), HasSh aggS[i] ys[i]) : ∃ a, AVal.agg ys = AggT.a a := by
  match ys, hl, hy with
  | [y0, y1], _, hy =>
    obtain ⟨v0, rfl, _⟩ := (hy 0 (by simp) (by simp)).int_inv
    obtain ⟨v1, rfl⟩ := sl_agg en_of (hy 1 (by simp) (by simp))
    exact ⟨⟨v0, v1⟩, rfl⟩
abbrev ordS : List Sh := [.int .i64, .bool]
theorem ord_of (ys : List AVal) (hl : ys.length = ordS.length) (hy : ∀ i (h : i < ordS.length) (h' : i < ys.length), HasSh ordS[i] ys[i]) : ∃ a, AVal.agg ys = OrdT.a a := by
  match ys, hl, hy with
  | [y0, y1], _, hy =>
    obtain ⟨v0, rfl, _⟩ := (hy 0 (by simp) (by simp)).int_inv
    obtain ⟨v1, rfl⟩ := (hy 1 (by simp) (by simp)).bool_inv
    exact ⟨⟨v0, v1⟩, rfl⟩
abbrev lnS : List Sh := [.int .i64, .int .i64, .int .i64, .int .i64, .sl false [.int .i64], .bool, .sl true enS, .sl false [.int .i64], .sl true aggS, .sl true exprS, .sl true ordS, .int .i64]
theorem ln_of (ys : List AVal) (hl : ys.length = lnS.length) (hy : ∀ i (h : i < lnS.length) (h' : i < ys.length), HasSh lnS[i] ys[i]) : ∃ a, AVal.agg ys = LNT.a a := by
  match ys, hl, hy with
  | [y0, y1, y2, y3, y4, y5, y6, y7, y8, y9, y10, y11], _, hy =>
    obtain ⟨v0, rfl, _⟩ := (hy 0 (by simp) (by simp)).int_inv
    obtain ⟨v1, rfl, _⟩ := (hy 1 (by simp) (by simp)).int_inv
    obtain ⟨v2, rfl, _⟩ := (hy 2 (by simp) (by simp)).int_inv
    obtain ⟨v3, rfl, _⟩ := (hy 3 (by simp) (by simp)).int_inv
    obtain ⟨v4, rfl⟩ := ints_of (hy 4 (by simp) (by simp))
    obtain ⟨v5, rfl⟩ := (hy 5 (by simp) (by simp)).bool_inv
    obtain ⟨v6, rfl⟩ := sl_agg en_of (hy 6 (by simp) (by simp))
    obtain ⟨v7, rfl⟩ := ints_of (hy 7 (by simp) (by simp))
    obtain ⟨v8, rfl⟩ := sl_agg agg_of (hy 8 (by simp) (by simp))
    obtain ⟨v9, rfl⟩ := sl_agg expr_of (hy 9 (by simp) (by simp))
    obtain ⟨v10, rfl⟩ := sl_agg ord_of (hy 10 (by simp) (by simp))
    obtain ⟨v11, rfl, _⟩ := (hy 11 (by simp) (by simp)).int_inv
    exact ⟨⟨v0, v1, v2, v3, v4, v5, v6, v7, v8, v9, v10, v11⟩, rfl⟩
abbrev batchS : List Sh := [.sl false [.sl true valS], .bool, .int .u64]
theorem batch_of (ys : List AVal) (hl : ys.length = batchS.length) (hy : ∀ i (h : i < batchS.length) (h' : i < ys.length), HasSh batchS[i] ys[i]) : ∃ a, AVal.agg ys = BatchT.a a := by
  match ys, hl, hy with
  | [y0, y1, y2], _, hy =>
    obtain ⟨v0, rfl⟩ := rowsT_of (hy 0 (by simp) (by simp))
    obtain ⟨v1, rfl⟩ := (hy 1 (by simp) (by simp)).bool_inv
    obtain ⟨v2, rfl, _⟩ := (hy 2 (by simp) (by simp)).int_inv
    exact ⟨⟨v0, v1, v2⟩, rfl⟩
abbrev heldS : List Sh := [.int .u64, .sl false [.sl true valS], .bool, .int .u64]
theorem held_of (ys : List AVal) (hl : ys.length = heldS.length) (hy : ∀ i (h : i < heldS.length) (h' : i < ys.length), HasSh heldS[i] ys[i]) : ∃ a, AVal.agg ys = HeldT.a a := by
  match ys, hl, hy with
  | [y0, y1, y2, y3], _, hy =>
    obtain ⟨v0, rfl, _⟩ := (hy 0 (by simp) (by simp)).int_inv
    obtain ⟨v1, rfl⟩ := rowsT_of (hy 1 (by simp) (by simp))
    obtain ⟨v2, rfl⟩ := (hy 2 (by simp) (by simp)).bool_inv
    obtain ⟨v3, rfl, _⟩ := (hy 3 (by simp) (by simp)).int_inv
    exact ⟨⟨v0, ⟨v1, v2, v3⟩⟩, rfl⟩
abbrev insS : List Sh := [.int .i64, .int .i64, .int .u32, .int .u64, .sl true heldS, .sl true batchS, .int .i64, .bool, .sl false [.sl true valS]]
theorem ins_of (ys : List AVal) (hl : ys.length = insS.length) (hy : ∀ i (h : i < insS.length) (h' : i < ys.length), HasSh insS[i] ys[i]) : ∃ a, AVal.agg ys = InT.a a := by
  match ys, hl, hy with
  | [y0, y1, y2, y3, y4, y5, y6, y7, y8], _, hy =>
    obtain ⟨v0, rfl, _⟩ := (hy 0 (by simp) (by simp)).int_inv
    obtain ⟨v1, rfl, _⟩ := (hy 1 (by simp) (by simp)).int_inv
    obtain ⟨v2, rfl, _⟩ := (hy 2 (by simp) (by simp)).int_inv
    obtain ⟨v3, rfl, _⟩ := (hy 3 (by simp) (by simp)).int_inv
    obtain ⟨v4, rfl⟩ := sl_agg held_of (hy 4 (by simp) (by simp))
    obtain ⟨v5, rfl⟩ := sl_agg batch_of (hy 5 (by simp) (by simp))
    obtain ⟨v6, rfl, _⟩ := (hy 6 (by simp) (by simp)).int_inv
    obtain ⟨v7, rfl⟩ := (hy 7 (by simp) (by simp)).bool_inv
    obtain ⟨v8, rfl⟩ := rowsT_of (hy 8 (by simp) (by simp))
    exact ⟨⟨v0, v1, ⟨v2, v3, v4, v5, v6, v7⟩, v8⟩, rfl⟩
abbrev outS : List Sh := [.int .i64, .int .u32, .int .u64, .sl true batchS, .int .u64, .int .u64, .int .i64, .bool, .sl false [.sl true valS]]
theorem out_of (ys : List AVal) (hl : ys.length = outS.length) (hy : ∀ i (h : i < outS.length) (h' : i < ys.length), HasSh outS[i] ys[i]) : ∃ a, AVal.agg ys = OutT.a a := by
  match ys, hl, hy with
  | [y0, y1, y2, y3, y4, y5, y6, y7, y8], _, hy =>
    obtain ⟨v0, rfl, _⟩ := (hy 0 (by simp) (by simp)).int_inv
    obtain ⟨v1, rfl, _⟩ := (hy 1 (by simp) (by simp)).int_inv
    obtain ⟨v2, rfl, _⟩ := (hy 2 (by simp) (by simp)).int_inv
    obtain ⟨v3, rfl⟩ := sl_agg batch_of (hy 3 (by simp) (by simp))
    obtain ⟨v4, rfl, _⟩ := (hy 4 (by simp) (by simp)).int_inv
    obtain ⟨v5, rfl, _⟩ := (hy 5 (by simp) (by simp)).int_inv
    obtain ⟨v6, rfl, _⟩ := (hy 6 (by simp) (by simp)).int_inv
    obtain ⟨v7, rfl⟩ := (hy 7 (by simp) (by simp)).bool_inv
    obtain ⟨v8, rfl⟩ := rowsT_of (hy 8 (by simp) (by simp))
    exact ⟨⟨v0, ⟨v1, v2, v3, v4, v5, v6, v7⟩, v8⟩, rfl⟩
abbrev taskS : List Sh := [.int .i64, .int .i64, .int .i64, .int .i64, .sl true lnS, .int .i64, .int .i64, .sl false [.int .i64], .int .i64, .sl true insS, .sl true outS, .sl false [.sl true valS], .int .i64]
theorem task_of (ys : List AVal) (hl : ys.length = taskS.length) (hy : ∀ i (h : i < taskS.length) (h' : i < ys.length), HasSh taskS[i] ys[i]) : ∃ a, AVal.agg ys = TaskT.a a := by
  match ys, hl, hy with
  | [y0, y1, y2, y3, y4, y5, y6, y7, y8, y9, y10, y11, y12], _, hy =>
    obtain ⟨v0, rfl, _⟩ := (hy 0 (by simp) (by simp)).int_inv
    obtain ⟨v1, rfl, _⟩ := (hy 1 (by simp) (by simp)).int_inv
    obtain ⟨v2, rfl, _⟩ := (hy 2 (by simp) (by simp)).int_inv
    obtain ⟨v3, rfl, _⟩ := (hy 3 (by simp) (by simp)).int_inv
    obtain ⟨v4, rfl⟩ := sl_agg ln_of (hy 4 (by simp) (by simp))
    obtain ⟨v5, rfl, _⟩ := (hy 5 (by simp) (by simp)).int_inv
    obtain ⟨v6, rfl, _⟩ := (hy 6 (by simp) (by simp)).int_inv
    obtain ⟨v7, rfl⟩ := ints_of (hy 7 (by simp) (by simp))
    obtain ⟨v8, rfl, _⟩ := (hy 8 (by simp) (by simp)).int_inv
    obtain ⟨v9, rfl⟩ := sl_agg ins_of (hy 9 (by simp) (by simp))
    obtain ⟨v10, rfl⟩ := sl_agg out_of (hy 10 (by simp) (by simp))
    obtain ⟨v11, rfl⟩ := rowsT_of (hy 11 (by simp) (by simp))
    obtain ⟨v12, rfl, _⟩ := (hy 12 (by simp) (by simp)).int_inv
    exact ⟨⟨v0, v1, v2, v3, ⟨v4, v5, v6, v7⟩, v8, v9, v10, v11, v12⟩, rfl⟩
end Go.AM
