/- Over: nodes and tasks. -/
import Derived.Test.YtmkdaehnmhgjmaaGreatDoorAm20
set_option linter.unusedVariables false
set_option linter.unusedSimpArgs false
section
namespace Go.AM
open P
set_option maxHeartbeats 8000000
set_option maxRecDepth 8000
theorem over423o (A1 : List AVal) (n7 k8 : Int) (x : LNT) (a : SL ExprT) : rounds code 1 [1, 3, 14, 15] l_blaw25_overNodes_1 ⟨[.imm true A1, .any, .ptr 0 0 0 0, .any, .any, .bool false, .imm true A1, .int .i64 n7, .int .i64 k8, .bool true, .bool false, slA ExprT.a a, .int .i64 a.1.length, .int .i64 0, .any, .any, .any, .any, .any, .any, .any], [Obj.arr 12 0 [.agg [.int .i64 x.op, .int .i64 x.l, .int .i64 x.r, .int .i64 x.tab, slA (AVal.int .i64) x.cols, .bool x.flag, slA EN.a x.pred, slA (AVal.int .i64) x.keys, slA AggT.a x.aggs, slA ExprT.a a, slA OrdT.a x.ords, .int .i64 x.limit]]]⟩ = some (.ext 2, ⟨[.imm true A1, .any, .ptr 0 0 0 0, .any, .any, .bool false, .imm true A1, .int .i64 n7, .int .i64 k8, .bool true, .bool false, slA ExprT.a a, .int .i64 a.1.length, .int .i64 a.1.length, .bool false, .any, .any, .any, .any, .any, .any], [Obj.arr 12 0 [.agg [.int .i64 x.op, .int .i64 x.l, .int .i64 x.r, .int .i64 x.tab, slA (AVal.int .i64) x.cols, .bool x.flag, slA EN.a x.pred, slA (AVal.int .i64) x.keys, slA AggT.a x.aggs, slA ExprT.a a, slA OrdT.a x.ords, .int .i64 x.limit]]]⟩) ∨
    ∃ s, rounds code 1 [1, 3, 14, 15] l_blaw25_overNodes_1 ⟨[.imm true A1, .any, .ptr 0 0 0 0, .any, .any, .bool false, .imm true A1, .int .i64 n7, .int .i64 k8, .bool true, .bool false, slA ExprT.a a, .int .i64 a.1.length, .int .i64 0, .any, .any, .any, .any, .any, .any, .any], [Obj.arr 12 0 [.agg [.int .i64 x.op, .int .i64 x.l, .int .i64 x.r, .int .i64 x.tab, slA (AVal.int .i64) x.cols, .bool x.flag, slA EN.a x.pred, slA (AVal.int .i64) x.keys, slA AggT.a x.aggs, slA ExprT.a a, slA OrdT.a x.ords, .int .i64 x.limit]]]⟩ = some (.ret, s) ∧ s.env[1]? = some (.bool true) := by
  obtain ⟨l, hn⟩ := a
  have hf : ∀ a : ExprT, ncells (ExprT.a a) = 1 ∧ isAgg (ExprT.a a) = true := fun a => ⟨rfl, rfl⟩
  have hz : ∀ (a : ExprT) (top : Bool) (base : Nat) (σ : Store) (n : Nat), fz true top base σ (n + 3) (ExprT.a a) = ExprT.a a := fun a top base σ n => by simp [ExprT.a]
  generalize hX : l.map ExprT.a = xs
  have hA : slA ExprT.a ⟨l, hn⟩ = .imm true xs := by simp [slA, hX]
  have lX : xs.length = l.length := by rw [← hX]; simp
  simp only [hA]
  refine over_loop (n := l.length) (S := fun k => ⟨[.imm true A1, .any, .ptr 0 0 0 0, .any, .any, .bool false, .imm true A1, .int .i64 n7, .int .i64 k8, .bool true, .bool false, .imm true xs, .int .i64 l.length, .int .i64 k, .any, .any, .any, .any, .any, .any, .any], [Obj.arr 12 0 [.agg [.int .i64 x.op, .int .i64 x.l, .int .i64 x.r, .int .i64 x.tab, slA (AVal.int .i64) x.cols, .bool x.flag, slA EN.a x.pred, slA (AVal.int .i64) x.keys, slA AggT.a x.aggs, .imm true xs, slA OrdT.a x.ords, .int .i64 x.limit]]]⟩) (fun k a1 => ?_) ?_
  · have e1 : xs[k]? = some (ExprT.a l[k]) := by rw [← hX]; exact map_get a1
    have e4 := hf l[k]
    generalize l[k] = x1 at *
    have i1 : ((k : Int) < (l.length : Int)) := by omega
    have i2 : bin .lss (.int .i64 (k : Int)) (.int .i64 (l.length : Int)) = some (.bool true) := by simp [i1]
    have i3 : bin .add (.int .i64 (k : Int)) (.int .i64 1) = some (.int .i64 ((k + 1 : Nat) : Int)) := by simp [wrap_sl a1 hn]
    obtain ⟨c, hc⟩ := overExpr_442 x1
    cases c <;>
    first
      | (refine .inl ?_; simp [l_blaw25_overNodes_1, e1, e4, i1, i2, i3, lX, hz, wrap_sl a1 hn, roundEnd, ExprT.a, hc, freezeObj, freeze, fuel]; done)
      | (refine .inr ⟨_, by simp [l_blaw25_overNodes_1, e1, e4, i1, i2, i3, lX, hz, ExprT.a, hc, freezeObj, freeze, fuel]; rfl, ?_⟩; rfl)
  · simp [l_blaw25_overNodes_1, lX]
theorem over423a (A1 : List AVal) (n7 k8 n12 : Int) (x : LNT) (a : SL AggT) : rounds code 1 [1, 4, 19, 20] l_blaw25_overNodes_0 ⟨[.imm true A1, .any, .ptr 0 0 0 0, .any, .any, .bool false, .imm true A1, .int .i64 n7, .int .i64 k8, .bool true, .bool false, slA ExprT.a x.outs, .int .i64 n12, .int .i64 n12, .bool false, .any, slA AggT.a a, .int .i64 a.1.length, .int .i64 0, .any, .any], [Obj.arr 12 0 [.agg [.int .i64 x.op, .int .i64 x.l, .int .i64 x.r, .int .i64 x.tab, slA (AVal.int .i64) x.cols, .bool x.flag, slA EN.a x.pred, slA (AVal.int .i64) x.keys, slA AggT.a a, slA ExprT.a x.outs, slA OrdT.a x.ords, .int .i64 x.limit]]]⟩ = some (.ext 4, ⟨[.imm true A1, .any, .ptr 0 0 0 0, .any, .any, .bool false, .imm true A1, .int .i64 n7, .int .i64 k8, .bool true, .bool false, slA ExprT.a x.outs, .int .i64 n12, .int .i64 n12, .bool false, .any, slA AggT.a a, .int .i64 a.1.length, .int .i64 a.1.length, .bool false, .any], [Obj.arr 12 0 [.agg [.int .i64 x.op, .int .i64 x.l, .int .i64 x.r, .int .i64 x.tab, slA (AVal.int .i64) x.cols, .bool x.flag, slA EN.a x.pred, slA (AVal.int .i64) x.keys, slA AggT.a a, slA ExprT.a x.outs, slA OrdT.a x.ords, .int .i64 x.limit]]]⟩) ∨
    ∃ s, rounds code 1 [1, 4, 19, 20] l_blaw25_overNodes_0 ⟨[.imm true A1, .any, .ptr 0 0 0 0, .any, .any, .bool false, .imm true A1, .int .i64 n7, .int .i64 k8, .bool true, .bool false, slA ExprT.a x.outs, .int .i64 n12, .int .i64 n12, .bool false, .any, slA AggT.a a, .int .i64 a.1.length, .int .i64 0, .any, .any], [Obj.arr 12 0 [.agg [.int .i64 x.op, .int .i64 x.l, .int .i64 x.r, .int .i64 x.tab, slA (AVal.int .i64) x.cols, .bool x.flag, slA EN.a x.pred, slA (AVal.int .i64) x.keys, slA AggT.a a, slA ExprT.a x.outs, slA OrdT.a x.ords, .int .i64 x.limit]]]⟩ = some (.ret, s) ∧ s.env[1]? = some (.bool true) := by
  obtain ⟨l, hn⟩ := a
  have hf : ∀ a : AggT, ncells (AggT.a a) = 2 ∧ isAgg (AggT.a a) = true := fun a => ⟨rfl, rfl⟩
  have hz : ∀ (a : AggT) (top : Bool) (base : Nat) (σ : Store) (n : Nat), fz true top base σ (n + 3) (AggT.a a) = AggT.a a := fun a top base σ n => by simp [AggT.a]
  generalize hX : l.map AggT.a = xs
  have hA : slA AggT.a ⟨l, hn⟩ = .imm true xs := by simp [slA, hX]
  have lX : xs.length = l.length := by rw [← hX]; simp
  simp only [hA]
  refine over_loop (n := l.length) (S := fun k => ⟨[.imm true A1, .any, .ptr 0 0 0 0, .any, .any, .bool false, .imm true A1, .int .i64 n7, .int .i64 k8, .bool true, .bool false, slA ExprT.a x.outs, .int .i64 n12, .int .i64 n12, .bool false, .any, .imm true xs, .int .i64 l.length, .int .i64 k, .any, .any], [Obj.arr 12 0 [.agg [.int .i64 x.op, .int .i64 x.l, .int .i64 x.r, .int .i64 x.tab, slA (AVal.int .i64) x.cols, .bool x.flag, slA EN.a x.pred, slA (AVal.int .i64) x.keys, .imm true xs, slA ExprT.a x.outs, slA OrdT.a x.ords, .int .i64 x.limit]]]⟩) (fun k a1 => ?_) ?_
  · have e1 : xs[k]? = some (AggT.a l[k]) := by rw [← hX]; exact map_get a1
    have e4 := hf l[k]
    generalize l[k] = x1 at *
    have i1 : ((k : Int) < (l.length : Int)) := by omega
    have i2 : bin .lss (.int .i64 (k : Int)) (.int .i64 (l.length : Int)) = some (.bool true) := by simp [i1]
    have i3 : bin .add (.int .i64 (k : Int)) (.int .i64 1) = some (.int .i64 ((k + 1 : Nat) : Int)) := by simp [wrap_sl a1 hn]
    obtain ⟨c, hc⟩ := overExpr_442 x1.arg
    cases c <;>
    first
      | (refine .inl ?_; simp [l_blaw25_overNodes_0, e1, e4, i1, i2, i3, lX, hz, wrap_sl a1 hn, roundEnd, AggT.a, hc, freezeObj, freeze, fuel]; done)
      | (refine .inr ⟨_, by simp [l_blaw25_overNodes_0, e1, e4, i1, i2, i3, lX, hz, AggT.a, hc, freezeObj, freeze, fuel]; rfl, ?_⟩; rfl)
  · simp [l_blaw25_overNodes_0, lX]
theorem over423  (a : SL LNT) : rounds code 0 [1, 2, 3, 4, 9, 10, 11, 12, 13, 14, 15, 16, 17, 18, 19, 20] l_blaw25_overNodes_2 ⟨[slA LNT.a a, .any, .any, .any, .any, .bool false, slA LNT.a a, .int .i64 a.1.length, .int .i64 0, .any, .any, .any, .any, .any, .any, .any, .any, .any, .any, .any, .any], []⟩ = some (.ext 0, ⟨[slA LNT.a a, .any, .any, .any, .any, .bool false, slA LNT.a a, .int .i64 a.1.length, .int .i64 a.1.length, .bool false, .any, .any, .any, .any, .any, .any, .any, .any, .any, .any, .any], []⟩) ∨
    ∃ s, rounds code 0 [1, 2, 3, 4, 9, 10, 11, 12, 13, 14, 15, 16, 17, 18, 19, 20] l_blaw25_overNodes_2 ⟨[slA LNT.a a, .any, .any, .any, .any, .bool false, slA LNT.a a, .int .i64 a.1.length, .int .i64 0, .any, .any, .any, .any, .any, .any, .any, .any, .any, .any, .any, .any], []⟩ = some (.ret, s) ∧ s.env[1]? = some (.bool true) := by
  obtain ⟨l, hn⟩ := a
  have hf : ∀ a : LNT, ncells (LNT.a a) = 12 ∧ isAgg (LNT.a a) = true := fun a => ⟨rfl, rfl⟩
  have hz : ∀ (a : LNT) (top : Bool) (base : Nat) (σ : Store) (n : Nat), fz true top base σ (n + 3) (LNT.a a) = LNT.a a := fun a top base σ n => by simp [LNT.a]
  generalize hX : l.map LNT.a = xs
  have hA : slA LNT.a ⟨l, hn⟩ = .imm true xs := by simp [slA, hX]
  have lX : xs.length = l.length := by rw [← hX]; simp
  simp only [hA]
  refine over_loop (n := l.length) (S := fun k => ⟨[.imm true xs, .any, .any, .any, .any, .bool false, .imm true xs, .int .i64 l.length, .int .i64 k, .any, .any, .any, .any, .any, .any, .any, .any, .any, .any, .any, .any], []⟩) (fun k a1 => ?_) ?_
  · have e1 : xs[k]? = some (LNT.a l[k]) := by rw [← hX]; exact map_get a1
    have e4 := hf l[k]
    generalize l[k] = x1 at *
    have i1 : ((k : Int) < (l.length : Int)) := by omega
    have i2 : bin .lss (.int .i64 (k : Int)) (.int .i64 (l.length : Int)) = some (.bool true) := by simp [i1]
    have i3 : bin .add (.int .i64 (k : Int)) (.int .i64 1) = some (.int .i64 ((k + 1 : Nat) : Int)) := by simp [wrap_sl a1 hn]
    have hi := over423o xs l.length k x1 x1.outs
    have hj := over423a xs l.length k x1.outs.1.length x1 x1.aggs
    obtain ⟨c1, hc1⟩ : ∃ c, decide ((20 : Int) < (x1.cols.1.length : Int)) = c := ⟨_, rfl⟩
    obtain ⟨z1, hZ1, lZ1⟩ := slA_imm (AVal.int .i64) x1.cols
    obtain ⟨c2, hc2⟩ : ∃ c, decide ((20 : Int) < (x1.keys.1.length : Int)) = c := ⟨_, rfl⟩
    obtain ⟨z2, hZ2, lZ2⟩ := slA_imm (AVal.int .i64) x1.keys
    obtain ⟨c3, hc3⟩ : ∃ c, decide ((20 : Int) < (x1.ords.1.length : Int)) = c := ⟨_, rfl⟩
    obtain ⟨z3, hZ3, lZ3⟩ := slA_imm OrdT.a x1.ords
    obtain ⟨c4, hc4⟩ : ∃ c, decide ((20 : Int) < (x1.outs.1.length : Int)) = c := ⟨_, rfl⟩
    obtain ⟨z4, hZ4, lZ4⟩ := slA_imm ExprT.a x1.outs
    obtain ⟨c5, hc5⟩ : ∃ c, decide ((20 : Int) < (x1.aggs.1.length : Int)) = c := ⟨_, rfl⟩
    obtain ⟨z5, hZ5, lZ5⟩ := slA_imm AggT.a x1.aggs
    obtain ⟨c6, hc6⟩ := overExpr_442 x1.pred
    simp only [LNT.a, hZ1, hZ2, hZ3, hZ4, hZ5] at e1 hi hj
    clear e4
    cases c1
    rotate_left
    · refine .inr ⟨_, by simp [l_blaw25_overNodes_2, e1, i1, i2, i3, lX, hz, hc1, hc2, hc3, hc4, hc5, hc6, lZ1, lZ2, lZ3, lZ4, lZ5, hi, hj, freezeObj, freeze, fuel]; rfl, ?_⟩
      rfl
    cases c2
    rotate_left
    · refine .inr ⟨_, by simp [l_blaw25_overNodes_2, e1, i1, i2, i3, lX, hz, hc1, hc2, hc3, hc4, hc5, hc6, lZ1, lZ2, lZ3, lZ4, lZ5, hi, hj, freezeObj, freeze, fuel]; rfl, ?_⟩
      rfl
    cases c3
    rotate_left
    · refine .inr ⟨_, by simp [l_blaw25_overNodes_2, e1, i1, i2, i3, lX, hz, hc1, hc2, hc3, hc4, hc5, hc6, lZ1, lZ2, lZ3, lZ4, lZ5, hi, hj, freezeObj, freeze, fuel]; rfl, ?_⟩
      rfl
    cases c4
    rotate_left
    · refine .inr ⟨_, by simp [l_blaw25_overNodes_2, e1, i1, i2, i3, lX, hz, hc1, hc2, hc3, hc4, hc5, hc6, lZ1, lZ2, lZ3, lZ4, lZ5, hi, hj, freezeObj, freeze, fuel]; rfl, ?_⟩
      rfl
    cases c5
    rotate_left
    · refine .inr ⟨_, by simp [l_blaw25_overNodes_2, e1, i1, i2, i3, lX, hz, hc1, hc2, hc3, hc4, hc5, hc6, lZ1, lZ2, lZ3, lZ4, lZ5, hi, hj, freezeObj, freeze, fuel]; rfl, ?_⟩
      rfl
    cases c6
    rotate_left
    · refine .inr ⟨_, by simp [l_blaw25_overNodes_2, e1, i1, i2, i3, lX, hz, hc1, hc2, hc3, hc4, hc5, hc6, lZ1, lZ2, lZ3, lZ4, lZ5, hi, hj, freezeObj, freeze, fuel]; rfl, ?_⟩
      rfl
    rcases hi with hi | ⟨s, hi, hs⟩
    rotate_left
    · exact .inr ⟨s, by simp [l_blaw25_overNodes_2, e1, i1, i2, i3, lX, hz, hc1, hc2, hc3, hc4, hc5, hc6, lZ1, lZ2, lZ3, lZ4, lZ5, hi, hj, freezeObj, freeze, fuel], hs⟩
    rcases hj with hj | ⟨s, hj, hs⟩
    rotate_left
    · exact .inr ⟨s, by simp [l_blaw25_overNodes_2, e1, i1, i2, i3, lX, hz, hc1, hc2, hc3, hc4, hc5, hc6, lZ1, lZ2, lZ3, lZ4, lZ5, hi, hj, freezeObj, freeze, fuel], hs⟩
    refine .inl ?_
    simp [l_blaw25_overNodes_2, e1, i1, i2, i3, lX, hz, hc1, hc2, hc3, hc4, hc5, hc6, lZ1, lZ2, lZ3, lZ4, lZ5, hi, hj, freezeObj, freeze, fuel, wrap_sl a1 hn, roundEnd]
  · simp [l_blaw25_overNodes_2, lX]
theorem overNodes_423 (a : SL LNT) : ∃ c, pcall I.blaw25_overNodes [slA LNT.a a] = some (.bool c) := by
  rw [pcall_eq c_blaw25_overNodes rfl]
  have hl := over423 a
  obtain ⟨xs, hA, lX⟩ := slA_imm LNT.a a
  simp only [hA] at hl ⊢
  obtain ⟨c, hc⟩ : ∃ c, decide ((32 : Int) < (a.1.length : Int)) = c := ⟨_, rfl⟩
  cases c
  · rcases hl with hl | ⟨s, hl, hs⟩
    · exact ⟨false, by simp [f_blaw25_overNodes, b_blaw25_overNodes, lX, hc, hl]⟩
    · exact ⟨true, by simp [f_blaw25_overNodes, b_blaw25_overNodes, lX, hc, hl, leave_at hs]⟩
  · exact ⟨true, by simp [f_blaw25_overNodes, b_blaw25_overNodes, lX, hc]⟩
end Go.AM
end
section

namespace Go.AM
open P
set_option maxHeartbeats 8000000
set_option maxRecDepth 8000
theorem over413h (I1 : List AVal) (n8 k9 : Int) (t : TaskT) (x : InT) (a : SL HeldT) : rounds code 2 [2, 4, 15, 16] l_blaw25_over_1 ⟨[.agg [.int .i64 t.epoch, .int .i64 t.sites, .int .i64 t.number, .int .i64 t.node, slA LNT.a t.frag.nodes, .int .i64 t.frag.at', .int .i64 t.frag.way, slA (AVal.int .i64) t.frag.cols, .int .i64 t.state, .imm true I1, slA OutT.a t.outs, slA RowT.a t.rows, .int .i64 t.err], .ptr 0 0 0 0, .any, .ptr 1 0 0 0, .any, .any, .bool false, .imm true I1, .int .i64 n8, .int .i64 k9, .bool true, .bool false, slA HeldT.a a, .int .i64 a.1.length, .int .i64 0, .any, .any, .any, .any, .any, .any, .any], [Obj.arr 13 0 [.agg [.int .i64 t.epoch, .int .i64 t.sites, .int .i64 t.number, .int .i64 t.node, slA LNT.a t.frag.nodes, .int .i64 t.frag.at', .int .i64 t.frag.way, slA (AVal.int .i64) t.frag.cols, .int .i64 t.state, .imm true I1, slA OutT.a t.outs, slA RowT.a t.rows, .int .i64 t.err]], Obj.arr 9 0 [.agg [.int .i64 x.frag, .int .i64 x.origin, .int .u32 x.rcv.session, .int .u64 x.rcv.next, slA HeldT.a a, slA BatchT.a x.rcv.buffer, .int .i64 x.rcv.room, .bool x.rcv.over, slA RowT.a x.rows]]]⟩ = some (.ext 2, ⟨[.agg [.int .i64 t.epoch, .int .i64 t.sites, .int .i64 t.number, .int .i64 t.node, slA LNT.a t.frag.nodes, .int .i64 t.frag.at', .int .i64 t.frag.way, slA (AVal.int .i64) t.frag.cols, .int .i64 t.state, .imm true I1, slA OutT.a t.outs, slA RowT.a t.rows, .int .i64 t.err], .ptr 0 0 0 0, .any, .ptr 1 0 0 0, .any, .any, .bool false, .imm true I1, .int .i64 n8, .int .i64 k9, .bool true, .bool false, slA HeldT.a a, .int .i64 a.1.length, .int .i64 a.1.length, .bool false, .any, .any, .any, .any, .any, .any], [Obj.arr 13 0 [.agg [.int .i64 t.epoch, .int .i64 t.sites, .int .i64 t.number, .int .i64 t.node, slA LNT.a t.frag.nodes, .int .i64 t.frag.at', .int .i64 t.frag.way, slA (AVal.int .i64) t.frag.cols, .int .i64 t.state, .imm true I1, slA OutT.a t.outs, slA RowT.a t.rows, .int .i64 t.err]], Obj.arr 9 0 [.agg [.int .i64 x.frag, .int .i64 x.origin, .int .u32 x.rcv.session, .int .u64 x.rcv.next, slA HeldT.a a, slA BatchT.a x.rcv.buffer, .int .i64 x.rcv.room, .bool x.rcv.over, slA RowT.a x.rows]]]⟩) ∨
    ∃ s, rounds code 2 [2, 4, 15, 16] l_blaw25_over_1 ⟨[.agg [.int .i64 t.epoch, .int .i64 t.sites, .int .i64 t.number, .int .i64 t.node, slA LNT.a t.frag.nodes, .int .i64 t.frag.at', .int .i64 t.frag.way, slA (AVal.int .i64) t.frag.cols, .int .i64 t.state, .imm true I1, slA OutT.a t.outs, slA RowT.a t.rows, .int .i64 t.err], .ptr 0 0 0 0, .any, .ptr 1 0 0 0, .any, .any, .bool false, .imm true I1, .int .i64 n8, .int .i64 k9, .bool true, .bool false, slA HeldT.a a, .int .i64 a.1.length, .int .i64 0, .any, .any, .any, .any, .any, .any, .any], [Obj.arr 13 0 [.agg [.int .i64 t.epoch, .int .i64 t.sites, .int .i64 t.number, .int .i64 t.node, slA LNT.a t.frag.nodes, .int .i64 t.frag.at', .int .i64 t.frag.way, slA (AVal.int .i64) t.frag.cols, .int .i64 t.state, .imm true I1, slA OutT.a t.outs, slA RowT.a t.rows, .int .i64 t.err]], Obj.arr 9 0 [.agg [.int .i64 x.frag, .int .i64 x.origin, .int .u32 x.rcv.session, .int .u64 x.rcv.next, slA HeldT.a a, slA BatchT.a x.rcv.buffer, .int .i64 x.rcv.room, .bool x.rcv.over, slA RowT.a x.rows]]]⟩ = some (.ret, s) ∧ s.env[2]? = some (.bool true) := by
  obtain ⟨l, hn⟩ := a
  have hf : ∀ a : HeldT, ncells (HeldT.a a) = 4 ∧ isAgg (HeldT.a a) = true := fun a => ⟨rfl, rfl⟩
  have hz : ∀ (a : HeldT) (top : Bool) (base : Nat) (σ : Store) (n : Nat), fz true top base σ (n + 3) (HeldT.a a) = HeldT.a a := fun a top base σ n => by simp [HeldT.a]
  generalize hX : l.map HeldT.a = xs
  have hA : slA HeldT.a ⟨l, hn⟩ = .imm true xs := by simp [slA, hX]
  have lX : xs.length = l.length := by rw [← hX]; simp
  simp only [hA]
  refine over_loop (n := l.length) (S := fun k => ⟨[.agg [.int .i64 t.epoch, .int .i64 t.sites, .int .i64 t.number, .int .i64 t.node, slA LNT.a t.frag.nodes, .int .i64 t.frag.at', .int .i64 t.frag.way, slA (AVal.int .i64) t.frag.cols, .int .i64 t.state, .imm true I1, slA OutT.a t.outs, slA RowT.a t.rows, .int .i64 t.err], .ptr 0 0 0 0, .any, .ptr 1 0 0 0, .any, .any, .bool false, .imm true I1, .int .i64 n8, .int .i64 k9, .bool true, .bool false, .imm true xs, .int .i64 l.length, .int .i64 k, .any, .any, .any, .any, .any, .any, .any], [Obj.arr 13 0 [.agg [.int .i64 t.epoch, .int .i64 t.sites, .int .i64 t.number, .int .i64 t.node, slA LNT.a t.frag.nodes, .int .i64 t.frag.at', .int .i64 t.frag.way, slA (AVal.int .i64) t.frag.cols, .int .i64 t.state, .imm true I1, slA OutT.a t.outs, slA RowT.a t.rows, .int .i64 t.err]], Obj.arr 9 0 [.agg [.int .i64 x.frag, .int .i64 x.origin, .int .u32 x.rcv.session, .int .u64 x.rcv.next, .imm true xs, slA BatchT.a x.rcv.buffer, .int .i64 x.rcv.room, .bool x.rcv.over, slA RowT.a x.rows]]]⟩) (fun k a1 => ?_) ?_
  · have e1 : xs[k]? = some (HeldT.a l[k]) := by rw [← hX]; exact map_get a1
    have e4 := hf l[k]
    generalize l[k] = x1 at *
    have i1 : ((k : Int) < (l.length : Int)) := by omega
    have i2 : bin .lss (.int .i64 (k : Int)) (.int .i64 (l.length : Int)) = some (.bool true) := by simp [i1]
    have i3 : bin .add (.int .i64 (k : Int)) (.int .i64 1) = some (.int .i64 ((k + 1 : Nat) : Int)) := by simp [wrap_sl a1 hn]
    obtain ⟨c, hc⟩ := overRows_421 x1.batch.rows 10
    cases c <;>
    first
      | (refine .inl ?_; simp [l_blaw25_over_1, e1, e4, i1, i2, i3, lX, hz, wrap_sl a1 hn, roundEnd, HeldT.a, hc, freezeObj, freeze, fuel]; done)
      | (refine .inr ⟨_, by simp [l_blaw25_over_1, e1, e4, i1, i2, i3, lX, hz, HeldT.a, hc, freezeObj, freeze, fuel]; rfl, ?_⟩; rfl)
  · simp [l_blaw25_over_1, lX]
theorem over413i (t : TaskT) (a : SL InT) : rounds code 1 [2, 3, 4, 10, 11, 12, 13, 14, 15, 16] l_blaw25_over_2 ⟨[.agg [.int .i64 t.epoch, .int .i64 t.sites, .int .i64 t.number, .int .i64 t.node, slA LNT.a t.frag.nodes, .int .i64 t.frag.at', .int .i64 t.frag.way, slA (AVal.int .i64) t.frag.cols, .int .i64 t.state, slA InT.a a, slA OutT.a t.outs, slA RowT.a t.rows, .int .i64 t.err], .ptr 0 0 0 0, .any, .any, .any, .any, .bool false, slA InT.a a, .int .i64 a.1.length, .int .i64 0, .any, .any, .any, .any, .any, .any, .any, .any, .any, .any, .any, .any], [Obj.arr 13 0 [.agg [.int .i64 t.epoch, .int .i64 t.sites, .int .i64 t.number, .int .i64 t.node, slA LNT.a t.frag.nodes, .int .i64 t.frag.at', .int .i64 t.frag.way, slA (AVal.int .i64) t.frag.cols, .int .i64 t.state, slA InT.a a, slA OutT.a t.outs, slA RowT.a t.rows, .int .i64 t.err]]]⟩ = some (.ext 0, ⟨[.agg [.int .i64 t.epoch, .int .i64 t.sites, .int .i64 t.number, .int .i64 t.node, slA LNT.a t.frag.nodes, .int .i64 t.frag.at', .int .i64 t.frag.way, slA (AVal.int .i64) t.frag.cols, .int .i64 t.state, slA InT.a a, slA OutT.a t.outs, slA RowT.a t.rows, .int .i64 t.err], .ptr 0 0 0 0, .any, .any, .any, .any, .bool false, slA InT.a a, .int .i64 a.1.length, .int .i64 a.1.length, .bool false, .any, .any, .any, .any, .any, .any, .any, .any, .any, .any, .any], [Obj.arr 13 0 [.agg [.int .i64 t.epoch, .int .i64 t.sites, .int .i64 t.number, .int .i64 t.node, slA LNT.a t.frag.nodes, .int .i64 t.frag.at', .int .i64 t.frag.way, slA (AVal.int .i64) t.frag.cols, .int .i64 t.state, slA InT.a a, slA OutT.a t.outs, slA RowT.a t.rows, .int .i64 t.err]]]⟩) ∨
    ∃ s, rounds code 1 [2, 3, 4, 10, 11, 12, 13, 14, 15, 16] l_blaw25_over_2 ⟨[.agg [.int .i64 t.epoch, .int .i64 t.sites, .int .i64 t.number, .int .i64 t.node, slA LNT.a t.frag.nodes, .int .i64 t.frag.at', .int .i64 t.frag.way, slA (AVal.int .i64) t.frag.cols, .int .i64 t.state, slA InT.a a, slA OutT.a t.outs, slA RowT.a t.rows, .int .i64 t.err], .ptr 0 0 0 0, .any, .any, .any, .any, .bool false, slA InT.a a, .int .i64 a.1.length, .int .i64 0, .any, .any, .any, .any, .any, .any, .any, .any, .any, .any, .any, .any], [Obj.arr 13 0 [.agg [.int .i64 t.epoch, .int .i64 t.sites, .int .i64 t.number, .int .i64 t.node, slA LNT.a t.frag.nodes, .int .i64 t.frag.at', .int .i64 t.frag.way, slA (AVal.int .i64) t.frag.cols, .int .i64 t.state, slA InT.a a, slA OutT.a t.outs, slA RowT.a t.rows, .int .i64 t.err]]]⟩ = some (.ret, s) ∧ s.env[2]? = some (.bool true) := by
  obtain ⟨l, hn⟩ := a
  have hf : ∀ a : InT, ncells (InT.a a) = 9 ∧ isAgg (InT.a a) = true := fun a => ⟨rfl, rfl⟩
  have hz : ∀ (a : InT) (top : Bool) (base : Nat) (σ : Store) (n : Nat), fz true top base σ (n + 3) (InT.a a) = InT.a a := fun a top base σ n => by simp [InT.a]
  generalize hX : l.map InT.a = xs
  have hA : slA InT.a ⟨l, hn⟩ = .imm true xs := by simp [slA, hX]
  have lX : xs.length = l.length := by rw [← hX]; simp
  simp only [hA]
  refine over_loop (n := l.length) (S := fun k => ⟨[.agg [.int .i64 t.epoch, .int .i64 t.sites, .int .i64 t.number, .int .i64 t.node, slA LNT.a t.frag.nodes, .int .i64 t.frag.at', .int .i64 t.frag.way, slA (AVal.int .i64) t.frag.cols, .int .i64 t.state, .imm true xs, slA OutT.a t.outs, slA RowT.a t.rows, .int .i64 t.err], .ptr 0 0 0 0, .any, .any, .any, .any, .bool false, .imm true xs, .int .i64 l.length, .int .i64 k, .any, .any, .any, .any, .any, .any, .any, .any, .any, .any, .any, .any], [Obj.arr 13 0 [.agg [.int .i64 t.epoch, .int .i64 t.sites, .int .i64 t.number, .int .i64 t.node, slA LNT.a t.frag.nodes, .int .i64 t.frag.at', .int .i64 t.frag.way, slA (AVal.int .i64) t.frag.cols, .int .i64 t.state, .imm true xs, slA OutT.a t.outs, slA RowT.a t.rows, .int .i64 t.err]]]⟩) (fun k a1 => ?_) ?_
  · have e1 : xs[k]? = some (InT.a l[k]) := by rw [← hX]; exact map_get a1
    have e4 := hf l[k]
    generalize l[k] = x1 at *
    have i1 : ((k : Int) < (l.length : Int)) := by omega
    have i2 : bin .lss (.int .i64 (k : Int)) (.int .i64 (l.length : Int)) = some (.bool true) := by simp [i1]
    have i3 : bin .add (.int .i64 (k : Int)) (.int .i64 1) = some (.int .i64 ((k + 1 : Nat) : Int)) := by simp [wrap_sl a1 hn]
    have hi := over413h xs l.length k t x1 x1.rcv.ahead
    obtain ⟨c1, hc1⟩ := overRows_421 x1.rows 60
    obtain ⟨c2, hc2⟩ := overBatches_422 x1.rcv.buffer
    obtain ⟨c3, hc3⟩ : ∃ c, decide ((20 : Int) < (x1.rcv.ahead.1.length : Int)) = c := ⟨_, rfl⟩
    obtain ⟨z, hZ, lZ⟩ := slA_imm HeldT.a x1.rcv.ahead
    simp only [InT.a, hZ] at e1 hi
    clear e4
    cases c1
    rotate_left
    · refine .inr ⟨_, by simp [l_blaw25_over_2, e1, i1, i2, i3, lX, hz, hc1, hc2, hc3, lZ, hi, freezeObj, freeze, fuel]; rfl, ?_⟩
      rfl
    cases c2
    rotate_left
    · refine .inr ⟨_, by simp [l_blaw25_over_2, e1, i1, i2, i3, lX, hz, hc1, hc2, hc3, lZ, hi, freezeObj, freeze, fuel]; rfl, ?_⟩
      rfl
    cases c3
    rotate_left
    · refine .inr ⟨_, by simp [l_blaw25_over_2, e1, i1, i2, i3, lX, hz, hc1, hc2, hc3, lZ, hi, freezeObj, freeze, fuel]; rfl, ?_⟩
      rfl
    rcases hi with hi | ⟨s, hi, hs⟩
    rotate_left
    · exact .inr ⟨s, by simp [l_blaw25_over_2, e1, i1, i2, i3, lX, hz, hc1, hc2, hc3, lZ, hi, freezeObj, freeze, fuel], hs⟩
    refine .inl ?_
    simp [l_blaw25_over_2, e1, i1, i2, i3, lX, hz, hc1, hc2, hc3, lZ, hi, freezeObj, freeze, fuel, wrap_sl a1 hn, roundEnd]
  · simp [l_blaw25_over_2, lX]
theorem over413o (t : TaskT) (n8 : Int) (a : SL OutT) : rounds code 1 [2, 5, 20, 21] l_blaw25_over_0 ⟨[.agg [.int .i64 t.epoch, .int .i64 t.sites, .int .i64 t.number, .int .i64 t.node, slA LNT.a t.frag.nodes, .int .i64 t.frag.at', .int .i64 t.frag.way, slA (AVal.int .i64) t.frag.cols, .int .i64 t.state, slA InT.a t.ins, slA OutT.a a, slA RowT.a t.rows, .int .i64 t.err], .ptr 0 0 0 0, .any, .any, .any, .any, .bool false, slA InT.a t.ins, .int .i64 n8, .int .i64 n8, .bool false, .any, .any, .any, .any, .any, .any, slA OutT.a a, .int .i64 a.1.length, .int .i64 0, .any, .any], [Obj.arr 13 0 [.agg [.int .i64 t.epoch, .int .i64 t.sites, .int .i64 t.number, .int .i64 t.node, slA LNT.a t.frag.nodes, .int .i64 t.frag.at', .int .i64 t.frag.way, slA (AVal.int .i64) t.frag.cols, .int .i64 t.state, slA InT.a t.ins, slA OutT.a a, slA RowT.a t.rows, .int .i64 t.err]]]⟩ = some (.ext 4, ⟨[.agg [.int .i64 t.epoch, .int .i64 t.sites, .int .i64 t.number, .int .i64 t.node, slA LNT.a t.frag.nodes, .int .i64 t.frag.at', .int .i64 t.frag.way, slA (AVal.int .i64) t.frag.cols, .int .i64 t.state, slA InT.a t.ins, slA OutT.a a, slA RowT.a t.rows, .int .i64 t.err], .ptr 0 0 0 0, .any, .any, .any, .any, .bool false, slA InT.a t.ins, .int .i64 n8, .int .i64 n8, .bool false, .any, .any, .any, .any, .any, .any, slA OutT.a a, .int .i64 a.1.length, .int .i64 a.1.length, .bool false, .any], [Obj.arr 13 0 [.agg [.int .i64 t.epoch, .int .i64 t.sites, .int .i64 t.number, .int .i64 t.node, slA LNT.a t.frag.nodes, .int .i64 t.frag.at', .int .i64 t.frag.way, slA (AVal.int .i64) t.frag.cols, .int .i64 t.state, slA InT.a t.ins, slA OutT.a a, slA RowT.a t.rows, .int .i64 t.err]]]⟩) ∨
    ∃ s, rounds code 1 [2, 5, 20, 21] l_blaw25_over_0 ⟨[.agg [.int .i64 t.epoch, .int .i64 t.sites, .int .i64 t.number, .int .i64 t.node, slA LNT.a t.frag.nodes, .int .i64 t.frag.at', .int .i64 t.frag.way, slA (AVal.int .i64) t.frag.cols, .int .i64 t.state, slA InT.a t.ins, slA OutT.a a, slA RowT.a t.rows, .int .i64 t.err], .ptr 0 0 0 0, .any, .any, .any, .any, .bool false, slA InT.a t.ins, .int .i64 n8, .int .i64 n8, .bool false, .any, .any, .any, .any, .any, .any, slA OutT.a a, .int .i64 a.1.length, .int .i64 0, .any, .any], [Obj.arr 13 0 [.agg [.int .i64 t.epoch, .int .i64 t.sites, .int .i64 t.number, .int .i64 t.node, slA LNT.a t.frag.nodes, .int .i64 t.frag.at', .int .i64 t.frag.way, slA (AVal.int .i64) t.frag.cols, .int .i64 t.state, slA InT.a t.ins, slA OutT.a a, slA RowT.a t.rows, .int .i64 t.err]]]⟩ = some (.ret, s) ∧ s.env[2]? = some (.bool true) := by
  obtain ⟨l, hn⟩ := a
  have hf : ∀ a : OutT, ncells (OutT.a a) = 9 ∧ isAgg (OutT.a a) = true := fun a => ⟨rfl, rfl⟩
  have hz : ∀ (a : OutT) (top : Bool) (base : Nat) (σ : Store) (n : Nat), fz true top base σ (n + 3) (OutT.a a) = OutT.a a := fun a top base σ n => by simp [OutT.a]
  generalize hX : l.map OutT.a = xs
  have hA : slA OutT.a ⟨l, hn⟩ = .imm true xs := by simp [slA, hX]
  have lX : xs.length = l.length := by rw [← hX]; simp
  simp only [hA]
  refine over_loop (n := l.length) (S := fun k => ⟨[.agg [.int .i64 t.epoch, .int .i64 t.sites, .int .i64 t.number, .int .i64 t.node, slA LNT.a t.frag.nodes, .int .i64 t.frag.at', .int .i64 t.frag.way, slA (AVal.int .i64) t.frag.cols, .int .i64 t.state, slA InT.a t.ins, .imm true xs, slA RowT.a t.rows, .int .i64 t.err], .ptr 0 0 0 0, .any, .any, .any, .any, .bool false, slA InT.a t.ins, .int .i64 n8, .int .i64 n8, .bool false, .any, .any, .any, .any, .any, .any, .imm true xs, .int .i64 l.length, .int .i64 k, .any, .any], [Obj.arr 13 0 [.agg [.int .i64 t.epoch, .int .i64 t.sites, .int .i64 t.number, .int .i64 t.node, slA LNT.a t.frag.nodes, .int .i64 t.frag.at', .int .i64 t.frag.way, slA (AVal.int .i64) t.frag.cols, .int .i64 t.state, slA InT.a t.ins, .imm true xs, slA RowT.a t.rows, .int .i64 t.err]]]⟩) (fun k a1 => ?_) ?_
  · have e1 : xs[k]? = some (OutT.a l[k]) := by rw [← hX]; exact map_get a1
    have e4 := hf l[k]
    generalize l[k] = x1 at *
    have i1 : ((k : Int) < (l.length : Int)) := by omega
    have i2 : bin .lss (.int .i64 (k : Int)) (.int .i64 (l.length : Int)) = some (.bool true) := by simp [i1]
    have i3 : bin .add (.int .i64 (k : Int)) (.int .i64 1) = some (.int .i64 ((k + 1 : Nat) : Int)) := by simp [wrap_sl a1 hn]
    obtain ⟨c1, hc1⟩ := overRows_421 x1.rest 60
    obtain ⟨c2, hc2⟩ := overBatches_422 x1.snd.queue
    simp only [OutT.a] at e1
    clear e4
    cases c1
    rotate_left
    · refine .inr ⟨_, by simp [l_blaw25_over_0, e1, i1, i2, i3, lX, hz, hc1, hc2, freezeObj, freeze, fuel]; rfl, ?_⟩
      rfl
    cases c2
    rotate_left
    · refine .inr ⟨_, by simp [l_blaw25_over_0, e1, i1, i2, i3, lX, hz, hc1, hc2, freezeObj, freeze, fuel]; rfl, ?_⟩
      rfl
    refine .inl ?_
    simp [l_blaw25_over_0, e1, i1, i2, i3, lX, hz, hc1, hc2, freezeObj, freeze, fuel, wrap_sl a1 hn, roundEnd]
  · simp [l_blaw25_over_0, lX]
theorem over_413 (t : TaskT) : ∃ c, pcall I.blaw25_over [t.a] = some (.bool c) := by
  rw [pcall_eq c_blaw25_over rfl]
  have q1 := over413i t t.ins
  have q2 := over413o t t.ins.1.length t.outs
  obtain ⟨c1, hc1⟩ : ∃ c, decide ((40 : Int) < (t.ins.1.length : Int)) = c := ⟨_, rfl⟩
  obtain ⟨c2, hc2⟩ : ∃ c, decide ((20 : Int) < (t.outs.1.length : Int)) = c := ⟨_, rfl⟩
  obtain ⟨c3, hc3⟩ : ∃ c, decide ((20 : Int) < (t.frag.cols.1.length : Int)) = c := ⟨_, rfl⟩
  obtain ⟨c4, hc4⟩ := overNodes_423 t.frag.nodes
  obtain ⟨c5, hc5⟩ := overRows_421 t.rows 60
  obtain ⟨xs, hA, lX⟩ := slA_imm InT.a t.ins
  obtain ⟨us, hC, lO⟩ := slA_imm OutT.a t.outs
  obtain ⟨zs, hZ, lC⟩ := slA_imm (AVal.int .i64) t.frag.cols
  simp only [TaskT.a, hA, hC, hZ] at q1 q2 ⊢
  cases c1
  rotate_left
  · exact ⟨true, by simp [f_blaw25_over, b_blaw25_over, lX, lO, lC, hc1, hc2, hc3, hc4, hc5]⟩
  cases c2
  rotate_left
  · exact ⟨true, by simp [f_blaw25_over, b_blaw25_over, lX, lO, lC, hc1, hc2, hc3, hc4, hc5]⟩
  cases c3
  rotate_left
  · exact ⟨true, by simp [f_blaw25_over, b_blaw25_over, lX, lO, lC, hc1, hc2, hc3, hc4, hc5]⟩
  cases c4
  rotate_left
  · exact ⟨true, by simp [f_blaw25_over, b_blaw25_over, lX, lO, lC, hc1, hc2, hc3, hc4, hc5]⟩
  cases c5
  rotate_left
  · exact ⟨true, by simp [f_blaw25_over, b_blaw25_over, lX, lO, lC, hc1, hc2, hc3, hc4, hc5]⟩
  rcases q1 with q1 | ⟨s, q1, hs⟩
  rotate_left
  · exact ⟨true, by simp [f_blaw25_over, b_blaw25_over, lX, lO, lC, hc1, hc2, hc3, hc4, hc5, q1, leave_at hs]⟩
  rcases q2 with q2 | ⟨s, q2, hs⟩
  rotate_left
  · exact ⟨true, by simp [f_blaw25_over, b_blaw25_over, lX, lO, lC, hc1, hc2, hc3, hc4, hc5, q1, q2, leave_at hs]⟩
  exact ⟨false, by simp [f_blaw25_over, b_blaw25_over, lX, lO, lC, hc1, hc2, hc3, hc4, hc5, q1, q2]⟩
end Go.AM
end
