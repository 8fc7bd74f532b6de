/- Rows that are the same: the document of laws 5. -/
import Derived.Test.YtmkdaehnmhgjmaaGreatDoorAm19
set_option linter.unusedVariables false
set_option linter.unusedSimpArgs false
section
namespace Go.AM
open P
set_option maxHeartbeats 4000000
set_option maxRecDepth 8000
theorem first_diff {α : Type} [DecidableEq α] : ∀ (l m : List α), ∃ d, d ≤ l.length ∧ d ≤ m.length ∧ (∀ k (_ : k < d) (h1 : k < l.length) (h2 : k < m.length), l[k] = m[k]) ∧
    ((d = l.length ∨ d = m.length) ∧ decide (l = m) = decide (l.length = m.length) ∨ (∃ (h1 : d < l.length) (h2 : d < m.length), l[d] ≠ m[d] ∧ decide (l = m) = false))
  | [], m => ⟨0, Nat.le_refl _, Nat.zero_le _, fun k h => absurd h (Nat.not_lt_zero _), .inl ⟨.inl rfl, by cases m <;> simp⟩⟩
  | a :: l, [] => ⟨0, Nat.zero_le _, Nat.le_refl _, fun k h => absurd h (Nat.not_lt_zero _), .inl ⟨.inr rfl, by simp⟩⟩
  | a :: l, b :: m => by
    by_cases hab : a = b
    · obtain ⟨d, h1, h2, h3, h4⟩ := first_diff l m
      refine ⟨d + 1, by simpa using h1, by simpa using h2, fun k hk a1 a2 => ?_, ?_⟩
      · cases k with
        | zero => exact hab
        | succ k => exact h3 k (by omega) (by simpa using a1) (by simpa using a2)
      · rcases h4 with ⟨e1, e2⟩ | ⟨q1, q2, e1, e2⟩
        · exact .inl ⟨by simpa using e1, by simpa [hab] using e2⟩
        · exact .inr ⟨by simpa using q1, by simpa using q2, by simpa using e1, by simpa [hab] using e2⟩
    · exact ⟨0, Nat.zero_le _, Nat.zero_le _, fun k h => absurd h (Nat.not_lt_zero _), .inr ⟨by simp, by simp, hab, by simp [hab]⟩⟩
def sgn (b : Bool) : Int := if b then -1 else 1
theorem sgn_ne (b : Bool) : (sgn b = 0) = False := by cases b <;> simp [sgn]
theorem sign_137 (b : Bool) : pcall I.bref05_sign [.bool b] = some (.int .i64 (sgn b)) := by
  rw [pcall_eq c_bref05_sign rfl]
  cases b <;> simp [f_bref05_sign, b_bref05_sign, sgn]
theorem Value_136 (a b : Val) : ∃ c, pcall I.bref05_Value [a.a, b.a] = some (.int .i64 c) ∧ ((c = 0) ↔ a = b) := by
  obtain ⟨k, n, u, s⟩ := a
  obtain ⟨k', n', u', s'⟩ := b
  rw [pcall_eq c_bref05_Value rfl]
  simp only [Val.a]
  by_cases h1 : k = k'
  · subst h1
    by_cases h2 : n = n'
    · subst h2
      by_cases h3 : u = u'
      · subst h3
        by_cases h4 : s = s'
        · subst h4
          exact ⟨0, by simp [f_bref05_Value, b_bref05_Value, binStr], by simp⟩
        · exact ⟨sgn (Op.bytesLess s s'), by simp [f_bref05_Value, b_bref05_Value, bn h4, bq h4, h4, binStr, sign_137], by simp [sgn_ne, h4]⟩
      · exact ⟨sgn (decide (u < u')), by simp [f_bref05_Value, b_bref05_Value, bn h3, h3, sign_137], by simp [sgn_ne, h3]⟩
    · exact ⟨sgn (decide (n < n')), by simp [f_bref05_Value, b_bref05_Value, bn h2, h2, sign_137], by simp [sgn_ne, h2]⟩
  · exact ⟨sgn (decide (k < k')), by simp [f_bref05_Value, b_bref05_Value, bn h1, h1, sign_137], by simp [sgn_ne, h1]⟩
theorem Compare_60 (a b : RowT) : ∃ c, pcall I.bref05_Compare [slA Val.a a, slA Val.a b] = some (.int .i64 c) ∧ ((c = 0) ↔ a = b) := by
  rw [pcall_eq c_bref05_Compare rfl]
  obtain ⟨l, hn⟩ := a
  obtain ⟨m, hm⟩ := b
  simp only [slA, Subtype.mk.injEq]
  have hf : ∀ a : Val, ncells (Val.a a) = 4 ∧ isAgg (Val.a a) = true := fun a => ⟨rfl, rfl⟩
  have hz : ∀ (a : Val) (top : Bool) (base : Nat) (σ : Store) (n : Nat), fz true top base σ (n + 3) (Val.a a) = Val.a a := fun a top base σ n => by simp [Val.a]
  generalize hX : l.map Val.a = xs
  generalize hY : m.map Val.a = ys
  have lX : xs.length = l.length := by rw [← hX]; simp
  have lY : ys.length = m.length := by rw [← hY]; simp
  obtain ⟨d, h1, h2, h3, h4⟩ := first_diff l m
  let S (k : Nat) : St := ⟨[.imm true xs, .imm true ys, .any, .int .i64 k, .any, .any, .any, .any], []⟩
  have hstep : ∀ k, k < d → thenLoop 0 [2, 4, 5, 6] l_bref05_Compare_0 (run code l_bref05_Compare_0 (S k)) = rounds code 0 [2, 4, 5, 6] l_bref05_Compare_0 (S (k + 1)) := fun k hk => by
    have a1 : k < l.length := by omega
    have a2 : k < m.length := by omega
    have e1 : xs[k]? = some (Val.a l[k]) := by rw [← hX]; exact map_get a1
    have e2 : ys[k]? = some (Val.a m[k]) := by rw [← hY]; exact map_get a2
    obtain ⟨c, e3, e3'⟩ := Value_136 l[k] m[k]
    have e6 := h3 k hk a1 a2
    have c0 : c = 0 := e3'.2 e6
    subst c0
    have i1 : ((k : Int) < (l.length : Int)) := by omega
    have i2 : ((k : Int) < (m.length : Int)) := by omega
    simp [S, l_bref05_Compare_0, e1, e2, e3, hf, hz, i1, i2, lX, lY, wrap_sl a1 hn, roundEnd]
  rcases h4 with ⟨e1, e2⟩ | ⟨q1, q2, e1, e2⟩
  · have hloop := rounds_iter (base := 0) (clr := [2, 4, 5, 6]) (b := l_bref05_Compare_0) S d _ hstep (by
      by_cases hd : d = l.length
      · simp [S, l_bref05_Compare_0, lX, ← hd]; all_goals rfl
      · have hd' : d = m.length := by omega
        have i1 : ((d : Int) < (l.length : Int)) := by omega
        simp [S, l_bref05_Compare_0, lX, lY, i1, ← hd']; all_goals rfl)
    simp only [S] at hloop
    by_cases hlen : l.length = m.length
    · refine ⟨0, ?_, ?_⟩
      · simp [f_bref05_Compare, b_bref05_Compare]
        simp at hloop
        rw [hloop]
        simp [hlen, lX, lY]
      · simp only [hlen, decide_true, decide_eq_true_eq] at e2; simp [e2]
    · refine ⟨sgn (decide ((l.length : Int) < (m.length : Int))), ?_, ?_⟩
      · simp [f_bref05_Compare, b_bref05_Compare]
        simp at hloop
        rw [hloop]
        have : (((l.length : Int)) == (m.length : Int)) = false := by simp; omega
        simp [this, lX, lY, sign_137]
      · simp only [hlen, decide_false, decide_eq_false_iff_not] at e2; simp [e2, sgn_ne]
  · obtain ⟨c, e3, e3'⟩ := Value_136 l[d] m[d]
    have c0 : ¬ c = 0 := fun h => e1 (e3'.1 h)
    have hloop := rounds_iter (base := 0) (clr := [2, 4, 5, 6]) (b := l_bref05_Compare_0) S d _ hstep (by
      have a1 : xs[d]? = some (Val.a l[d]) := by rw [← hX]; exact map_get q1
      have a2 : ys[d]? = some (Val.a m[d]) := by rw [← hY]; exact map_get q2
      have i1 : ((d : Int) < (l.length : Int)) := by omega
      have i2 : ((d : Int) < (m.length : Int)) := by omega
      simp [S, l_bref05_Compare_0, a1, a2, e3, hf, hz, i1, i2, lX, lY, bn c0]; rfl)
    simp only [S] at hloop
    refine ⟨c, ?_, ?_⟩
    · simp [f_bref05_Compare, b_bref05_Compare]
      simp at hloop
      rw [hloop]
      simp
    · have := of_decide_eq_false e2; simp [this, c0]
end Go.AM
end
section

namespace Go.AM
open P
set_option maxHeartbeats 4000000
set_option maxRecDepth 8000
theorem Compare_60' (a b : RowT) : ∃ c, pcall I.bref05_Compare [slA Val.a a, slA Val.a b] = some (.int .i64 c) ∧ (c != 0) = !decide (a = b) := by
  obtain ⟨c, h1, h2⟩ := Compare_60 a b
  refine ⟨c, h1, ?_⟩
  by_cases h : c = 0
  · have := h2.1 h
    subst this
    simp [h]
  · have : ¬ a = b := fun e => h (h2.2 e)
    simp [bn h, this]
theorem rows_Same_12 (a b : SL RowT) : pcall I.bref05_Same [slA RowT.a a, slA RowT.a b] = some (.bool (decide (a = b))) := by
  rw [pcall_eq c_bref05_Same rfl, ← sl_dec]
  obtain ⟨l, hn⟩ := a
  obtain ⟨m, hm⟩ := b
  simp only [slA]
  have hf : ∀ a : RowT, ncells (RowT.a a) = 1 ∧ isAgg (RowT.a a) = false := fun a => ⟨rfl, rfl⟩
  have hz : ∀ (a : RowT) (top : Bool) (base : Nat) (σ : Store) (n : Nat), fz true top base σ (n + 3) (RowT.a a) = RowT.a a := fun a top base σ n => by simp
  have hc : ∀ a b : RowT, ∃ c, pcall I.bref05_Compare [RowT.a a, RowT.a b] = some (.int .i64 c) ∧ (c != 0) = !decide (a = b) := fun a b => Compare_60' a b
  generalize hX : l.map RowT.a = xs
  generalize hY : m.map RowT.a = ys
  have lX : xs.length = l.length := by rw [← hX]; simp
  have lY : ys.length = m.length := by rw [← hY]; simp
  by_cases hlen : l.length = m.length
  · obtain ⟨d, h1, h2, h3⟩ := same_diff hlen
    have hstep : ∀ k, k < d → thenLoop 0 [2, 5, 6] l_bref05_Same_0 (run code l_bref05_Same_0 ⟨[.imm true xs, .imm true ys, .any, .int .i64 k, .bool false, .any, .any], []⟩) = rounds code 0 [2, 5, 6] l_bref05_Same_0 ⟨[.imm true xs, .imm true ys, .any, .int .i64 (k + 1 : Nat), .bool false, .any, .any], []⟩ := fun k hk => by
      have a1 : k < l.length := by omega
      have a2 : k < m.length := by omega
      have e1 : xs[k]? = some (RowT.a l[k]) := by rw [← hX]; exact map_get a1
      have e2 : ys[k]? = some (RowT.a m[k]) := by rw [← hY]; exact map_get a2
      obtain ⟨c, e3, e7⟩ := hc l[k] m[k]
      have e4 := hf l[k]
      have e5 := hf m[k]
      have e6 := h2 k hk a1 a2
      rw [e6] at e1 e3 e4 e7
      have i1 : ((k : Int) < (l.length : Int)) := by omega
      have i2 : bin .lss (.int .i64 (k : Int)) (.int .i64 (l.length : Int)) = some (.bool true) := by simp [i1]
      have i3 : bin .add (.int .i64 (k : Int)) (.int .i64 1) = some (.int .i64 ((k + 1 : Nat) : Int)) := by simp [wrap_sl a1 hn]
      simp [l_bref05_Same_0, -eqa, e7, e1, e2, e3, e4, e5, i1, i2, i3, lX, hz, wrap_sl a1 hn, roundEnd]
    rcases h3 with ⟨e1, e2⟩ | ⟨q1, q2, e1, e2⟩
    · have hloop := rounds_iter (base := 0) (clr := [2, 5, 6]) (b := l_bref05_Same_0) (fun k => ⟨[.imm true xs, .imm true ys, .any, .int .i64 k, .bool false, .any, .any], []⟩) d _ hstep (by
        subst e1
        simp [l_bref05_Same_0, lX]; rfl)
      simp [f_bref05_Same, b_bref05_Same, hlen, lX, lY]
      simp [hlen] at hloop
      rw [hloop, e2]
      simp
    · have hloop := rounds_iter (base := 0) (clr := [2, 5, 6]) (b := l_bref05_Same_0) (fun k => ⟨[.imm true xs, .imm true ys, .any, .int .i64 k, .bool false, .any, .any], []⟩) d _ hstep (by
        have a1 : xs[d]? = some (RowT.a l[d]) := by rw [← hX]; exact map_get q1
        have a2 : ys[d]? = some (RowT.a m[d]) := by rw [← hY]; exact map_get q2
        obtain ⟨c, a3, e7⟩ := hc l[d] m[d]
        have e4 := hf l[d]
        have e5 := hf m[d]
        simp only [decide_eq_false e1, Bool.not_false] at e7
        have i1 : ((d : Int) < (l.length : Int)) := by omega
        have i2 : bin .lss (.int .i64 (d : Int)) (.int .i64 (l.length : Int)) = some (.bool true) := by simp [i1]
        simp [l_bref05_Same_0, -eqa, e7, a1, a2, i1, i2, a3, e4, e5, lX, hz, bn e1]; rfl)
      simp [f_bref05_Same, b_bref05_Same, hlen, lX, lY]
      simp [hlen] at hloop
      rw [hloop, e2]
      simp
  · have hne : decide (l = m) = false := decide_eq_false fun e => hlen (congrArg List.length e)
    rw [hne]
    simp [f_bref05_Same, b_bref05_Same, bne_len hlen, lX, lY]
theorem batch_Same_453 (a b : BatchT) : pcall I.bref22_SameBatch [a.a, b.a] = some (.bool (decide (a = b))) := by
  rw [pcall_eq c_bref22_SameBatch rfl]
  obtain ⟨r, e, n⟩ := a
  obtain ⟨r', e', n'⟩ := b
  have k1 := rows_Same_12 r r'
  by_cases h0 : e = e'
  · subst h0
    by_cases h1 : n = n'
    · subst h1
      by_cases h2 : r = r'
      · subst h2
        simp [f_bref22_SameBatch, b_bref22_SameBatch, BatchT.a, k1]
      · simp [f_bref22_SameBatch, b_bref22_SameBatch, BatchT.a, k1, h2, bq h2]
    · simp [f_bref22_SameBatch, b_bref22_SameBatch, BatchT.a, h1, bq h1]
  · simp [f_bref22_SameBatch, b_bref22_SameBatch, BatchT.a, h0, bq h0]
theorem batches_Same_452 (a b : SL BatchT) : pcall I.bref22_SameBatches [slA BatchT.a a, slA BatchT.a b] = some (.bool (decide (a = b))) := by
  rw [pcall_eq c_bref22_SameBatches rfl, ← sl_dec]
  obtain ⟨l, hn⟩ := a
  obtain ⟨m, hm⟩ := b
  simp only [slA]
  have hf : ∀ a : BatchT, ncells (BatchT.a a) = 3 ∧ isAgg (BatchT.a a) = true := fun a => ⟨rfl, rfl⟩
  have hz : ∀ (a : BatchT) (top : Bool) (base : Nat) (σ : Store) (n : Nat), fz true top base σ (n + 3) (BatchT.a a) = BatchT.a a := fun a top base σ n => by simp [BatchT.a]
  have hc : ∀ a b : BatchT, pcall I.bref22_SameBatch [a.a, b.a] = some (.bool (decide (a = b))) := fun a b => batch_Same_453 a b
  generalize hX : l.map BatchT.a = xs
  generalize hY : m.map BatchT.a = ys
  have lX : xs.length = l.length := by rw [← hX]; simp
  have lY : ys.length = m.length := by rw [← hY]; simp
  by_cases hlen : l.length = m.length
  · obtain ⟨d, h1, h2, h3⟩ := same_diff hlen
    have hstep : ∀ k, k < d → thenLoop 0 [2, 3, 7, 8] l_bref22_SameBatches_0 (run code l_bref22_SameBatches_0 ⟨[.imm true xs, .imm true ys, .any, .any, .bool false, .int .i64 l.length, .int .i64 k, .any, .any], []⟩) = rounds code 0 [2, 3, 7, 8] l_bref22_SameBatches_0 ⟨[.imm true xs, .imm true ys, .any, .any, .bool false, .int .i64 l.length, .int .i64 (k + 1 : Nat), .any, .any], []⟩ := fun k hk => by
      have a1 : k < l.length := by omega
      have a2 : k < m.length := by omega
      have e1 : xs[k]? = some (BatchT.a l[k]) := by rw [← hX]; exact map_get a1
      have e2 : ys[k]? = some (BatchT.a m[k]) := by rw [← hY]; exact map_get a2
      have e3 := hc l[k] m[k]
      have e4 := hf l[k]
      have e5 := hf m[k]
      have e6 := h2 k hk a1 a2
      rw [e6] at e1 e3 e4
      have i1 : ((k : Int) < (l.length : Int)) := by omega
      have i2 : bin .lss (.int .i64 (k : Int)) (.int .i64 (l.length : Int)) = some (.bool true) := by simp [i1]
      have i3 : bin .add (.int .i64 (k : Int)) (.int .i64 1) = some (.int .i64 ((k + 1 : Nat) : Int)) := by simp [wrap_sl a1 hn]
      simp [l_bref22_SameBatches_0, -eqa, e1, e2, e3, e4, e5, i1, i2, i3, lX, hz, wrap_sl a1 hn, roundEnd]
    rcases h3 with ⟨e1, e2⟩ | ⟨q1, q2, e1, e2⟩
    · have hloop := rounds_iter (base := 0) (clr := [2, 3, 7, 8]) (b := l_bref22_SameBatches_0) (fun k => ⟨[.imm true xs, .imm true ys, .any, .any, .bool false, .int .i64 l.length, .int .i64 k, .any, .any], []⟩) d _ hstep (by
        subst e1
        simp [l_bref22_SameBatches_0, lX]; rfl)
      simp [f_bref22_SameBatches, b_bref22_SameBatches, hlen, lX, lY]
      simp [hlen] at hloop
      rw [hloop, e2]
      simp
    · have hloop := rounds_iter (base := 0) (clr := [2, 3, 7, 8]) (b := l_bref22_SameBatches_0) (fun k => ⟨[.imm true xs, .imm true ys, .any, .any, .bool false, .int .i64 l.length, .int .i64 k, .any, .any], []⟩) d _ hstep (by
        have a1 : xs[d]? = some (BatchT.a l[d]) := by rw [← hX]; exact map_get q1
        have a2 : ys[d]? = some (BatchT.a m[d]) := by rw [← hY]; exact map_get q2
        have a3 := hc l[d] m[d]
        have e4 := hf l[d]
        have e5 := hf m[d]
        simp only [decide_eq_false e1, Bool.not_false] at a3
        have i1 : ((d : Int) < (l.length : Int)) := by omega
        have i2 : bin .lss (.int .i64 (d : Int)) (.int .i64 (l.length : Int)) = some (.bool true) := by simp [i1]
        simp [l_bref22_SameBatches_0, -eqa, a1, a2, i1, i2, a3, e4, e5, lX, hz, bn e1]; rfl)
      simp [f_bref22_SameBatches, b_bref22_SameBatches, hlen, lX, lY]
      simp [hlen] at hloop
      rw [hloop, e2]
      simp
  · have hne : decide (l = m) = false := decide_eq_false fun e => hlen (congrArg List.length e)
    rw [hne]
    simp [f_bref22_SameBatches, b_bref22_SameBatches, bne_len hlen, lX, lY]
end Go.AM
end
section

namespace Go.AM
open P
set_option maxHeartbeats 4000000
set_option maxRecDepth 8000
theorem same_loop {α : Type} [DecidableEq α] {l m : List α} {base : Nat} {clr : List Nat} {b : ACode} {S : Nat → St} {E : Ex × St} {j : Nat} (hlen : l.length = m.length)
    (hst : ∀ k (h1 : k < l.length) (h2 : k < m.length), l[k] = m[k] → thenLoop base clr b (run code b (S k)) = rounds code base clr b (S (k + 1)))
    (hend : thenLoop base clr b (run code b (S l.length)) = some E)
    (hne : ∀ k (h1 : k < l.length) (h2 : k < m.length), l[k] ≠ m[k] → ∃ s, thenLoop base clr b (run code b (S k)) = some (.ret, s) ∧ s.env[j]? = some (.bool false)) :
    (l = m ∧ rounds code base clr b (S 0) = some E) ∨ (¬ l = m ∧ ∃ s, rounds code base clr b (S 0) = some (.ret, s) ∧ s.env[j]? = some (.bool false)) := by
  obtain ⟨d, h1, h2, h3⟩ := same_diff hlen
  rcases h3 with ⟨e1, e2⟩ | ⟨q1, q2, e1, e2⟩
  · refine .inl ⟨of_decide_eq_true e2, rounds_iter S d _ (fun k hk => hst k (by omega) (by omega) (h2 k hk (by omega) (by omega))) ?_⟩
    rw [e1]; exact hend
  · obtain ⟨s, a1, a2⟩ := hne d q1 q2 e1
    exact .inr ⟨of_decide_eq_false e2, s, rounds_iter S d _ (fun k hk => hst k (by omega) (by omega) (h2 k hk (by omega) (by omega))) a1, a2⟩
theorem leave_at {s : St} {j : Nat} {b : Bool} (h : s.env[j]? = some (.bool b)) : thenLeave .pure [.env j] (some (.ret, s)) = some (.bool b) := by
  simp [thenLeave, leave, h]
end Go.AM
end
section

namespace Go.AM
open P
set_option maxHeartbeats 4000000
set_option maxRecDepth 8000
theorem slA_imm {α : Type} (f : α → AVal) (l : SL α) : ∃ xs, slA f l = .imm true xs ∧ xs.length = l.1.length := ⟨_, rfl, by simp⟩
theorem eqa_en (a b : EN) : eqa true [0, 0, 0, 0, 0, 0, 0, 2] a.a b.a = some (.bool (!decide (a = b))) := by
  obtain ⟨t, l, r, c, k, n, u, s⟩ := a
  obtain ⟨t', l', r', c', k', n', u', s'⟩ := b
  simp [EN.a, eqa, Val.mk.injEq, EN.mk.injEq]
  repeat (split <;> simp_all)
theorem eqa_ord (a b : OrdT) : eqa true [0, 1] a.a b.a = some (.bool (!decide (a = b))) := by
  cases a; cases b
  simp [OrdT.a, eqa, OrdT.mk.injEq]
  repeat (split <;> simp_all)
theorem loop10  (a b : SL EN) (hlen : a.1.length = b.1.length) : (a = b ∧ rounds code 2 [4, 5, 9, 10] l_bref10_Same_0 ⟨[.agg [slA EN.a a], .agg [slA EN.a b], .ptr 0 0 0 0, .ptr 1 0 0 0, .any, .any, .bool false, .int .i64 a.1.length, .int .i64 0, .any, .any], [Obj.arr 1 0 [.agg [slA EN.a a]], Obj.arr 1 0 [.agg [slA EN.a b]]]⟩ = some (.ext 0, ⟨[.agg [slA EN.a a], .agg [slA EN.a b], .ptr 0 0 0 0, .ptr 1 0 0 0, .any, .any, .bool false, .int .i64 a.1.length, .int .i64 a.1.length, .bool false, .any], [Obj.arr 1 0 [.agg [slA EN.a a]], Obj.arr 1 0 [.agg [slA EN.a b]]]⟩)) ∨
    (¬ a = b ∧ ∃ s, rounds code 2 [4, 5, 9, 10] l_bref10_Same_0 ⟨[.agg [slA EN.a a], .agg [slA EN.a b], .ptr 0 0 0 0, .ptr 1 0 0 0, .any, .any, .bool false, .int .i64 a.1.length, .int .i64 0, .any, .any], [Obj.arr 1 0 [.agg [slA EN.a a]], Obj.arr 1 0 [.agg [slA EN.a b]]]⟩ = some (.ret, s) ∧ s.env[4]? = some (.bool false)) := by
  obtain ⟨l, hn⟩ := a
  obtain ⟨m, hm⟩ := b
  simp only [Subtype.mk.injEq]
  have hf : ∀ a : EN, ncells (EN.a a) = 8 ∧ isAgg (EN.a a) = true := fun a => ⟨rfl, rfl⟩
  have hz : ∀ (a : EN) (top : Bool) (base : Nat) (σ : Store) (n : Nat), fz true top base σ (n + 3) (EN.a a) = EN.a a := fun a top base σ n => by simp [EN.a]
  generalize hX : l.map EN.a = xs
  generalize hY : m.map EN.a = ys
  have hA : slA EN.a ⟨l, hn⟩ = .imm true xs := by simp [slA, hX]
  have hB : slA EN.a ⟨m, hm⟩ = .imm true ys := by simp [slA, hY]
  have lX : xs.length = l.length := by rw [← hX]; simp
  have lY : ys.length = m.length := by rw [← hY]; simp
  simp only [hA, hB]
  simp only at hlen
  refine same_loop (S := fun k => ⟨[.agg [.imm true xs], .agg [.imm true ys], .ptr 0 0 0 0, .ptr 1 0 0 0, .any, .any, .bool false, .int .i64 l.length, .int .i64 k, .any, .any], [Obj.arr 1 0 [.agg [.imm true xs]], Obj.arr 1 0 [.agg [.imm true ys]]]⟩) hlen (fun k a1 a2 e6 => ?_) ?_ (fun k a1 a2 e6 => ?_)
  · have e1 : xs[k]? = some (EN.a l[k]) := by rw [← hX]; exact map_get a1
    have e2 : ys[k]? = some (EN.a m[k]) := by rw [← hY]; exact map_get a2
    rw [e6] at e1
    have e4 := hf m[k]
    generalize m[k] = x at *
    have i1 : ((k : Int) < (l.length : Int)) := by omega
    have i2 : bin .lss (.int .i64 (k : Int)) (.int .i64 (l.length : Int)) = some (.bool true) := by simp [i1]
    have i3 : bin .add (.int .i64 (k : Int)) (.int .i64 1) = some (.int .i64 ((k + 1 : Nat) : Int)) := by simp [wrap_sl a1 hn]
    have e3 := eqa_en x x
    simp [l_bref10_Same_0, -eqa, e1, e2, e4, i1, i2, i3, lX, hz, wrap_sl a1 hn, roundEnd, e3]
  · simp [l_bref10_Same_0, lX]; all_goals rfl
  · have e1 : xs[k]? = some (EN.a l[k]) := by rw [← hX]; exact map_get a1
    have e2 : ys[k]? = some (EN.a m[k]) := by rw [← hY]; exact map_get a2
    have e4 := hf m[k]
    have e5 := hf l[k]
    generalize m[k] = y at *
    generalize l[k] = x at *
    have i1 : ((k : Int) < (l.length : Int)) := by omega
    have i2 : bin .lss (.int .i64 (k : Int)) (.int .i64 (l.length : Int)) = some (.bool true) := by simp [i1]
    have e3 := eqa_en x y
    refine ⟨_, by simp [l_bref10_Same_0, -eqa, e1, e2, e4, e5, e6, bn e6, bq e6, i1, i2, lX, hz, e3]; rfl, ?_⟩
    rfl
theorem expr_Same_507 (a b : ExprT) : pcall I.bref10_Same [ExprT.a a, ExprT.a b] = some (.bool (decide (a = b))) := by
  rw [pcall_eq c_bref10_Same rfl]
  obtain ⟨xs, hA, lX⟩ := slA_imm EN.a a
  obtain ⟨ys, hB, lY⟩ := slA_imm EN.a b
  simp only [ExprT.a, hA, hB]
  by_cases hlen : a.1.length = b.1.length
  · rcases loop10 a b hlen with ⟨h, hl⟩ | ⟨h, s, hl, hs⟩
    · rw [decide_eq_true h]
      simp only [hA, hB, hlen] at hl
      simp [f_bref10_Same, b_bref10_Same, lX, lY, hlen, hl]
    · rw [decide_eq_false h]
      simp only [hA, hB, hlen] at hl
      simp [f_bref10_Same, b_bref10_Same, lX, lY, hlen, hl, leave_at hs]
  · have : ¬ a = b := fun h => hlen (by rw [h])
    simp [f_bref10_Same, b_bref10_Same, lX, lY, bne_len hlen, this]
end Go.AM
end
section

namespace Go.AM
open P
set_option maxHeartbeats 8000000
set_option maxRecDepth 8000
theorem exprs_Same_508 (a b : SL ExprT) : pcall I.bref10_SameAll [slA ExprT.a a, slA ExprT.a b] = some (.bool (decide (a = b))) := by
  rw [pcall_eq c_bref10_SameAll rfl, ← sl_dec]
  obtain ⟨l, hn⟩ := a
  obtain ⟨m, hm⟩ := b
  simp only [slA]
  have hf : ∀ a : ExprT, ncells (ExprT.a a) = 1 ∧ isAgg (ExprT.a a) = true := fun a => ⟨rfl, rfl⟩
  have hz : ∀ (a : ExprT) (top : Bool) (base : Nat) (σ : Store) (n : Nat), fz true top base σ (n + 3) (ExprT.a a) = ExprT.a a := fun a top base σ n => by simp [ExprT.a]
  have hc : ∀ a b : ExprT, pcall I.bref10_Same [ExprT.a a, ExprT.a b] = some (.bool (decide (a = b))) := fun a b => expr_Same_507 a b
  generalize hX : l.map ExprT.a = xs
  generalize hY : m.map ExprT.a = ys
  have lX : xs.length = l.length := by rw [← hX]; simp
  have lY : ys.length = m.length := by rw [← hY]; simp
  by_cases hlen : l.length = m.length
  · obtain ⟨d, h1, h2, h3⟩ := same_diff hlen
    have hstep : ∀ k, k < d → thenLoop 0 [2, 3, 7, 8] l_bref10_SameAll_0 (run code l_bref10_SameAll_0 ⟨[.imm true xs, .imm true ys, .any, .any, .bool false, .int .i64 l.length, .int .i64 k, .any, .any], []⟩) = rounds code 0 [2, 3, 7, 8] l_bref10_SameAll_0 ⟨[.imm true xs, .imm true ys, .any, .any, .bool false, .int .i64 l.length, .int .i64 (k + 1 : Nat), .any, .any], []⟩ := fun k hk => by
      have a1 : k < l.length := by omega
      have a2 : k < m.length := by omega
      have e1 : xs[k]? = some (ExprT.a l[k]) := by rw [← hX]; exact map_get a1
      have e2 : ys[k]? = some (ExprT.a m[k]) := by rw [← hY]; exact map_get a2
      have e3 := hc l[k] m[k]
      have e4 := hf l[k]
      have e5 := hf m[k]
      have e6 := h2 k hk a1 a2
      rw [e6] at e1 e3 e4; simp only [ExprT.a] at e1 e2 e3 e4 e5
      have i1 : ((k : Int) < (l.length : Int)) := by omega
      have i2 : bin .lss (.int .i64 (k : Int)) (.int .i64 (l.length : Int)) = some (.bool true) := by simp [i1]
      have i3 : bin .add (.int .i64 (k : Int)) (.int .i64 1) = some (.int .i64 ((k + 1 : Nat) : Int)) := by simp [wrap_sl a1 hn]
      simp [l_bref10_SameAll_0, -eqa, e1, e2, e3, e4, e5, i1, i2, i3, lX, wrap_sl a1 hn, roundEnd]
    rcases h3 with ⟨e1, e2⟩ | ⟨q1, q2, e1, e2⟩
    · have hloop := rounds_iter (base := 0) (clr := [2, 3, 7, 8]) (b := l_bref10_SameAll_0) (fun k => ⟨[.imm true xs, .imm true ys, .any, .any, .bool false, .int .i64 l.length, .int .i64 k, .any, .any], []⟩) d _ hstep (by
        subst e1
        simp [l_bref10_SameAll_0, lX]; rfl)
      simp [f_bref10_SameAll, b_bref10_SameAll, hlen, lX, lY]
      simp [hlen] at hloop
      rw [hloop, e2]
      simp
    · have hloop := rounds_iter (base := 0) (clr := [2, 3, 7, 8]) (b := l_bref10_SameAll_0) (fun k => ⟨[.imm true xs, .imm true ys, .any, .any, .bool false, .int .i64 l.length, .int .i64 k, .any, .any], []⟩) d _ hstep (by
        have a1 : xs[d]? = some (ExprT.a l[d]) := by rw [← hX]; exact map_get q1
        have a2 : ys[d]? = some (ExprT.a m[d]) := by rw [← hY]; exact map_get q2
        have a3 := hc l[d] m[d]
        have e4 := hf l[d]
        have e5 := hf m[d]
        simp only [decide_eq_false e1, Bool.not_false] at a3; simp only [ExprT.a] at a1 a2 a3 e4 e5
        have i1 : ((d : Int) < (l.length : Int)) := by omega
        have i2 : bin .lss (.int .i64 (d : Int)) (.int .i64 (l.length : Int)) = some (.bool true) := by simp [i1]
        simp [l_bref10_SameAll_0, -eqa, a1, a2, i1, i2, a3, e4, e5, lX, bn e1]; rfl)
      simp [f_bref10_SameAll, b_bref10_SameAll, hlen, lX, lY]
      simp [hlen] at hloop
      rw [hloop, e2]
      simp
  · have hne : decide (l = m) = false := decide_eq_false fun e => hlen (congrArg List.length e)
    rw [hne]
    simp [f_bref10_SameAll, b_bref10_SameAll, bne_len hlen, lX, lY]
theorem loop13a (x y : LNT) (a b : SL AggT) (hlen : a.1.length = b.1.length) : (a = b ∧ rounds code 2 [4, 9, 10] l_bref13_SameNode_1 ⟨[.agg [.int .i64 x.op, .int .i64 x.l, .int .i64 x.r, .int .i64 x.tab, slA (AVal.int .i64) x.cols, .bool x.flag, slA EN.a x.pred, slA (AVal.int .i64) x.keys, slA AggT.a a, slA ExprT.a x.outs, slA OrdT.a x.ords, .int .i64 x.limit], .agg [.int .i64 y.op, .int .i64 y.l, .int .i64 y.r, .int .i64 y.tab, slA (AVal.int .i64) y.cols, .bool y.flag, slA EN.a y.pred, slA (AVal.int .i64) y.keys, slA AggT.a b, slA ExprT.a y.outs, slA OrdT.a y.ords, .int .i64 y.limit], .ptr 0 0 0 0, .ptr 1 0 0 0, .any, .int .i64 0, .any, .bool false, .bool false, .any, .any, .any, .any], [Obj.arr 12 0 [.agg [.int .i64 x.op, .int .i64 x.l, .int .i64 x.r, .int .i64 x.tab, slA (AVal.int .i64) x.cols, .bool x.flag, slA EN.a x.pred, slA (AVal.int .i64) x.keys, slA AggT.a a, slA ExprT.a x.outs, slA OrdT.a x.ords, .int .i64 x.limit]], Obj.arr 12 0 [.agg [.int .i64 y.op, .int .i64 y.l, .int .i64 y.r, .int .i64 y.tab, slA (AVal.int .i64) y.cols, .bool y.flag, slA EN.a y.pred, slA (AVal.int .i64) y.keys, slA AggT.a b, slA ExprT.a y.outs, slA OrdT.a y.ords, .int .i64 y.limit]]]⟩ = some (.ext 0, ⟨[.agg [.int .i64 x.op, .int .i64 x.l, .int .i64 x.r, .int .i64 x.tab, slA (AVal.int .i64) x.cols, .bool x.flag, slA EN.a x.pred, slA (AVal.int .i64) x.keys, slA AggT.a a, slA ExprT.a x.outs, slA OrdT.a x.ords, .int .i64 x.limit], .agg [.int .i64 y.op, .int .i64 y.l, .int .i64 y.r, .int .i64 y.tab, slA (AVal.int .i64) y.cols, .bool y.flag, slA EN.a y.pred, slA (AVal.int .i64) y.keys, slA AggT.a b, slA ExprT.a y.outs, slA OrdT.a y.ords, .int .i64 y.limit], .ptr 0 0 0 0, .ptr 1 0 0 0, .any, .int .i64 a.1.length, .any, .bool false, .bool false, .bool false, .any, .any, .any], [Obj.arr 12 0 [.agg [.int .i64 x.op, .int .i64 x.l, .int .i64 x.r, .int .i64 x.tab, slA (AVal.int .i64) x.cols, .bool x.flag, slA EN.a x.pred, slA (AVal.int .i64) x.keys, slA AggT.a a, slA ExprT.a x.outs, slA OrdT.a x.ords, .int .i64 x.limit]], Obj.arr 12 0 [.agg [.int .i64 y.op, .int .i64 y.l, .int .i64 y.r, .int .i64 y.tab, slA (AVal.int .i64) y.cols, .bool y.flag, slA EN.a y.pred, slA (AVal.int .i64) y.keys, slA AggT.a b, slA ExprT.a y.outs, slA OrdT.a y.ords, .int .i64 y.limit]]]⟩)) ∨
    (¬ a = b ∧ ∃ s, rounds code 2 [4, 9, 10] l_bref13_SameNode_1 ⟨[.agg [.int .i64 x.op, .int .i64 x.l, .int .i64 x.r, .int .i64 x.tab, slA (AVal.int .i64) x.cols, .bool x.flag, slA EN.a x.pred, slA (AVal.int .i64) x.keys, slA AggT.a a, slA ExprT.a x.outs, slA OrdT.a x.ords, .int .i64 x.limit], .agg [.int .i64 y.op, .int .i64 y.l, .int .i64 y.r, .int .i64 y.tab, slA (AVal.int .i64) y.cols, .bool y.flag, slA EN.a y.pred, slA (AVal.int .i64) y.keys, slA AggT.a b, slA ExprT.a y.outs, slA OrdT.a y.ords, .int .i64 y.limit], .ptr 0 0 0 0, .ptr 1 0 0 0, .any, .int .i64 0, .any, .bool false, .bool false, .any, .any, .any, .any], [Obj.arr 12 0 [.agg [.int .i64 x.op, .int .i64 x.l, .int .i64 x.r, .int .i64 x.tab, slA (AVal.int .i64) x.cols, .bool x.flag, slA EN.a x.pred, slA (AVal.int .i64) x.keys, slA AggT.a a, slA ExprT.a x.outs, slA OrdT.a x.ords, .int .i64 x.limit]], Obj.arr 12 0 [.agg [.int .i64 y.op, .int .i64 y.l, .int .i64 y.r, .int .i64 y.tab, slA (AVal.int .i64) y.cols, .bool y.flag, slA EN.a y.pred, slA (AVal.int .i64) y.keys, slA AggT.a b, slA ExprT.a y.outs, slA OrdT.a y.ords, .int .i64 y.limit]]]⟩ = some (.ret, s) ∧ s.env[4]? = some (.bool false)) := by
  obtain ⟨l, hn⟩ := a
  obtain ⟨m, hm⟩ := b
  simp only [Subtype.mk.injEq]
  have hf : ∀ a : AggT, ncells (AggT.a a) = 2 ∧ isAgg (AggT.a a) = true := fun a => ⟨rfl, rfl⟩
  have hz : ∀ (a : AggT) (top : Bool) (base : Nat) (σ : Store) (n : Nat), fz true top base σ (n + 3) (AggT.a a) = AggT.a a := fun a top base σ n => by simp [AggT.a]
  generalize hX : l.map AggT.a = xs
  generalize hY : m.map AggT.a = ys
  have hA : slA AggT.a ⟨l, hn⟩ = .imm true xs := by simp [slA, hX]
  have hB : slA AggT.a ⟨m, hm⟩ = .imm true ys := by simp [slA, hY]
  have lX : xs.length = l.length := by rw [← hX]; simp
  have lY : ys.length = m.length := by rw [← hY]; simp
  simp only [hA, hB]
  simp only at hlen
  refine same_loop (S := fun k => ⟨[.agg [.int .i64 x.op, .int .i64 x.l, .int .i64 x.r, .int .i64 x.tab, slA (AVal.int .i64) x.cols, .bool x.flag, slA EN.a x.pred, slA (AVal.int .i64) x.keys, .imm true xs, slA ExprT.a x.outs, slA OrdT.a x.ords, .int .i64 x.limit], .agg [.int .i64 y.op, .int .i64 y.l, .int .i64 y.r, .int .i64 y.tab, slA (AVal.int .i64) y.cols, .bool y.flag, slA EN.a y.pred, slA (AVal.int .i64) y.keys, .imm true ys, slA ExprT.a y.outs, slA OrdT.a y.ords, .int .i64 y.limit], .ptr 0 0 0 0, .ptr 1 0 0 0, .any, .int .i64 k, .any, .bool false, .bool false, .any, .any, .any, .any], [Obj.arr 12 0 [.agg [.int .i64 x.op, .int .i64 x.l, .int .i64 x.r, .int .i64 x.tab, slA (AVal.int .i64) x.cols, .bool x.flag, slA EN.a x.pred, slA (AVal.int .i64) x.keys, .imm true xs, slA ExprT.a x.outs, slA OrdT.a x.ords, .int .i64 x.limit]], Obj.arr 12 0 [.agg [.int .i64 y.op, .int .i64 y.l, .int .i64 y.r, .int .i64 y.tab, slA (AVal.int .i64) y.cols, .bool y.flag, slA EN.a y.pred, slA (AVal.int .i64) y.keys, .imm true ys, slA ExprT.a y.outs, slA OrdT.a y.ords, .int .i64 y.limit]]]⟩) hlen (fun k a1 a2 e6 => ?_) ?_ (fun k a1 a2 e6 => ?_)
  · have e1 : xs[k]? = some (AggT.a l[k]) := by rw [← hX]; exact map_get a1
    have e2 : ys[k]? = some (AggT.a m[k]) := by rw [← hY]; exact map_get a2
    rw [e6] at e1
    have e4 := hf m[k]
    generalize m[k] = x1 at *
    have i1 : ((k : Int) < (l.length : Int)) := by omega
    have i2 : bin .lss (.int .i64 (k : Int)) (.int .i64 (l.length : Int)) = some (.bool true) := by simp [i1]
    have i3 : bin .add (.int .i64 (k : Int)) (.int .i64 1) = some (.int .i64 ((k + 1 : Nat) : Int)) := by simp [wrap_sl a1 hn]
    have e3 := expr_Same_507 x1.arg x1.arg
    simp only [ExprT.a] at e3
    simp [l_bref13_SameNode_1, e1, e2, e4, i1, i2, i3, lX, hz, wrap_sl a1 hn, roundEnd, e3, AggT.a]
  · simp [l_bref13_SameNode_1, lX]; all_goals rfl
  · have e1 : xs[k]? = some (AggT.a l[k]) := by rw [← hX]; exact map_get a1
    have e2 : ys[k]? = some (AggT.a m[k]) := by rw [← hY]; exact map_get a2
    have e4 := hf m[k]
    have e5 := hf l[k]
    generalize m[k] = y1 at *
    generalize l[k] = x1 at *
    have i1 : ((k : Int) < (l.length : Int)) := by omega
    have i2 : bin .lss (.int .i64 (k : Int)) (.int .i64 (l.length : Int)) = some (.bool true) := by simp [i1]
    obtain ⟨k1, g1⟩ := x1
    obtain ⟨k2, g2⟩ := y1
    have e3 := expr_Same_507 g1 g2
    simp only [ExprT.a] at e3
    by_cases hk : k1 = k2
    · subst hk
      have hg : ¬ g1 = g2 := fun h => e6 (by rw [h])
      refine ⟨_, by simp [l_bref13_SameNode_1, e1, e2, e4, e5, i1, i2, lX, AggT.a, e3, hg]; rfl, ?_⟩
      rfl
    · refine ⟨_, by simp [l_bref13_SameNode_1, e1, e2, e4, e5, i1, i2, lX, AggT.a, bn hk, bq hk]; rfl, ?_⟩
      rfl
theorem loop13o (x y : LNT) (n5 : Int) (a b : SL OrdT) (hlen : a.1.length = b.1.length) : (a = b ∧ rounds code 2 [4, 11, 12] l_bref13_SameNode_0 ⟨[.agg [.int .i64 x.op, .int .i64 x.l, .int .i64 x.r, .int .i64 x.tab, slA (AVal.int .i64) x.cols, .bool x.flag, slA EN.a x.pred, slA (AVal.int .i64) x.keys, slA AggT.a x.aggs, slA ExprT.a x.outs, slA OrdT.a a, .int .i64 x.limit], .agg [.int .i64 y.op, .int .i64 y.l, .int .i64 y.r, .int .i64 y.tab, slA (AVal.int .i64) y.cols, .bool y.flag, slA EN.a y.pred, slA (AVal.int .i64) y.keys, slA AggT.a y.aggs, slA ExprT.a y.outs, slA OrdT.a b, .int .i64 y.limit], .ptr 0 0 0 0, .ptr 1 0 0 0, .any, .int .i64 n5, .int .i64 0, .bool false, .bool false, .bool false, .any, .any, .any], [Obj.arr 12 0 [.agg [.int .i64 x.op, .int .i64 x.l, .int .i64 x.r, .int .i64 x.tab, slA (AVal.int .i64) x.cols, .bool x.flag, slA EN.a x.pred, slA (AVal.int .i64) x.keys, slA AggT.a x.aggs, slA ExprT.a x.outs, slA OrdT.a a, .int .i64 x.limit]], Obj.arr 12 0 [.agg [.int .i64 y.op, .int .i64 y.l, .int .i64 y.r, .int .i64 y.tab, slA (AVal.int .i64) y.cols, .bool y.flag, slA EN.a y.pred, slA (AVal.int .i64) y.keys, slA AggT.a y.aggs, slA ExprT.a y.outs, slA OrdT.a b, .int .i64 y.limit]]]⟩ = some (.ext 2, ⟨[.agg [.int .i64 x.op, .int .i64 x.l, .int .i64 x.r, .int .i64 x.tab, slA (AVal.int .i64) x.cols, .bool x.flag, slA EN.a x.pred, slA (AVal.int .i64) x.keys, slA AggT.a x.aggs, slA ExprT.a x.outs, slA OrdT.a a, .int .i64 x.limit], .agg [.int .i64 y.op, .int .i64 y.l, .int .i64 y.r, .int .i64 y.tab, slA (AVal.int .i64) y.cols, .bool y.flag, slA EN.a y.pred, slA (AVal.int .i64) y.keys, slA AggT.a y.aggs, slA ExprT.a y.outs, slA OrdT.a b, .int .i64 y.limit], .ptr 0 0 0 0, .ptr 1 0 0 0, .any, .int .i64 n5, .int .i64 a.1.length, .bool false, .bool false, .bool false, .any, .bool false, .any], [Obj.arr 12 0 [.agg [.int .i64 x.op, .int .i64 x.l, .int .i64 x.r, .int .i64 x.tab, slA (AVal.int .i64) x.cols, .bool x.flag, slA EN.a x.pred, slA (AVal.int .i64) x.keys, slA AggT.a x.aggs, slA ExprT.a x.outs, slA OrdT.a a, .int .i64 x.limit]], Obj.arr 12 0 [.agg [.int .i64 y.op, .int .i64 y.l, .int .i64 y.r, .int .i64 y.tab, slA (AVal.int .i64) y.cols, .bool y.flag, slA EN.a y.pred, slA (AVal.int .i64) y.keys, slA AggT.a y.aggs, slA ExprT.a y.outs, slA OrdT.a b, .int .i64 y.limit]]]⟩)) ∨
    (¬ a = b ∧ ∃ s, rounds code 2 [4, 11, 12] l_bref13_SameNode_0 ⟨[.agg [.int .i64 x.op, .int .i64 x.l, .int .i64 x.r, .int .i64 x.tab, slA (AVal.int .i64) x.cols, .bool x.flag, slA EN.a x.pred, slA (AVal.int .i64) x.keys, slA AggT.a x.aggs, slA ExprT.a x.outs, slA OrdT.a a, .int .i64 x.limit], .agg [.int .i64 y.op, .int .i64 y.l, .int .i64 y.r, .int .i64 y.tab, slA (AVal.int .i64) y.cols, .bool y.flag, slA EN.a y.pred, slA (AVal.int .i64) y.keys, slA AggT.a y.aggs, slA ExprT.a y.outs, slA OrdT.a b, .int .i64 y.limit], .ptr 0 0 0 0, .ptr 1 0 0 0, .any, .int .i64 n5, .int .i64 0, .bool false, .bool false, .bool false, .any, .any, .any], [Obj.arr 12 0 [.agg [.int .i64 x.op, .int .i64 x.l, .int .i64 x.r, .int .i64 x.tab, slA (AVal.int .i64) x.cols, .bool x.flag, slA EN.a x.pred, slA (AVal.int .i64) x.keys, slA AggT.a x.aggs, slA ExprT.a x.outs, slA OrdT.a a, .int .i64 x.limit]], Obj.arr 12 0 [.agg [.int .i64 y.op, .int .i64 y.l, .int .i64 y.r, .int .i64 y.tab, slA (AVal.int .i64) y.cols, .bool y.flag, slA EN.a y.pred, slA (AVal.int .i64) y.keys, slA AggT.a y.aggs, slA ExprT.a y.outs, slA OrdT.a b, .int .i64 y.limit]]]⟩ = some (.ret, s) ∧ s.env[4]? = some (.bool false)) := by
  obtain ⟨l, hn⟩ := a
  obtain ⟨m, hm⟩ := b
  simp only [Subtype.mk.injEq]
  have hf : ∀ a : OrdT, ncells (OrdT.a a) = 2 ∧ isAgg (OrdT.a a) = true := fun a => ⟨rfl, rfl⟩
  have hz : ∀ (a : OrdT) (top : Bool) (base : Nat) (σ : Store) (n : Nat), fz true top base σ (n + 3) (OrdT.a a) = OrdT.a a := fun a top base σ n => by simp [OrdT.a]
  generalize hX : l.map OrdT.a = xs
  generalize hY : m.map OrdT.a = ys
  have hA : slA OrdT.a ⟨l, hn⟩ = .imm true xs := by simp [slA, hX]
  have hB : slA OrdT.a ⟨m, hm⟩ = .imm true ys := by simp [slA, hY]
  have lX : xs.length = l.length := by rw [← hX]; simp
  have lY : ys.length = m.length := by rw [← hY]; simp
  simp only [hA, hB]
  simp only at hlen
  refine same_loop (S := fun k => ⟨[.agg [.int .i64 x.op, .int .i64 x.l, .int .i64 x.r, .int .i64 x.tab, slA (AVal.int .i64) x.cols, .bool x.flag, slA EN.a x.pred, slA (AVal.int .i64) x.keys, slA AggT.a x.aggs, slA ExprT.a x.outs, .imm true xs, .int .i64 x.limit], .agg [.int .i64 y.op, .int .i64 y.l, .int .i64 y.r, .int .i64 y.tab, slA (AVal.int .i64) y.cols, .bool y.flag, slA EN.a y.pred, slA (AVal.int .i64) y.keys, slA AggT.a y.aggs, slA ExprT.a y.outs, .imm true ys, .int .i64 y.limit], .ptr 0 0 0 0, .ptr 1 0 0 0, .any, .int .i64 n5, .int .i64 k, .bool false, .bool false, .bool false, .any, .any, .any], [Obj.arr 12 0 [.agg [.int .i64 x.op, .int .i64 x.l, .int .i64 x.r, .int .i64 x.tab, slA (AVal.int .i64) x.cols, .bool x.flag, slA EN.a x.pred, slA (AVal.int .i64) x.keys, slA AggT.a x.aggs, slA ExprT.a x.outs, .imm true xs, .int .i64 x.limit]], Obj.arr 12 0 [.agg [.int .i64 y.op, .int .i64 y.l, .int .i64 y.r, .int .i64 y.tab, slA (AVal.int .i64) y.cols, .bool y.flag, slA EN.a y.pred, slA (AVal.int .i64) y.keys, slA AggT.a y.aggs, slA ExprT.a y.outs, .imm true ys, .int .i64 y.limit]]]⟩) hlen (fun k a1 a2 e6 => ?_) ?_ (fun k a1 a2 e6 => ?_)
  · have e1 : xs[k]? = some (OrdT.a l[k]) := by rw [← hX]; exact map_get a1
    have e2 : ys[k]? = some (OrdT.a m[k]) := by rw [← hY]; exact map_get a2
    rw [e6] at e1
    have e4 := hf m[k]
    generalize m[k] = x1 at *
    have i1 : ((k : Int) < (l.length : Int)) := by omega
    have i2 : bin .lss (.int .i64 (k : Int)) (.int .i64 (l.length : Int)) = some (.bool true) := by simp [i1]
    have i3 : bin .add (.int .i64 (k : Int)) (.int .i64 1) = some (.int .i64 ((k + 1 : Nat) : Int)) := by simp [wrap_sl a1 hn]
    have e3 := eqa_ord x1 x1
    simp [l_bref13_SameNode_0, -eqa, e1, e2, e4, i1, i2, i3, lX, hz, wrap_sl a1 hn, roundEnd, e3]
  · simp [l_bref13_SameNode_0, lX]; all_goals rfl
  · have e1 : xs[k]? = some (OrdT.a l[k]) := by rw [← hX]; exact map_get a1
    have e2 : ys[k]? = some (OrdT.a m[k]) := by rw [← hY]; exact map_get a2
    have e4 := hf m[k]
    have e5 := hf l[k]
    generalize m[k] = y1 at *
    generalize l[k] = x1 at *
    have i1 : ((k : Int) < (l.length : Int)) := by omega
    have i2 : bin .lss (.int .i64 (k : Int)) (.int .i64 (l.length : Int)) = some (.bool true) := by simp [i1]
    have e3 := eqa_ord x1 y1
    refine ⟨_, by simp [l_bref13_SameNode_0, -eqa, e1, e2, e4, e5, e6, bn e6, bq e6, i1, i2, lX, hz, e3]; rfl, ?_⟩
    rfl
end Go.AM
end
section

namespace Go.AM
open P
set_option maxHeartbeats 8000000
set_option maxRecDepth 8000
theorem node_Same_484 (a b : LNT) : pcall I.bref13_SameNode [a.a, b.a] = some (.bool (decide (a = b))) := by
  rw [pcall_eq c_bref13_SameNode rfl]
  obtain ⟨op, l, r, tb, cs, fl, pr, ks, ag, ou, od, lm⟩ := a
  obtain ⟨op', l', r', tb', cs', fl', pr', ks', ag', ou', od', lm'⟩ := b
  have q1 := loop13a ⟨op, l, r, tb, cs, fl, pr, ks, ag, ou, od, lm⟩ ⟨op', l', r', tb', cs', fl', pr', ks', ag', ou', od', lm'⟩ ag ag'
  have q2 := loop13o ⟨op, l, r, tb, cs, fl, pr, ks, ag, ou, od, lm⟩ ⟨op', l', r', tb', cs', fl', pr', ks', ag', ou', od', lm'⟩ ag.1.length od od'
  obtain ⟨xs, hA, lX⟩ := slA_imm AggT.a ag
  obtain ⟨ys, hB, lY⟩ := slA_imm AggT.a ag'
  obtain ⟨os, hC, lO⟩ := slA_imm OrdT.a od
  obtain ⟨ps, hD, lP⟩ := slA_imm OrdT.a od'
  have k1 := ints_Same_23 cs cs'
  have k2 := ints_Same_23 ks ks'
  have k3 := expr_Same_507 pr pr'
  have k4 := exprs_Same_508 ou ou'
  simp only [ExprT.a] at k3
  simp only [LNT.a, hA, hB, hC, hD] at q1 q2 ⊢
  by_cases hop : op = op'
  rotate_left
  · simp [f_bref13_SameNode, b_bref13_SameNode, lX, lY, lO, lP, hop, bn hop, bq hop]
  subst hop
  by_cases hl : l = l'
  rotate_left
  · simp [f_bref13_SameNode, b_bref13_SameNode, lX, lY, lO, lP, hl, bn hl, bq hl]
  subst hl
  by_cases hr : r = r'
  rotate_left
  · simp [f_bref13_SameNode, b_bref13_SameNode, lX, lY, lO, lP, hr, bn hr, bq hr]
  subst hr
  by_cases htb : tb = tb'
  rotate_left
  · simp [f_bref13_SameNode, b_bref13_SameNode, lX, lY, lO, lP, htb, bn htb, bq htb]
  subst htb
  by_cases hfl : fl = fl'
  rotate_left
  · simp [f_bref13_SameNode, b_bref13_SameNode, lX, lY, lO, lP, hfl, bn hfl, bq hfl]
  subst hfl
  by_cases hlm : lm = lm'
  rotate_left
  · simp [f_bref13_SameNode, b_bref13_SameNode, lX, lY, lO, lP, hlm, bn hlm, bq hlm]
  subst hlm
  by_cases hag : ag.1.length = ag'.1.length
  rotate_left
  · have : ¬ ag = ag' := fun h => hag (by rw [h])
    simp [f_bref13_SameNode, b_bref13_SameNode, lX, lY, lO, lP, this, bne_len hag]
  by_cases hod : od.1.length = od'.1.length
  rotate_left
  · have : ¬ od = od' := fun h => hod (by rw [h])
    simp [f_bref13_SameNode, b_bref13_SameNode, lX, lY, lO, lP, this, hag, bne_len hod]
  by_cases hcs : cs = cs'
  rotate_left
  · simp [f_bref13_SameNode, b_bref13_SameNode, lX, lY, lO, lP, hag, hod, k1, hcs]
  subst hcs
  by_cases hks : ks = ks'
  rotate_left
  · simp [f_bref13_SameNode, b_bref13_SameNode, lX, lY, lO, lP, hag, hod, k1, k2, hks]
  subst hks
  rcases q1 hag with ⟨h1, hl1⟩ | ⟨h1, s1, hl1, hs1⟩
  rotate_left
  · try simp only [hag] at hl1
    simp [f_bref13_SameNode, b_bref13_SameNode, lX, lY, lO, lP, hag, hod, k1, k2, h1, hl1, leave_at hs1]
  rcases q2 hod with ⟨h2, hl2⟩ | ⟨h2, s2, hl2, hs2⟩
  rotate_left
  · simp only [hag, hod] at hl1 hl2
    simp [f_bref13_SameNode, b_bref13_SameNode, lX, lY, lO, lP, hag, hod, k1, k2, h2, hl1, hl2, leave_at hs2]
  simp only [hag, hod] at hl1 hl2
  by_cases hpr : pr = pr'
  rotate_left
  · simp [f_bref13_SameNode, b_bref13_SameNode, lX, lY, lO, lP, hag, hod, k1, k2, hl1, hl2, k3, hpr]
  subst hpr
  by_cases hou : ou = ou'
  · subst hou
    simp [f_bref13_SameNode, b_bref13_SameNode, lX, lY, lO, lP, hag, hod, k1, k2, hl1, hl2, k3, k4, h1, h2]
  · simp [f_bref13_SameNode, b_bref13_SameNode, lX, lY, lO, lP, hag, hod, k1, k2, hl1, hl2, k3, k4, hou]
end Go.AM
end
section

namespace Go.AM
open P
set_option maxHeartbeats 8000000
set_option maxRecDepth 8000
theorem loop13  (a b : SL LNT) (hlen : a.1.length = b.1.length) : (a = b ∧ rounds code 2 [4, 7, 8] l_bref13_Same_0 ⟨[.agg [slA LNT.a a], .agg [slA LNT.a b], .ptr 0 0 0 0, .ptr 1 0 0 0, .any, .int .i64 0, .bool false, .any, .any], [Obj.arr 1 0 [.agg [slA LNT.a a]], Obj.arr 1 0 [.agg [slA LNT.a b]]]⟩ = some (.ext 0, ⟨[.agg [slA LNT.a a], .agg [slA LNT.a b], .ptr 0 0 0 0, .ptr 1 0 0 0, .any, .int .i64 a.1.length, .bool false, .bool false, .any], [Obj.arr 1 0 [.agg [slA LNT.a a]], Obj.arr 1 0 [.agg [slA LNT.a b]]]⟩)) ∨
    (¬ a = b ∧ ∃ s, rounds code 2 [4, 7, 8] l_bref13_Same_0 ⟨[.agg [slA LNT.a a], .agg [slA LNT.a b], .ptr 0 0 0 0, .ptr 1 0 0 0, .any, .int .i64 0, .bool false, .any, .any], [Obj.arr 1 0 [.agg [slA LNT.a a]], Obj.arr 1 0 [.agg [slA LNT.a b]]]⟩ = some (.ret, s) ∧ s.env[4]? = some (.bool false)) := by
  obtain ⟨l, hn⟩ := a
  obtain ⟨m, hm⟩ := b
  simp only [Subtype.mk.injEq]
  have hf : ∀ a : LNT, ncells (LNT.a a) = 12 ∧ isAgg (LNT.a a) = true := fun a => ⟨rfl, rfl⟩
  have hz : ∀ (a : LNT) (top : Bool) (base : Nat) (σ : Store) (n : Nat), fz true top base σ (n + 3) (LNT.a a) = LNT.a a := fun a top base σ n => by simp [LNT.a]
  generalize hX : l.map LNT.a = xs
  generalize hY : m.map LNT.a = ys
  have hA : slA LNT.a ⟨l, hn⟩ = .imm true xs := by simp [slA, hX]
  have hB : slA LNT.a ⟨m, hm⟩ = .imm true ys := by simp [slA, hY]
  have lX : xs.length = l.length := by rw [← hX]; simp
  have lY : ys.length = m.length := by rw [← hY]; simp
  simp only [hA, hB]
  simp only at hlen
  refine same_loop (S := fun k => ⟨[.agg [.imm true xs], .agg [.imm true ys], .ptr 0 0 0 0, .ptr 1 0 0 0, .any, .int .i64 k, .bool false, .any, .any], [Obj.arr 1 0 [.agg [.imm true xs]], Obj.arr 1 0 [.agg [.imm true ys]]]⟩) hlen (fun k a1 a2 e6 => ?_) ?_ (fun k a1 a2 e6 => ?_)
  · have e1 : xs[k]? = some (LNT.a l[k]) := by rw [← hX]; exact map_get a1
    have e2 : ys[k]? = some (LNT.a m[k]) := by rw [← hY]; exact map_get a2
    rw [e6] at e1
    have e4 := hf m[k]
    generalize m[k] = x at *
    have i1 : ((k : Int) < (l.length : Int)) := by omega
    have i2 : bin .lss (.int .i64 (k : Int)) (.int .i64 (l.length : Int)) = some (.bool true) := by simp [i1]
    have i3 : bin .add (.int .i64 (k : Int)) (.int .i64 1) = some (.int .i64 ((k + 1 : Nat) : Int)) := by simp [wrap_sl a1 hn]
    have e3 := node_Same_484 x x
    simp only [LNT.a] at e3
    simp [l_bref13_Same_0, e1, e2, e4, i1, i2, i3, lX, hz, wrap_sl a1 hn, roundEnd, e3, LNT.a]
  · simp [l_bref13_Same_0, lX]; all_goals rfl
  · have e1 : xs[k]? = some (LNT.a l[k]) := by rw [← hX]; exact map_get a1
    have e2 : ys[k]? = some (LNT.a m[k]) := by rw [← hY]; exact map_get a2
    have e4 := hf m[k]
    have e5 := hf l[k]
    generalize m[k] = y at *
    generalize l[k] = x at *
    have i1 : ((k : Int) < (l.length : Int)) := by omega
    have i2 : bin .lss (.int .i64 (k : Int)) (.int .i64 (l.length : Int)) = some (.bool true) := by simp [i1]
    have e3 := node_Same_484 x y
    simp only [LNT.a] at e3
    refine ⟨_, by simp [l_bref13_Same_0, e1, e2, e4, e5, e6, bn e6, bq e6, i1, i2, lX, hz, e3, LNT.a]; rfl, ?_⟩
    rfl
abbrev PlanT := SL LNT
def PlanT.a (p : PlanT) : AVal := .agg [slA LNT.a p]
theorem plan_Same_454 (a b : PlanT) : pcall I.bref13_Same [PlanT.a a, PlanT.a b] = some (.bool (decide (a = b))) := by
  rw [pcall_eq c_bref13_Same rfl]
  obtain ⟨xs, hA, lX⟩ := slA_imm LNT.a a
  obtain ⟨ys, hB, lY⟩ := slA_imm LNT.a b
  simp only [PlanT.a, hA, hB]
  by_cases hlen : a.1.length = b.1.length
  · rcases loop13 a b hlen with ⟨h, hl⟩ | ⟨h, s, hl, hs⟩
    · rw [decide_eq_true h]
      simp only [hA, hB, hlen] at hl
      simp [f_bref13_Same, b_bref13_Same, lX, lY, hlen, hl]
    · rw [decide_eq_false h]
      simp only [hA, hB, hlen] at hl
      simp [f_bref13_Same, b_bref13_Same, lX, lY, hlen, hl, leave_at hs]
  · have : ¬ a = b := fun h => hlen (by rw [h])
    simp [f_bref13_Same, b_bref13_Same, lX, lY, bne_len hlen, this]
theorem loop18  (a b : SL FragT) (hlen : a.1.length = b.1.length) : (a = b ∧ rounds code 2 [4, 5, 6, 7, 12, 13] l_bref18_Same_0 ⟨[.agg [slA FragT.a a], .agg [slA FragT.a b], .ptr 0 0 0 0, .ptr 1 0 0 0, .any, .any, .any, .any, .bool false, slA FragT.a a, .int .i64 a.1.length, .int .i64 0, .any, .any], [Obj.arr 1 0 [.agg [slA FragT.a a]], Obj.arr 1 0 [.agg [slA FragT.a b]]]⟩ = some (.ext 0, ⟨[.agg [slA FragT.a a], .agg [slA FragT.a b], .ptr 0 0 0 0, .ptr 1 0 0 0, .any, .any, .any, .any, .bool false, slA FragT.a a, .int .i64 a.1.length, .int .i64 a.1.length, .bool false, .any], [Obj.arr 1 0 [.agg [slA FragT.a a]], Obj.arr 1 0 [.agg [slA FragT.a b]]]⟩)) ∨
    (¬ a = b ∧ ∃ s, rounds code 2 [4, 5, 6, 7, 12, 13] l_bref18_Same_0 ⟨[.agg [slA FragT.a a], .agg [slA FragT.a b], .ptr 0 0 0 0, .ptr 1 0 0 0, .any, .any, .any, .any, .bool false, slA FragT.a a, .int .i64 a.1.length, .int .i64 0, .any, .any], [Obj.arr 1 0 [.agg [slA FragT.a a]], Obj.arr 1 0 [.agg [slA FragT.a b]]]⟩ = some (.ret, s) ∧ s.env[4]? = some (.bool false)) := by
  obtain ⟨l, hn⟩ := a
  obtain ⟨m, hm⟩ := b
  simp only [Subtype.mk.injEq]
  have hf : ∀ a : FragT, ncells (FragT.a a) = 4 ∧ isAgg (FragT.a a) = true := fun a => ⟨rfl, rfl⟩
  have hz : ∀ (a : FragT) (top : Bool) (base : Nat) (σ : Store) (n : Nat), fz true top base σ (n + 3) (FragT.a a) = FragT.a a := fun a top base σ n => by simp [FragT.a, FragT.c]
  generalize hX : l.map FragT.a = xs
  generalize hY : m.map FragT.a = ys
  have hA : slA FragT.a ⟨l, hn⟩ = .imm true xs := by simp [slA, hX]
  have hB : slA FragT.a ⟨m, hm⟩ = .imm true ys := by simp [slA, hY]
  have lX : xs.length = l.length := by rw [← hX]; simp
  have lY : ys.length = m.length := by rw [← hY]; simp
  simp only [hA, hB]
  simp only at hlen
  refine same_loop (S := fun k => ⟨[.agg [.imm true xs], .agg [.imm true ys], .ptr 0 0 0 0, .ptr 1 0 0 0, .any, .any, .any, .any, .bool false, .imm true xs, .int .i64 l.length, .int .i64 k, .any, .any], [Obj.arr 1 0 [.agg [.imm true xs]], Obj.arr 1 0 [.agg [.imm true ys]]]⟩) hlen (fun k a1 a2 e6 => ?_) ?_ (fun k a1 a2 e6 => ?_)
  · have e1 : xs[k]? = some (FragT.a l[k]) := by rw [← hX]; exact map_get a1
    have e2 : ys[k]? = some (FragT.a m[k]) := by rw [← hY]; exact map_get a2
    rw [e6] at e1
    have e4 := hf m[k]
    generalize m[k] = x at *
    have i1 : ((k : Int) < (l.length : Int)) := by omega
    have i2 : bin .lss (.int .i64 (k : Int)) (.int .i64 (l.length : Int)) = some (.bool true) := by simp [i1]
    have i3 : bin .add (.int .i64 (k : Int)) (.int .i64 1) = some (.int .i64 ((k + 1 : Nat) : Int)) := by simp [wrap_sl a1 hn]
    have e3 := ints_Same_23 x.cols x.cols
    have e8 := plan_Same_454 x.nodes x.nodes
    simp only [PlanT.a] at e8
    simp [l_bref18_Same_0, e1, e2, e4, i1, i2, i3, lX, hz, wrap_sl a1 hn, roundEnd, e3, e8, FragT.a, FragT.c, freezeObj, freeze, fuel]
  · simp [l_bref18_Same_0, lX]; all_goals rfl
  · have e1 : xs[k]? = some (FragT.a l[k]) := by rw [← hX]; exact map_get a1
    have e2 : ys[k]? = some (FragT.a m[k]) := by rw [← hY]; exact map_get a2
    have e4 := hf m[k]
    have e5 := hf l[k]
    generalize m[k] = y at *
    generalize l[k] = x at *
    have i1 : ((k : Int) < (l.length : Int)) := by omega
    have i2 : bin .lss (.int .i64 (k : Int)) (.int .i64 (l.length : Int)) = some (.bool true) := by simp [i1]
    obtain ⟨n1, a1', w1, c1⟩ := x
    obtain ⟨n2, a2', w2, c2⟩ := y
    have e3 := ints_Same_23 c1 c2
    have e8 := plan_Same_454 n1 n2
    simp only [PlanT.a] at e8
    by_cases ha : a1' = a2'
    · subst ha
      by_cases hw : w1 = w2
      · subst hw
        by_cases hc : c1 = c2
        · subst hc
          have hn : ¬ n1 = n2 := fun h => e6 (by rw [h])
          refine ⟨_, by simp [l_bref18_Same_0, e1, e2, e4, e5, i1, i2, lX, FragT.a, FragT.c, e3, e8, hn]; rfl, ?_⟩
          rfl
        · refine ⟨_, by simp [l_bref18_Same_0, e1, e2, e4, e5, i1, i2, lX, FragT.a, FragT.c, e3, hc]; rfl, ?_⟩
          rfl
      · refine ⟨_, by simp [l_bref18_Same_0, e1, e2, e4, e5, i1, i2, lX, FragT.a, FragT.c, bn hw, bq hw]; rfl, ?_⟩
        rfl
    · refine ⟨_, by simp [l_bref18_Same_0, e1, e2, e4, e5, i1, i2, lX, FragT.a, FragT.c, bn ha, bq ha]; rfl, ?_⟩
      rfl
abbrev CutT := SL FragT
def CutT.a (p : CutT) : AVal := .agg [slA FragT.a p]
theorem cut_Same_429 (a b : CutT) : pcall I.bref18_Same [CutT.a a, CutT.a b] = some (.bool (decide (a = b))) := by
  rw [pcall_eq c_bref18_Same rfl]
  obtain ⟨xs, hA, lX⟩ := slA_imm FragT.a a
  obtain ⟨ys, hB, lY⟩ := slA_imm FragT.a b
  simp only [CutT.a, hA, hB]
  by_cases hlen : a.1.length = b.1.length
  · rcases loop18 a b hlen with ⟨h, hl⟩ | ⟨h, s, hl, hs⟩
    · rw [decide_eq_true h]
      simp only [hA, hB, hlen] at hl
      simp [f_bref18_Same, b_bref18_Same, lX, lY, hlen, hl]
    · rw [decide_eq_false h]
      simp only [hA, hB, hlen] at hl
      simp [f_bref18_Same, b_bref18_Same, lX, lY, hlen, hl, leave_at hs]
  · have : ¬ a = b := fun h => hlen (by rw [h])
    simp [f_bref18_Same, b_bref18_Same, lX, lY, bne_len hlen, this]
end Go.AM
end
section

namespace Go.AM
open P
set_option maxHeartbeats 8000000
set_option maxRecDepth 8000
theorem sender_Same_430 (x y : SndT) : pcall I.bref22_SameSender [.agg x.c, .agg y.c] = some (.bool (decide (x = y))) := by
  rw [pcall_eq c_bref22_SameSender rfl]
  obtain ⟨s, b, q, n, l, t, e⟩ := x
  obtain ⟨s', b', q', n', l', t', e'⟩ := y
  have k1 := batches_Same_452 q q'
  by_cases h0 : s = s'
  · subst h0
    by_cases h1 : b = b'
    · subst h1
      by_cases h2 : n = n'
      · subst h2
        by_cases h3 : l = l'
        · subst h3
          by_cases h4 : t = t'
          · subst h4
            by_cases h5 : e = e'
            · subst h5
              by_cases h6 : q = q'
              · subst h6
                simp [f_bref22_SameSender, b_bref22_SameSender, SndT.c, k1]
              · simp [f_bref22_SameSender, b_bref22_SameSender, SndT.c, k1, h6, bq h6]
            · simp [f_bref22_SameSender, b_bref22_SameSender, SndT.c, h5, bq h5]
          · simp [f_bref22_SameSender, b_bref22_SameSender, SndT.c, h4, bq h4]
        · simp [f_bref22_SameSender, b_bref22_SameSender, SndT.c, h3, bq h3]
      · simp [f_bref22_SameSender, b_bref22_SameSender, SndT.c, h2, bq h2]
    · simp [f_bref22_SameSender, b_bref22_SameSender, SndT.c, h1, bq h1]
  · simp [f_bref22_SameSender, b_bref22_SameSender, SndT.c, h0, bq h0]
theorem loop22 (x y : RcvT) (a b : SL HeldT) (hlen : a.1.length = b.1.length) : (a = b ∧ rounds code 2 [4, 5, 9, 10] l_bref22_SameReceiver_0 ⟨[.agg [.int .u32 x.session, .int .u64 x.next, slA HeldT.a a, slA BatchT.a x.buffer, .int .i64 x.room, .bool x.over], .agg [.int .u32 y.session, .int .u64 y.next, slA HeldT.a b, slA BatchT.a y.buffer, .int .i64 y.room, .bool y.over], .ptr 0 0 0 0, .ptr 1 0 0 0, .any, .any, .bool false, .int .i64 a.1.length, .int .i64 0, .any, .any], [Obj.arr 6 0 [.agg [.int .u32 x.session, .int .u64 x.next, slA HeldT.a a, slA BatchT.a x.buffer, .int .i64 x.room, .bool x.over]], Obj.arr 6 0 [.agg [.int .u32 y.session, .int .u64 y.next, slA HeldT.a b, slA BatchT.a y.buffer, .int .i64 y.room, .bool y.over]]]⟩ = some (.ext 0, ⟨[.agg [.int .u32 x.session, .int .u64 x.next, slA HeldT.a a, slA BatchT.a x.buffer, .int .i64 x.room, .bool x.over], .agg [.int .u32 y.session, .int .u64 y.next, slA HeldT.a b, slA BatchT.a y.buffer, .int .i64 y.room, .bool y.over], .ptr 0 0 0 0, .ptr 1 0 0 0, .any, .any, .bool false, .int .i64 a.1.length, .int .i64 a.1.length, .bool false, .any], [Obj.arr 6 0 [.agg [.int .u32 x.session, .int .u64 x.next, slA HeldT.a a, slA BatchT.a x.buffer, .int .i64 x.room, .bool x.over]], Obj.arr 6 0 [.agg [.int .u32 y.session, .int .u64 y.next, slA HeldT.a b, slA BatchT.a y.buffer, .int .i64 y.room, .bool y.over]]]⟩)) ∨
    (¬ a = b ∧ ∃ s, rounds code 2 [4, 5, 9, 10] l_bref22_SameReceiver_0 ⟨[.agg [.int .u32 x.session, .int .u64 x.next, slA HeldT.a a, slA BatchT.a x.buffer, .int .i64 x.room, .bool x.over], .agg [.int .u32 y.session, .int .u64 y.next, slA HeldT.a b, slA BatchT.a y.buffer, .int .i64 y.room, .bool y.over], .ptr 0 0 0 0, .ptr 1 0 0 0, .any, .any, .bool false, .int .i64 a.1.length, .int .i64 0, .any, .any], [Obj.arr 6 0 [.agg [.int .u32 x.session, .int .u64 x.next, slA HeldT.a a, slA BatchT.a x.buffer, .int .i64 x.room, .bool x.over]], Obj.arr 6 0 [.agg [.int .u32 y.session, .int .u64 y.next, slA HeldT.a b, slA BatchT.a y.buffer, .int .i64 y.room, .bool y.over]]]⟩ = some (.ret, s) ∧ s.env[4]? = some (.bool false)) := by
  obtain ⟨l, hn⟩ := a
  obtain ⟨m, hm⟩ := b
  simp only [Subtype.mk.injEq]
  have hf : ∀ a : HeldT, ncells (HeldT.a a) = 4 ∧ isAgg (HeldT.a a) = true := fun a => ⟨rfl, rfl⟩
  have hz : ∀ (a : HeldT) (top : Bool) (base : Nat) (σ : Store) (n : Nat), fz true top base σ (n + 3) (HeldT.a a) = HeldT.a a := fun a top base σ n => by simp [HeldT.a]
  generalize hX : l.map HeldT.a = xs
  generalize hY : m.map HeldT.a = ys
  have hA : slA HeldT.a ⟨l, hn⟩ = .imm true xs := by simp [slA, hX]
  have hB : slA HeldT.a ⟨m, hm⟩ = .imm true ys := by simp [slA, hY]
  have lX : xs.length = l.length := by rw [← hX]; simp
  have lY : ys.length = m.length := by rw [← hY]; simp
  simp only [hA, hB]
  simp only at hlen
  refine same_loop (S := fun k => ⟨[.agg [.int .u32 x.session, .int .u64 x.next, .imm true xs, slA BatchT.a x.buffer, .int .i64 x.room, .bool x.over], .agg [.int .u32 y.session, .int .u64 y.next, .imm true ys, slA BatchT.a y.buffer, .int .i64 y.room, .bool y.over], .ptr 0 0 0 0, .ptr 1 0 0 0, .any, .any, .bool false, .int .i64 l.length, .int .i64 k, .any, .any], [Obj.arr 6 0 [.agg [.int .u32 x.session, .int .u64 x.next, .imm true xs, slA BatchT.a x.buffer, .int .i64 x.room, .bool x.over]], Obj.arr 6 0 [.agg [.int .u32 y.session, .int .u64 y.next, .imm true ys, slA BatchT.a y.buffer, .int .i64 y.room, .bool y.over]]]⟩) hlen (fun k a1 a2 e6 => ?_) ?_ (fun k a1 a2 e6 => ?_)
  · have e1 : xs[k]? = some (HeldT.a l[k]) := by rw [← hX]; exact map_get a1
    have e2 : ys[k]? = some (HeldT.a m[k]) := by rw [← hY]; exact map_get a2
    rw [e6] at e1
    have e4 := hf m[k]
    generalize m[k] = x1 at *
    have i1 : ((k : Int) < (l.length : Int)) := by omega
    have i2 : bin .lss (.int .i64 (k : Int)) (.int .i64 (l.length : Int)) = some (.bool true) := by simp [i1]
    have i3 : bin .add (.int .i64 (k : Int)) (.int .i64 1) = some (.int .i64 ((k + 1 : Nat) : Int)) := by simp [wrap_sl a1 hn]
    have e3 := batch_Same_453 x1.batch x1.batch
    simp only [BatchT.a] at e3
    simp [l_bref22_SameReceiver_0, e1, e2, e4, i1, i2, i3, lX, hz, wrap_sl a1 hn, roundEnd, e3, HeldT.a]
  · simp [l_bref22_SameReceiver_0, lX]; all_goals rfl
  · have e1 : xs[k]? = some (HeldT.a l[k]) := by rw [← hX]; exact map_get a1
    have e2 : ys[k]? = some (HeldT.a m[k]) := by rw [← hY]; exact map_get a2
    have e4 := hf m[k]
    have e5 := hf l[k]
    generalize m[k] = y1 at *
    generalize l[k] = x1 at *
    have i1 : ((k : Int) < (l.length : Int)) := by omega
    have i2 : bin .lss (.int .i64 (k : Int)) (.int .i64 (l.length : Int)) = some (.bool true) := by simp [i1]
    obtain ⟨q1, b1⟩ := x1
    obtain ⟨q2, b2⟩ := y1
    have e3 := batch_Same_453 b1 b2
    simp only [BatchT.a] at e3
    by_cases hq : q1 = q2
    · subst hq
      have hb : ¬ b1 = b2 := fun h => e6 (by rw [h])
      refine ⟨_, by simp [l_bref22_SameReceiver_0, e1, e2, e4, e5, i1, i2, lX, HeldT.a, e3, hb]; rfl, ?_⟩
      rfl
    · refine ⟨_, by simp [l_bref22_SameReceiver_0, e1, e2, e4, e5, i1, i2, lX, HeldT.a, bn hq, bq hq]; rfl, ?_⟩
      rfl
theorem receiver_Same_432 (x y : RcvT) : pcall I.bref22_SameReceiver [.agg x.c, .agg y.c] = some (.bool (decide (x = y))) := by
  rw [pcall_eq c_bref22_SameReceiver rfl]
  obtain ⟨s, n, d, u, r, o⟩ := x
  obtain ⟨s', n', d', u', r', o'⟩ := y
  have q1 := loop22 ⟨s, n, d, u, r, o⟩ ⟨s', n', d', u', r', o'⟩ d d'
  have k1 := batches_Same_452 u u'
  obtain ⟨xs, hA, lX⟩ := slA_imm HeldT.a d
  obtain ⟨ys, hB, lY⟩ := slA_imm HeldT.a d'
  simp only [RcvT.c, hA, hB] at q1 ⊢
  by_cases hs : s = s'
  rotate_left
  · simp [f_bref22_SameReceiver, b_bref22_SameReceiver, lX, lY, hs, bn hs, bq hs]
  subst hs
  by_cases hn : n = n'
  rotate_left
  · simp [f_bref22_SameReceiver, b_bref22_SameReceiver, lX, lY, hn, bn hn, bq hn]
  subst hn
  by_cases hr : r = r'
  rotate_left
  · simp [f_bref22_SameReceiver, b_bref22_SameReceiver, lX, lY, hr, bn hr, bq hr]
  subst hr
  by_cases ho : o = o'
  rotate_left
  · simp [f_bref22_SameReceiver, b_bref22_SameReceiver, lX, lY, ho, bn ho, bq ho]
  subst ho
  by_cases hd : d.1.length = d'.1.length
  rotate_left
  · have : ¬ d = d' := fun h => hd (by rw [h])
    simp [f_bref22_SameReceiver, b_bref22_SameReceiver, lX, lY, this, bne_len hd]
  rcases q1 hd with ⟨h1, hl1⟩ | ⟨h1, s1, hl1, hs1⟩
  rotate_left
  · simp only [hd] at hl1
    simp [f_bref22_SameReceiver, b_bref22_SameReceiver, lX, lY, hd, h1, hl1, leave_at hs1]
  simp only [hd] at hl1
  by_cases hu : u = u'
  · subst hu
    simp [f_bref22_SameReceiver, b_bref22_SameReceiver, lX, lY, hd, hl1, k1, h1]
  · simp [f_bref22_SameReceiver, b_bref22_SameReceiver, lX, lY, hd, hl1, k1, hu]
theorem loop21i (xs0 ys0 : List AVal) (k0 : Nat) (a b : SL Val) (hlen : a.1.length = b.1.length) (hx : xs0[k0]? = some (slA Val.a a)) (hy : ys0[k0]? = some (slA Val.a b)) : (a = b ∧ rounds code 0 [2, 8, 9] l_bref21_Same_0 ⟨[.imm true xs0, .imm true ys0, .any, .int .i64 (k0 : Nat), .int .i64 0, .bool false, .bool true, .bool false, .any, .any], []⟩ = some (.ext 2, ⟨[.imm true xs0, .imm true ys0, .any, .int .i64 (k0 : Nat), .int .i64 a.1.length, .bool false, .bool true, .bool false, .bool false, .any], []⟩)) ∨
    (¬ a = b ∧ ∃ s, rounds code 0 [2, 8, 9] l_bref21_Same_0 ⟨[.imm true xs0, .imm true ys0, .any, .int .i64 (k0 : Nat), .int .i64 0, .bool false, .bool true, .bool false, .any, .any], []⟩ = some (.ret, s) ∧ s.env[2]? = some (.bool false)) := by
  obtain ⟨l, hn⟩ := a
  obtain ⟨m, hm⟩ := b
  simp only [Subtype.mk.injEq]
  have hf : ∀ a : Val, ncells (Val.a a) = 4 ∧ isAgg (Val.a a) = true := fun a => ⟨rfl, rfl⟩
  have hz : ∀ (a : Val) (top : Bool) (base : Nat) (σ : Store) (n : Nat), fz true top base σ (n + 3) (Val.a a) = Val.a a := fun a top base σ n => by simp [Val.a]
  generalize hX : l.map Val.a = xs
  generalize hY : m.map Val.a = ys
  have hA : slA Val.a ⟨l, hn⟩ = .imm true xs := by simp [slA, hX]
  have hB : slA Val.a ⟨m, hm⟩ = .imm true ys := by simp [slA, hY]
  have lX : xs.length = l.length := by rw [← hX]; simp
  have lY : ys.length = m.length := by rw [← hY]; simp
  simp only [hA, hB] at hx hy
  simp only at hlen
  refine same_loop (S := fun k => ⟨[.imm true xs0, .imm true ys0, .any, .int .i64 (k0 : Nat), .int .i64 k, .bool false, .bool true, .bool false, .any, .any], []⟩) hlen (fun k a1 a2 e6 => ?_) ?_ (fun k a1 a2 e6 => ?_)
  · have e1 : xs[k]? = some (Val.a l[k]) := by rw [← hX]; exact map_get a1
    have e2 : ys[k]? = some (Val.a m[k]) := by rw [← hY]; exact map_get a2
    rw [e6] at e1
    have e4 := hf m[k]
    generalize m[k] = x at *
    have i1 : ((k : Int) < (l.length : Int)) := by omega
    have i2 : bin .lss (.int .i64 (k : Int)) (.int .i64 (l.length : Int)) = some (.bool true) := by simp [i1]
    have i3 : bin .add (.int .i64 (k : Int)) (.int .i64 1) = some (.int .i64 ((k + 1 : Nat) : Int)) := by simp [wrap_sl a1 hn]
    have e3 := eqa_val x x
    simp [l_bref21_Same_0, -eqa, e1, e2, e4, i1, i2, i3, lX, hz, wrap_sl a1 hn, roundEnd, e3, hx, hy]
  · simp [l_bref21_Same_0, lX, hx, hy]; all_goals rfl
  · have e1 : xs[k]? = some (Val.a l[k]) := by rw [← hX]; exact map_get a1
    have e2 : ys[k]? = some (Val.a m[k]) := by rw [← hY]; exact map_get a2
    have e4 := hf m[k]
    have e5 := hf l[k]
    generalize m[k] = y at *
    generalize l[k] = x at *
    have i1 : ((k : Int) < (l.length : Int)) := by omega
    have i2 : bin .lss (.int .i64 (k : Int)) (.int .i64 (l.length : Int)) = some (.bool true) := by simp [i1]
    have e3 := eqa_val x y
    refine ⟨_, by simp [l_bref21_Same_0, -eqa, e1, e2, e4, e5, e6, bn e6, bq e6, i1, i2, lX, hz, e3, hx, hy]; rfl, ?_⟩
    rfl
theorem rows_Same_431 (a b : SL RowT) : pcall I.bref21_Same [slA RowT.a a, slA RowT.a b] = some (.bool (decide (a = b))) := by
  rw [pcall_eq c_bref21_Same rfl, ← sl_dec]
  obtain ⟨l, hn⟩ := a
  obtain ⟨m, hm⟩ := b
  simp only [slA]
  generalize hX : l.map RowT.a = xs
  generalize hY : m.map RowT.a = ys
  have lX : xs.length = l.length := by rw [← hX]; simp
  have lY : ys.length = m.length := by rw [← hY]; simp
  by_cases hlen : l.length = m.length
  · have hloop := same_loop (l := l) (m := m) (base := 0) (clr := [2, 4, 6, 7, 8, 9]) (b := l_bref21_Same_1) (j := 2) (S := fun k => ⟨[.imm true xs, .imm true ys, .any, .int .i64 k, .any, .bool false, .any, .any, .any, .any], []⟩)
      (E := (.ext 0, ⟨[.imm true xs, .imm true ys, .any, .int .i64 l.length, .any, .bool false, .bool false, .any, .any, .any], []⟩)) hlen (fun k a1 a2 e6 => by
        have e1 : xs[k]? = some (slA Val.a l[k]) := by rw [← hX]; exact map_get a1
        have e2 : ys[k]? = some (slA Val.a m[k]) := by rw [← hY]; exact map_get a2
        have hi := loop21i xs ys k l[k] m[k] (by rw [e6]) e1 e2
        rw [e6] at e1 hi
        generalize m[k] = x at *
        obtain ⟨zs, hZ, lZ⟩ := slA_imm Val.a x
        rw [hZ] at e1 e2
        have i1 : ((k : Int) < (l.length : Int)) := by omega
        rcases hi with ⟨_, hi⟩ | ⟨h, _⟩
        · simp [l_bref21_Same_1, e1, e2, i1, lX, lZ, hi, wrap_sl a1 hn, roundEnd]
        · exact absurd rfl h) (by simp [l_bref21_Same_1, lX]) (fun k a1 a2 e6 => by
        have e1 : xs[k]? = some (slA Val.a l[k]) := by rw [← hX]; exact map_get a1
        have e2 : ys[k]? = some (slA Val.a m[k]) := by rw [← hY]; exact map_get a2
        have i1 : ((k : Int) < (l.length : Int)) := by omega
        have hi : l[k].1.length = m[k].1.length → _ := fun hh => loop21i xs ys k l[k] m[k] hh e1 e2
        generalize m[k] = y at *
        generalize l[k] = x at *
        obtain ⟨zs, hZ, lZ⟩ := slA_imm Val.a x
        obtain ⟨ws, hW, lW⟩ := slA_imm Val.a y
        rw [hZ] at e1
        rw [hW] at e2
        by_cases hl : x.1.length = y.1.length
        · rcases hi hl with ⟨h, _⟩ | ⟨_, s, hi, hs⟩
          · exact absurd h e6
          · exact ⟨s, by simp [l_bref21_Same_1, e1, e2, i1, lX, lZ, lW, hl, hi], hs⟩
        · refine ⟨_, by simp [l_bref21_Same_1, e1, e2, i1, lX, lZ, lW, bne_len hl]; rfl, ?_⟩
          rfl)
    rcases hloop with ⟨h, hl⟩ | ⟨h, s, hl, hs⟩
    · rw [decide_eq_true h]
      simp [hlen] at hl
      simp [f_bref21_Same, b_bref21_Same, lX, lY, hlen, hl]
    · rw [decide_eq_false h]
      simp at hl
      simp [f_bref21_Same, b_bref21_Same, lX, lY, hlen, hl, leave_at hs]
  · have hne : decide (l = m) = false := decide_eq_false fun e => hlen (congrArg List.length e)
    rw [hne]
    simp [f_bref21_Same, b_bref21_Same, lX, lY, bne_len hlen]
end Go.AM
end
section

namespace Go.AM
open P
set_option maxHeartbeats 8000000
set_option maxRecDepth 8000
theorem loop25i (x y : TaskT) (a b : SL InT) (hlen : a.1.length = b.1.length) : (a = b ∧ rounds code 2 [4, 6, 7, 13, 14] l_bref25_Same_1 ⟨[.agg [.int .i64 x.epoch, .int .i64 x.sites, .int .i64 x.number, .int .i64 x.node, slA LNT.a x.frag.nodes, .int .i64 x.frag.at', .int .i64 x.frag.way, slA (AVal.int .i64) x.frag.cols, .int .i64 x.state, slA InT.a a, slA OutT.a x.outs, slA RowT.a x.rows, .int .i64 x.err], .agg [.int .i64 y.epoch, .int .i64 y.sites, .int .i64 y.number, .int .i64 y.node, slA LNT.a y.frag.nodes, .int .i64 y.frag.at', .int .i64 y.frag.way, slA (AVal.int .i64) y.frag.cols, .int .i64 y.state, slA InT.a b, slA OutT.a y.outs, slA RowT.a y.rows, .int .i64 y.err], .ptr 0 0 0 0, .ptr 1 0 0 0, .any, .int .i64 0, .any, .any, .any, .any, .any, .bool false, .bool false, .any, .any, .any, .any], [Obj.arr 13 0 [.agg [.int .i64 x.epoch, .int .i64 x.sites, .int .i64 x.number, .int .i64 x.node, slA LNT.a x.frag.nodes, .int .i64 x.frag.at', .int .i64 x.frag.way, slA (AVal.int .i64) x.frag.cols, .int .i64 x.state, slA InT.a a, slA OutT.a x.outs, slA RowT.a x.rows, .int .i64 x.err]], Obj.arr 13 0 [.agg [.int .i64 y.epoch, .int .i64 y.sites, .int .i64 y.number, .int .i64 y.node, slA LNT.a y.frag.nodes, .int .i64 y.frag.at', .int .i64 y.frag.way, slA (AVal.int .i64) y.frag.cols, .int .i64 y.state, slA InT.a b, slA OutT.a y.outs, slA RowT.a y.rows, .int .i64 y.err]]]⟩ = some (.ext 0, ⟨[.agg [.int .i64 x.epoch, .int .i64 x.sites, .int .i64 x.number, .int .i64 x.node, slA LNT.a x.frag.nodes, .int .i64 x.frag.at', .int .i64 x.frag.way, slA (AVal.int .i64) x.frag.cols, .int .i64 x.state, slA InT.a a, slA OutT.a x.outs, slA RowT.a x.rows, .int .i64 x.err], .agg [.int .i64 y.epoch, .int .i64 y.sites, .int .i64 y.number, .int .i64 y.node, slA LNT.a y.frag.nodes, .int .i64 y.frag.at', .int .i64 y.frag.way, slA (AVal.int .i64) y.frag.cols, .int .i64 y.state, slA InT.a b, slA OutT.a y.outs, slA RowT.a y.rows, .int .i64 y.err], .ptr 0 0 0 0, .ptr 1 0 0 0, .any, .int .i64 a.1.length, .any, .any, .any, .any, .any, .bool false, .bool false, .bool false, .any, .any, .any], [Obj.arr 13 0 [.agg [.int .i64 x.epoch, .int .i64 x.sites, .int .i64 x.number, .int .i64 x.node, slA LNT.a x.frag.nodes, .int .i64 x.frag.at', .int .i64 x.frag.way, slA (AVal.int .i64) x.frag.cols, .int .i64 x.state, slA InT.a a, slA OutT.a x.outs, slA RowT.a x.rows, .int .i64 x.err]], Obj.arr 13 0 [.agg [.int .i64 y.epoch, .int .i64 y.sites, .int .i64 y.number, .int .i64 y.node, slA LNT.a y.frag.nodes, .int .i64 y.frag.at', .int .i64 y.frag.way, slA (AVal.int .i64) y.frag.cols, .int .i64 y.state, slA InT.a b, slA OutT.a y.outs, slA RowT.a y.rows, .int .i64 y.err]]]⟩)) ∨
    (¬ a = b ∧ ∃ s, rounds code 2 [4, 6, 7, 13, 14] l_bref25_Same_1 ⟨[.agg [.int .i64 x.epoch, .int .i64 x.sites, .int .i64 x.number, .int .i64 x.node, slA LNT.a x.frag.nodes, .int .i64 x.frag.at', .int .i64 x.frag.way, slA (AVal.int .i64) x.frag.cols, .int .i64 x.state, slA InT.a a, slA OutT.a x.outs, slA RowT.a x.rows, .int .i64 x.err], .agg [.int .i64 y.epoch, .int .i64 y.sites, .int .i64 y.number, .int .i64 y.node, slA LNT.a y.frag.nodes, .int .i64 y.frag.at', .int .i64 y.frag.way, slA (AVal.int .i64) y.frag.cols, .int .i64 y.state, slA InT.a b, slA OutT.a y.outs, slA RowT.a y.rows, .int .i64 y.err], .ptr 0 0 0 0, .ptr 1 0 0 0, .any, .int .i64 0, .any, .any, .any, .any, .any, .bool false, .bool false, .any, .any, .any, .any], [Obj.arr 13 0 [.agg [.int .i64 x.epoch, .int .i64 x.sites, .int .i64 x.number, .int .i64 x.node, slA LNT.a x.frag.nodes, .int .i64 x.frag.at', .int .i64 x.frag.way, slA (AVal.int .i64) x.frag.cols, .int .i64 x.state, slA InT.a a, slA OutT.a x.outs, slA RowT.a x.rows, .int .i64 x.err]], Obj.arr 13 0 [.agg [.int .i64 y.epoch, .int .i64 y.sites, .int .i64 y.number, .int .i64 y.node, slA LNT.a y.frag.nodes, .int .i64 y.frag.at', .int .i64 y.frag.way, slA (AVal.int .i64) y.frag.cols, .int .i64 y.state, slA InT.a b, slA OutT.a y.outs, slA RowT.a y.rows, .int .i64 y.err]]]⟩ = some (.ret, s) ∧ s.env[4]? = some (.bool false)) := by
  obtain ⟨l, hn⟩ := a
  obtain ⟨m, hm⟩ := b
  simp only [Subtype.mk.injEq]
  have hf : ∀ a : InT, ncells (InT.a a) = 9 ∧ isAgg (InT.a a) = true := fun a => ⟨rfl, rfl⟩
  have hz : ∀ (a : InT) (top : Bool) (base : Nat) (σ : Store) (n : Nat), fz true top base σ (n + 3) (InT.a a) = InT.a a := fun a top base σ n => by simp [InT.a]
  generalize hX : l.map InT.a = xs
  generalize hY : m.map InT.a = ys
  have hA : slA InT.a ⟨l, hn⟩ = .imm true xs := by simp [slA, hX]
  have hB : slA InT.a ⟨m, hm⟩ = .imm true ys := by simp [slA, hY]
  have lX : xs.length = l.length := by rw [← hX]; simp
  have lY : ys.length = m.length := by rw [← hY]; simp
  simp only [hA, hB]
  simp only at hlen
  refine same_loop (S := fun k => ⟨[.agg [.int .i64 x.epoch, .int .i64 x.sites, .int .i64 x.number, .int .i64 x.node, slA LNT.a x.frag.nodes, .int .i64 x.frag.at', .int .i64 x.frag.way, slA (AVal.int .i64) x.frag.cols, .int .i64 x.state, .imm true xs, slA OutT.a x.outs, slA RowT.a x.rows, .int .i64 x.err], .agg [.int .i64 y.epoch, .int .i64 y.sites, .int .i64 y.number, .int .i64 y.node, slA LNT.a y.frag.nodes, .int .i64 y.frag.at', .int .i64 y.frag.way, slA (AVal.int .i64) y.frag.cols, .int .i64 y.state, .imm true ys, slA OutT.a y.outs, slA RowT.a y.rows, .int .i64 y.err], .ptr 0 0 0 0, .ptr 1 0 0 0, .any, .int .i64 k, .any, .any, .any, .any, .any, .bool false, .bool false, .any, .any, .any, .any], [Obj.arr 13 0 [.agg [.int .i64 x.epoch, .int .i64 x.sites, .int .i64 x.number, .int .i64 x.node, slA LNT.a x.frag.nodes, .int .i64 x.frag.at', .int .i64 x.frag.way, slA (AVal.int .i64) x.frag.cols, .int .i64 x.state, .imm true xs, slA OutT.a x.outs, slA RowT.a x.rows, .int .i64 x.err]], Obj.arr 13 0 [.agg [.int .i64 y.epoch, .int .i64 y.sites, .int .i64 y.number, .int .i64 y.node, slA LNT.a y.frag.nodes, .int .i64 y.frag.at', .int .i64 y.frag.way, slA (AVal.int .i64) y.frag.cols, .int .i64 y.state, .imm true ys, slA OutT.a y.outs, slA RowT.a y.rows, .int .i64 y.err]]]⟩) hlen (fun k a1 a2 e6 => ?_) ?_ (fun k a1 a2 e6 => ?_)
  · have e1 : xs[k]? = some (InT.a l[k]) := by rw [← hX]; exact map_get a1
    have e2 : ys[k]? = some (InT.a m[k]) := by rw [← hY]; exact map_get a2
    rw [e6] at e1
    have e4 := hf m[k]
    generalize m[k] = x1 at *
    have i1 : ((k : Int) < (l.length : Int)) := by omega
    have i2 : bin .lss (.int .i64 (k : Int)) (.int .i64 (l.length : Int)) = some (.bool true) := by simp [i1]
    have i3 : bin .add (.int .i64 (k : Int)) (.int .i64 1) = some (.int .i64 ((k + 1 : Nat) : Int)) := by simp [wrap_sl a1 hn]
    have e3 := receiver_Same_432 x1.rcv x1.rcv
    have e8 := rows_Same_431 x1.rows x1.rows
    simp only [RcvT.c] at e3
    simp [l_bref25_Same_1, e1, e2, e4, i1, i2, i3, lX, hz, wrap_sl a1 hn, roundEnd, e3, e8, InT.a, freezeObj, freeze, fuel]
  · simp [l_bref25_Same_1, lX]; all_goals rfl
  · have e1 : xs[k]? = some (InT.a l[k]) := by rw [← hX]; exact map_get a1
    have e2 : ys[k]? = some (InT.a m[k]) := by rw [← hY]; exact map_get a2
    have e4 := hf m[k]
    have e5 := hf l[k]
    generalize m[k] = y1 at *
    generalize l[k] = x1 at *
    have i1 : ((k : Int) < (l.length : Int)) := by omega
    have i2 : bin .lss (.int .i64 (k : Int)) (.int .i64 (l.length : Int)) = some (.bool true) := by simp [i1]
    obtain ⟨f1, o1, r1, w1⟩ := x1
    obtain ⟨f2, o2, r2, w2⟩ := y1
    have e3 := receiver_Same_432 r1 r2
    have e8 := rows_Same_431 w1 w2
    simp only [RcvT.c] at e3
    by_cases hf' : f1 = f2
    · subst hf'
      by_cases ho : o1 = o2
      · subst ho
        by_cases hr : r1 = r2
        · subst hr
          have hw : ¬ w1 = w2 := fun h => e6 (by rw [h])
          refine ⟨_, by simp [l_bref25_Same_1, e1, e2, e4, e5, i1, i2, lX, InT.a, e3, e8, hw]; rfl, ?_⟩
          rfl
        · refine ⟨_, by simp [l_bref25_Same_1, e1, e2, e4, e5, i1, i2, lX, InT.a, e3, hr]; rfl, ?_⟩
          rfl
      · refine ⟨_, by simp [l_bref25_Same_1, e1, e2, e4, e5, i1, i2, lX, InT.a, bn ho, bq ho]; rfl, ?_⟩
        rfl
    · refine ⟨_, by simp [l_bref25_Same_1, e1, e2, e4, e5, i1, i2, lX, InT.a, bn hf', bq hf']; rfl, ?_⟩
      rfl
theorem loop25o (x y : TaskT) (n5 : Int) (a b : SL OutT) (hlen : a.1.length = b.1.length) : (a = b ∧ rounds code 2 [4, 9, 10, 15, 16] l_bref25_Same_0 ⟨[.agg [.int .i64 x.epoch, .int .i64 x.sites, .int .i64 x.number, .int .i64 x.node, slA LNT.a x.frag.nodes, .int .i64 x.frag.at', .int .i64 x.frag.way, slA (AVal.int .i64) x.frag.cols, .int .i64 x.state, slA InT.a x.ins, slA OutT.a a, slA RowT.a x.rows, .int .i64 x.err], .agg [.int .i64 y.epoch, .int .i64 y.sites, .int .i64 y.number, .int .i64 y.node, slA LNT.a y.frag.nodes, .int .i64 y.frag.at', .int .i64 y.frag.way, slA (AVal.int .i64) y.frag.cols, .int .i64 y.state, slA InT.a y.ins, slA OutT.a b, slA RowT.a y.rows, .int .i64 y.err], .ptr 0 0 0 0, .ptr 1 0 0 0, .any, .int .i64 n5, .any, .any, .int .i64 0, .any, .any, .bool false, .bool false, .bool false, .any, .any, .any], [Obj.arr 13 0 [.agg [.int .i64 x.epoch, .int .i64 x.sites, .int .i64 x.number, .int .i64 x.node, slA LNT.a x.frag.nodes, .int .i64 x.frag.at', .int .i64 x.frag.way, slA (AVal.int .i64) x.frag.cols, .int .i64 x.state, slA InT.a x.ins, slA OutT.a a, slA RowT.a x.rows, .int .i64 x.err]], Obj.arr 13 0 [.agg [.int .i64 y.epoch, .int .i64 y.sites, .int .i64 y.number, .int .i64 y.node, slA LNT.a y.frag.nodes, .int .i64 y.frag.at', .int .i64 y.frag.way, slA (AVal.int .i64) y.frag.cols, .int .i64 y.state, slA InT.a y.ins, slA OutT.a b, slA RowT.a y.rows, .int .i64 y.err]]]⟩ = some (.ext 2, ⟨[.agg [.int .i64 x.epoch, .int .i64 x.sites, .int .i64 x.number, .int .i64 x.node, slA LNT.a x.frag.nodes, .int .i64 x.frag.at', .int .i64 x.frag.way, slA (AVal.int .i64) x.frag.cols, .int .i64 x.state, slA InT.a x.ins, slA OutT.a a, slA RowT.a x.rows, .int .i64 x.err], .agg [.int .i64 y.epoch, .int .i64 y.sites, .int .i64 y.number, .int .i64 y.node, slA LNT.a y.frag.nodes, .int .i64 y.frag.at', .int .i64 y.frag.way, slA (AVal.int .i64) y.frag.cols, .int .i64 y.state, slA InT.a y.ins, slA OutT.a b, slA RowT.a y.rows, .int .i64 y.err], .ptr 0 0 0 0, .ptr 1 0 0 0, .any, .int .i64 n5, .any, .any, .int .i64 a.1.length, .any, .any, .bool false, .bool false, .bool false, .any, .bool false, .any], [Obj.arr 13 0 [.agg [.int .i64 x.epoch, .int .i64 x.sites, .int .i64 x.number, .int .i64 x.node, slA LNT.a x.frag.nodes, .int .i64 x.frag.at', .int .i64 x.frag.way, slA (AVal.int .i64) x.frag.cols, .int .i64 x.state, slA InT.a x.ins, slA OutT.a a, slA RowT.a x.rows, .int .i64 x.err]], Obj.arr 13 0 [.agg [.int .i64 y.epoch, .int .i64 y.sites, .int .i64 y.number, .int .i64 y.node, slA LNT.a y.frag.nodes, .int .i64 y.frag.at', .int .i64 y.frag.way, slA (AVal.int .i64) y.frag.cols, .int .i64 y.state, slA InT.a y.ins, slA OutT.a b, slA RowT.a y.rows, .int .i64 y.err]]]⟩)) ∨
    (¬ a = b ∧ ∃ s, rounds code 2 [4, 9, 10, 15, 16] l_bref25_Same_0 ⟨[.agg [.int .i64 x.epoch, .int .i64 x.sites, .int .i64 x.number, .int .i64 x.node, slA LNT.a x.frag.nodes, .int .i64 x.frag.at', .int .i64 x.frag.way, slA (AVal.int .i64) x.frag.cols, .int .i64 x.state, slA InT.a x.ins, slA OutT.a a, slA RowT.a x.rows, .int .i64 x.err], .agg [.int .i64 y.epoch, .int .i64 y.sites, .int .i64 y.number, .int .i64 y.node, slA LNT.a y.frag.nodes, .int .i64 y.frag.at', .int .i64 y.frag.way, slA (AVal.int .i64) y.frag.cols, .int .i64 y.state, slA InT.a y.ins, slA OutT.a b, slA RowT.a y.rows, .int .i64 y.err], .ptr 0 0 0 0, .ptr 1 0 0 0, .any, .int .i64 n5, .any, .any, .int .i64 0, .any, .any, .bool false, .bool false, .bool false, .any, .any, .any], [Obj.arr 13 0 [.agg [.int .i64 x.epoch, .int .i64 x.sites, .int .i64 x.number, .int .i64 x.node, slA LNT.a x.frag.nodes, .int .i64 x.frag.at', .int .i64 x.frag.way, slA (AVal.int .i64) x.frag.cols, .int .i64 x.state, slA InT.a x.ins, slA OutT.a a, slA RowT.a x.rows, .int .i64 x.err]], Obj.arr 13 0 [.agg [.int .i64 y.epoch, .int .i64 y.sites, .int .i64 y.number, .int .i64 y.node, slA LNT.a y.frag.nodes, .int .i64 y.frag.at', .int .i64 y.frag.way, slA (AVal.int .i64) y.frag.cols, .int .i64 y.state, slA InT.a y.ins, slA OutT.a b, slA RowT.a y.rows, .int .i64 y.err]]]⟩ = some (.ret, s) ∧ s.env[4]? = some (.bool false)) := by
  obtain ⟨l, hn⟩ := a
  obtain ⟨m, hm⟩ := b
  simp only [Subtype.mk.injEq]
  have hf : ∀ a : OutT, ncells (OutT.a a) = 9 ∧ isAgg (OutT.a a) = true := fun a => ⟨rfl, rfl⟩
  have hz : ∀ (a : OutT) (top : Bool) (base : Nat) (σ : Store) (n : Nat), fz true top base σ (n + 3) (OutT.a a) = OutT.a a := fun a top base σ n => by simp [OutT.a]
  generalize hX : l.map OutT.a = xs
  generalize hY : m.map OutT.a = ys
  have hA : slA OutT.a ⟨l, hn⟩ = .imm true xs := by simp [slA, hX]
  have hB : slA OutT.a ⟨m, hm⟩ = .imm true ys := by simp [slA, hY]
  have lX : xs.length = l.length := by rw [← hX]; simp
  have lY : ys.length = m.length := by rw [← hY]; simp
  simp only [hA, hB]
  simp only at hlen
  refine same_loop (S := fun k => ⟨[.agg [.int .i64 x.epoch, .int .i64 x.sites, .int .i64 x.number, .int .i64 x.node, slA LNT.a x.frag.nodes, .int .i64 x.frag.at', .int .i64 x.frag.way, slA (AVal.int .i64) x.frag.cols, .int .i64 x.state, slA InT.a x.ins, .imm true xs, slA RowT.a x.rows, .int .i64 x.err], .agg [.int .i64 y.epoch, .int .i64 y.sites, .int .i64 y.number, .int .i64 y.node, slA LNT.a y.frag.nodes, .int .i64 y.frag.at', .int .i64 y.frag.way, slA (AVal.int .i64) y.frag.cols, .int .i64 y.state, slA InT.a y.ins, .imm true ys, slA RowT.a y.rows, .int .i64 y.err], .ptr 0 0 0 0, .ptr 1 0 0 0, .any, .int .i64 n5, .any, .any, .int .i64 k, .any, .any, .bool false, .bool false, .bool false, .any, .any, .any], [Obj.arr 13 0 [.agg [.int .i64 x.epoch, .int .i64 x.sites, .int .i64 x.number, .int .i64 x.node, slA LNT.a x.frag.nodes, .int .i64 x.frag.at', .int .i64 x.frag.way, slA (AVal.int .i64) x.frag.cols, .int .i64 x.state, slA InT.a x.ins, .imm true xs, slA RowT.a x.rows, .int .i64 x.err]], Obj.arr 13 0 [.agg [.int .i64 y.epoch, .int .i64 y.sites, .int .i64 y.number, .int .i64 y.node, slA LNT.a y.frag.nodes, .int .i64 y.frag.at', .int .i64 y.frag.way, slA (AVal.int .i64) y.frag.cols, .int .i64 y.state, slA InT.a y.ins, .imm true ys, slA RowT.a y.rows, .int .i64 y.err]]]⟩) hlen (fun k a1 a2 e6 => ?_) ?_ (fun k a1 a2 e6 => ?_)
  · have e1 : xs[k]? = some (OutT.a l[k]) := by rw [← hX]; exact map_get a1
    have e2 : ys[k]? = some (OutT.a m[k]) := by rw [← hY]; exact map_get a2
    rw [e6] at e1
    have e4 := hf m[k]
    generalize m[k] = x1 at *
    have i1 : ((k : Int) < (l.length : Int)) := by omega
    have i2 : bin .lss (.int .i64 (k : Int)) (.int .i64 (l.length : Int)) = some (.bool true) := by simp [i1]
    have i3 : bin .add (.int .i64 (k : Int)) (.int .i64 1) = some (.int .i64 ((k + 1 : Nat) : Int)) := by simp [wrap_sl a1 hn]
    have e3 := sender_Same_430 x1.snd x1.snd
    have e8 := rows_Same_431 x1.rest x1.rest
    simp only [SndT.c] at e3
    simp [l_bref25_Same_0, e1, e2, e4, i1, i2, i3, lX, hz, wrap_sl a1 hn, roundEnd, e3, e8, OutT.a, freezeObj, freeze, fuel]
  · simp [l_bref25_Same_0, lX]; all_goals rfl
  · have e1 : xs[k]? = some (OutT.a l[k]) := by rw [← hX]; exact map_get a1
    have e2 : ys[k]? = some (OutT.a m[k]) := by rw [← hY]; exact map_get a2
    have e4 := hf m[k]
    have e5 := hf l[k]
    generalize m[k] = y1 at *
    generalize l[k] = x1 at *
    have i1 : ((k : Int) < (l.length : Int)) := by omega
    have i2 : bin .lss (.int .i64 (k : Int)) (.int .i64 (l.length : Int)) = some (.bool true) := by simp [i1]
    obtain ⟨f1, r1, w1⟩ := x1
    obtain ⟨f2, r2, w2⟩ := y1
    have e3 := sender_Same_430 r1 r2
    have e8 := rows_Same_431 w1 w2
    simp only [SndT.c] at e3
    by_cases hf' : f1 = f2
    · subst hf'
      by_cases hr : r1 = r2
      · subst hr
        have hw : ¬ w1 = w2 := fun h => e6 (by rw [h])
        refine ⟨_, by simp [l_bref25_Same_0, e1, e2, e4, e5, i1, i2, lX, OutT.a, e3, e8, hw]; rfl, ?_⟩
        rfl
      · refine ⟨_, by simp [l_bref25_Same_0, e1, e2, e4, e5, i1, i2, lX, OutT.a, e3, hr]; rfl, ?_⟩
        rfl
    · refine ⟨_, by simp [l_bref25_Same_0, e1, e2, e4, e5, i1, i2, lX, OutT.a, bn hf', bq hf']; rfl, ?_⟩
      rfl
end Go.AM
end
section

namespace Go.AM
open P
set_option maxHeartbeats 8000000
set_option maxRecDepth 8000
theorem task_Same_411 (a b : TaskT) : pcall I.bref25_Same [a.a, b.a] = some (.bool (decide (a = b))) := by
  rw [pcall_eq c_bref25_Same rfl]
  obtain ⟨ep, si, nu, no, fr, st, is, os, rs, er⟩ := a
  obtain ⟨ep', si', nu', no', fr', st', is', os', rs', er'⟩ := b
  have q1 := loop25i ⟨ep, si, nu, no, fr, st, is, os, rs, er⟩ ⟨ep', si', nu', no', fr', st', is', os', rs', er'⟩ is is'
  have q2 := loop25o ⟨ep, si, nu, no, fr, st, is, os, rs, er⟩ ⟨ep', si', nu', no', fr', st', is', os', rs', er'⟩ is.1.length os os'
  have k1 := rows_Same_431 rs rs'
  have k2 : pcall I.bref18_Same [.agg [.imm true [fr.a]], .agg [.imm true [fr'.a]]] = some (.bool (decide (fr = fr'))) := by
    have := cut_Same_429 ⟨[fr], by show 1 ≤ maxLen; decide⟩ ⟨[fr'], by show 1 ≤ maxLen; decide⟩
    simpa [CutT.a, slA, Subtype.ext_iff] using this
  simp only [FragT.a, FragT.c] at k2
  obtain ⟨xs, hA, lX⟩ := slA_imm InT.a is
  obtain ⟨ys, hB, lY⟩ := slA_imm InT.a is'
  obtain ⟨us, hC, lO⟩ := slA_imm OutT.a os
  obtain ⟨ps, hD, lP⟩ := slA_imm OutT.a os'
  simp only [TaskT.a, hA, hB, hC, hD] at q1 q2 ⊢
  by_cases hep : ep = ep'
  rotate_left
  · simp [f_bref25_Same, b_bref25_Same, lX, lY, lO, lP, eqa, listAt, hep, bn hep, bq hep]
  subst hep
  by_cases hsi : si = si'
  rotate_left
  · simp [f_bref25_Same, b_bref25_Same, lX, lY, lO, lP, eqa, listAt, hsi, bn hsi, bq hsi]
  subst hsi
  by_cases hnu : nu = nu'
  rotate_left
  · simp [f_bref25_Same, b_bref25_Same, lX, lY, lO, lP, eqa, listAt, hnu, bn hnu, bq hnu]
  subst hnu
  by_cases hno : no = no'
  rotate_left
  · simp [f_bref25_Same, b_bref25_Same, lX, lY, lO, lP, eqa, listAt, hno, bn hno, bq hno]
  subst hno
  by_cases hst : st = st'
  rotate_left
  · simp [f_bref25_Same, b_bref25_Same, lX, lY, lO, lP, eqa, listAt, hst, bn hst, bq hst]
  subst hst
  by_cases her : er = er'
  rotate_left
  · simp [f_bref25_Same, b_bref25_Same, lX, lY, lO, lP, eqa, listAt, her, bn her, bq her]
  subst her
  by_cases hi : is.1.length = is'.1.length
  rotate_left
  · have : ¬ is = is' := fun h => hi (by rw [h])
    simp [f_bref25_Same, b_bref25_Same, lX, lY, lO, lP, eqa, listAt, this, bne_len hi]
  by_cases ho : os.1.length = os'.1.length
  rotate_left
  · have : ¬ os = os' := fun h => ho (by rw [h])
    simp [f_bref25_Same, b_bref25_Same, lX, lY, lO, lP, eqa, listAt, this, hi, bne_len ho]
  by_cases hr : rs = rs'
  rotate_left
  · simp [f_bref25_Same, b_bref25_Same, lX, lY, lO, lP, eqa, listAt, hi, ho, k1, hr]
  subst hr
  rcases q1 hi with ⟨h1, hl1⟩ | ⟨h1, s1, hl1, hs1⟩
  rotate_left
  · try simp only [hi] at hl1
    simp [f_bref25_Same, b_bref25_Same, lX, lY, lO, lP, eqa, listAt, hi, ho, k1, h1, hl1, leave_at hs1]
  rcases q2 ho with ⟨h2, hl2⟩ | ⟨h2, s2, hl2, hs2⟩
  rotate_left
  · simp only [hi, ho] at hl1 hl2
    simp [f_bref25_Same, b_bref25_Same, lX, lY, lO, lP, eqa, listAt, hi, ho, k1, h2, hl1, hl2, leave_at hs2]
  simp only [hi, ho] at hl1 hl2
  by_cases hf : fr = fr'
  · subst hf
    simp [f_bref25_Same, b_bref25_Same, lX, lY, lO, lP, eqa, listAt, hi, ho, k1, k2, h1, h2, hl1, hl2]
  · simp [f_bref25_Same, b_bref25_Same, lX, lY, lO, lP, eqa, listAt, hi, ho, k1, k2, hl1, hl2, hf]
end Go.AM
end
section

namespace Go.AM
open P
set_option maxHeartbeats 8000000
set_option maxRecDepth 8000
theorem over_loop {n : Nat} {base : Nat} {clr : List Nat} {b : ACode} {S : Nat → St} {E : Ex × St} {j : Nat}
    (hst : ∀ k, k < n → thenLoop base clr b (run code b (S k)) = rounds code base clr b (S (k + 1)) ∨ ∃ s, thenLoop base clr b (run code b (S k)) = some (.ret, s) ∧ s.env[j]? = some (.bool true))
    (hend : thenLoop base clr b (run code b (S n)) = some E) :
    rounds code base clr b (S 0) = some E ∨ ∃ s, rounds code base clr b (S 0) = some (.ret, s) ∧ s.env[j]? = some (.bool true) := by
  have key : ∀ m k, k + m = n → rounds code base clr b (S k) = some E ∨ ∃ s, rounds code base clr b (S k) = some (.ret, s) ∧ s.env[j]? = some (.bool true) := by
    intro m
    induction m with
    | zero =>
      intro k h
      have : k = n := by omega
      subst this
      exact .inl ((rounds_go' _ _ _ _).trans hend)
    | succ m ih =>
      intro k h
      rw [rounds_go']
      rcases hst k (by omega) with h1 | ⟨s, h1, h2⟩
      · rw [h1]; exact ih (k + 1) (by omega)
      · exact .inr ⟨s, h1, h2⟩
  exact key n 0 (by omega)
theorem over421i (xs0 : List AVal) (n1 n7 k8 : Int) (a : SL Val) : rounds code 0 [2, 4, 14, 15] l_blaw25_overRows_0 ⟨[.imm true xs0, .int .i64 n1, .any, slA Val.a a, .any, .bool false, .imm true xs0, .int .i64 n7, .int .i64 k8, .bool true, .bool false, slA Val.a a, .int .i64 a.1.length, .int .i64 0, .any, .any], []⟩ = some (.ext 2, ⟨[.imm true xs0, .int .i64 n1, .any, slA Val.a a, .any, .bool false, .imm true xs0, .int .i64 n7, .int .i64 k8, .bool true, .bool false, slA Val.a a, .int .i64 a.1.length, .int .i64 a.1.length, .bool false, .any], []⟩) ∨
    ∃ s, rounds code 0 [2, 4, 14, 15] l_blaw25_overRows_0 ⟨[.imm true xs0, .int .i64 n1, .any, slA Val.a a, .any, .bool false, .imm true xs0, .int .i64 n7, .int .i64 k8, .bool true, .bool false, slA Val.a a, .int .i64 a.1.length, .int .i64 0, .any, .any], []⟩ = some (.ret, s) ∧ s.env[2]? = some (.bool true) := by
  obtain ⟨l, hn⟩ := a
  have hf : ∀ a : Val, ncells (Val.a a) = 4 ∧ isAgg (Val.a a) = true := fun a => ⟨rfl, rfl⟩
  have hz : ∀ (a : Val) (top : Bool) (base : Nat) (σ : Store) (n : Nat), fz true top base σ (n + 3) (Val.a a) = Val.a a := fun a top base σ n => by simp [Val.a]
  generalize hX : l.map Val.a = xs
  have hA : slA Val.a ⟨l, hn⟩ = .imm true xs := by simp [slA, hX]
  have lX : xs.length = l.length := by rw [← hX]; simp
  simp only [hA]
  refine over_loop (n := l.length) (S := fun k => ⟨[.imm true xs0, .int .i64 n1, .any, .imm true xs, .any, .bool false, .imm true xs0, .int .i64 n7, .int .i64 k8, .bool true, .bool false, .imm true xs, .int .i64 l.length, .int .i64 k, .any, .any], []⟩) (fun k a1 => ?_) ?_
  · have e1 : xs[k]? = some (Val.a l[k]) := by rw [← hX]; exact map_get a1
    have e4 := hf l[k]
    generalize l[k] = x1 at *
    have i1 : ((k : Int) < (l.length : Int)) := by omega
    have i2 : bin .lss (.int .i64 (k : Int)) (.int .i64 (l.length : Int)) = some (.bool true) := by simp [i1]
    have i3 : bin .add (.int .i64 (k : Int)) (.int .i64 1) = some (.int .i64 ((k + 1 : Nat) : Int)) := by simp [wrap_sl a1 hn]
    obtain ⟨c, hc⟩ : ∃ c, decide ((100 : Int) < (x1.s.length : Int)) = c := ⟨_, rfl⟩
    cases c <;>
    first
      | (refine .inl ?_; simp [l_blaw25_overRows_0, e1, e4, i1, i2, i3, lX, hz, wrap_sl a1 hn, roundEnd, Val.a, hc, freezeObj, freeze, fuel]; done)
      | (refine .inr ⟨_, by simp [l_blaw25_overRows_0, e1, e4, i1, i2, i3, lX, hz, Val.a, hc, freezeObj, freeze, fuel]; rfl, ?_⟩; rfl)
  · simp [l_blaw25_overRows_0, lX]
theorem over421 (n1 : Int) (a : SL RowT) : rounds code 0 [2, 3, 4, 9, 10, 11, 12, 13, 14, 15] l_blaw25_overRows_1 ⟨[slA RowT.a a, .int .i64 n1, .any, .any, .any, .bool false, slA RowT.a a, .int .i64 a.1.length, .int .i64 0, .any, .any, .any, .any, .any, .any, .any], []⟩ = some (.ext 0, ⟨[slA RowT.a a, .int .i64 n1, .any, .any, .any, .bool false, slA RowT.a a, .int .i64 a.1.length, .int .i64 a.1.length, .bool false, .any, .any, .any, .any, .any, .any], []⟩) ∨
    ∃ s, rounds code 0 [2, 3, 4, 9, 10, 11, 12, 13, 14, 15] l_blaw25_overRows_1 ⟨[slA RowT.a a, .int .i64 n1, .any, .any, .any, .bool false, slA RowT.a a, .int .i64 a.1.length, .int .i64 0, .any, .any, .any, .any, .any, .any, .any], []⟩ = some (.ret, s) ∧ s.env[2]? = some (.bool true) := by
  obtain ⟨l, hn⟩ := a
  have hf : ∀ a : RowT, ncells (RowT.a a) = 1 ∧ isAgg (RowT.a a) = false := fun a => ⟨rfl, rfl⟩
  have hz : ∀ (a : RowT) (top : Bool) (base : Nat) (σ : Store) (n : Nat), fz true top base σ (n + 3) (RowT.a a) = RowT.a a := fun a top base σ n => by simp
  generalize hX : l.map RowT.a = xs
  have hA : slA RowT.a ⟨l, hn⟩ = .imm true xs := by simp [slA, hX]
  have lX : xs.length = l.length := by rw [← hX]; simp
  simp only [hA]
  refine over_loop (n := l.length) (S := fun k => ⟨[.imm true xs, .int .i64 n1, .any, .any, .any, .bool false, .imm true xs, .int .i64 l.length, .int .i64 k, .any, .any, .any, .any, .any, .any, .any], []⟩) (fun k a1 => ?_) ?_
  · have e1 : xs[k]? = some (RowT.a l[k]) := by rw [← hX]; exact map_get a1
    have e4 := hf l[k]
    generalize l[k] = x1 at *
    have i1 : ((k : Int) < (l.length : Int)) := by omega
    have i2 : bin .lss (.int .i64 (k : Int)) (.int .i64 (l.length : Int)) = some (.bool true) := by simp [i1]
    have i3 : bin .add (.int .i64 (k : Int)) (.int .i64 1) = some (.int .i64 ((k + 1 : Nat) : Int)) := by simp [wrap_sl a1 hn]
    obtain ⟨c, hc⟩ : ∃ c, decide ((20 : Int) < (x1.1.length : Int)) = c := ⟨_, rfl⟩
    have hi := over421i xs n1 l.length k x1
    obtain ⟨zs, hZ, lZ⟩ := slA_imm Val.a x1
    simp only [hZ] at e1 hi
    clear e4
    cases c <;> rcases hi with hi | ⟨s, hi, hs⟩ <;>
    first
      | (refine .inl ?_; simp [l_blaw25_overRows_1, e1, i1, i2, i3, lX, hz, wrap_sl a1 hn, roundEnd, lZ, hi, hc, freezeObj, freeze, fuel]; done)
      | (refine .inr ⟨_, by simp [l_blaw25_overRows_1, e1, i1, i2, i3, lX, hz, lZ, hi, hc, freezeObj, freeze, fuel]; rfl, ?_⟩; rfl)
      | exact .inr ⟨s, by simp [l_blaw25_overRows_1, e1, i1, i2, i3, lX, hz, lZ, hi, hc, freezeObj, freeze, fuel], hs⟩
  · simp [l_blaw25_overRows_1, lX]
theorem overRows_421 (a : SL RowT) (n : Int) : ∃ c, pcall I.blaw25_overRows [slA RowT.a a, .int .i64 n] = some (.bool c) := by
  rw [pcall_eq c_blaw25_overRows rfl]
  have hl := over421 n a
  obtain ⟨xs, hA, lX⟩ := slA_imm RowT.a a
  simp only [hA] at hl ⊢
  obtain ⟨c, hc⟩ : ∃ c, decide (n < (a.1.length : Int)) = c := ⟨_, rfl⟩
  cases c
  · rcases hl with hl | ⟨s, hl, hs⟩
    · exact ⟨false, by simp [f_blaw25_overRows, b_blaw25_overRows, lX, hc, hl]⟩
    · exact ⟨true, by simp [f_blaw25_overRows, b_blaw25_overRows, lX, hc, hl, leave_at hs]⟩
  · exact ⟨true, by simp [f_blaw25_overRows, b_blaw25_overRows, lX, hc]⟩
theorem over422  (a : SL BatchT) : rounds code 0 [1, 2, 7, 8] l_blaw25_overBatches_0 ⟨[slA BatchT.a a, .any, .any, .bool false, slA BatchT.a a, .int .i64 a.1.length, .int .i64 0, .any, .any], []⟩ = some (.ext 0, ⟨[slA BatchT.a a, .any, .any, .bool false, slA BatchT.a a, .int .i64 a.1.length, .int .i64 a.1.length, .bool false, .any], []⟩) ∨
    ∃ s, rounds code 0 [1, 2, 7, 8] l_blaw25_overBatches_0 ⟨[slA BatchT.a a, .any, .any, .bool false, slA BatchT.a a, .int .i64 a.1.length, .int .i64 0, .any, .any], []⟩ = some (.ret, s) ∧ s.env[1]? = some (.bool true) := by
  obtain ⟨l, hn⟩ := a
  have hf : ∀ a : BatchT, ncells (BatchT.a a) = 3 ∧ isAgg (BatchT.a a) = true := fun a => ⟨rfl, rfl⟩
  have hz : ∀ (a : BatchT) (top : Bool) (base : Nat) (σ : Store) (n : Nat), fz true top base σ (n + 3) (BatchT.a a) = BatchT.a a := fun a top base σ n => by simp [BatchT.a]
  generalize hX : l.map BatchT.a = xs
  have hA : slA BatchT.a ⟨l, hn⟩ = .imm true xs := by simp [slA, hX]
  have lX : xs.length = l.length := by rw [← hX]; simp
  simp only [hA]
  refine over_loop (n := l.length) (S := fun k => ⟨[.imm true xs, .any, .any, .bool false, .imm true xs, .int .i64 l.length, .int .i64 k, .any, .any], []⟩) (fun k a1 => ?_) ?_
  · have e1 : xs[k]? = some (BatchT.a l[k]) := by rw [← hX]; exact map_get a1
    have e4 := hf l[k]
    generalize l[k] = x1 at *
    have i1 : ((k : Int) < (l.length : Int)) := by omega
    have i2 : bin .lss (.int .i64 (k : Int)) (.int .i64 (l.length : Int)) = some (.bool true) := by simp [i1]
    have i3 : bin .add (.int .i64 (k : Int)) (.int .i64 1) = some (.int .i64 ((k + 1 : Nat) : Int)) := by simp [wrap_sl a1 hn]
    obtain ⟨c, hc⟩ := overRows_421 x1.rows 10
    cases c <;>
    first
      | (refine .inl ?_; simp [l_blaw25_overBatches_0, e1, e4, i1, i2, i3, lX, hz, wrap_sl a1 hn, roundEnd, BatchT.a, hc, freezeObj, freeze, fuel]; done)
      | (refine .inr ⟨_, by simp [l_blaw25_overBatches_0, e1, e4, i1, i2, i3, lX, hz, BatchT.a, hc, freezeObj, freeze, fuel]; rfl, ?_⟩; rfl)
  · simp [l_blaw25_overBatches_0, lX]
theorem overBatches_422 (a : SL BatchT) : ∃ c, pcall I.blaw25_overBatches [slA BatchT.a a] = some (.bool c) := by
  rw [pcall_eq c_blaw25_overBatches rfl]
  have hl := over422 a
  obtain ⟨xs, hA, lX⟩ := slA_imm BatchT.a a
  simp only [hA] at hl ⊢
  obtain ⟨c, hc⟩ : ∃ c, decide ((20 : Int) < (a.1.length : Int)) = c := ⟨_, rfl⟩
  cases c
  · rcases hl with hl | ⟨s, hl, hs⟩
    · exact ⟨false, by simp [f_blaw25_overBatches, b_blaw25_overBatches, lX, hc, hl]⟩
    · exact ⟨true, by simp [f_blaw25_overBatches, b_blaw25_overBatches, lX, hc, hl, leave_at hs]⟩
  · exact ⟨true, by simp [f_blaw25_overBatches, b_blaw25_overBatches, lX, hc]⟩
theorem over442  (a : SL EN) : rounds code 1 [2, 3, 8, 9] l_blaw25_overExpr_0 ⟨[.agg [slA EN.a a], .ptr 0 0 0 0, .any, .any, .bool false, slA EN.a a, .int .i64 a.1.length, .int .i64 0, .any, .any], [Obj.arr 1 0 [.agg [slA EN.a a]]]⟩ = some (.ext 0, ⟨[.agg [slA EN.a a], .ptr 0 0 0 0, .any, .any, .bool false, slA EN.a a, .int .i64 a.1.length, .int .i64 a.1.length, .bool false, .any], [Obj.arr 1 0 [.agg [slA EN.a a]]]⟩) ∨
    ∃ s, rounds code 1 [2, 3, 8, 9] l_blaw25_overExpr_0 ⟨[.agg [slA EN.a a], .ptr 0 0 0 0, .any, .any, .bool false, slA EN.a a, .int .i64 a.1.length, .int .i64 0, .any, .any], [Obj.arr 1 0 [.agg [slA EN.a a]]]⟩ = some (.ret, s) ∧ s.env[2]? = some (.bool true) := by
  obtain ⟨l, hn⟩ := a
  have hf : ∀ a : EN, ncells (EN.a a) = 8 ∧ isAgg (EN.a a) = true := fun a => ⟨rfl, rfl⟩
  have hz : ∀ (a : EN) (top : Bool) (base : Nat) (σ : Store) (n : Nat), fz true top base σ (n + 3) (EN.a a) = EN.a a := fun a top base σ n => by simp [EN.a]
  generalize hX : l.map EN.a = xs
  have hA : slA EN.a ⟨l, hn⟩ = .imm true xs := by simp [slA, hX]
  have lX : xs.length = l.length := by rw [← hX]; simp
  simp only [hA]
  refine over_loop (n := l.length) (S := fun k => ⟨[.agg [.imm true xs], .ptr 0 0 0 0, .any, .any, .bool false, .imm true xs, .int .i64 l.length, .int .i64 k, .any, .any], [Obj.arr 1 0 [.agg [.imm true xs]]]⟩) (fun k a1 => ?_) ?_
  · have e1 : xs[k]? = some (EN.a l[k]) := by rw [← hX]; exact map_get a1
    have e4 := hf l[k]
    generalize l[k] = x1 at *
    have i1 : ((k : Int) < (l.length : Int)) := by omega
    have i2 : bin .lss (.int .i64 (k : Int)) (.int .i64 (l.length : Int)) = some (.bool true) := by simp [i1]
    have i3 : bin .add (.int .i64 (k : Int)) (.int .i64 1) = some (.int .i64 ((k + 1 : Nat) : Int)) := by simp [wrap_sl a1 hn]
    obtain ⟨c, hc⟩ : ∃ c, decide ((100 : Int) < (x1.v.s.length : Int)) = c := ⟨_, rfl⟩
    cases c <;>
    first
      | (refine .inl ?_; simp [l_blaw25_overExpr_0, e1, e4, i1, i2, i3, lX, hz, wrap_sl a1 hn, roundEnd, EN.a, hc, freezeObj, freeze, fuel]; done)
      | (refine .inr ⟨_, by simp [l_blaw25_overExpr_0, e1, e4, i1, i2, i3, lX, hz, EN.a, hc, freezeObj, freeze, fuel]; rfl, ?_⟩; rfl)
  · simp [l_blaw25_overExpr_0, lX]
theorem overExpr_442 (a : ExprT) : ∃ c, pcall I.blaw25_overExpr [.agg [slA EN.a a]] = some (.bool c) := by
  rw [pcall_eq c_blaw25_overExpr rfl]
  have hl := over442 a
  obtain ⟨xs, hA, lX⟩ := slA_imm EN.a a
  simp only [hA] at hl ⊢
  obtain ⟨c, hc⟩ : ∃ c, decide ((60 : Int) < (a.1.length : Int)) = c := ⟨_, rfl⟩
  cases c
  · rcases hl with hl | ⟨s, hl, hs⟩
    · exact ⟨false, by simp [f_blaw25_overExpr, b_blaw25_overExpr, lX, hc, hl]⟩
    · exact ⟨true, by simp [f_blaw25_overExpr, b_blaw25_overExpr, lX, hc, hl, leave_at hs]⟩
  · exact ⟨true, by simp [f_blaw25_overExpr, b_blaw25_overExpr, lX, hc]⟩
end Go.AM
end
