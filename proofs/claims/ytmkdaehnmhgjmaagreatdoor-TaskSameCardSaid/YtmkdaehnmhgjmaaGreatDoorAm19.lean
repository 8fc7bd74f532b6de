/- Lists that are the same: the library's loops. -/
import Derived.Test.YtmkdaehnmhgjmaaGreatDoorAm18
import GoSem.ClaimData
import Derived.KernelRfl
set_option linter.unusedVariables false
set_option linter.unusedSimpArgs false
section
namespace Go.AM
open P
set_option maxHeartbeats 4000000
set_option maxRecDepth 8000
abbrev SL (α : Type) := { l : List α // l.length ≤ maxLen }
def slA {α : Type} (f : α → AVal) (l : SL α) : AVal := .imm true (l.1.map f)
theorem wrap_sl {k n : Nat} (h1 : k < n) (h2 : n ≤ maxLen) : IntKind.i64.wrap ((k : Int) + 1) = ((k + 1 : Nat) : Int) := by
  have : n ≤ 9223372036854775807 := h2
  rw [wrap64_id (by omega)]
  omega
theorem rounds_go' (base : Nat) (clr : List Nat) (b : ACode) (s : St) : rounds code base clr b s = thenLoop base clr b (run code b s) := rounds_eq good base clr b s
theorem same_diff {α : Type} [DecidableEq α] : ∀ {l m : List α}, l.length = m.length → ∃ d, d ≤ l.length ∧ (∀ k (_ : k < d) (h1 : k < l.length) (h2 : k < m.length), l[k] = m[k]) ∧
    ((d = l.length ∧ decide (l = m) = true) ∨ (∃ (h1 : d < l.length) (h2 : d < m.length), l[d] ≠ m[d] ∧ decide (l = m) = false))
  | [], [], _ => ⟨0, Nat.le_refl _, fun k h => absurd h (Nat.not_lt_zero _), .inl ⟨rfl, rfl⟩⟩
  | [], _ :: _, h => by cases h
  | _ :: _, [], h => by cases h
  | a :: l, b :: m, h => by
    by_cases hab : a = b
    · obtain ⟨d, h1, h2, h3⟩ := same_diff (l := l) (m := m) (by simpa using h)
      refine ⟨d + 1, by simpa using h1, fun k hk a1 a2 => ?_, ?_⟩
      · cases k with
        | zero => exact hab
        | succ k => exact h2 k (by omega) (by simpa using a1) (by simpa using a2)
      · rcases h3 with ⟨e1, e2⟩ | ⟨q1, q2, e1, e2⟩
        · exact .inl ⟨by simp [e1], by simpa [hab] using e2⟩
        · exact .inr ⟨by simpa using q1, by simpa using q2, by simpa using e1, by simpa [hab] using e2⟩
    · exact ⟨0, Nat.zero_le _, fun k h => absurd h (Nat.not_lt_zero _), .inr ⟨by simp, by simp, hab, by simp [hab]⟩⟩
theorem map_get {α : Type} {f : α → AVal} {l : List α} {k : Nat} (h : k < l.length) : (l.map f)[k]? = some (f l[k]) := by simp [h]
theorem map_getE {α : Type} {f : α → AVal} {l : List α} {k : Nat} (h : k < (l.map f).length) : (l.map f)[k] = f (l[k]'(by simpa using h)) := by simp
theorem bne_len {n m : Nat} (h : ¬ n = m) : (((n : Int)) != (m : Int)) = true := by simp; omega
theorem EqF_In {α : Type} [DecidableEq α] {f : α → AVal} {g : AVal} {t t' : Bool} {l m : List α} (hn : l.length ≤ maxLen) (hf : ∀ a, ncells (f a) = 9 ∧ isAgg (f a) = true) (hg : ∀ fl top σ, (fl || top) = true → fz fl top 0 σ 20 g = g)
    (hc : ∀ a b σ, acallV code g [f a, f b] σ = some (.bool (decide (a = b)), σ)) : pcall I.slices_EqualFunc_api_In_api_In_api_In_api_In [.imm t (l.map f), .imm t' (m.map f), g] = some (.bool (decide (l = m))) := by
  rw [pcall_eq c_slices_EqualFunc_api_In_api_In_api_In_api_In rfl]
  have hg1 := hg true false [] rfl
  generalize hX : l.map f = xs
  generalize hY : m.map f = ys
  have lX : xs.length = l.length := by rw [← hX]; simp
  have lY : ys.length = m.length := by rw [← hY]; simp
  by_cases hlen : l.length = m.length
  · obtain ⟨d, h1, h2, h3⟩ := same_diff hlen
    have hstep : ∀ k, k < d → thenLoop 0 [3, 4, 5, 6, 11, 12] l_slices_EqualFunc_api_In_api_In_api_In_api_In_0 (run code l_slices_EqualFunc_api_In_api_In_api_In_api_In_0 ⟨[.imm t xs, .imm t' ys, g, .any, .any, .any, .any, .bool false, .imm t xs, .int .i64 l.length, .int .i64 k, .any, .any], []⟩) = rounds code 0 [3, 4, 5, 6, 11, 12] l_slices_EqualFunc_api_In_api_In_api_In_api_In_0 ⟨[.imm t xs, .imm t' ys, g, .any, .any, .any, .any, .bool false, .imm t xs, .int .i64 l.length, .int .i64 (k + 1 : Nat), .any, .any], []⟩ := fun k hk => by
      have a1 : k < l.length := by omega
      have a2 : k < m.length := by omega
      have e1 : xs[k]? = some (f l[k]) := by rw [← hX]; exact map_get a1
      have e2 : ys[k]? = some (f m[k]) := by rw [← hY]; exact map_get a2
      have e3 := hc l[k] m[k]
      have e4 := hf l[k]
      have e5 := hf m[k]
      have e6 := h2 k hk a1 a2
      rw [e6] at e1 e3 e4
      have i1 : ((k : Int) < (l.length : Int)) := by omega
      simp [l_slices_EqualFunc_api_In_api_In_api_In_api_In_0, e1, e2, e3, e4, e5, i1, wrap_sl a1 hn, roundEnd, hg]
    rcases h3 with ⟨e1, e2⟩ | ⟨q1, q2, e1, e2⟩
    · have hloop := rounds_iter (base := 0) (clr := [3, 4, 5, 6, 11, 12]) (b := l_slices_EqualFunc_api_In_api_In_api_In_api_In_0) (fun k => ⟨[.imm t xs, .imm t' ys, g, .any, .any, .any, .any, .bool false, .imm t xs, .int .i64 l.length, .int .i64 k, .any, .any], []⟩) d _ hstep (by
        subst e1
        simp [l_slices_EqualFunc_api_In_api_In_api_In_api_In_0]; rfl)
      simp [f_slices_EqualFunc_api_In_api_In_api_In_api_In, b_slices_EqualFunc_api_In_api_In_api_In_api_In, hg1, hlen, lX, lY]
      simp [hlen] at hloop
      rw [hloop, e2]
      simp
    · have hloop := rounds_iter (base := 0) (clr := [3, 4, 5, 6, 11, 12]) (b := l_slices_EqualFunc_api_In_api_In_api_In_api_In_0) (fun k => ⟨[.imm t xs, .imm t' ys, g, .any, .any, .any, .any, .bool false, .imm t xs, .int .i64 l.length, .int .i64 k, .any, .any], []⟩) d _ hstep (by
        have a1 : xs[d]? = some (f l[d]) := by rw [← hX]; exact map_get q1
        have a2 : ys[d]? = some (f m[d]) := by rw [← hY]; exact map_get q2
        have a3 := hc l[d] m[d]
        have e4 := hf l[d]
        have e5 := hf m[d]
        rw [decide_eq_false e1] at a3
        have i1 : ((d : Int) < (l.length : Int)) := by omega
        simp [l_slices_EqualFunc_api_In_api_In_api_In_api_In_0, a1, a2, a3, e4, e5, i1]; rfl)
      simp [f_slices_EqualFunc_api_In_api_In_api_In_api_In, b_slices_EqualFunc_api_In_api_In_api_In_api_In, hg1, hlen, lX, lY]
      simp [hlen] at hloop
      rw [hloop, e2]
      simp
  · have hne : decide (l = m) = false := decide_eq_false fun e => hlen (congrArg List.length e)
    rw [hne]
    simp [f_slices_EqualFunc_api_In_api_In_api_In_api_In, b_slices_EqualFunc_api_In_api_In_api_In_api_In, hg1, bne_len hlen, lX, lY]
theorem EqF_Out {α : Type} [DecidableEq α] {f : α → AVal} {g : AVal} {t t' : Bool} {l m : List α} (hn : l.length ≤ maxLen) (hf : ∀ a, ncells (f a) = 9 ∧ isAgg (f a) = true) (hg : ∀ fl top σ, (fl || top) = true → fz fl top 0 σ 20 g = g)
    (hc : ∀ a b σ, acallV code g [f a, f b] σ = some (.bool (decide (a = b)), σ)) : pcall I.slices_EqualFunc_api_Out_api_Out_api_Out_api_Out [.imm t (l.map f), .imm t' (m.map f), g] = some (.bool (decide (l = m))) := by
  rw [pcall_eq c_slices_EqualFunc_api_Out_api_Out_api_Out_api_Out rfl]
  have hg1 := hg true false [] rfl
  generalize hX : l.map f = xs
  generalize hY : m.map f = ys
  have lX : xs.length = l.length := by rw [← hX]; simp
  have lY : ys.length = m.length := by rw [← hY]; simp
  by_cases hlen : l.length = m.length
  · obtain ⟨d, h1, h2, h3⟩ := same_diff hlen
    have hstep : ∀ k, k < d → thenLoop 0 [3, 4, 5, 6, 11, 12] l_slices_EqualFunc_api_Out_api_Out_api_Out_api_Out_0 (run code l_slices_EqualFunc_api_Out_api_Out_api_Out_api_Out_0 ⟨[.imm t xs, .imm t' ys, g, .any, .any, .any, .any, .bool false, .imm t xs, .int .i64 l.length, .int .i64 k, .any, .any], []⟩) = rounds code 0 [3, 4, 5, 6, 11, 12] l_slices_EqualFunc_api_Out_api_Out_api_Out_api_Out_0 ⟨[.imm t xs, .imm t' ys, g, .any, .any, .any, .any, .bool false, .imm t xs, .int .i64 l.length, .int .i64 (k + 1 : Nat), .any, .any], []⟩ := fun k hk => by
      have a1 : k < l.length := by omega
      have a2 : k < m.length := by omega
      have e1 : xs[k]? = some (f l[k]) := by rw [← hX]; exact map_get a1
      have e2 : ys[k]? = some (f m[k]) := by rw [← hY]; exact map_get a2
      have e3 := hc l[k] m[k]
      have e4 := hf l[k]
      have e5 := hf m[k]
      have e6 := h2 k hk a1 a2
      rw [e6] at e1 e3 e4
      have i1 : ((k : Int) < (l.length : Int)) := by omega
      simp [l_slices_EqualFunc_api_Out_api_Out_api_Out_api_Out_0, e1, e2, e3, e4, e5, i1, wrap_sl a1 hn, roundEnd, hg]
    rcases h3 with ⟨e1, e2⟩ | ⟨q1, q2, e1, e2⟩
    · have hloop := rounds_iter (base := 0) (clr := [3, 4, 5, 6, 11, 12]) (b := l_slices_EqualFunc_api_Out_api_Out_api_Out_api_Out_0) (fun k => ⟨[.imm t xs, .imm t' ys, g, .any, .any, .any, .any, .bool false, .imm t xs, .int .i64 l.length, .int .i64 k, .any, .any], []⟩) d _ hstep (by
        subst e1
        simp [l_slices_EqualFunc_api_Out_api_Out_api_Out_api_Out_0]; rfl)
      simp [f_slices_EqualFunc_api_Out_api_Out_api_Out_api_Out, b_slices_EqualFunc_api_Out_api_Out_api_Out_api_Out, hg1, hlen, lX, lY]
      simp [hlen] at hloop
      rw [hloop, e2]
      simp
    · have hloop := rounds_iter (base := 0) (clr := [3, 4, 5, 6, 11, 12]) (b := l_slices_EqualFunc_api_Out_api_Out_api_Out_api_Out_0) (fun k => ⟨[.imm t xs, .imm t' ys, g, .any, .any, .any, .any, .bool false, .imm t xs, .int .i64 l.length, .int .i64 k, .any, .any], []⟩) d _ hstep (by
        have a1 : xs[d]? = some (f l[d]) := by rw [← hX]; exact map_get q1
        have a2 : ys[d]? = some (f m[d]) := by rw [← hY]; exact map_get q2
        have a3 := hc l[d] m[d]
        have e4 := hf l[d]
        have e5 := hf m[d]
        rw [decide_eq_false e1] at a3
        have i1 : ((d : Int) < (l.length : Int)) := by omega
        simp [l_slices_EqualFunc_api_Out_api_Out_api_Out_api_Out_0, a1, a2, a3, e4, e5, i1]; rfl)
      simp [f_slices_EqualFunc_api_Out_api_Out_api_Out_api_Out, b_slices_EqualFunc_api_Out_api_Out_api_Out_api_Out, hg1, hlen, lX, lY]
      simp [hlen] at hloop
      rw [hloop, e2]
      simp
  · have hne : decide (l = m) = false := decide_eq_false fun e => hlen (congrArg List.length e)
    rw [hne]
    simp [f_slices_EqualFunc_api_Out_api_Out_api_Out_api_Out, b_slices_EqualFunc_api_Out_api_Out_api_Out_api_Out, hg1, bne_len hlen, lX, lY]
theorem EqF_Batch {α : Type} [DecidableEq α] {f : α → AVal} {g : AVal} {t t' : Bool} {l m : List α} (hn : l.length ≤ maxLen) (hf : ∀ a, ncells (f a) = 3 ∧ isAgg (f a) = true) (hg : ∀ fl top σ, (fl || top) = true → fz fl top 0 σ 20 g = g)
    (hc : ∀ a b σ, acallV code g [f a, f b] σ = some (.bool (decide (a = b)), σ)) : pcall I.slices_EqualFunc_api_Batch_api_Batch_api_Batch_api_Batch [.imm t (l.map f), .imm t' (m.map f), g] = some (.bool (decide (l = m))) := by
  rw [pcall_eq c_slices_EqualFunc_api_Batch_api_Batch_api_Batch_api_Batch rfl]
  have hg1 := hg true false [] rfl
  generalize hX : l.map f = xs
  generalize hY : m.map f = ys
  have lX : xs.length = l.length := by rw [← hX]; simp
  have lY : ys.length = m.length := by rw [← hY]; simp
  by_cases hlen : l.length = m.length
  · obtain ⟨d, h1, h2, h3⟩ := same_diff hlen
    have hstep : ∀ k, k < d → thenLoop 0 [3, 4, 5, 6, 11, 12] l_slices_EqualFunc_api_Batch_api_Batch_api_Batch_api_Batch_0 (run code l_slices_EqualFunc_api_Batch_api_Batch_api_Batch_api_Batch_0 ⟨[.imm t xs, .imm t' ys, g, .any, .any, .any, .any, .bool false, .imm t xs, .int .i64 l.length, .int .i64 k, .any, .any], []⟩) = rounds code 0 [3, 4, 5, 6, 11, 12] l_slices_EqualFunc_api_Batch_api_Batch_api_Batch_api_Batch_0 ⟨[.imm t xs, .imm t' ys, g, .any, .any, .any, .any, .bool false, .imm t xs, .int .i64 l.length, .int .i64 (k + 1 : Nat), .any, .any], []⟩ := fun k hk => by
      have a1 : k < l.length := by omega
      have a2 : k < m.length := by omega
      have e1 : xs[k]? = some (f l[k]) := by rw [← hX]; exact map_get a1
      have e2 : ys[k]? = some (f m[k]) := by rw [← hY]; exact map_get a2
      have e3 := hc l[k] m[k]
      have e4 := hf l[k]
      have e5 := hf m[k]
      have e6 := h2 k hk a1 a2
      rw [e6] at e1 e3 e4
      have i1 : ((k : Int) < (l.length : Int)) := by omega
      simp [l_slices_EqualFunc_api_Batch_api_Batch_api_Batch_api_Batch_0, e1, e2, e3, e4, e5, i1, wrap_sl a1 hn, roundEnd, hg]
    rcases h3 with ⟨e1, e2⟩ | ⟨q1, q2, e1, e2⟩
    · have hloop := rounds_iter (base := 0) (clr := [3, 4, 5, 6, 11, 12]) (b := l_slices_EqualFunc_api_Batch_api_Batch_api_Batch_api_Batch_0) (fun k => ⟨[.imm t xs, .imm t' ys, g, .any, .any, .any, .any, .bool false, .imm t xs, .int .i64 l.length, .int .i64 k, .any, .any], []⟩) d _ hstep (by
        subst e1
        simp [l_slices_EqualFunc_api_Batch_api_Batch_api_Batch_api_Batch_0]; rfl)
      simp [f_slices_EqualFunc_api_Batch_api_Batch_api_Batch_api_Batch, b_slices_EqualFunc_api_Batch_api_Batch_api_Batch_api_Batch, hg1, hlen, lX, lY]
      simp [hlen] at hloop
      rw [hloop, e2]
      simp
    · have hloop := rounds_iter (base := 0) (clr := [3, 4, 5, 6, 11, 12]) (b := l_slices_EqualFunc_api_Batch_api_Batch_api_Batch_api_Batch_0) (fun k => ⟨[.imm t xs, .imm t' ys, g, .any, .any, .any, .any, .bool false, .imm t xs, .int .i64 l.length, .int .i64 k, .any, .any], []⟩) d _ hstep (by
        have a1 : xs[d]? = some (f l[d]) := by rw [← hX]; exact map_get q1
        have a2 : ys[d]? = some (f m[d]) := by rw [← hY]; exact map_get q2
        have a3 := hc l[d] m[d]
        have e4 := hf l[d]
        have e5 := hf m[d]
        rw [decide_eq_false e1] at a3
        have i1 : ((d : Int) < (l.length : Int)) := by omega
        simp [l_slices_EqualFunc_api_Batch_api_Batch_api_Batch_api_Batch_0, a1, a2, a3, e4, e5, i1]; rfl)
      simp [f_slices_EqualFunc_api_Batch_api_Batch_api_Batch_api_Batch, b_slices_EqualFunc_api_Batch_api_Batch_api_Batch_api_Batch, hg1, hlen, lX, lY]
      simp [hlen] at hloop
      rw [hloop, e2]
      simp
  · have hne : decide (l = m) = false := decide_eq_false fun e => hlen (congrArg List.length e)
    rw [hne]
    simp [f_slices_EqualFunc_api_Batch_api_Batch_api_Batch_api_Batch, b_slices_EqualFunc_api_Batch_api_Batch_api_Batch_api_Batch, hg1, bne_len hlen, lX, lY]
theorem EqF_Held {α : Type} [DecidableEq α] {f : α → AVal} {g : AVal} {t t' : Bool} {l m : List α} (hn : l.length ≤ maxLen) (hf : ∀ a, ncells (f a) = 4 ∧ isAgg (f a) = true) (hg : ∀ fl top σ, (fl || top) = true → fz fl top 0 σ 20 g = g)
    (hc : ∀ a b σ, acallV code g [f a, f b] σ = some (.bool (decide (a = b)), σ)) : pcall I.slices_EqualFunc_api_Held_api_Held_api_Held_api_Held [.imm t (l.map f), .imm t' (m.map f), g] = some (.bool (decide (l = m))) := by
  rw [pcall_eq c_slices_EqualFunc_api_Held_api_Held_api_Held_api_Held rfl]
  have hg1 := hg true false [] rfl
  generalize hX : l.map f = xs
  generalize hY : m.map f = ys
  have lX : xs.length = l.length := by rw [← hX]; simp
  have lY : ys.length = m.length := by rw [← hY]; simp
  by_cases hlen : l.length = m.length
  · obtain ⟨d, h1, h2, h3⟩ := same_diff hlen
    have hstep : ∀ k, k < d → thenLoop 0 [3, 4, 5, 6, 11, 12] l_slices_EqualFunc_api_Held_api_Held_api_Held_api_Held_0 (run code l_slices_EqualFunc_api_Held_api_Held_api_Held_api_Held_0 ⟨[.imm t xs, .imm t' ys, g, .any, .any, .any, .any, .bool false, .imm t xs, .int .i64 l.length, .int .i64 k, .any, .any], []⟩) = rounds code 0 [3, 4, 5, 6, 11, 12] l_slices_EqualFunc_api_Held_api_Held_api_Held_api_Held_0 ⟨[.imm t xs, .imm t' ys, g, .any, .any, .any, .any, .bool false, .imm t xs, .int .i64 l.length, .int .i64 (k + 1 : Nat), .any, .any], []⟩ := fun k hk => by
      have a1 : k < l.length := by omega
      have a2 : k < m.length := by omega
      have e1 : xs[k]? = some (f l[k]) := by rw [← hX]; exact map_get a1
      have e2 : ys[k]? = some (f m[k]) := by rw [← hY]; exact map_get a2
      have e3 := hc l[k] m[k]
      have e4 := hf l[k]
      have e5 := hf m[k]
      have e6 := h2 k hk a1 a2
      rw [e6] at e1 e3 e4
      have i1 : ((k : Int) < (l.length : Int)) := by omega
      simp [l_slices_EqualFunc_api_Held_api_Held_api_Held_api_Held_0, e1, e2, e3, e4, e5, i1, wrap_sl a1 hn, roundEnd, hg]
    rcases h3 with ⟨e1, e2⟩ | ⟨q1, q2, e1, e2⟩
    · have hloop := rounds_iter (base := 0) (clr := [3, 4, 5, 6, 11, 12]) (b := l_slices_EqualFunc_api_Held_api_Held_api_Held_api_Held_0) (fun k => ⟨[.imm t xs, .imm t' ys, g, .any, .any, .any, .any, .bool false, .imm t xs, .int .i64 l.length, .int .i64 k, .any, .any], []⟩) d _ hstep (by
        subst e1
        simp [l_slices_EqualFunc_api_Held_api_Held_api_Held_api_Held_0]; rfl)
      simp [f_slices_EqualFunc_api_Held_api_Held_api_Held_api_Held, b_slices_EqualFunc_api_Held_api_Held_api_Held_api_Held, hg1, hlen, lX, lY]
      simp [hlen] at hloop
      rw [hloop, e2]
      simp
    · have hloop := rounds_iter (base := 0) (clr := [3, 4, 5, 6, 11, 12]) (b := l_slices_EqualFunc_api_Held_api_Held_api_Held_api_Held_0) (fun k => ⟨[.imm t xs, .imm t' ys, g, .any, .any, .any, .any, .bool false, .imm t xs, .int .i64 l.length, .int .i64 k, .any, .any], []⟩) d _ hstep (by
        have a1 : xs[d]? = some (f l[d]) := by rw [← hX]; exact map_get q1
        have a2 : ys[d]? = some (f m[d]) := by rw [← hY]; exact map_get q2
        have a3 := hc l[d] m[d]
        have e4 := hf l[d]
        have e5 := hf m[d]
        rw [decide_eq_false e1] at a3
        have i1 : ((d : Int) < (l.length : Int)) := by omega
        simp [l_slices_EqualFunc_api_Held_api_Held_api_Held_api_Held_0, a1, a2, a3, e4, e5, i1]; rfl)
      simp [f_slices_EqualFunc_api_Held_api_Held_api_Held_api_Held, b_slices_EqualFunc_api_Held_api_Held_api_Held_api_Held, hg1, hlen, lX, lY]
      simp [hlen] at hloop
      rw [hloop, e2]
      simp
  · have hne : decide (l = m) = false := decide_eq_false fun e => hlen (congrArg List.length e)
    rw [hne]
    simp [f_slices_EqualFunc_api_Held_api_Held_api_Held_api_Held, b_slices_EqualFunc_api_Held_api_Held_api_Held_api_Held, hg1, bne_len hlen, lX, lY]
theorem EqF_Row {α : Type} [DecidableEq α] {f : α → AVal} {g : AVal} {t t' : Bool} {l m : List α} (hn : l.length ≤ maxLen) (hf : ∀ a, ncells (f a) = 1 ∧ isAgg (f a) = false) (hg : ∀ fl top σ, (fl || top) = true → fz fl top 0 σ 20 g = g)
    (hc : ∀ a b σ, acallV code g [f a, f b] σ = some (.bool (decide (a = b)), σ)) : pcall I.slices_EqualFunc_api_Row_api_Row_api_Row_api_Row [.imm t (l.map f), .imm t' (m.map f), g] = some (.bool (decide (l = m))) := by
  rw [pcall_eq c_slices_EqualFunc_api_Row_api_Row_api_Row_api_Row rfl]
  have hg1 := hg true false [] rfl
  generalize hX : l.map f = xs
  generalize hY : m.map f = ys
  have lX : xs.length = l.length := by rw [← hX]; simp
  have lY : ys.length = m.length := by rw [← hY]; simp
  by_cases hlen : l.length = m.length
  · obtain ⟨d, h1, h2, h3⟩ := same_diff hlen
    have hstep : ∀ k, k < d → thenLoop 0 [3, 4, 5, 6, 11, 12] l_slices_EqualFunc_api_Row_api_Row_api_Row_api_Row_0 (run code l_slices_EqualFunc_api_Row_api_Row_api_Row_api_Row_0 ⟨[.imm t xs, .imm t' ys, g, .any, .any, .any, .any, .bool false, .imm t xs, .int .i64 l.length, .int .i64 k, .any, .any], []⟩) = rounds code 0 [3, 4, 5, 6, 11, 12] l_slices_EqualFunc_api_Row_api_Row_api_Row_api_Row_0 ⟨[.imm t xs, .imm t' ys, g, .any, .any, .any, .any, .bool false, .imm t xs, .int .i64 l.length, .int .i64 (k + 1 : Nat), .any, .any], []⟩ := fun k hk => by
      have a1 : k < l.length := by omega
      have a2 : k < m.length := by omega
      have e1 : xs[k]? = some (f l[k]) := by rw [← hX]; exact map_get a1
      have e2 : ys[k]? = some (f m[k]) := by rw [← hY]; exact map_get a2
      have e3 := hc l[k] m[k]
      have e4 := hf l[k]
      have e5 := hf m[k]
      have e6 := h2 k hk a1 a2
      rw [e6] at e1 e3 e4
      have i1 : ((k : Int) < (l.length : Int)) := by omega
      simp [l_slices_EqualFunc_api_Row_api_Row_api_Row_api_Row_0, e1, e2, e3, e4, e5, i1, wrap_sl a1 hn, roundEnd, hg]
    rcases h3 with ⟨e1, e2⟩ | ⟨q1, q2, e1, e2⟩
    · have hloop := rounds_iter (base := 0) (clr := [3, 4, 5, 6, 11, 12]) (b := l_slices_EqualFunc_api_Row_api_Row_api_Row_api_Row_0) (fun k => ⟨[.imm t xs, .imm t' ys, g, .any, .any, .any, .any, .bool false, .imm t xs, .int .i64 l.length, .int .i64 k, .any, .any], []⟩) d _ hstep (by
        subst e1
        simp [l_slices_EqualFunc_api_Row_api_Row_api_Row_api_Row_0]; rfl)
      simp [f_slices_EqualFunc_api_Row_api_Row_api_Row_api_Row, b_slices_EqualFunc_api_Row_api_Row_api_Row_api_Row, hg1, hlen, lX, lY]
      simp [hlen] at hloop
      rw [hloop, e2]
      simp
    · have hloop := rounds_iter (base := 0) (clr := [3, 4, 5, 6, 11, 12]) (b := l_slices_EqualFunc_api_Row_api_Row_api_Row_api_Row_0) (fun k => ⟨[.imm t xs, .imm t' ys, g, .any, .any, .any, .any, .bool false, .imm t xs, .int .i64 l.length, .int .i64 k, .any, .any], []⟩) d _ hstep (by
        have a1 : xs[d]? = some (f l[d]) := by rw [← hX]; exact map_get q1
        have a2 : ys[d]? = some (f m[d]) := by rw [← hY]; exact map_get q2
        have a3 := hc l[d] m[d]
        have e4 := hf l[d]
        have e5 := hf m[d]
        rw [decide_eq_false e1] at a3
        have i1 : ((d : Int) < (l.length : Int)) := by omega
        simp [l_slices_EqualFunc_api_Row_api_Row_api_Row_api_Row_0, a1, a2, a3, e4, e5, i1]; rfl)
      simp [f_slices_EqualFunc_api_Row_api_Row_api_Row_api_Row, b_slices_EqualFunc_api_Row_api_Row_api_Row_api_Row, hg1, hlen, lX, lY]
      simp [hlen] at hloop
      rw [hloop, e2]
      simp
  · have hne : decide (l = m) = false := decide_eq_false fun e => hlen (congrArg List.length e)
    rw [hne]
    simp [f_slices_EqualFunc_api_Row_api_Row_api_Row_api_Row, b_slices_EqualFunc_api_Row_api_Row_api_Row_api_Row, hg1, bne_len hlen, lX, lY]
theorem EqF_Agg {α : Type} [DecidableEq α] {f : α → AVal} {g : AVal} {t t' : Bool} {l m : List α} (hn : l.length ≤ maxLen) (hf : ∀ a, ncells (f a) = 2 ∧ isAgg (f a) = true) (hg : ∀ fl top σ, (fl || top) = true → fz fl top 0 σ 20 g = g)
    (hc : ∀ a b σ, acallV code g [f a, f b] σ = some (.bool (decide (a = b)), σ)) : pcall I.slices_EqualFunc_api_Agg_api_Agg_api_Agg_api_Agg [.imm t (l.map f), .imm t' (m.map f), g] = some (.bool (decide (l = m))) := by
  rw [pcall_eq c_slices_EqualFunc_api_Agg_api_Agg_api_Agg_api_Agg rfl]
  have hg1 := hg true false [] rfl
  generalize hX : l.map f = xs
  generalize hY : m.map f = ys
  have lX : xs.length = l.length := by rw [← hX]; simp
  have lY : ys.length = m.length := by rw [← hY]; simp
  by_cases hlen : l.length = m.length
  · obtain ⟨d, h1, h2, h3⟩ := same_diff hlen
    have hstep : ∀ k, k < d → thenLoop 0 [3, 4, 5, 6, 11, 12] l_slices_EqualFunc_api_Agg_api_Agg_api_Agg_api_Agg_0 (run code l_slices_EqualFunc_api_Agg_api_Agg_api_Agg_api_Agg_0 ⟨[.imm t xs, .imm t' ys, g, .any, .any, .any, .any, .bool false, .imm t xs, .int .i64 l.length, .int .i64 k, .any, .any], []⟩) = rounds code 0 [3, 4, 5, 6, 11, 12] l_slices_EqualFunc_api_Agg_api_Agg_api_Agg_api_Agg_0 ⟨[.imm t xs, .imm t' ys, g, .any, .any, .any, .any, .bool false, .imm t xs, .int .i64 l.length, .int .i64 (k + 1 : Nat), .any, .any], []⟩ := fun k hk => by
      have a1 : k < l.length := by omega
      have a2 : k < m.length := by omega
      have e1 : xs[k]? = some (f l[k]) := by rw [← hX]; exact map_get a1
      have e2 : ys[k]? = some (f m[k]) := by rw [← hY]; exact map_get a2
      have e3 := hc l[k] m[k]
      have e4 := hf l[k]
      have e5 := hf m[k]
      have e6 := h2 k hk a1 a2
      rw [e6] at e1 e3 e4
      have i1 : ((k : Int) < (l.length : Int)) := by omega
      simp [l_slices_EqualFunc_api_Agg_api_Agg_api_Agg_api_Agg_0, e1, e2, e3, e4, e5, i1, wrap_sl a1 hn, roundEnd, hg]
    rcases h3 with ⟨e1, e2⟩ | ⟨q1, q2, e1, e2⟩
    · have hloop := rounds_iter (base := 0) (clr := [3, 4, 5, 6, 11, 12]) (b := l_slices_EqualFunc_api_Agg_api_Agg_api_Agg_api_Agg_0) (fun k => ⟨[.imm t xs, .imm t' ys, g, .any, .any, .any, .any, .bool false, .imm t xs, .int .i64 l.length, .int .i64 k, .any, .any], []⟩) d _ hstep (by
        subst e1
        simp [l_slices_EqualFunc_api_Agg_api_Agg_api_Agg_api_Agg_0]; rfl)
      simp [f_slices_EqualFunc_api_Agg_api_Agg_api_Agg_api_Agg, b_slices_EqualFunc_api_Agg_api_Agg_api_Agg_api_Agg, hg1, hlen, lX, lY]
      simp [hlen] at hloop
      rw [hloop, e2]
      simp
    · have hloop := rounds_iter (base := 0) (clr := [3, 4, 5, 6, 11, 12]) (b := l_slices_EqualFunc_api_Agg_api_Agg_api_Agg_api_Agg_0) (fun k => ⟨[.imm t xs, .imm t' ys, g, .any, .any, .any, .any, .bool false, .imm t xs, .int .i64 l.length, .int .i64 k, .any, .any], []⟩) d _ hstep (by
        have a1 : xs[d]? = some (f l[d]) := by rw [← hX]; exact map_get q1
        have a2 : ys[d]? = some (f m[d]) := by rw [← hY]; exact map_get q2
        have a3 := hc l[d] m[d]
        have e4 := hf l[d]
        have e5 := hf m[d]
        rw [decide_eq_false e1] at a3
        have i1 : ((d : Int) < (l.length : Int)) := by omega
        simp [l_slices_EqualFunc_api_Agg_api_Agg_api_Agg_api_Agg_0, a1, a2, a3, e4, e5, i1]; rfl)
      simp [f_slices_EqualFunc_api_Agg_api_Agg_api_Agg_api_Agg, b_slices_EqualFunc_api_Agg_api_Agg_api_Agg_api_Agg, hg1, hlen, lX, lY]
      simp [hlen] at hloop
      rw [hloop, e2]
      simp
  · have hne : decide (l = m) = false := decide_eq_false fun e => hlen (congrArg List.length e)
    rw [hne]
    simp [f_slices_EqualFunc_api_Agg_api_Agg_api_Agg_api_Agg, b_slices_EqualFunc_api_Agg_api_Agg_api_Agg_api_Agg, hg1, bne_len hlen, lX, lY]
theorem EqF_Expr {α : Type} [DecidableEq α] {f : α → AVal} {g : AVal} {t t' : Bool} {l m : List α} (hn : l.length ≤ maxLen) (hf : ∀ a, ncells (f a) = 1 ∧ isAgg (f a) = true) (hg : ∀ fl top σ, (fl || top) = true → fz fl top 0 σ 20 g = g)
    (hc : ∀ a b σ, acallV code g [f a, f b] σ = some (.bool (decide (a = b)), σ)) : pcall I.slices_EqualFunc_api_Expr_api_Expr_api_Expr_api_Expr [.imm t (l.map f), .imm t' (m.map f), g] = some (.bool (decide (l = m))) := by
  rw [pcall_eq c_slices_EqualFunc_api_Expr_api_Expr_api_Expr_api_Expr rfl]
  have hg1 := hg true false [] rfl
  generalize hX : l.map f = xs
  generalize hY : m.map f = ys
  have lX : xs.length = l.length := by rw [← hX]; simp
  have lY : ys.length = m.length := by rw [← hY]; simp
  by_cases hlen : l.length = m.length
  · obtain ⟨d, h1, h2, h3⟩ := same_diff hlen
    have hstep : ∀ k, k < d → thenLoop 0 [3, 4, 5, 6, 11, 12] l_slices_EqualFunc_api_Expr_api_Expr_api_Expr_api_Expr_0 (run code l_slices_EqualFunc_api_Expr_api_Expr_api_Expr_api_Expr_0 ⟨[.imm t xs, .imm t' ys, g, .any, .any, .any, .any, .bool false, .imm t xs, .int .i64 l.length, .int .i64 k, .any, .any], []⟩) = rounds code 0 [3, 4, 5, 6, 11, 12] l_slices_EqualFunc_api_Expr_api_Expr_api_Expr_api_Expr_0 ⟨[.imm t xs, .imm t' ys, g, .any, .any, .any, .any, .bool false, .imm t xs, .int .i64 l.length, .int .i64 (k + 1 : Nat), .any, .any], []⟩ := fun k hk => by
      have a1 : k < l.length := by omega
      have a2 : k < m.length := by omega
      have e1 : xs[k]? = some (f l[k]) := by rw [← hX]; exact map_get a1
      have e2 : ys[k]? = some (f m[k]) := by rw [← hY]; exact map_get a2
      have e3 := hc l[k] m[k]
      have e4 := hf l[k]
      have e5 := hf m[k]
      have e6 := h2 k hk a1 a2
      rw [e6] at e1 e3 e4
      have i1 : ((k : Int) < (l.length : Int)) := by omega
      simp [l_slices_EqualFunc_api_Expr_api_Expr_api_Expr_api_Expr_0, e1, e2, e3, e4, e5, i1, wrap_sl a1 hn, roundEnd, hg]
    rcases h3 with ⟨e1, e2⟩ | ⟨q1, q2, e1, e2⟩
    · have hloop := rounds_iter (base := 0) (clr := [3, 4, 5, 6, 11, 12]) (b := l_slices_EqualFunc_api_Expr_api_Expr_api_Expr_api_Expr_0) (fun k => ⟨[.imm t xs, .imm t' ys, g, .any, .any, .any, .any, .bool false, .imm t xs, .int .i64 l.length, .int .i64 k, .any, .any], []⟩) d _ hstep (by
        subst e1
        simp [l_slices_EqualFunc_api_Expr_api_Expr_api_Expr_api_Expr_0]; rfl)
      simp [f_slices_EqualFunc_api_Expr_api_Expr_api_Expr_api_Expr, b_slices_EqualFunc_api_Expr_api_Expr_api_Expr_api_Expr, hg1, hlen, lX, lY]
      simp [hlen] at hloop
      rw [hloop, e2]
      simp
    · have hloop := rounds_iter (base := 0) (clr := [3, 4, 5, 6, 11, 12]) (b := l_slices_EqualFunc_api_Expr_api_Expr_api_Expr_api_Expr_0) (fun k => ⟨[.imm t xs, .imm t' ys, g, .any, .any, .any, .any, .bool false, .imm t xs, .int .i64 l.length, .int .i64 k, .any, .any], []⟩) d _ hstep (by
        have a1 : xs[d]? = some (f l[d]) := by rw [← hX]; exact map_get q1
        have a2 : ys[d]? = some (f m[d]) := by rw [← hY]; exact map_get q2
        have a3 := hc l[d] m[d]
        have e4 := hf l[d]
        have e5 := hf m[d]
        rw [decide_eq_false e1] at a3
        have i1 : ((d : Int) < (l.length : Int)) := by omega
        simp [l_slices_EqualFunc_api_Expr_api_Expr_api_Expr_api_Expr_0, a1, a2, a3, e4, e5, i1]; rfl)
      simp [f_slices_EqualFunc_api_Expr_api_Expr_api_Expr_api_Expr, b_slices_EqualFunc_api_Expr_api_Expr_api_Expr_api_Expr, hg1, hlen, lX, lY]
      simp [hlen] at hloop
      rw [hloop, e2]
      simp
  · have hne : decide (l = m) = false := decide_eq_false fun e => hlen (congrArg List.length e)
    rw [hne]
    simp [f_slices_EqualFunc_api_Expr_api_Expr_api_Expr_api_Expr, b_slices_EqualFunc_api_Expr_api_Expr_api_Expr_api_Expr, hg1, bne_len hlen, lX, lY]
theorem EqF_Frag {α : Type} [DecidableEq α] {f : α → AVal} {g : AVal} {t t' : Bool} {l m : List α} (hn : l.length ≤ maxLen) (hf : ∀ a, ncells (f a) = 4 ∧ isAgg (f a) = true) (hg : ∀ fl top σ, (fl || top) = true → fz fl top 0 σ 20 g = g)
    (hc : ∀ a b σ, acallV code g [f a, f b] σ = some (.bool (decide (a = b)), σ)) : pcall I.slices_EqualFunc_api_Frag_api_Frag_api_Frag_api_Frag [.imm t (l.map f), .imm t' (m.map f), g] = some (.bool (decide (l = m))) := by
  rw [pcall_eq c_slices_EqualFunc_api_Frag_api_Frag_api_Frag_api_Frag rfl]
  have hg1 := hg true false [] rfl
  generalize hX : l.map f = xs
  generalize hY : m.map f = ys
  have lX : xs.length = l.length := by rw [← hX]; simp
  have lY : ys.length = m.length := by rw [← hY]; simp
  by_cases hlen : l.length = m.length
  · obtain ⟨d, h1, h2, h3⟩ := same_diff hlen
    have hstep : ∀ k, k < d → thenLoop 0 [3, 4, 5, 6, 11, 12] l_slices_EqualFunc_api_Frag_api_Frag_api_Frag_api_Frag_0 (run code l_slices_EqualFunc_api_Frag_api_Frag_api_Frag_api_Frag_0 ⟨[.imm t xs, .imm t' ys, g, .any, .any, .any, .any, .bool false, .imm t xs, .int .i64 l.length, .int .i64 k, .any, .any], []⟩) = rounds code 0 [3, 4, 5, 6, 11, 12] l_slices_EqualFunc_api_Frag_api_Frag_api_Frag_api_Frag_0 ⟨[.imm t xs, .imm t' ys, g, .any, .any, .any, .any, .bool false, .imm t xs, .int .i64 l.length, .int .i64 (k + 1 : Nat), .any, .any], []⟩ := fun k hk => by
      have a1 : k < l.length := by omega
      have a2 : k < m.length := by omega
      have e1 : xs[k]? = some (f l[k]) := by rw [← hX]; exact map_get a1
      have e2 : ys[k]? = some (f m[k]) := by rw [← hY]; exact map_get a2
      have e3 := hc l[k] m[k]
      have e4 := hf l[k]
      have e5 := hf m[k]
      have e6 := h2 k hk a1 a2
      rw [e6] at e1 e3 e4
      have i1 : ((k : Int) < (l.length : Int)) := by omega
      simp [l_slices_EqualFunc_api_Frag_api_Frag_api_Frag_api_Frag_0, e1, e2, e3, e4, e5, i1, wrap_sl a1 hn, roundEnd, hg]
    rcases h3 with ⟨e1, e2⟩ | ⟨q1, q2, e1, e2⟩
    · have hloop := rounds_iter (base := 0) (clr := [3, 4, 5, 6, 11, 12]) (b := l_slices_EqualFunc_api_Frag_api_Frag_api_Frag_api_Frag_0) (fun k => ⟨[.imm t xs, .imm t' ys, g, .any, .any, .any, .any, .bool false, .imm t xs, .int .i64 l.length, .int .i64 k, .any, .any], []⟩) d _ hstep (by
        subst e1
        simp [l_slices_EqualFunc_api_Frag_api_Frag_api_Frag_api_Frag_0]; rfl)
      simp [f_slices_EqualFunc_api_Frag_api_Frag_api_Frag_api_Frag, b_slices_EqualFunc_api_Frag_api_Frag_api_Frag_api_Frag, hg1, hlen, lX, lY]
      simp [hlen] at hloop
      rw [hloop, e2]
      simp
    · have hloop := rounds_iter (base := 0) (clr := [3, 4, 5, 6, 11, 12]) (b := l_slices_EqualFunc_api_Frag_api_Frag_api_Frag_api_Frag_0) (fun k => ⟨[.imm t xs, .imm t' ys, g, .any, .any, .any, .any, .bool false, .imm t xs, .int .i64 l.length, .int .i64 k, .any, .any], []⟩) d _ hstep (by
        have a1 : xs[d]? = some (f l[d]) := by rw [← hX]; exact map_get q1
        have a2 : ys[d]? = some (f m[d]) := by rw [← hY]; exact map_get q2
        have a3 := hc l[d] m[d]
        have e4 := hf l[d]
        have e5 := hf m[d]
        rw [decide_eq_false e1] at a3
        have i1 : ((d : Int) < (l.length : Int)) := by omega
        simp [l_slices_EqualFunc_api_Frag_api_Frag_api_Frag_api_Frag_0, a1, a2, a3, e4, e5, i1]; rfl)
      simp [f_slices_EqualFunc_api_Frag_api_Frag_api_Frag_api_Frag, b_slices_EqualFunc_api_Frag_api_Frag_api_Frag_api_Frag, hg1, hlen, lX, lY]
      simp [hlen] at hloop
      rw [hloop, e2]
      simp
  · have hne : decide (l = m) = false := decide_eq_false fun e => hlen (congrArg List.length e)
    rw [hne]
    simp [f_slices_EqualFunc_api_Frag_api_Frag_api_Frag_api_Frag, b_slices_EqualFunc_api_Frag_api_Frag_api_Frag_api_Frag, hg1, bne_len hlen, lX, lY]
theorem EqF_LNode {α : Type} [DecidableEq α] {f : α → AVal} {g : AVal} {t t' : Bool} {l m : List α} (hn : l.length ≤ maxLen) (hf : ∀ a, ncells (f a) = 12 ∧ isAgg (f a) = true) (hg : ∀ fl top σ, (fl || top) = true → fz fl top 0 σ 20 g = g)
    (hc : ∀ a b σ, acallV code g [f a, f b] σ = some (.bool (decide (a = b)), σ)) : pcall I.slices_EqualFunc_api_LNode_api_LNode_api_LNode_api_LNode [.imm t (l.map f), .imm t' (m.map f), g] = some (.bool (decide (l = m))) := by
  rw [pcall_eq c_slices_EqualFunc_api_LNode_api_LNode_api_LNode_api_LNode rfl]
  have hg1 := hg true false [] rfl
  generalize hX : l.map f = xs
  generalize hY : m.map f = ys
  have lX : xs.length = l.length := by rw [← hX]; simp
  have lY : ys.length = m.length := by rw [← hY]; simp
  by_cases hlen : l.length = m.length
  · obtain ⟨d, h1, h2, h3⟩ := same_diff hlen
    have hstep : ∀ k, k < d → thenLoop 0 [3, 4, 5, 6, 11, 12] l_slices_EqualFunc_api_LNode_api_LNode_api_LNode_api_LNode_0 (run code l_slices_EqualFunc_api_LNode_api_LNode_api_LNode_api_LNode_0 ⟨[.imm t xs, .imm t' ys, g, .any, .any, .any, .any, .bool false, .imm t xs, .int .i64 l.length, .int .i64 k, .any, .any], []⟩) = rounds code 0 [3, 4, 5, 6, 11, 12] l_slices_EqualFunc_api_LNode_api_LNode_api_LNode_api_LNode_0 ⟨[.imm t xs, .imm t' ys, g, .any, .any, .any, .any, .bool false, .imm t xs, .int .i64 l.length, .int .i64 (k + 1 : Nat), .any, .any], []⟩ := fun k hk => by
      have a1 : k < l.length := by omega
      have a2 : k < m.length := by omega
      have e1 : xs[k]? = some (f l[k]) := by rw [← hX]; exact map_get a1
      have e2 : ys[k]? = some (f m[k]) := by rw [← hY]; exact map_get a2
      have e3 := hc l[k] m[k]
      have e4 := hf l[k]
      have e5 := hf m[k]
      have e6 := h2 k hk a1 a2
      rw [e6] at e1 e3 e4
      have i1 : ((k : Int) < (l.length : Int)) := by omega
      simp [l_slices_EqualFunc_api_LNode_api_LNode_api_LNode_api_LNode_0, e1, e2, e3, e4, e5, i1, wrap_sl a1 hn, roundEnd, hg]
    rcases h3 with ⟨e1, e2⟩ | ⟨q1, q2, e1, e2⟩
    · have hloop := rounds_iter (base := 0) (clr := [3, 4, 5, 6, 11, 12]) (b := l_slices_EqualFunc_api_LNode_api_LNode_api_LNode_api_LNode_0) (fun k => ⟨[.imm t xs, .imm t' ys, g, .any, .any, .any, .any, .bool false, .imm t xs, .int .i64 l.length, .int .i64 k, .any, .any], []⟩) d _ hstep (by
        subst e1
        simp [l_slices_EqualFunc_api_LNode_api_LNode_api_LNode_api_LNode_0]; rfl)
      simp [f_slices_EqualFunc_api_LNode_api_LNode_api_LNode_api_LNode, b_slices_EqualFunc_api_LNode_api_LNode_api_LNode_api_LNode, hg1, hlen, lX, lY]
      simp [hlen] at hloop
      rw [hloop, e2]
      simp
    · have hloop := rounds_iter (base := 0) (clr := [3, 4, 5, 6, 11, 12]) (b := l_slices_EqualFunc_api_LNode_api_LNode_api_LNode_api_LNode_0) (fun k => ⟨[.imm t xs, .imm t' ys, g, .any, .any, .any, .any, .bool false, .imm t xs, .int .i64 l.length, .int .i64 k, .any, .any], []⟩) d _ hstep (by
        have a1 : xs[d]? = some (f l[d]) := by rw [← hX]; exact map_get q1
        have a2 : ys[d]? = some (f m[d]) := by rw [← hY]; exact map_get q2
        have a3 := hc l[d] m[d]
        have e4 := hf l[d]
        have e5 := hf m[d]
        rw [decide_eq_false e1] at a3
        have i1 : ((d : Int) < (l.length : Int)) := by omega
        simp [l_slices_EqualFunc_api_LNode_api_LNode_api_LNode_api_LNode_0, a1, a2, a3, e4, e5, i1]; rfl)
      simp [f_slices_EqualFunc_api_LNode_api_LNode_api_LNode_api_LNode, b_slices_EqualFunc_api_LNode_api_LNode_api_LNode_api_LNode, hg1, hlen, lX, lY]
      simp [hlen] at hloop
      rw [hloop, e2]
      simp
  · have hne : decide (l = m) = false := decide_eq_false fun e => hlen (congrArg List.length e)
    rw [hne]
    simp [f_slices_EqualFunc_api_LNode_api_LNode_api_LNode_api_LNode, b_slices_EqualFunc_api_LNode_api_LNode_api_LNode_api_LNode, hg1, bne_len hlen, lX, lY]
theorem Eq_int {α : Type} [DecidableEq α] {f : α → AVal} {t t' : Bool} {l m : List α} (hn : l.length ≤ maxLen) (hf : ∀ a, ncells (f a) = 1 ∧ isAgg (f a) = false)
    (hc : ∀ a b, bin .neq (f a) (f b) = some (.bool (!decide (a = b)))) : pcall I.slices_Equal_int_int [.imm t (l.map f), .imm t' (m.map f)] = some (.bool (decide (l = m))) := by
  rw [pcall_eq c_slices_Equal_int_int rfl]
  generalize hX : l.map f = xs
  generalize hY : m.map f = ys
  have lX : xs.length = l.length := by rw [← hX]; simp
  have lY : ys.length = m.length := by rw [← hY]; simp
  by_cases hlen : l.length = m.length
  · obtain ⟨d, h1, h2, h3⟩ := same_diff hlen
    have hstep : ∀ k, k < d → thenLoop 0 [2, 3, 7, 8] l_slices_Equal_int_int_0 (run code l_slices_Equal_int_int_0 ⟨[.imm t xs, .imm t' ys, .any, .any, .bool false, .int .i64 l.length, .int .i64 k, .any, .any], []⟩) = rounds code 0 [2, 3, 7, 8] l_slices_Equal_int_int_0 ⟨[.imm t xs, .imm t' ys, .any, .any, .bool false, .int .i64 l.length, .int .i64 (k + 1 : Nat), .any, .any], []⟩ := fun k hk => by
      have a1 : k < l.length := by omega
      have a2 : k < m.length := by omega
      have e1 : xs[k]? = some (f l[k]) := by rw [← hX]; exact map_get a1
      have e2 : ys[k]? = some (f m[k]) := by rw [← hY]; exact map_get a2
      have e3 := hc l[k] m[k]
      have e4 := hf l[k]
      have e5 := hf m[k]
      have e6 := h2 k hk a1 a2
      rw [e6] at e1 e3 e4
      have i1 : ((k : Int) < (l.length : Int)) := by omega
      have i2 : bin .lss (.int .i64 (k : Int)) (.int .i64 (l.length : Int)) = some (.bool true) := by simp [i1]
      have i3 : bin .add (.int .i64 (k : Int)) (.int .i64 1) = some (.int .i64 ((k + 1 : Nat) : Int)) := by simp [wrap_sl a1 hn]
      simp [l_slices_Equal_int_int_0, e1, e2, -bin,  i2, i3, e3, e4, e5, i1, wrap_sl a1 hn, roundEnd]
    rcases h3 with ⟨e1, e2⟩ | ⟨q1, q2, e1, e2⟩
    · have hloop := rounds_iter (base := 0) (clr := [2, 3, 7, 8]) (b := l_slices_Equal_int_int_0) (fun k => ⟨[.imm t xs, .imm t' ys, .any, .any, .bool false, .int .i64 l.length, .int .i64 k, .any, .any], []⟩) d _ hstep (by
        subst e1
        simp [l_slices_Equal_int_int_0]; rfl)
      simp [f_slices_Equal_int_int, b_slices_Equal_int_int, hlen, lX, lY]
      simp [hlen] at hloop
      rw [hloop, e2]
      simp
    · have hloop := rounds_iter (base := 0) (clr := [2, 3, 7, 8]) (b := l_slices_Equal_int_int_0) (fun k => ⟨[.imm t xs, .imm t' ys, .any, .any, .bool false, .int .i64 l.length, .int .i64 k, .any, .any], []⟩) d _ hstep (by
        have a1 : xs[d]? = some (f l[d]) := by rw [← hX]; exact map_get q1
        have a2 : ys[d]? = some (f m[d]) := by rw [← hY]; exact map_get q2
        have a3 := hc l[d] m[d]
        have e4 := hf l[d]
        have e5 := hf m[d]
        rw [decide_eq_false e1] at a3
        have i1 : ((d : Int) < (l.length : Int)) := by omega
        have i2 : bin .lss (.int .i64 (d : Int)) (.int .i64 (l.length : Int)) = some (.bool true) := by simp [i1]
        simp [l_slices_Equal_int_int_0, a1, a2, -bin,  i2, a3, e4, e5, i1]; rfl)
      simp [f_slices_Equal_int_int, b_slices_Equal_int_int, hlen, lX, lY]
      simp [hlen] at hloop
      rw [hloop, e2]
      simp
  · have hne : decide (l = m) = false := decide_eq_false fun e => hlen (congrArg List.length e)
    rw [hne]
    simp [f_slices_Equal_int_int, b_slices_Equal_int_int, bne_len hlen, lX, lY]
theorem Eq_Ord {α : Type} [DecidableEq α] {f : α → AVal} {t t' : Bool} {l m : List α} (hn : l.length ≤ maxLen) (hf : ∀ a, ncells (f a) = 2 ∧ isAgg (f a) = true)
    (hc : ∀ a b, eqa true [0, 1] (f a) (f b) = some (.bool (!decide (a = b)))) : pcall I.slices_Equal_api_Ord_api_Ord [.imm t (l.map f), .imm t' (m.map f)] = some (.bool (decide (l = m))) := by
  rw [pcall_eq c_slices_Equal_api_Ord_api_Ord rfl]
  generalize hX : l.map f = xs
  generalize hY : m.map f = ys
  have lX : xs.length = l.length := by rw [← hX]; simp
  have lY : ys.length = m.length := by rw [← hY]; simp
  by_cases hlen : l.length = m.length
  · obtain ⟨d, h1, h2, h3⟩ := same_diff hlen
    have hstep : ∀ k, k < d → thenLoop 0 [2, 3, 7, 8] l_slices_Equal_api_Ord_api_Ord_0 (run code l_slices_Equal_api_Ord_api_Ord_0 ⟨[.imm t xs, .imm t' ys, .any, .any, .bool false, .int .i64 l.length, .int .i64 k, .any, .any], []⟩) = rounds code 0 [2, 3, 7, 8] l_slices_Equal_api_Ord_api_Ord_0 ⟨[.imm t xs, .imm t' ys, .any, .any, .bool false, .int .i64 l.length, .int .i64 (k + 1 : Nat), .any, .any], []⟩ := fun k hk => by
      have a1 : k < l.length := by omega
      have a2 : k < m.length := by omega
      have e1 : xs[k]? = some (f l[k]) := by rw [← hX]; exact map_get a1
      have e2 : ys[k]? = some (f m[k]) := by rw [← hY]; exact map_get a2
      have e3 := hc l[k] m[k]
      have e4 := hf l[k]
      have e5 := hf m[k]
      have e6 := h2 k hk a1 a2
      rw [e6] at e1 e3 e4
      have i1 : ((k : Int) < (l.length : Int)) := by omega
      have i2 : bin .lss (.int .i64 (k : Int)) (.int .i64 (l.length : Int)) = some (.bool true) := by simp [i1]
      have i3 : bin .add (.int .i64 (k : Int)) (.int .i64 1) = some (.int .i64 ((k + 1 : Nat) : Int)) := by simp [wrap_sl a1 hn]
      simp [l_slices_Equal_api_Ord_api_Ord_0, e1, e2, -eqa,  i2, i3, e3, e4, e5, i1, wrap_sl a1 hn, roundEnd]
    rcases h3 with ⟨e1, e2⟩ | ⟨q1, q2, e1, e2⟩
    · have hloop := rounds_iter (base := 0) (clr := [2, 3, 7, 8]) (b := l_slices_Equal_api_Ord_api_Ord_0) (fun k => ⟨[.imm t xs, .imm t' ys, .any, .any, .bool false, .int .i64 l.length, .int .i64 k, .any, .any], []⟩) d _ hstep (by
        subst e1
        simp [l_slices_Equal_api_Ord_api_Ord_0]; rfl)
      simp [f_slices_Equal_api_Ord_api_Ord, b_slices_Equal_api_Ord_api_Ord, hlen, lX, lY]
      simp [hlen] at hloop
      rw [hloop, e2]
      simp
    · have hloop := rounds_iter (base := 0) (clr := [2, 3, 7, 8]) (b := l_slices_Equal_api_Ord_api_Ord_0) (fun k => ⟨[.imm t xs, .imm t' ys, .any, .any, .bool false, .int .i64 l.length, .int .i64 k, .any, .any], []⟩) d _ hstep (by
        have a1 : xs[d]? = some (f l[d]) := by rw [← hX]; exact map_get q1
        have a2 : ys[d]? = some (f m[d]) := by rw [← hY]; exact map_get q2
        have a3 := hc l[d] m[d]
        have e4 := hf l[d]
        have e5 := hf m[d]
        rw [decide_eq_false e1] at a3
        have i1 : ((d : Int) < (l.length : Int)) := by omega
        have i2 : bin .lss (.int .i64 (d : Int)) (.int .i64 (l.length : Int)) = some (.bool true) := by simp [i1]
        simp [l_slices_Equal_api_Ord_api_Ord_0, a1, a2, -eqa,  i2, a3, e4, e5, i1]; rfl)
      simp [f_slices_Equal_api_Ord_api_Ord, b_slices_Equal_api_Ord_api_Ord, hlen, lX, lY]
      simp [hlen] at hloop
      rw [hloop, e2]
      simp
  · have hne : decide (l = m) = false := decide_eq_false fun e => hlen (congrArg List.length e)
    rw [hne]
    simp [f_slices_Equal_api_Ord_api_Ord, b_slices_Equal_api_Ord_api_Ord, bne_len hlen, lX, lY]
theorem Eq_Val {α : Type} [DecidableEq α] {f : α → AVal} {t t' : Bool} {l m : List α} (hn : l.length ≤ maxLen) (hf : ∀ a, ncells (f a) = 4 ∧ isAgg (f a) = true)
    (hc : ∀ a b, eqa true [0, 0, 0, 2] (f a) (f b) = some (.bool (!decide (a = b)))) : pcall I.slices_Equal_api_Row_api_Value [.imm t (l.map f), .imm t' (m.map f)] = some (.bool (decide (l = m))) := by
  rw [pcall_eq c_slices_Equal_api_Row_api_Value rfl]
  generalize hX : l.map f = xs
  generalize hY : m.map f = ys
  have lX : xs.length = l.length := by rw [← hX]; simp
  have lY : ys.length = m.length := by rw [← hY]; simp
  by_cases hlen : l.length = m.length
  · obtain ⟨d, h1, h2, h3⟩ := same_diff hlen
    have hstep : ∀ k, k < d → thenLoop 0 [2, 3, 7, 8] l_slices_Equal_api_Row_api_Value_0 (run code l_slices_Equal_api_Row_api_Value_0 ⟨[.imm t xs, .imm t' ys, .any, .any, .bool false, .int .i64 l.length, .int .i64 k, .any, .any], []⟩) = rounds code 0 [2, 3, 7, 8] l_slices_Equal_api_Row_api_Value_0 ⟨[.imm t xs, .imm t' ys, .any, .any, .bool false, .int .i64 l.length, .int .i64 (k + 1 : Nat), .any, .any], []⟩ := fun k hk => by
      have a1 : k < l.length := by omega
      have a2 : k < m.length := by omega
      have e1 : xs[k]? = some (f l[k]) := by rw [← hX]; exact map_get a1
      have e2 : ys[k]? = some (f m[k]) := by rw [← hY]; exact map_get a2
      have e3 := hc l[k] m[k]
      have e4 := hf l[k]
      have e5 := hf m[k]
      have e6 := h2 k hk a1 a2
      rw [e6] at e1 e3 e4
      have i1 : ((k : Int) < (l.length : Int)) := by omega
      have i2 : bin .lss (.int .i64 (k : Int)) (.int .i64 (l.length : Int)) = some (.bool true) := by simp [i1]
      have i3 : bin .add (.int .i64 (k : Int)) (.int .i64 1) = some (.int .i64 ((k + 1 : Nat) : Int)) := by simp [wrap_sl a1 hn]
      simp [l_slices_Equal_api_Row_api_Value_0, e1, e2, -eqa,  i2, i3, e3, e4, e5, i1, wrap_sl a1 hn, roundEnd]
    rcases h3 with ⟨e1, e2⟩ | ⟨q1, q2, e1, e2⟩
    · have hloop := rounds_iter (base := 0) (clr := [2, 3, 7, 8]) (b := l_slices_Equal_api_Row_api_Value_0) (fun k => ⟨[.imm t xs, .imm t' ys, .any, .any, .bool false, .int .i64 l.length, .int .i64 k, .any, .any], []⟩) d _ hstep (by
        subst e1
        simp [l_slices_Equal_api_Row_api_Value_0]; rfl)
      simp [f_slices_Equal_api_Row_api_Value, b_slices_Equal_api_Row_api_Value, hlen, lX, lY]
      simp [hlen] at hloop
      rw [hloop, e2]
      simp
    · have hloop := rounds_iter (base := 0) (clr := [2, 3, 7, 8]) (b := l_slices_Equal_api_Row_api_Value_0) (fun k => ⟨[.imm t xs, .imm t' ys, .any, .any, .bool false, .int .i64 l.length, .int .i64 k, .any, .any], []⟩) d _ hstep (by
        have a1 : xs[d]? = some (f l[d]) := by rw [← hX]; exact map_get q1
        have a2 : ys[d]? = some (f m[d]) := by rw [← hY]; exact map_get q2
        have a3 := hc l[d] m[d]
        have e4 := hf l[d]
        have e5 := hf m[d]
        rw [decide_eq_false e1] at a3
        have i1 : ((d : Int) < (l.length : Int)) := by omega
        have i2 : bin .lss (.int .i64 (d : Int)) (.int .i64 (l.length : Int)) = some (.bool true) := by simp [i1]
        simp [l_slices_Equal_api_Row_api_Value_0, a1, a2, -eqa,  i2, a3, e4, e5, i1]; rfl)
      simp [f_slices_Equal_api_Row_api_Value, b_slices_Equal_api_Row_api_Value, hlen, lX, lY]
      simp [hlen] at hloop
      rw [hloop, e2]
      simp
  · have hne : decide (l = m) = false := decide_eq_false fun e => hlen (congrArg List.length e)
    rw [hne]
    simp [f_slices_Equal_api_Row_api_Value, b_slices_Equal_api_Row_api_Value, bne_len hlen, lX, lY]
theorem Eq_EN {α : Type} [DecidableEq α] {f : α → AVal} {t t' : Bool} {l m : List α} (hn : l.length ≤ maxLen) (hf : ∀ a, ncells (f a) = 8 ∧ isAgg (f a) = true)
    (hc : ∀ a b, eqa true [0, 0, 0, 0, 0, 0, 0, 2] (f a) (f b) = some (.bool (!decide (a = b)))) : pcall I.slices_Equal_api_ENode_api_ENode [.imm t (l.map f), .imm t' (m.map f)] = some (.bool (decide (l = m))) := by
  rw [pcall_eq c_slices_Equal_api_ENode_api_ENode rfl]
  generalize hX : l.map f = xs
  generalize hY : m.map f = ys
  have lX : xs.length = l.length := by rw [← hX]; simp
  have lY : ys.length = m.length := by rw [← hY]; simp
  by_cases hlen : l.length = m.length
  · obtain ⟨d, h1, h2, h3⟩ := same_diff hlen
    have hstep : ∀ k, k < d → thenLoop 0 [2, 3, 7, 8] l_slices_Equal_api_ENode_api_ENode_0 (run code l_slices_Equal_api_ENode_api_ENode_0 ⟨[.imm t xs, .imm t' ys, .any, .any, .bool false, .int .i64 l.length, .int .i64 k, .any, .any], []⟩) = rounds code 0 [2, 3, 7, 8] l_slices_Equal_api_ENode_api_ENode_0 ⟨[.imm t xs, .imm t' ys, .any, .any, .bool false, .int .i64 l.length, .int .i64 (k + 1 : Nat), .any, .any], []⟩ := fun k hk => by
      have a1 : k < l.length := by omega
      have a2 : k < m.length := by omega
      have e1 : xs[k]? = some (f l[k]) := by rw [← hX]; exact map_get a1
      have e2 : ys[k]? = some (f m[k]) := by rw [← hY]; exact map_get a2
      have e3 := hc l[k] m[k]
      have e4 := hf l[k]
      have e5 := hf m[k]
      have e6 := h2 k hk a1 a2
      rw [e6] at e1 e3 e4
      have i1 : ((k : Int) < (l.length : Int)) := by omega
      have i2 : bin .lss (.int .i64 (k : Int)) (.int .i64 (l.length : Int)) = some (.bool true) := by simp [i1]
      have i3 : bin .add (.int .i64 (k : Int)) (.int .i64 1) = some (.int .i64 ((k + 1 : Nat) : Int)) := by simp [wrap_sl a1 hn]
      simp [l_slices_Equal_api_ENode_api_ENode_0, e1, e2, -eqa,  i2, i3, e3, e4, e5, i1, wrap_sl a1 hn, roundEnd]
    rcases h3 with ⟨e1, e2⟩ | ⟨q1, q2, e1, e2⟩
    · have hloop := rounds_iter (base := 0) (clr := [2, 3, 7, 8]) (b := l_slices_Equal_api_ENode_api_ENode_0) (fun k => ⟨[.imm t xs, .imm t' ys, .any, .any, .bool false, .int .i64 l.length, .int .i64 k, .any, .any], []⟩) d _ hstep (by
        subst e1
        simp [l_slices_Equal_api_ENode_api_ENode_0]; rfl)
      simp [f_slices_Equal_api_ENode_api_ENode, b_slices_Equal_api_ENode_api_ENode, hlen, lX, lY]
      simp [hlen] at hloop
      rw [hloop, e2]
      simp
    · have hloop := rounds_iter (base := 0) (clr := [2, 3, 7, 8]) (b := l_slices_Equal_api_ENode_api_ENode_0) (fun k => ⟨[.imm t xs, .imm t' ys, .any, .any, .bool false, .int .i64 l.length, .int .i64 k, .any, .any], []⟩) d _ hstep (by
        have a1 : xs[d]? = some (f l[d]) := by rw [← hX]; exact map_get q1
        have a2 : ys[d]? = some (f m[d]) := by rw [← hY]; exact map_get q2
        have a3 := hc l[d] m[d]
        have e4 := hf l[d]
        have e5 := hf m[d]
        rw [decide_eq_false e1] at a3
        have i1 : ((d : Int) < (l.length : Int)) := by omega
        have i2 : bin .lss (.int .i64 (d : Int)) (.int .i64 (l.length : Int)) = some (.bool true) := by simp [i1]
        simp [l_slices_Equal_api_ENode_api_ENode_0, a1, a2, -eqa,  i2, a3, e4, e5, i1]; rfl)
      simp [f_slices_Equal_api_ENode_api_ENode, b_slices_Equal_api_ENode_api_ENode, hlen, lX, lY]
      simp [hlen] at hloop
      rw [hloop, e2]
      simp
  · have hne : decide (l = m) = false := decide_eq_false fun e => hlen (congrArg List.length e)
    rw [hne]
    simp [f_slices_Equal_api_ENode_api_ENode, b_slices_Equal_api_ENode_api_ENode, bne_len hlen, lX, lY]
end Go.AM
end
section

namespace Go.AM
open P
set_option maxHeartbeats 1000000
theorem IndexFunc_none {b : Bool} {xs : List AVal} {f : AVal} (hn : xs.length ≤ most) (hx : ∀ x ∈ xs, ncells x = 1 ∧ isAgg x = false) (hfs : fz true false 0 [] 20 f = f)
    (hf : ∀ x ∈ xs, acallV code f [x] [] = some (.bool false, [])) : pcall I.slices_IndexFunc_api_Row_api_Row [.imm b xs, f] = some (.int .i64 (-1)) := by
  rw [pcall_eq c_slices_IndexFunc_api_Row_api_Row rfl]
  have hloop := rounds_iter (base := 0) (clr := [2, 3, 6, 7]) (b := l_slices_IndexFunc_api_Row_api_Row_0) (fun k => ⟨[.imm b xs, f, .any, .any, .int .i64 xs.length, .int .i64 k, .any, .any], []⟩) xs.length
    (.ext 0, ⟨[.imm b xs, f, .any, .any, .int .i64 xs.length, .int .i64 xs.length, .bool false, .any], []⟩)
    (fun k hk => by
      have h1 : xs[k]? = some xs[k] := by simp [hk]
      have h2 := hx xs[k] (List.getElem_mem hk)
      have h3 := hf xs[k] (List.getElem_mem hk)
      have hlt : ((k : Int) < (xs.length : Int)) := by omega
      simp [l_slices_IndexFunc_api_Row_api_Row_0, h1, h2, h3, hlt, wrap_lt hk hn, roundEnd_same])
    (by simp [l_slices_IndexFunc_api_Row_api_Row_0])
  simp [f_slices_IndexFunc_api_Row_api_Row, b_slices_IndexFunc_api_Row_api_Row, hfs]
  simp at hloop
  rw [hloop]
  simp
end Go.AM
end

namespace Go.AM
def intV (n : Int) : AVal := .agg [.int .i64 2, .int .i64 n, .int .u64 0, .str []]
theorem acall_of {n f : Nat} {args : List AVal} {σ : Store} {r : AVal × Store} (h : callN code n f args σ = some r) : acall code f args σ = some r := lim_of (callN_mono good f args σ) h
theorem pcall_from {n f : Nat} {args : List AVal} {v : AVal} {σ : Store} (h : callN code n f args [] = some (v, σ)) : pcall f args = some v := by
  unfold pcall
  rw [acall_of h]; rfl
theorem check_int (n : Int) : callN code 40 I.value_Check [intV n] [] = some (.int .i64 0, []) := by kernel_rfl
theorem fit1_f1 (n : Int) : callN code 60 I.exec_fit_1 [.imm false [intV n], .cptr true (.imm false [.int .i64 2]) 0] [] = some (.bool false, []) := by kernel_rfl
theorem fit1_t1 (n : Int) : callN code 60 I.exec_fit_1 [.imm true [intV n], .cptr true (.imm false [.int .i64 2]) 0] [] = some (.bool false, []) := by kernel_rfl
theorem right_f1 (n : Int) : callN code 60 I.row_right [.imm false [intV n]] [] = some (.bool true, []) := by kernel_rfl
theorem right_f2 (n m : Int) : callN code 60 I.row_right [.imm false [intV n, intV m]] [] = some (.bool true, []) := by kernel_rfl
theorem clone_f1 (n : Int) : callN code 60 I.slices_Clone_api_Row_api_Value [.imm false [intV n]] [] = some (.frs 4 [intV n], []) := by kernel_rfl
theorem clone_f2 (n m : Int) : callN code 60 I.slices_Clone_api_Row_api_Value [.imm false [intV n, intV m]] [] = some (.frs 4 [intV n, intV m], []) := by kernel_rfl
end Go.AM
section

namespace Go.AM
open P
set_option maxHeartbeats 2000000
def cmp3 (n m : Int) : Int := if n < m then -1 else if m < n then 1 else 0
theorem nan64 (n : Int) : callN code 10 I.cmp_isNaN_int64 [.int .i64 n] [] = some (.bool false, []) ∨ True := .inr trivial
theorem isNaN64 (n : Int) : pcall I.cmp_isNaN_int64 [.int .i64 n] = some (.bool false) := by
  rw [pcall_eq c_cmp_isNaN_int64 rfl]
  simp [f_cmp_isNaN_int64, b_cmp_isNaN_int64]
theorem Compare64 (n m : Int) : pcall I.cmp_Compare_int64 [.int .i64 n, .int .i64 m] = some (.int .i64 (cmp3 n m)) := by
  rw [pcall_eq c_cmp_Compare_int64 rfl]
  unfold cmp3
  by_cases h1 : n < m
  · simp [f_cmp_Compare_int64, b_cmp_Compare_int64, isNaN64, h1]
  · by_cases h2 : m < n
    · simp [f_cmp_Compare_int64, b_cmp_Compare_int64, isNaN64, h1, h2]
    · simp [f_cmp_Compare_int64, b_cmp_Compare_int64, isNaN64, h1, h2]
theorem Compare_kind : pcall I.cmp_Compare_int [.int .i64 2, .int .i64 2] = some (.int .i64 0) := pcall_from (n := 20) (σ := []) (by kernel_rfl)
theorem Compare_u : pcall I.cmp_Compare_uint64 [.int .u64 0, .int .u64 0] = some (.int .i64 0) := pcall_from (n := 20) (σ := []) (by kernel_rfl)
theorem Compare_s : pcall I.cmp_Compare_string [.str [], .str []] = some (.int .i64 0) := pcall_from (n := 20) (σ := []) (by kernel_rfl)
theorem Or_l : pcall I.cmp_Or_int [.imm true [.int .i64 0, .int .i64 (-1), .int .i64 0, .int .i64 0]] = some (.int .i64 (-1)) := pcall_from (n := 20) (σ := []) (by kernel_rfl)
theorem Or_e : pcall I.cmp_Or_int [.imm true [.int .i64 0, .int .i64 0, .int .i64 0, .int .i64 0]] = some (.int .i64 0) := pcall_from (n := 20) (σ := []) (by kernel_rfl)
theorem Or_g : pcall I.cmp_Or_int [.imm true [.int .i64 0, .int .i64 1, .int .i64 0, .int .i64 0]] = some (.int .i64 1) := pcall_from (n := 20) (σ := []) (by kernel_rfl)
theorem Or_3 (n m : Int) : pcall I.cmp_Or_int [.imm true [.int .i64 0, .int .i64 (cmp3 n m), .int .i64 0, .int .i64 0]] = some (.int .i64 (cmp3 n m)) := by
  unfold cmp3
  split
  · exact Or_l
  · split
    · exact Or_g
    · exact Or_e
theorem values_int (n m : Int) : pcall I.row_values [intV n, intV m] = some (.int .i64 (cmp3 n m)) := by
  rw [pcall_eq c_row_values rfl]
  simp [f_row_values, b_row_values, intV, Compare_kind, Compare64, Compare_u, Compare_s, Or_3]
theorem rounds_go (base : Nat) (clr : List Nat) (b : ACode) (s : St) : rounds code base clr b s = thenLoop base clr b (run code b s) := rounds_eq good base clr b s
theorem cmp3_cases (n m : Int) : (cmp3 n m = -1 ∧ n < m) ∨ (cmp3 n m = 1 ∧ m < n) ∨ (cmp3 n m = 0 ∧ n = m) := by
  unfold cmp3
  split
  · exact .inl ⟨rfl, by assumption⟩
  · split
    · exact .inr (.inl ⟨rfl, by assumption⟩)
    · exact .inr (.inr ⟨rfl, by omega⟩)
theorem CompareFunc1 {b b' : Bool} (n m : Int) : pcall I.slices_CompareFunc_api_Row_api_Row_api_Value_api_Value [.imm b [intV n], .imm b' [intV m], .fn I.row_values [] []] = some (.int .i64 (cmp3 n m)) := by
  rw [pcall_eq c_slices_CompareFunc_api_Row_api_Row_api_Value_api_Value rfl]
  have hv := values_int n m
  unfold intV at *
  rcases cmp3_cases n m with ⟨h, _⟩ | ⟨h, _⟩ | ⟨h, _⟩ <;> rw [h] at hv <;>
    simp [f_slices_CompareFunc_api_Row_api_Row_api_Value_api_Value, b_slices_CompareFunc_api_Row_api_Row_api_Value_api_Value, l_slices_CompareFunc_api_Row_api_Row_api_Value_api_Value_0, rounds_go, roundEnd, hv, h, IntKind.wrap, IntKind.bits, IntKind.signed]
theorem order1 {b b' : Bool} (n m : Int) : pcall I.row_order [.imm b [intV n], .imm b' [intV m]] = some (.int .i64 (cmp3 n m)) := by
  rw [pcall_eq c_row_order rfl]
  have := CompareFunc1 (b := b) (b' := b') n m
  simp [f_row_order, b_row_order, this]
def cmp2 (n k m l : Int) : Int := if cmp3 n m = 0 then cmp3 k l else cmp3 n m
theorem CompareFunc2 {b b' : Bool} (n k m l : Int) : pcall I.slices_CompareFunc_api_Row_api_Row_api_Value_api_Value [.imm b [intV n, intV k], .imm b' [intV m, intV l], .fn I.row_values [] []] = some (.int .i64 (cmp2 n k m l)) := by
  rw [pcall_eq c_slices_CompareFunc_api_Row_api_Row_api_Value_api_Value rfl]
  have hv := values_int n m
  have hw := values_int k l
  unfold intV at *
  unfold cmp2
  rcases cmp3_cases n m with ⟨h, _⟩ | ⟨h, _⟩ | ⟨h, _⟩ <;> rw [h] at hv
  · simp [f_slices_CompareFunc_api_Row_api_Row_api_Value_api_Value, b_slices_CompareFunc_api_Row_api_Row_api_Value_api_Value, l_slices_CompareFunc_api_Row_api_Row_api_Value_api_Value_0, rounds_go, roundEnd, hv, h, IntKind.wrap, IntKind.bits, IntKind.signed]
  · simp [f_slices_CompareFunc_api_Row_api_Row_api_Value_api_Value, b_slices_CompareFunc_api_Row_api_Row_api_Value_api_Value, l_slices_CompareFunc_api_Row_api_Row_api_Value_api_Value_0, rounds_go, roundEnd, hv, h, IntKind.wrap, IntKind.bits, IntKind.signed]
  · rcases cmp3_cases k l with ⟨h', _⟩ | ⟨h', _⟩ | ⟨h', _⟩ <;> rw [h'] at hw <;>
      simp [f_slices_CompareFunc_api_Row_api_Row_api_Value_api_Value, b_slices_CompareFunc_api_Row_api_Row_api_Value_api_Value, l_slices_CompareFunc_api_Row_api_Row_api_Value_api_Value_0, rounds_go, roundEnd, hv, hw, h, h', IntKind.wrap, IntKind.bits, IntKind.signed]
theorem order2 {b b' : Bool} (n k m l : Int) : pcall I.row_order [.imm b [intV n, intV k], .imm b' [intV m, intV l]] = some (.int .i64 (cmp2 n k m l)) := by
  rw [pcall_eq c_row_order rfl]
  have := CompareFunc2 (b := b) (b' := b') n k m l
  simp [f_row_order, b_row_order, this]
end Go.AM
end
section

namespace Go.AM
open P
set_option maxHeartbeats 2000000
set_option maxRecDepth 4000
theorem acallG_pure {g : AFunc} (hm : g.mode.isPure = true) (args : List AVal) (σ : Store) : acallG code g args σ = ((acallG code g (args.map (snap σ)) []).map (·.1)).map (·, σ) := by
  unfold acallG
  have he : enter g args σ = enter g (args.map (snap σ)) [] := by
    have h1 : ((args.map (snap σ)).take g.np).map (snap []) = (args.take g.np).map (snap σ) := by
      rw [← List.map_take, List.map_map]; exact List.map_congr_left fun x _ => snap_idem σ [] x
    unfold enter
    cases hg : g.mode <;> rw [hg] at hm <;> first | exact absurd hm (by decide) | (simp only [h1])
  rw [he]
  cases run code g.body (enter g (args.map (snap σ)) []) with
  | none => rfl
  | some r =>
    obtain ⟨e, s⟩ := r
    have key : (results s g.res).map (fun v => finish g.mode σ s v) = (((results s g.res).map fun v => finish g.mode [] s v).map (·.1)).map (·, σ) := by
      cases results s g.res with
      | none => rfl
      | some v =>
        cases hg : g.mode <;> rw [hg] at hm <;> first | exact absurd hm (by decide) | rfl
    cases e with
    | ext _ => rfl
    | nrm => exact key
    | ret => exact key
theorem acall_nil {f : Nat} {g : AFunc} (h : code.fns f = .nilfn g) (hm : g.mode.isPure = true) (b : Bool) (xs : List AVal) (σ : Store) :
    acall code f [.imm b xs] σ = (pcall f [.imm b xs]).map (·, σ) := by
  unfold pcall
  rw [acall_nilfn good h, acall_nilfn good h]
  have hE : emptyS σ (.imm b xs) = emptyS [] (.imm b xs) := by simp [emptyS, rd]
  rw [hE]
  have hk : ∀ (x : AVal), (∀ τ, snap τ x = x) → acallG code g [x] σ = ((acallG code g [x] []).map (·.1)).map (·, σ) := fun x hx => by
    have := acallG_pure hm [x] σ
    simpa only [List.map_cons, List.map_nil, hx] using this
  have hk0 : ∀ (x : AVal), (∀ τ, snap τ x = x) → acallG code g [x] [] = ((acallG code g [x] []).map (·.1)).map (·, ([] : Store)) := fun x hx => by
    have := acallG_pure hm [x] []
    simpa only [List.map_cons, List.map_nil, hx] using this
  have h1 : ∀ τ, snap τ (.imm b xs) = .imm b xs := fun τ => by simp
  have h2 : ∀ t τ, snap τ (.emp t) = .emp t := fun t τ => by simp
  cases emptyS [] (.imm b xs) with
  | false => simpa using hk _ h1
  | true =>
    simp only [if_true]
    rw [hk _ (h2 true), hk _ (h2 false), hk0 _ (h2 true), hk0 _ (h2 false)]
    cases acallG code g [.emp true] [] with
    | none => rfl
    | some r => cases acallG code g [.emp false] [] with
      | none => rfl
      | some q =>
        simp only [Option.map_some, Option.bind_some, sameS_refl, Bool.and_true]
        split <;> rfl
def Plain (v : AVal) : Prop := ncells v = 4 ∧ isAgg v = true ∧ ∀ fl top base σ n, fz fl top base σ (n + 2) v = v
theorem intV_plain (n : Int) : Plain (intV n) := ⟨rfl, rfl, fun fl top base σ n => by simp [intV]⟩
structure RowOk (r : List AVal) : Prop where
  vals : ∀ v ∈ r, Plain v
  clone : pcall I.slices_Clone_api_Row_api_Value [.imm false r] = some (.frs 4 r)
  right : pcall I.row_right [.imm false r] = some (.bool true)
theorem row1_ok (n : Int) : RowOk [intV n] := ⟨fun v hv => by rw [List.mem_singleton.1 hv]; exact intV_plain n, pcall_from (clone_f1 n), pcall_from (right_f1 n)⟩
theorem row2_ok (n m : Int) : RowOk [intV n, intV m] := ⟨fun v hv => by rcases List.mem_cons.1 hv with rfl | hv; exact intV_plain _; rw [List.mem_singleton.1 hv]; exact intV_plain _, pcall_from (clone_f2 n m), pcall_from (right_f2 n m)⟩
theorem map_plain {r : List AVal} (h : ∀ v ∈ r, Plain v) (fl top : Bool) (base : Nat) (σ : Store) (n : Nat) : r.map (fz fl top base σ (n + 2)) = r := by
  conv => rhs; rw [← List.map_id r]
  exact List.map_congr_left fun v hv => (h v hv).2.2 fl top base σ n
def rowsV (rs : List (List AVal)) : List AVal := rs.map (.imm false)
@[simp] theorem rowsV_length (rs : List (List AVal)) : (rowsV rs).length = rs.length := by simp [rowsV]
theorem rowsV_get {rs : List (List AVal)} {k : Nat} (h : k < rs.length) : (rowsV rs)[k]? = some (.imm false rs[k]) := by simp [rowsV, h]
theorem rowsV_succ {rs : List (List AVal)} {k : Nat} (h : k < rs.length) : rowsV (rs.take (k + 1)) = rowsV (rs.take k) ++ [.imm false rs[k]] := by
  unfold rowsV
  rw [List.take_succ_eq_append_getElem h, List.map_append]
  rfl
@[simp] theorem rowsV_ncells (rs : List (List AVal)) : (rowsV rs).map ncells = List.replicate rs.length 1 := by
  simp only [rowsV, List.map_map]
  rw [List.eq_replicate_iff]
  exact ⟨by simp, fun x hx => by simp at hx; obtain ⟨_, _, rfl⟩ := hx; rfl⟩
theorem rows_freeze (rs : List (List AVal)) (top : Bool) (base : Nat) (σ : Store) (n : Nat) : (rowsV rs).map (fz false top base σ (n + 1)) = rowsV rs := by
  unfold rowsV
  rw [List.map_map]
  exact List.map_congr_left fun r _ => by simp
theorem plain_nc {r : List AVal} (h : ∀ v ∈ r, Plain v) (fl top : Bool) (base : Nat) (σ : Store) (n : Nat) : (∀ a, a ∈ r → ncells (fz fl top base σ (n + 2) a) = ncells a) ↔ True :=
  ⟨fun _ => trivial, fun _ a ha => by rw [(h a ha).2.2]⟩
theorem rows_freeze' (rs : List (List AVal)) (base : Nat) (σ : Store) : (rowsV rs).map (freeze base σ) = rowsV rs := by
  unfold rowsV
  rw [List.map_map]
  exact List.map_congr_left fun r _ => by simp [freeze, fuel]
theorem rows_nc (rs : List (List AVal)) (base : Nat) (σ : Store) : (rowsV rs).map (ncells ∘ freeze base σ) = List.replicate rs.length 1 := by
  rw [← List.map_map, rows_freeze', rowsV_ncells]
theorem fresh_rows (rs : List (List AVal)) (id ep : Nat) (σ : Store) (h : σ[id]? = some (.arr 1 ep (rowsV rs))) : freshOf 1 σ (.sl id ep 0 rs.length) = .frs 1 (rowsV rs) := by
  have h8 := fun σ' => rows_freeze rs false 0 σ' 19
  have h9 : (rowsV rs).take rs.length = rowsV rs := List.take_of_length_le (by simp)
  have h10 : ∀ σ', (rowsV rs).map (frozen σ') = rowsV rs := fun σ' => h8 σ'
  simp only [freshOf, h, h9, h10, frsAt]
  simp
theorem copies_spec {b : Bool} {rs : List (List AVal)} (hn : rs.length ≤ most) (hr : ∀ r ∈ rs, RowOk r) : pcall I.row_copies [.imm b (rowsV rs)] = some (.frs 1 (rowsV rs)) := by
  rw [pcall_eq c_row_copies rfl]
  have hloop := rounds_iter (base := 1) (clr := [3, 7]) (b := l_row_copies_0) (fun k => ⟨[.imm b (rowsV rs), .nil0, .sl 0 k 0 k, .any, .imm b (rowsV rs), .int .i64 rs.length, .int .i64 k, .any], [.arr 1 k (rowsV (rs.take k))]⟩) rs.length
    (.ext 0, ⟨[.imm b (rowsV rs), .nil0, .sl 0 rs.length 0 rs.length, .any, .imm b (rowsV rs), .int .i64 rs.length, .int .i64 rs.length, .bool false], [.arr 1 rs.length (rowsV rs)]⟩)
    (fun k hk => by
      have h1 := rowsV_get hk
      have h2 := hr rs[k] (List.getElem_mem hk)
      have hlt : ((k : Int) < (rs.length : Int)) := by omega
      have h3 := acall_nil c_slices_Clone_api_Row_api_Value rfl false rs[k] [.arr 1 k (rowsV (rs.take k))]
      rw [h2.clone] at h3
      have h4 : min k rs.length = k := by omega
      have h5 : k + 1 ≤ most := by omega
      have h6 := rowsV_succ hk
      have h7 := map_plain h2.vals
      have h7' := plain_nc h2.vals false false 1
      have h9 : (rowsV (rs.take k)).take k = rowsV (rs.take k) := List.take_of_length_le (by simp; omega)
      have h8 := fun top base σ n => rows_freeze (rs.take k) top base σ n
      have h10 := rows_freeze' (rs.take k) 1
      have h11 := rows_nc (rs.take k) 1
      simp [l_row_copies_0, h1, hlt, h3, h4, h5, h6, h7, h7', h8, h9, h10, h11, append, wrap_lt hk hn, roundEnd, freezeObj])
    (by simp [l_row_copies_0])
  simp [f_row_copies, b_row_copies]
  simp [show rowsV [] = [] from rfl] at hloop
  rw [hloop]
  simp
  exact fresh_rows rs 0 _ _ rfl
end Go.AM
end
section

namespace Go.AM
open P
set_option maxHeartbeats 2000000
set_option maxRecDepth 4000
def Val.a (v : Val) : AVal := .agg [.int .i64 v.k, .int .i64 v.n, .int .u64 v.u, .str v.s]
def rowA (r : List Val) : List AVal := r.map Val.a
def rowsA (b : Bool) (rs : List (List Val)) : List AVal := rs.map fun r => .imm b (rowA r)
@[simp] theorem rowA_length (r : List Val) : (rowA r).length = r.length := by simp [rowA]
@[simp] theorem rowsA_length (b : Bool) (rs : List (List Val)) : (rowsA b rs).length = rs.length := by simp [rowsA]
theorem rowA_get {r : List Val} {k : Nat} (h : k < r.length) : (rowA r)[k]? = some r[k].a := by simp [rowA, h]
theorem rowsA_get {b : Bool} {rs : List (List Val)} {k : Nat} (h : k < rs.length) : (rowsA b rs)[k]? = some (.imm b (rowA rs[k])) := by simp [rowsA, h]
@[simp] theorem a_ncells (v : Val) : ncells v.a = 4 := rfl
@[simp] theorem a_isAgg (v : Val) : isAgg v.a = true := rfl
@[simp] theorem a_fz (v : Val) (fl top : Bool) (base : Nat) (σ : Store) (n : Nat) : fz fl top base σ (n + 2) v.a = v.a := by simp [Val.a]
theorem a_inj {v w : Val} (h : v.a = w.a) : v = w := by
  cases v; cases w
  simpa [Val.a] using h
def blankV (v : Val) : Val :=
  if v.k = 1 then (if v.n ≠ 0 ∧ v.n ≠ 1 then v else { v with k := 0, n := 0 })
  else if v.k = 2 then { v with k := 0, n := 0 }
  else if v.k = 0 then v
  else if v.k = 3 then (if v.s.length ≤ 40 then { v with k := 0, s := [] } else v)
  else if v.k = 4 then { v with k := 0, n := 0, u := 0 }
  else v
def okV (v : Val) : Bool := blankV v == ⟨0, 0, 0, []⟩
theorem bne_t {a b : Int} (h : ¬ a = b) : (a != b) = true := by simp [h]
theorem beq_f {a b : Int} (h : ¬ a = b) : (a == b) = false := by simp [h]
theorem blank_spec (v : Val) : pcall I.value_blank [v.a] = some (blankV v).a := by
  rw [pcall_eq c_value_blank rfl]
  obtain ⟨k, n, u, s⟩ := v
  unfold blankV Val.a
  by_cases h1 : k = 1
  · subst h1
    by_cases hn : n = 0
    · subst hn; simp [f_value_blank, b_value_blank]
    · by_cases hn' : n = 1
      · subst hn'; simp [f_value_blank, b_value_blank]
      · simp [f_value_blank, b_value_blank, bne_t hn, bne_t hn', hn, hn']
  · by_cases h2 : k = 2
    · subst h2; simp [f_value_blank, b_value_blank]
    · by_cases h0 : k = 0
      · subst h0; simp [f_value_blank, b_value_blank]
      · by_cases h3 : k = 3
        · subst h3
          by_cases hs : s.length ≤ 40
          · have hs' : ((s.length : Int) ≤ 40) := by omega
            simp [f_value_blank, b_value_blank, hs, hs']
          · have hs' : ¬ ((s.length : Int) ≤ 40) := by omega
            simp [f_value_blank, b_value_blank, hs, hs']
        · by_cases h4 : k = 4
          · subst h4; simp [f_value_blank, b_value_blank]
          · simp [f_value_blank, b_value_blank, beq_f h1, beq_f h2, beq_f h0, beq_f h3, beq_f h4, h1, h2, h0, h3, h4]
theorem a_mk (k n u : Int) (s : List UInt8) : (Val.mk k n u s).a = .agg [.int .i64 k, .int .i64 n, .int .u64 u, .str s] := rfl
theorem Check_spec (v : Val) : pcall I.value_Check [v.a] = some (.int .i64 (if okV v then 0 else 120)) := by
  rw [pcall_eq c_value_Check rfl]
  have h := blank_spec v
  unfold okV
  generalize hb : blankV v = w at h
  obtain ⟨k, n, u, s⟩ := w
  by_cases hk : k = 0
  · by_cases hn : n = 0
    · by_cases hu : u = 0
      · by_cases hs : s = []
        · subst hk hn hu hs; simp [f_value_Check, b_value_Check, h, a_mk]
        · have hs' : (s == []) = false := by simp [hs]
          subst hk hn hu; simp [f_value_Check, b_value_Check, h, a_mk, hs, hs']
      · subst hk hn; simp [f_value_Check, b_value_Check, h, a_mk, hu, beq_f hu]
    · subst hk; simp [f_value_Check, b_value_Check, h, a_mk, hn, beq_f hn]
  · simp [f_value_Check, b_value_Check, h, a_mk, hk, beq_f hk]
theorem bad_spec (v : Val) : pcall I.row_right_1 [v.a] = some (.bool (!okV v)) := by
  rw [pcall_eq c_row_right_1 rfl]
  have h := Check_spec v
  cases hv : okV v <;> rw [hv] at h <;> simp [f_row_right_1, b_row_right_1, h]
def ixOf (p : AVal → Bool) (xs : List AVal) : Int := if xs.any p then (xs.findIdx p : Int) else -1
theorem findIdx_before {p : AVal → Bool} {xs : List AVal} {k : Nat} (h : k < xs.findIdx p) (hk : k < xs.length) : p xs[k] = false := by
  simpa using List.not_of_lt_findIdx h
theorem IndexVal {b : Bool} {xs : List AVal} {f : AVal} {p : AVal → Bool} (hn : xs.length ≤ most) (hx : ∀ x ∈ xs, ncells x = 4 ∧ isAgg x = true) (hfs : fz true false 0 [] 20 f = f)
    (hf : ∀ x ∈ xs, acallV code f [x] [] = some (.bool (p x), [])) : pcall I.slices_IndexFunc_api_Row_api_Value [.imm b xs, f] = some (.int .i64 (ixOf p xs)) := by
  rw [pcall_eq c_slices_IndexFunc_api_Row_api_Value rfl]
  have hstep : ∀ k, k < xs.length → p xs[k]! = false → thenLoop 0 [2, 3, 6, 7] l_slices_IndexFunc_api_Row_api_Value_0 (run code l_slices_IndexFunc_api_Row_api_Value_0 ⟨[.imm b xs, f, .any, .any, .int .i64 xs.length, .int .i64 k, .any, .any], []⟩) =
      rounds code 0 [2, 3, 6, 7] l_slices_IndexFunc_api_Row_api_Value_0 ⟨[.imm b xs, f, .any, .any, .int .i64 xs.length, .int .i64 (k + 1 : Nat), .any, .any], []⟩ := fun k hk hp => by
    have h1 : xs[k]? = some xs[k] := by simp [hk]
    have h2 := hx xs[k] (List.getElem_mem hk)
    have h3 := hf xs[k] (List.getElem_mem hk)
    rw [show p xs[k] = false by simpa [hk] using hp] at h3
    have hlt : ((k : Int) < (xs.length : Int)) := by omega
    simp [l_slices_IndexFunc_api_Row_api_Value_0, h1, h2, h3, hlt, wrap_lt hk hn, roundEnd_same]
  by_cases ha : xs.any p = true
  · have hlt := List.findIdx_lt_length_of_exists (List.any_eq_true.1 ha)
    have hp : p xs[xs.findIdx p] = true := List.findIdx_getElem (w := hlt)
    have hloop := rounds_iter (base := 0) (clr := [2, 3, 6, 7]) (b := l_slices_IndexFunc_api_Row_api_Value_0) (fun k => ⟨[.imm b xs, f, .any, .any, .int .i64 xs.length, .int .i64 k, .any, .any], []⟩) (xs.findIdx p)
      (.ret, ⟨[.imm b xs, f, .int .i64 (xs.findIdx p), .int .i64 (xs.findIdx p), .int .i64 xs.length, .int .i64 (xs.findIdx p), .bool true, .bool true], []⟩)
      (fun k hk => hstep k (by omega) (by rw [getElem!_pos xs k (by omega)]; exact findIdx_before hk (by omega)))
      (by
        have h1 : xs[xs.findIdx p]? = some xs[xs.findIdx p] := List.getElem?_eq_getElem hlt
        have h2 := hx _ (List.getElem_mem hlt)
        have h3 := hf _ (List.getElem_mem hlt)
        rw [hp] at h3
        have hlt' : ((xs.findIdx p : Int) < (xs.length : Int)) := by omega
        simp [l_slices_IndexFunc_api_Row_api_Value_0, h1, h2, h3, hlt'])
    simp [f_slices_IndexFunc_api_Row_api_Value, b_slices_IndexFunc_api_Row_api_Value, hfs]
    simp at hloop
    rw [hloop]
    simp [ixOf, ha]
  · have hall : ∀ k (hk : k < xs.length), p xs[k] = false := fun k hk => by
      have := List.any_eq_false.1 (Bool.not_eq_true _ ▸ ha) xs[k] (List.getElem_mem hk)
      simpa using this
    have hloop := rounds_iter (base := 0) (clr := [2, 3, 6, 7]) (b := l_slices_IndexFunc_api_Row_api_Value_0) (fun k => ⟨[.imm b xs, f, .any, .any, .int .i64 xs.length, .int .i64 k, .any, .any], []⟩) xs.length
      (.ext 0, ⟨[.imm b xs, f, .any, .any, .int .i64 xs.length, .int .i64 xs.length, .bool false, .any], []⟩)
      (fun k hk => hstep k hk (by rw [getElem!_pos xs k hk]; exact hall k hk))
      (by simp [l_slices_IndexFunc_api_Row_api_Value_0])
    simp [f_slices_IndexFunc_api_Row_api_Value, b_slices_IndexFunc_api_Row_api_Value, hfs]
    simp at hloop
    rw [hloop]
    simp [ixOf, ha]
end Go.AM
end
section

namespace Go.AM
open P
set_option maxHeartbeats 8000000
set_option maxRecDepth 8000
@[simp] theorem ncells_slA {α : Type} (f : α → AVal) (l : SL α) : ncells (slA f l) = 1 := rfl
@[simp] theorem isAgg_slA {α : Type} (f : α → AVal) (l : SL α) : isAgg (slA f l) = false := rfl
@[simp] theorem cellsOf_slA {α : Type} (f : α → AVal) (l : SL α) : cellsOf (slA f l) = [slA f l] := rfl
@[simp] theorem fz_slA {α : Type} (f : α → AVal) (l : SL α) (top : Bool) (base : Nat) (σ : Store) (n : Nat) : fz true top base σ (n + 1) (slA f l) = slA f l := by simp [slA]
@[simp] theorem fz_slA' {α : Type} (f : α → AVal) (l : SL α) (fl : Bool) (base : Nat) (σ : Store) (n : Nat) : fz fl true base σ (n + 1) (slA f l) = slA f l := by simp [slA]
theorem sl_dec {α : Type} [DecidableEq α] (l m : SL α) : decide (l.1 = m.1) = decide (l = m) := by simp [Subtype.ext_iff]
theorem bq {α : Type} [BEq α] [LawfulBEq α] {a b : α} (h : ¬ a = b) : (a == b) = false := by simp [h]
abbrev RowT := SL Val
abbrev RowT.a (r : RowT) : AVal := slA Val.a r
theorem row_Same_116 (a b : RowT) : pcall I.row_equal [slA Val.a a, slA Val.a b] = some (.bool (decide (a = b))) := by
  rw [pcall_eq c_row_equal rfl, ← sl_dec]
  have := Eq_Val (f := Val.a) (t := true) (t' := true) (l := a.1) (m := b.1) a.2 (fun a => ⟨rfl, rfl⟩) (fun a b => by
    cases a; cases b
    simp [Val.a, eqa, Val.mk.injEq]
    repeat (split <;> simp_all))
  simp [f_row_equal, b_row_equal, slA, this]
structure BatchT where
  rows : SL RowT
  ends : Bool
  count : Int
  deriving DecidableEq
def BatchT.a (b : BatchT) : AVal := .agg [slA RowT.a b.rows, .bool b.ends, .int .u64 b.count]
theorem row_Same_44 (a b : SL RowT) : pcall I.row_Same [slA RowT.a a, slA RowT.a b] = some (.bool (decide (a = b))) := by
  rw [pcall_eq c_row_Same rfl, ← sl_dec]
  have : pcall I.slices_EqualFunc_api_Row_api_Row_api_Row_api_Row [slA RowT.a a, slA RowT.a b, .fn 116 [] []] = some (.bool (decide (a.1 = b.1))) := EqF_Row (f := RowT.a) (g := .fn 116 [] []) (t := true) (t' := true) (l := a.1) (m := b.1) a.2 (fun a => ⟨rfl, rfl⟩) (fun fl top σ _ => by simp) (fun a b σ => by
    simp [row_Same_116])
  simp [f_row_Same, b_row_Same, this]
theorem link_same_445 (a b : BatchT) : pcall I.link_same [a.a, b.a] = some (.bool (decide (a = b))) := by
  rw [pcall_eq c_link_same rfl]
  obtain ⟨r, e, n⟩ := a
  obtain ⟨r', e', n'⟩ := b
  have h0 := row_Same_44 r r'
  by_cases h1 : e = e'
  · by_cases h2 : n = n'
    · simp [f_link_same, b_link_same, BatchT.a, h0, h1, h2]
    · simp [f_link_same, b_link_same, BatchT.a, h1, h2, bq h2]
  · simp [f_link_same, b_link_same, BatchT.a, h1, bq h1]
structure HeldT where
  seq : Int
  batch : BatchT
  deriving DecidableEq
def HeldT.a (b : HeldT) : AVal := .agg [.int .u64 b.seq, slA RowT.a b.batch.rows, .bool b.batch.ends, .int .u64 b.batch.count]
theorem link_SameReceiver_447 (a b : HeldT) : pcall I.link_SameReceiver_1 [a.a, b.a] = some (.bool (decide (a = b))) := by
  rw [pcall_eq c_link_SameReceiver_1 rfl]
  obtain ⟨s, r, e, n⟩ := a
  obtain ⟨s', r', e', n'⟩ := b
  have h0 := link_same_445 ⟨r, e, n⟩ ⟨r', e', n'⟩
  simp only [BatchT.a] at h0
  by_cases h1 : s = s'
  · simp [f_link_SameReceiver_1, b_link_SameReceiver_1, HeldT.a, h0, h1]
  · simp [f_link_SameReceiver_1, b_link_SameReceiver_1, HeldT.a, h1, bq h1]
theorem EqB (a b : SL BatchT) : pcall I.slices_EqualFunc_api_Batch_api_Batch_api_Batch_api_Batch [slA BatchT.a a, slA BatchT.a b, .fn 445 [] []] = some (.bool (decide (a = b))) := by
  rw [← sl_dec]
  exact EqF_Batch (f := BatchT.a) a.2 (fun a => ⟨rfl, rfl⟩) (fun fl top σ _ => by simp) (fun a b σ => by
    have := link_same_445 a b
    simp only [BatchT.a] at this ⊢
    simp [this])
theorem EqH (a b : SL HeldT) : pcall I.slices_EqualFunc_api_Held_api_Held_api_Held_api_Held [slA HeldT.a a, slA HeldT.a b, .fn 447 [] []] = some (.bool (decide (a = b))) := by
  rw [← sl_dec]
  exact EqF_Held (f := HeldT.a) a.2 (fun a => ⟨rfl, rfl⟩) (fun fl top σ _ => by simp) (fun a b σ => by
    have := link_SameReceiver_447 a b
    simp only [HeldT.a] at this ⊢
    simp [this])
structure RcvT where
  session : Int
  next : Int
  ahead : SL HeldT
  buffer : SL BatchT
  room : Int
  over : Bool
  deriving DecidableEq
def RcvT.c (b : RcvT) : List AVal := [.int .u32 b.session, .int .u64 b.next, slA HeldT.a b.ahead, slA BatchT.a b.buffer, .int .i64 b.room, .bool b.over]
theorem link_SameReceiver_443 (a b : RcvT) : pcall I.link_SameReceiver [.agg a.c, .agg b.c] = some (.bool (decide (a = b))) := by
  rw [pcall_eq c_link_SameReceiver rfl]
  obtain ⟨s, n, d, u, r, o⟩ := a
  obtain ⟨s', n', d', u', r', o'⟩ := b
  have k1 := EqB u u'
  have k2 := EqH d d'
  by_cases h0 : s = s'
  · subst h0
    by_cases h1 : n = n'
    · subst h1
      by_cases h2 : r = r'
      · subst h2
        by_cases h3 : o = o'
        · subst h3
          by_cases h4 : u = u'
          · subst h4
            by_cases h5 : d = d'
            · subst h5
              simp [f_link_SameReceiver, b_link_SameReceiver, RcvT.c, k1, k2]
            · simp [f_link_SameReceiver, b_link_SameReceiver, RcvT.c, k1, k2, h5, bq h5]
          · simp [f_link_SameReceiver, b_link_SameReceiver, RcvT.c, k1, h4, bq h4]
        · simp [f_link_SameReceiver, b_link_SameReceiver, RcvT.c, h3, bq h3]
      · simp [f_link_SameReceiver, b_link_SameReceiver, RcvT.c, h2, bq h2]
    · simp [f_link_SameReceiver, b_link_SameReceiver, RcvT.c, h1, bq h1]
  · simp [f_link_SameReceiver, b_link_SameReceiver, RcvT.c, h0, bq h0]
structure SndT where
  session : Int
  base : Int
  queue : SL BatchT
  sent : Int
  limit : Int
  timer : Int
  ended : Bool
  deriving DecidableEq
def SndT.c (b : SndT) : List AVal := [.int .u32 b.session, .int .u64 b.base, slA BatchT.a b.queue, .int .u64 b.sent, .int .u64 b.limit, .int .i64 b.timer, .bool b.ended]
theorem link_SameSender_448 (x y : SndT) : pcall I.link_SameSender [.agg x.c, .agg y.c] = some (.bool (decide (x = y))) := by
  rw [pcall_eq c_link_SameSender rfl]
  obtain ⟨s, b, q, n, l, t, e⟩ := x
  obtain ⟨s', b', q', n', l', t', e'⟩ := y
  have k1 := EqB q q'
  by_cases h0 : s = s'
  · subst h0
    by_cases h1 : b = b'
    · subst h1
      by_cases h2 : n = n'
      · subst h2
        by_cases h3 : l = l'
        · subst h3
          by_cases h4 : t = t'
          · subst h4
            by_cases h5 : e = e'
            · subst h5
              by_cases h6 : q = q'
              · subst h6
                simp [f_link_SameSender, b_link_SameSender, SndT.c, k1]
              · simp [f_link_SameSender, b_link_SameSender, SndT.c, k1, h6, bq h6]
            · simp [f_link_SameSender, b_link_SameSender, SndT.c, h5, bq h5]
          · simp [f_link_SameSender, b_link_SameSender, SndT.c, h4, bq h4]
        · simp [f_link_SameSender, b_link_SameSender, SndT.c, h3, bq h3]
      · simp [f_link_SameSender, b_link_SameSender, SndT.c, h2, bq h2]
    · simp [f_link_SameSender, b_link_SameSender, SndT.c, h1, bq h1]
  · simp [f_link_SameSender, b_link_SameSender, SndT.c, h0, bq h0]
structure InT where
  frag : Int
  origin : Int
  rcv : RcvT
  rows : SL RowT
  deriving DecidableEq
def InT.a (b : InT) : AVal := .agg [.int .i64 b.frag, .int .i64 b.origin, .int .u32 b.rcv.session, .int .u64 b.rcv.next, slA HeldT.a b.rcv.ahead, slA BatchT.a b.rcv.buffer, .int .i64 b.rcv.room, .bool b.rcv.over, slA RowT.a b.rows]
theorem task_Same_428 (a b : InT) : pcall I.task_Same_1 [a.a, b.a] = some (.bool (decide (a = b))) := by
  rw [pcall_eq c_task_Same_1 rfl]
  obtain ⟨f, o, r, w⟩ := a
  obtain ⟨f', o', r', w'⟩ := b
  have k1 := link_SameReceiver_443 r r'
  simp only [RcvT.c] at k1
  have k2 := row_Same_44 w w'
  by_cases h0 : f = f'
  · subst h0
    by_cases h1 : o = o'
    · subst h1
      by_cases h2 : r = r'
      · subst h2
        by_cases h3 : w = w'
        · subst h3
          simp [f_task_Same_1, b_task_Same_1, InT.a, k1, k2]
        · simp [f_task_Same_1, b_task_Same_1, InT.a, k1, k2, h3, bq h3]
      · simp [f_task_Same_1, b_task_Same_1, InT.a, k1, h2, bq h2]
    · simp [f_task_Same_1, b_task_Same_1, InT.a, h1, bq h1]
  · simp [f_task_Same_1, b_task_Same_1, InT.a, h0, bq h0]
structure OutT where
  dest : Int
  snd : SndT
  rest : SL RowT
  deriving DecidableEq
def OutT.a (b : OutT) : AVal := .agg [.int .i64 b.dest, .int .u32 b.snd.session, .int .u64 b.snd.base, slA BatchT.a b.snd.queue, .int .u64 b.snd.sent, .int .u64 b.snd.limit, .int .i64 b.snd.timer, .bool b.snd.ended, slA RowT.a b.rest]
theorem task_Same_426 (a b : OutT) : pcall I.task_Same_2 [a.a, b.a] = some (.bool (decide (a = b))) := by
  rw [pcall_eq c_task_Same_2 rfl]
  obtain ⟨d, s, w⟩ := a
  obtain ⟨d', s', w'⟩ := b
  have k1 := link_SameSender_448 s s'
  simp only [SndT.c] at k1
  have k2 := row_Same_44 w w'
  by_cases h0 : d = d'
  · subst h0
    by_cases h1 : s = s'
    · subst h1
      by_cases h2 : w = w'
      · subst h2
        simp [f_task_Same_2, b_task_Same_2, OutT.a, k1, k2]
      · simp [f_task_Same_2, b_task_Same_2, OutT.a, k1, k2, h2, bq h2]
    · simp [f_task_Same_2, b_task_Same_2, OutT.a, k1, h1, bq h1]
  · simp [f_task_Same_2, b_task_Same_2, OutT.a, h0, bq h0]
theorem EqI (a b : SL InT) : pcall I.slices_EqualFunc_api_In_api_In_api_In_api_In [slA InT.a a, slA InT.a b, .fn 428 [] []] = some (.bool (decide (a = b))) := by
  rw [← sl_dec]
  exact EqF_In (f := InT.a) a.2 (fun a => ⟨rfl, rfl⟩) (fun fl top σ _ => by simp) (fun a b σ => by
    have := task_Same_428 a b
    simp only [InT.a] at this ⊢
    simp [this])
theorem EqO (a b : SL OutT) : pcall I.slices_EqualFunc_api_Out_api_Out_api_Out_api_Out [slA OutT.a a, slA OutT.a b, .fn 426 [] []] = some (.bool (decide (a = b))) := by
  rw [← sl_dec]
  exact EqF_Out (f := OutT.a) a.2 (fun a => ⟨rfl, rfl⟩) (fun fl top σ _ => by simp) (fun a b σ => by
    have := task_Same_426 a b
    simp only [OutT.a] at this ⊢
    simp [this])
end Go.AM
end

namespace Go.AM
structure EN where
  tag : Int
  l : Int
  r : Int
  col : Int
  v : Val
  deriving DecidableEq, Inhabited
def EN.a (n : EN) : AVal := .agg [.int .i64 n.tag, .int .i64 n.l, .int .i64 n.r, .int .i64 n.col, .int .i64 n.v.k, .int .i64 n.v.n, .int .u64 n.v.u, .str n.v.s]
end Go.AM
section

namespace Go.AM
open P
set_option maxHeartbeats 8000000
set_option maxRecDepth 8000
theorem Eq_ENs (a b : SL EN) : pcall I.slices_Equal_api_ENode_api_ENode [slA EN.a a, slA EN.a b] = some (.bool (decide (a = b))) := by
  rw [← sl_dec]
  exact Eq_EN (f := EN.a) a.2 (fun a => ⟨rfl, rfl⟩) (fun a b => by
    obtain ⟨t, l, r, c, k, n, u, s⟩ := a
    obtain ⟨t', l', r', c', k', n', u', s'⟩ := b
    simp [EN.a, eqa, Val.mk.injEq, EN.mk.injEq]
    repeat (split <;> simp_all))
theorem Eq_ints (a b : SL Int) : pcall I.slices_Equal_int_int [slA (AVal.int .i64) a, slA (AVal.int .i64) b] = some (.bool (decide (a = b))) := by
  rw [← sl_dec]
  exact Eq_int (f := AVal.int .i64) a.2 (fun a => ⟨rfl, rfl⟩) (fun a b => by
    by_cases h : a = b <;> simp [h])
structure OrdT where
  col : Int
  down : Bool
  deriving DecidableEq
def OrdT.a (o : OrdT) : AVal := .agg [.int .i64 o.col, .bool o.down]
theorem Eq_Ords (a b : SL OrdT) : pcall I.slices_Equal_api_Ord_api_Ord [slA OrdT.a a, slA OrdT.a b] = some (.bool (decide (a = b))) := by
  rw [← sl_dec]
  exact Eq_Ord (f := OrdT.a) a.2 (fun a => ⟨rfl, rfl⟩) (fun a b => by
    cases a; cases b
    simp [OrdT.a, eqa, OrdT.mk.injEq]
    repeat (split <;> simp_all))
abbrev ExprT := SL EN
def ExprT.a (e : ExprT) : AVal := .agg [slA EN.a e]
theorem expr_Same_476 (a b : ExprT) : pcall I.expr_Same [ExprT.a a, ExprT.a b] = some (.bool (decide (a = b))) := by
  rw [pcall_eq c_expr_Same rfl]
  have k1 := Eq_ENs a b
  simp [f_expr_Same, b_expr_Same, ExprT.a, k1]
structure AggT where
  kind : Int
  arg : ExprT
  deriving DecidableEq
def AggT.a (g : AggT) : AVal := .agg [.int .i64 g.kind, slA EN.a g.arg]
theorem prop_Same_479 (a b : AggT) : pcall I.prop_Same_1_1 [a.a, b.a] = some (.bool (decide (a = b))) := by
  rw [pcall_eq c_prop_Same_1_1 rfl]
  obtain ⟨k, e⟩ := a
  obtain ⟨k', e'⟩ := b
  have k1 := expr_Same_476 e e'
  simp only [ExprT.a] at k1
  by_cases h0 : k = k'
  · subst h0
    by_cases h1 : e = e'
    · subst h1
      simp [f_prop_Same_1_1, b_prop_Same_1_1, AggT.a, k1]
    · simp [f_prop_Same_1_1, b_prop_Same_1_1, AggT.a, k1, h1, bq h1]
  · simp [f_prop_Same_1_1, b_prop_Same_1_1, AggT.a, h0, bq h0]
theorem EqA (a b : SL AggT) : pcall I.slices_EqualFunc_api_Agg_api_Agg_api_Agg_api_Agg [slA AggT.a a, slA AggT.a b, .fn 479 [] []] = some (.bool (decide (a = b))) := by
  rw [← sl_dec]
  exact EqF_Agg (f := AggT.a) a.2 (fun a => ⟨rfl, rfl⟩) (fun fl top σ _ => by simp) (fun a b σ => by
    have := prop_Same_479 a b
    simp only [AggT.a] at this ⊢
    simp [this])
theorem EqE (a b : SL ExprT) : pcall I.slices_EqualFunc_api_Expr_api_Expr_api_Expr_api_Expr [slA ExprT.a a, slA ExprT.a b, .fn 476 [] []] = some (.bool (decide (a = b))) := by
  rw [← sl_dec]
  exact EqF_Expr (f := ExprT.a) a.2 (fun a => ⟨rfl, rfl⟩) (fun fl top σ _ => by simp) (fun a b σ => by
    have := expr_Same_476 a b
    simp only [ExprT.a] at this ⊢
    simp [this])
structure LNT where
  op : Int
  l : Int
  r : Int
  tab : Int
  cols : SL Int
  flag : Bool
  pred : ExprT
  keys : SL Int
  aggs : SL AggT
  outs : SL ExprT
  ords : SL OrdT
  limit : Int
  deriving DecidableEq
def LNT.a (n : LNT) : AVal := .agg [.int .i64 n.op, .int .i64 n.l, .int .i64 n.r, .int .i64 n.tab, slA (AVal.int .i64) n.cols, .bool n.flag, slA EN.a n.pred, slA (AVal.int .i64) n.keys, slA AggT.a n.aggs, slA ExprT.a n.outs, slA OrdT.a n.ords, .int .i64 n.limit]
theorem prop_Same_451 (a b : LNT) : pcall I.prop_Same_1 [a.a, b.a] = some (.bool (decide (a = b))) := by
  rw [pcall_eq c_prop_Same_1 rfl]
  obtain ⟨op, l, r, tb, cs, fl, pr, ks, ag, ou, od, lm⟩ := a
  obtain ⟨op', l', r', tb', cs', fl', pr', ks', ag', ou', od', lm'⟩ := b
  have k1 := Eq_ints cs cs'
  have k2 := Eq_ints ks ks'
  have k3 := Eq_Ords od od'
  have k4 := expr_Same_476 pr pr'
  simp only [ExprT.a] at k4
  have k5 := EqA ag ag'
  have k6 := EqE ou ou'
  by_cases h0 : op = op'
  · subst h0
    by_cases h1 : l = l'
    · subst h1
      by_cases h2 : r = r'
      · subst h2
        by_cases h3 : tb = tb'
        · subst h3
          by_cases h4 : fl = fl'
          · subst h4
            by_cases h5 : lm = lm'
            · subst h5
              by_cases h6 : cs = cs'
              · subst h6
                by_cases h7 : ks = ks'
                · subst h7
                  by_cases h8 : od = od'
                  · subst h8
                    by_cases h9 : pr = pr'
                    · subst h9
                      by_cases h10 : ag = ag'
                      · subst h10
                        by_cases h11 : ou = ou'
                        · subst h11
                          simp [f_prop_Same_1, b_prop_Same_1, LNT.a, k1, k2, k3, k4, k5, k6]
                        · simp [f_prop_Same_1, b_prop_Same_1, LNT.a, k1, k2, k3, k4, k5, k6, h11, bq h11]
                      · simp [f_prop_Same_1, b_prop_Same_1, LNT.a, k1, k2, k3, k4, k5, h10, bq h10]
                    · simp [f_prop_Same_1, b_prop_Same_1, LNT.a, k1, k2, k3, k4, h9, bq h9]
                  · simp [f_prop_Same_1, b_prop_Same_1, LNT.a, k1, k2, k3, h8, bq h8]
                · simp [f_prop_Same_1, b_prop_Same_1, LNT.a, k1, k2, h7, bq h7]
              · simp [f_prop_Same_1, b_prop_Same_1, LNT.a, k1, h6, bq h6]
            · simp [f_prop_Same_1, b_prop_Same_1, LNT.a, h5, bq h5]
          · simp [f_prop_Same_1, b_prop_Same_1, LNT.a, h4, bq h4]
        · simp [f_prop_Same_1, b_prop_Same_1, LNT.a, h3, bq h3]
      · simp [f_prop_Same_1, b_prop_Same_1, LNT.a, h2, bq h2]
    · simp [f_prop_Same_1, b_prop_Same_1, LNT.a, h1, bq h1]
  · simp [f_prop_Same_1, b_prop_Same_1, LNT.a, h0, bq h0]
end Go.AM
end
section

namespace Go.AM
open P
set_option maxHeartbeats 8000000
set_option maxRecDepth 8000
theorem EqL (a b : SL LNT) : pcall I.slices_EqualFunc_api_LNode_api_LNode_api_LNode_api_LNode [slA LNT.a a, slA LNT.a b, .fn 451 [] []] = some (.bool (decide (a = b))) := by
  rw [← sl_dec]
  exact EqF_LNode (f := LNT.a) a.2 (fun a => ⟨rfl, rfl⟩) (fun fl top σ _ => by simp) (fun a b σ => by
    have := prop_Same_451 a b
    simp only [LNT.a] at this ⊢
    simp [this])
structure FragT where
  nodes : SL LNT
  at' : Int
  way : Int
  cols : SL Int
  deriving DecidableEq
def FragT.c (n : FragT) : List AVal := [slA LNT.a n.nodes, .int .i64 n.at', .int .i64 n.way, slA (AVal.int .i64) n.cols]
def FragT.a (n : FragT) : AVal := .agg n.c
theorem prop_Same_449 (a b : FragT) : pcall I.prop_Same_2 [a.a, b.a, .cptr true (.fn 451 [] []) 0] = some (.bool (decide (a = b))) := by
  rw [pcall_eq c_prop_Same_2 rfl]
  obtain ⟨ns, at', wy, cs⟩ := a
  obtain ⟨ns', at'', wy', cs'⟩ := b
  have k1 := Eq_ints cs cs'
  have k2 := EqL ns ns'
  by_cases h0 : at' = at''
  · subst h0
    by_cases h1 : wy = wy'
    · subst h1
      by_cases h2 : cs = cs'
      · subst h2
        by_cases h3 : ns = ns'
        · subst h3
          simp [f_prop_Same_2, b_prop_Same_2, FragT.a, FragT.c, k1, k2]
        · simp [f_prop_Same_2, b_prop_Same_2, FragT.a, FragT.c, k1, k2, h3, bq h3]
      · simp [f_prop_Same_2, b_prop_Same_2, FragT.a, FragT.c, k1, h2, bq h2]
    · simp [f_prop_Same_2, b_prop_Same_2, FragT.a, FragT.c, h1, bq h1]
  · simp [f_prop_Same_2, b_prop_Same_2, FragT.a, FragT.c, h0, bq h0]
theorem prop_Same_424 (a b : FragT) : pcall I.prop_Same [.agg [.imm true [a.a]], .agg [.imm true [b.a]]] = some (.bool (decide (a = b))) := by
  rw [pcall_eq c_prop_Same rfl]
  have k1 := EqF_Frag (f := FragT.a) (g := .fn 449 [] [.cptr true (.fn 451 [] []) 0]) (t := true) (t' := true) (l := [a]) (m := [b]) (by show 1 ≤ maxLen; decide) (fun a => ⟨rfl, rfl⟩) (fun fl top σ h => by
    cases fl <;> cases top <;> simp_all [cptrAt]) (fun a b σ => by
    have := prop_Same_449 a b
    simp only [FragT.a, FragT.c] at this ⊢
    simp [cptrAt, this])
  simp only [List.map_cons, List.map_nil, FragT.a, FragT.c] at k1
  simp [f_prop_Same, b_prop_Same, FragT.a, FragT.c, cptrAt, k1]
@[simp] theorem cellsOf_lst (xs : List AVal) : cellsOf (.lst xs) = [.lst xs] := rfl
structure TaskT where
  epoch : Int
  sites : Int
  number : Int
  node : Int
  frag : FragT
  state : Int
  ins : SL InT
  outs : SL OutT
  rows : SL RowT
  err : Int
  deriving DecidableEq
def TaskT.a (t : TaskT) : AVal := .agg [.int .i64 t.epoch, .int .i64 t.sites, .int .i64 t.number, .int .i64 t.node, slA LNT.a t.frag.nodes, .int .i64 t.frag.at', .int .i64 t.frag.way, slA (AVal.int .i64) t.frag.cols, .int .i64 t.state, slA InT.a t.ins, slA OutT.a t.outs, slA RowT.a t.rows, .int .i64 t.err]
theorem task_Same_410 (a b : TaskT) : pcall I.task_Same [a.a, b.a] = some (.bool (decide (a = b))) := by
  rw [pcall_eq c_task_Same rfl]
  obtain ⟨ep, si, nu, no, fr, st, is, os, rs, er⟩ := a
  obtain ⟨ep', si', nu', no', fr', st', is', os', rs', er'⟩ := b
  have k1 := EqI is is'
  have k2 := EqO os os'
  have k3 := prop_Same_424 fr fr'
  have k4 := row_Same_44 rs rs'
  simp only [FragT.a, FragT.c] at k3
  by_cases h0 : ep = ep'
  · subst h0
    by_cases h1 : si = si'
    · subst h1
      by_cases h2 : nu = nu'
      · subst h2
        by_cases h3 : no = no'
        · subst h3
          by_cases h4 : st = st'
          · subst h4
            by_cases h5 : er = er'
            · subst h5
              by_cases h6 : is = is'
              · subst h6
                by_cases h7 : os = os'
                · subst h7
                  by_cases h8 : fr = fr'
                  · subst h8
                    by_cases h9 : rs = rs'
                    · subst h9
                      simp [f_task_Same, b_task_Same, TaskT.a, listAt, eqa, k1, k2, k3, k4]
                    · simp [f_task_Same, b_task_Same, TaskT.a, listAt, eqa, k1, k2, k3, k4, h9, bq h9]
                  · simp [f_task_Same, b_task_Same, TaskT.a, listAt, eqa, k1, k2, k3, k4, h8, bq h8]
                · simp [f_task_Same, b_task_Same, TaskT.a, listAt, eqa, k1, k2, k3, k4, h7, bq h7]
              · simp [f_task_Same, b_task_Same, TaskT.a, listAt, eqa, k1, k2, k3, k4, h6, bq h6]
            · simp [f_task_Same, b_task_Same, TaskT.a, listAt, eqa, k1, k2, k3, k4, h5, bq h5]
          · simp [f_task_Same, b_task_Same, TaskT.a, listAt, eqa, k1, k2, k3, k4, h4, bq h4]
        · simp [f_task_Same, b_task_Same, TaskT.a, listAt, eqa, k1, k2, k3, k4, h3, bq h3]
      · simp [f_task_Same, b_task_Same, TaskT.a, listAt, eqa, k1, k2, k3, k4, h2, bq h2]
    · simp [f_task_Same, b_task_Same, TaskT.a, listAt, eqa, k1, k2, k3, k4, h1, bq h1]
  · simp [f_task_Same, b_task_Same, TaskT.a, listAt, eqa, k1, k2, k3, k4, h0, bq h0]
end Go.AM
end
section

namespace Go.AM
open P
set_option maxHeartbeats 4000000
set_option maxRecDepth 8000
theorem bn {α : Type} [BEq α] [LawfulBEq α] {a b : α} (h : ¬ a = b) : (a != b) = true := by simp [h]
theorem eqa_val (a b : Val) : eqa true [0, 0, 0, 2] a.a b.a = some (.bool (!decide (a = b))) := by
  cases a; cases b
  simp [Val.a, eqa, Val.mk.injEq]
  repeat (split <;> simp_all)
theorem ints_Same_23 (a b : SL Int) : pcall I.bref13_SameInts [slA (AVal.int .i64) a, slA (AVal.int .i64) b] = some (.bool (decide (a = b))) := by
  rw [pcall_eq c_bref13_SameInts rfl, ← sl_dec]
  obtain ⟨l, hn⟩ := a
  obtain ⟨m, hm⟩ := b
  simp only [slA]
  have hf : ∀ a : Int, ncells ((AVal.int .i64) a) = 1 ∧ isAgg ((AVal.int .i64) a) = false := fun a => ⟨rfl, rfl⟩
  have hz : ∀ (a : Int) (top : Bool) (base : Nat) (σ : Store) (n : Nat), fz true top base σ (n + 3) ((AVal.int .i64) a) = (AVal.int .i64) a := fun a top base σ n => by simp
  have hc : ∀ a b : Int, bin .neq (.int .i64 a) (.int .i64 b) = some (.bool (!decide (a = b))) := fun a b => by by_cases h : a = b <;> simp [h]
  generalize hX : l.map (AVal.int .i64) = xs
  generalize hY : m.map (AVal.int .i64) = ys
  have lX : xs.length = l.length := by rw [← hX]; simp
  have lY : ys.length = m.length := by rw [← hY]; simp
  by_cases hlen : l.length = m.length
  · obtain ⟨d, h1, h2, h3⟩ := same_diff hlen
    have hstep : ∀ k, k < d → thenLoop 0 [2, 5, 6] l_bref13_SameInts_0 (run code l_bref13_SameInts_0 ⟨[.imm true xs, .imm true ys, .any, .int .i64 k, .bool false, .any, .any], []⟩) = rounds code 0 [2, 5, 6] l_bref13_SameInts_0 ⟨[.imm true xs, .imm true ys, .any, .int .i64 (k + 1 : Nat), .bool false, .any, .any], []⟩ := fun k hk => by
      have a1 : k < l.length := by omega
      have a2 : k < m.length := by omega
      have e1 : xs[k]? = some ((AVal.int .i64) l[k]) := by rw [← hX]; exact map_get a1
      have e2 : ys[k]? = some ((AVal.int .i64) m[k]) := by rw [← hY]; exact map_get a2
      have e3 := hc l[k] m[k]
      have e4 := hf l[k]
      have e5 := hf m[k]
      have e6 := h2 k hk a1 a2
      rw [e6] at e1 e3 e4
      have i1 : ((k : Int) < (l.length : Int)) := by omega
      have i2 : bin .lss (.int .i64 (k : Int)) (.int .i64 (l.length : Int)) = some (.bool true) := by simp [i1]
      have i3 : bin .add (.int .i64 (k : Int)) (.int .i64 1) = some (.int .i64 ((k + 1 : Nat) : Int)) := by simp [wrap_sl a1 hn]
      simp [l_bref13_SameInts_0, -eqa, e1, e2, e3, e4, e5, i1, i2, i3, lX, hz, wrap_sl a1 hn, roundEnd]
    rcases h3 with ⟨e1, e2⟩ | ⟨q1, q2, e1, e2⟩
    · have hloop := rounds_iter (base := 0) (clr := [2, 5, 6]) (b := l_bref13_SameInts_0) (fun k => ⟨[.imm true xs, .imm true ys, .any, .int .i64 k, .bool false, .any, .any], []⟩) d _ hstep (by
        subst e1
        simp [l_bref13_SameInts_0, lX]; rfl)
      simp [f_bref13_SameInts, b_bref13_SameInts, hlen, lX, lY]
      simp [hlen] at hloop
      rw [hloop, e2]
      simp
    · have hloop := rounds_iter (base := 0) (clr := [2, 5, 6]) (b := l_bref13_SameInts_0) (fun k => ⟨[.imm true xs, .imm true ys, .any, .int .i64 k, .bool false, .any, .any], []⟩) d _ hstep (by
        have a1 : xs[d]? = some ((AVal.int .i64) l[d]) := by rw [← hX]; exact map_get q1
        have a2 : ys[d]? = some ((AVal.int .i64) m[d]) := by rw [← hY]; exact map_get q2
        have a3 := hc l[d] m[d]
        have e4 := hf l[d]
        have e5 := hf m[d]
        simp only [decide_eq_false e1, Bool.not_false] at a3
        have i1 : ((d : Int) < (l.length : Int)) := by omega
        have i2 : bin .lss (.int .i64 (d : Int)) (.int .i64 (l.length : Int)) = some (.bool true) := by simp [i1]
        simp [l_bref13_SameInts_0, -eqa, a1, a2, i1, i2, a3, e4, e5, lX, hz, bn e1]; rfl)
      simp [f_bref13_SameInts, b_bref13_SameInts, hlen, lX, lY]
      simp [hlen] at hloop
      rw [hloop, e2]
      simp
  · have hne : decide (l = m) = false := decide_eq_false fun e => hlen (congrArg List.length e)
    rw [hne]
    simp [f_bref13_SameInts, b_bref13_SameInts, bne_len hlen, lX, lY]
theorem row_Same_485 (a b : SL Val) : pcall I.bref06_SameRow [slA Val.a a, slA Val.a b] = some (.bool (decide (a = b))) := by
  rw [pcall_eq c_bref06_SameRow rfl, ← sl_dec]
  obtain ⟨l, hn⟩ := a
  obtain ⟨m, hm⟩ := b
  simp only [slA]
  have hf : ∀ a : Val, ncells (Val.a a) = 4 ∧ isAgg (Val.a a) = true := fun a => ⟨rfl, rfl⟩
  have hz : ∀ (a : Val) (top : Bool) (base : Nat) (σ : Store) (n : Nat), fz true top base σ (n + 3) (Val.a a) = Val.a a := fun a top base σ n => by simp [Val.a]
  have hc : ∀ a b : Val, eqa true [0, 0, 0, 2] a.a b.a = some (.bool (!decide (a = b))) := fun a b => eqa_val a b
  generalize hX : l.map Val.a = xs
  generalize hY : m.map Val.a = ys
  have lX : xs.length = l.length := by rw [← hX]; simp
  have lY : ys.length = m.length := by rw [← hY]; simp
  by_cases hlen : l.length = m.length
  · obtain ⟨d, h1, h2, h3⟩ := same_diff hlen
    have hstep : ∀ k, k < d → thenLoop 0 [2, 3, 7, 8] l_bref06_SameRow_0 (run code l_bref06_SameRow_0 ⟨[.imm true xs, .imm true ys, .any, .any, .bool false, .int .i64 l.length, .int .i64 k, .any, .any], []⟩) = rounds code 0 [2, 3, 7, 8] l_bref06_SameRow_0 ⟨[.imm true xs, .imm true ys, .any, .any, .bool false, .int .i64 l.length, .int .i64 (k + 1 : Nat), .any, .any], []⟩ := fun k hk => by
      have a1 : k < l.length := by omega
      have a2 : k < m.length := by omega
      have e1 : xs[k]? = some (Val.a l[k]) := by rw [← hX]; exact map_get a1
      have e2 : ys[k]? = some (Val.a m[k]) := by rw [← hY]; exact map_get a2
      have e3 := hc l[k] m[k]
      have e4 := hf l[k]
      have e5 := hf m[k]
      have e6 := h2 k hk a1 a2
      rw [e6] at e1 e3 e4
      have i1 : ((k : Int) < (l.length : Int)) := by omega
      have i2 : bin .lss (.int .i64 (k : Int)) (.int .i64 (l.length : Int)) = some (.bool true) := by simp [i1]
      have i3 : bin .add (.int .i64 (k : Int)) (.int .i64 1) = some (.int .i64 ((k + 1 : Nat) : Int)) := by simp [wrap_sl a1 hn]
      simp [l_bref06_SameRow_0, -eqa, e1, e2, e3, e4, e5, i1, i2, i3, lX, hz, wrap_sl a1 hn, roundEnd]
    rcases h3 with ⟨e1, e2⟩ | ⟨q1, q2, e1, e2⟩
    · have hloop := rounds_iter (base := 0) (clr := [2, 3, 7, 8]) (b := l_bref06_SameRow_0) (fun k => ⟨[.imm true xs, .imm true ys, .any, .any, .bool false, .int .i64 l.length, .int .i64 k, .any, .any], []⟩) d _ hstep (by
        subst e1
        simp [l_bref06_SameRow_0, lX]; rfl)
      simp [f_bref06_SameRow, b_bref06_SameRow, hlen, lX, lY]
      simp [hlen] at hloop
      rw [hloop, e2]
      simp
    · have hloop := rounds_iter (base := 0) (clr := [2, 3, 7, 8]) (b := l_bref06_SameRow_0) (fun k => ⟨[.imm true xs, .imm true ys, .any, .any, .bool false, .int .i64 l.length, .int .i64 k, .any, .any], []⟩) d _ hstep (by
        have a1 : xs[d]? = some (Val.a l[d]) := by rw [← hX]; exact map_get q1
        have a2 : ys[d]? = some (Val.a m[d]) := by rw [← hY]; exact map_get q2
        have a3 := hc l[d] m[d]
        have e4 := hf l[d]
        have e5 := hf m[d]
        simp only [decide_eq_false e1, Bool.not_false] at a3
        have i1 : ((d : Int) < (l.length : Int)) := by omega
        have i2 : bin .lss (.int .i64 (d : Int)) (.int .i64 (l.length : Int)) = some (.bool true) := by simp [i1]
        simp [l_bref06_SameRow_0, -eqa, a1, a2, i1, i2, a3, e4, e5, lX, hz, bn e1]; rfl)
      simp [f_bref06_SameRow, b_bref06_SameRow, hlen, lX, lY]
      simp [hlen] at hloop
      rw [hloop, e2]
      simp
  · have hne : decide (l = m) = false := decide_eq_false fun e => hlen (congrArg List.length e)
    rw [hne]
    simp [f_bref06_SameRow, b_bref06_SameRow, bne_len hlen, lX, lY]
theorem rows_Same_455 (a b : SL RowT) : pcall I.bref06_Same [slA RowT.a a, slA RowT.a b] = some (.bool (decide (a = b))) := by
  rw [pcall_eq c_bref06_Same rfl, ← sl_dec]
  obtain ⟨l, hn⟩ := a
  obtain ⟨m, hm⟩ := b
  simp only [slA]
  have hf : ∀ a : RowT, ncells (RowT.a a) = 1 ∧ isAgg (RowT.a a) = false := fun a => ⟨rfl, rfl⟩
  have hz : ∀ (a : RowT) (top : Bool) (base : Nat) (σ : Store) (n : Nat), fz true top base σ (n + 3) (RowT.a a) = RowT.a a := fun a top base σ n => by simp
  have hc : ∀ a b : RowT, pcall I.bref06_SameRow [RowT.a a, RowT.a b] = some (.bool (decide (a = b))) := fun a b => row_Same_485 a b
  generalize hX : l.map RowT.a = xs
  generalize hY : m.map RowT.a = ys
  have lX : xs.length = l.length := by rw [← hX]; simp
  have lY : ys.length = m.length := by rw [← hY]; simp
  by_cases hlen : l.length = m.length
  · obtain ⟨d, h1, h2, h3⟩ := same_diff hlen
    have hstep : ∀ k, k < d → thenLoop 0 [2, 3, 7, 8] l_bref06_Same_0 (run code l_bref06_Same_0 ⟨[.imm true xs, .imm true ys, .any, .any, .bool false, .int .i64 l.length, .int .i64 k, .any, .any], []⟩) = rounds code 0 [2, 3, 7, 8] l_bref06_Same_0 ⟨[.imm true xs, .imm true ys, .any, .any, .bool false, .int .i64 l.length, .int .i64 (k + 1 : Nat), .any, .any], []⟩ := fun k hk => by
      have a1 : k < l.length := by omega
      have a2 : k < m.length := by omega
      have e1 : xs[k]? = some (RowT.a l[k]) := by rw [← hX]; exact map_get a1
      have e2 : ys[k]? = some (RowT.a m[k]) := by rw [← hY]; exact map_get a2
      have e3 := hc l[k] m[k]
      have e4 := hf l[k]
      have e5 := hf m[k]
      have e6 := h2 k hk a1 a2
      rw [e6] at e1 e3 e4
      have i1 : ((k : Int) < (l.length : Int)) := by omega
      have i2 : bin .lss (.int .i64 (k : Int)) (.int .i64 (l.length : Int)) = some (.bool true) := by simp [i1]
      have i3 : bin .add (.int .i64 (k : Int)) (.int .i64 1) = some (.int .i64 ((k + 1 : Nat) : Int)) := by simp [wrap_sl a1 hn]
      simp [l_bref06_Same_0, -eqa, e1, e2, e3, e4, e5, i1, i2, i3, lX, hz, wrap_sl a1 hn, roundEnd]
    rcases h3 with ⟨e1, e2⟩ | ⟨q1, q2, e1, e2⟩
    · have hloop := rounds_iter (base := 0) (clr := [2, 3, 7, 8]) (b := l_bref06_Same_0) (fun k => ⟨[.imm true xs, .imm true ys, .any, .any, .bool false, .int .i64 l.length, .int .i64 k, .any, .any], []⟩) d _ hstep (by
        subst e1
        simp [l_bref06_Same_0, lX]; rfl)
      simp [f_bref06_Same, b_bref06_Same, hlen, lX, lY]
      simp [hlen] at hloop
      rw [hloop, e2]
      simp
    · have hloop := rounds_iter (base := 0) (clr := [2, 3, 7, 8]) (b := l_bref06_Same_0) (fun k => ⟨[.imm true xs, .imm true ys, .any, .any, .bool false, .int .i64 l.length, .int .i64 k, .any, .any], []⟩) d _ hstep (by
        have a1 : xs[d]? = some (RowT.a l[d]) := by rw [← hX]; exact map_get q1
        have a2 : ys[d]? = some (RowT.a m[d]) := by rw [← hY]; exact map_get q2
        have a3 := hc l[d] m[d]
        have e4 := hf l[d]
        have e5 := hf m[d]
        simp only [decide_eq_false e1, Bool.not_false] at a3
        have i1 : ((d : Int) < (l.length : Int)) := by omega
        have i2 : bin .lss (.int .i64 (d : Int)) (.int .i64 (l.length : Int)) = some (.bool true) := by simp [i1]
        simp [l_bref06_Same_0, -eqa, a1, a2, i1, i2, a3, e4, e5, lX, hz, bn e1]; rfl)
      simp [f_bref06_Same, b_bref06_Same, hlen, lX, lY]
      simp [hlen] at hloop
      rw [hloop, e2]
      simp
  · have hne : decide (l = m) = false := decide_eq_false fun e => hlen (congrArg List.length e)
    rw [hne]
    simp [f_bref06_Same, b_bref06_Same, bne_len hlen, lX, lY]
end Go.AM
end
