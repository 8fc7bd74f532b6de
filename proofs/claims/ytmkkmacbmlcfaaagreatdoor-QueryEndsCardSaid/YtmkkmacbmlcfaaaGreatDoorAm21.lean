/- The law of QueryEnds: lives; the bounds. -/
import Derived.Test.YtmkkmacbmlcfaaaGreatDoorAm20
import Derived.Test.YtmkkmacbmlcfaaaGreatDoorAm18
set_option linter.unusedVariables false
set_option linter.unusedSimpArgs false
set_option linter.unusedSectionVars false
namespace Go.AM
open P
set_option maxHeartbeats 8000000
set_option maxRecDepth 8000
structure EN where
  tag : Int
  l : Int
  r : Int
  col : Int
  v : Val
  deriving DecidableEq, Inhabited
def EN.a (n : EN) : AVal := .agg [.int .i64 n.tag, .int .i64 n.l, .int .i64 n.r, .int .i64 n.col, .int .i64 n.v.k, .int .i64 n.v.n, .int .u64 n.v.u, .str n.v.s]
structure OrdT where
  col : Int
  down : Bool
  deriving DecidableEq
def OrdT.a (o : OrdT) : AVal := .agg [.int .i64 o.col, .bool o.down]
abbrev ExprT := SL EN
def ExprT.a (e : ExprT) : AVal := .agg [slA EN.a e]
structure AggT where
  kind : Int
  arg : ExprT
  deriving DecidableEq
def AggT.a (g : AggT) : AVal := .agg [.int .i64 g.kind, slA EN.a g.arg]
structure LNT where
  op : Int
  l : Int
  r : Int
  tab : Int
  cols : SL Int
  flag : Bool
  pred : ExprT
  keys : SL Int
  aggs : SL AggT
  outs : SL ExprT
  ords : SL OrdT
  limit : Int
  deriving DecidableEq
def LNT.a (n : LNT) : AVal := .agg [.int .i64 n.op, .int .i64 n.l, .int .i64 n.r, .int .i64 n.tab, slA (AVal.int .i64) n.cols, .bool n.flag, slA EN.a n.pred, slA (AVal.int .i64) n.keys, slA AggT.a n.aggs, slA ExprT.a n.outs, slA OrdT.a n.ords, .int .i64 n.limit]
structure FragT where
  nodes : SL LNT
  at' : Int
  way : Int
  cols : SL Int
  deriving DecidableEq
def FragT.c (n : FragT) : List AVal := [slA LNT.a n.nodes, .int .i64 n.at', .int .i64 n.way, slA (AVal.int .i64) n.cols]
def FragT.a (n : FragT) : AVal := .agg n.c
abbrev NameT := List UInt8
structure LifeT where
  epoch : Int
  state : Int
  frags : SL FragT
  names : SL NameT
  err : Int
  at' : Int
  rnames : SL NameT
  rows : SL RowT
def LifeT.a (l : LifeT) : AVal := .agg [.int .i64 l.epoch, .int .i64 l.state, slA FragT.a l.frags, slA AVal.str l.names, .int .i64 l.err, .int .i64 l.at', slA AVal.str l.rnames, slA RowT.a l.rows]
theorem over_loop {n : Nat} {base : Nat} {clr : List Nat} {b : ACode} {S : Nat → St} {E : Ex × St} {j : Nat} {p : Nat → Prop}
    (hst : ∀ k, k < n → (p k ∧ thenLoop base clr b (run code b (S k)) = rounds code base clr b (S (k + 1))) ∨ ∃ s, thenLoop base clr b (run code b (S k)) = some (.ret, s) ∧ s.env[j]? = some (.bool true))
    (hend : thenLoop base clr b (run code b (S n)) = some E) :
    ((∀ k, k < n → p k) ∧ rounds code base clr b (S 0) = some E) ∨ ∃ s, rounds code base clr b (S 0) = some (.ret, s) ∧ s.env[j]? = some (.bool true) := by
  have key : ∀ m k, k + m = n → ((∀ i, k ≤ i → i < n → p i) ∧ rounds code base clr b (S k) = some E) ∨ ∃ s, rounds code base clr b (S k) = some (.ret, s) ∧ s.env[j]? = some (.bool true) := by
    intro m
    induction m with
    | zero =>
      intro k h
      have : k = n := by omega
      subst this
      exact .inl ⟨fun i h1 h2 => absurd h2 (by omega), (rounds_go' _ _ _ _).trans hend⟩
    | succ m ih =>
      intro k h
      rw [rounds_go']
      rcases hst k (by omega) with ⟨hp, h1⟩ | ⟨s, h1, h2⟩
      · rw [h1]
        rcases ih (k + 1) (by omega) with ⟨h3, h4⟩ | h3
        · refine .inl ⟨fun i a1 a2 => ?_, h4⟩
          by_cases e : i = k
          · subst e; exact hp
          · exact h3 i (by omega) a2
        · exact .inr h3
      · exact .inr ⟨s, h1, h2⟩
  rcases key n 0 (by omega) with ⟨h1, h2⟩ | h
  · exact .inl ⟨fun k hk => h1 k (Nat.zero_le _) hk, h2⟩
  · exact .inr h
theorem over_loop0 {n : Nat} {base : Nat} {clr : List Nat} {b : ACode} {S : Nat → St} {E : Ex × St} {j : Nat}
    (hst : ∀ k, k < n → thenLoop base clr b (run code b (S k)) = rounds code base clr b (S (k + 1)) ∨ ∃ s, thenLoop base clr b (run code b (S k)) = some (.ret, s) ∧ s.env[j]? = some (.bool true))
    (hend : thenLoop base clr b (run code b (S n)) = some E) :
    rounds code base clr b (S 0) = some E ∨ ∃ s, rounds code base clr b (S 0) = some (.ret, s) ∧ s.env[j]? = some (.bool true) :=
  (over_loop (p := fun _ => True) (fun k hk => (hst k hk).imp (fun h => ⟨trivial, h⟩) fun h => h) hend).imp (fun h => h.2) fun h => h
theorem over421i (xs0 : List AVal) (n7 k8 : Int) (a : SL Val) : rounds code 0 [1, 3, 13, 14] l_blaw27_overRows_0 ⟨[.imm true xs0, .any, slA Val.a a, .any, .bool false, .imm true xs0, .int .i64 n7, .int .i64 k8, .bool true, .bool false, slA Val.a a, .int .i64 a.1.length, .int .i64 0, .any, .any], []⟩ = some (.ext 2, ⟨[.imm true xs0, .any, slA Val.a a, .any, .bool false, .imm true xs0, .int .i64 n7, .int .i64 k8, .bool true, .bool false, slA Val.a a, .int .i64 a.1.length, .int .i64 a.1.length, .bool false, .any], []⟩) ∨
    ∃ s, rounds code 0 [1, 3, 13, 14] l_blaw27_overRows_0 ⟨[.imm true xs0, .any, slA Val.a a, .any, .bool false, .imm true xs0, .int .i64 n7, .int .i64 k8, .bool true, .bool false, slA Val.a a, .int .i64 a.1.length, .int .i64 0, .any, .any], []⟩ = some (.ret, s) ∧ s.env[1]? = some (.bool true) := by
  obtain ⟨l, hn⟩ := a
  have hf : ∀ a : Val, ncells (Val.a a) = 4 ∧ isAgg (Val.a a) = true := fun a => ⟨rfl, rfl⟩
  have hz : ∀ (a : Val) (top : Bool) (base : Nat) (σ : Store) (n : Nat), fz true top base σ (n + 3) (Val.a a) = Val.a a := fun a top base σ n => by simp [Val.a]
  generalize hX : l.map Val.a = xs
  have hA : slA Val.a ⟨l, hn⟩ = .imm true xs := by simp [slA, hX]
  have lX : xs.length = l.length := by rw [← hX]; simp
  simp only [hA]
  refine over_loop0 (n := l.length) (S := fun k => ⟨[.imm true xs0, .any, .imm true xs, .any, .bool false, .imm true xs0, .int .i64 n7, .int .i64 k8, .bool true, .bool false, .imm true xs, .int .i64 l.length, .int .i64 k, .any, .any], []⟩) (fun k a1 => ?_) ?_
  · have e1 : xs[k]? = some (Val.a l[k]) := by rw [← hX]; exact map_get a1
    have e4 := hf l[k]
    generalize l[k] = x1 at *
    have i1 : ((k : Int) < (l.length : Int)) := by omega
    have i2 : bin .lss (.int .i64 (k : Int)) (.int .i64 (l.length : Int)) = some (.bool true) := by simp [i1]
    have i3 : bin .add (.int .i64 (k : Int)) (.int .i64 1) = some (.int .i64 ((k + 1 : Nat) : Int)) := by simp [wrap_sl a1 hn]
    obtain ⟨c, hc⟩ : ∃ c, decide ((100 : Int) < (x1.s.length : Int)) = c := ⟨_, rfl⟩
    cases c <;>
    first
      | (refine .inl ?_; simp [l_blaw27_overRows_0, e1, e4, i1, i2, i3, lX, hz, wrap_sl a1 hn, roundEnd, Val.a, hc, freezeObj, freeze, fuel]; done)
      | (refine .inr ⟨_, by simp [l_blaw27_overRows_0, e1, e4, i1, i2, i3, lX, hz, Val.a, hc, freezeObj, freeze, fuel]; rfl, ?_⟩; rfl)
  · simp [l_blaw27_overRows_0, lX]
theorem over421 (a : SL RowT) : ((∀ k, k < a.1.length → ∀ r, a.1[k]? = some r → r.1.length ≤ 20) ∧ rounds code 0 [1, 2, 3, 8, 9, 10, 11, 12, 13, 14] l_blaw27_overRows_1 ⟨[slA RowT.a a, .any, .any, .any, .bool false, slA RowT.a a, .int .i64 a.1.length, .int .i64 0, .any, .any, .any, .any, .any, .any, .any], []⟩ = some (.ext 0, ⟨[slA RowT.a a, .any, .any, .any, .bool false, slA RowT.a a, .int .i64 a.1.length, .int .i64 a.1.length, .bool false, .any, .any, .any, .any, .any, .any], []⟩)) ∨
    ∃ s, rounds code 0 [1, 2, 3, 8, 9, 10, 11, 12, 13, 14] l_blaw27_overRows_1 ⟨[slA RowT.a a, .any, .any, .any, .bool false, slA RowT.a a, .int .i64 a.1.length, .int .i64 0, .any, .any, .any, .any, .any, .any, .any], []⟩ = some (.ret, s) ∧ s.env[1]? = some (.bool true) := by
  obtain ⟨l, hn⟩ := a
  have hf : ∀ a : RowT, ncells (RowT.a a) = 1 ∧ isAgg (RowT.a a) = false := fun a => ⟨rfl, rfl⟩
  have hz : ∀ (a : RowT) (top : Bool) (base : Nat) (σ : Store) (n : Nat), fz true top base σ (n + 3) (RowT.a a) = RowT.a a := fun a top base σ n => by simp
  generalize hX : l.map RowT.a = xs
  have hA : slA RowT.a ⟨l, hn⟩ = .imm true xs := by simp [slA, hX]
  have lX : xs.length = l.length := by rw [← hX]; simp
  simp only [hA]
  refine over_loop (p := fun k => ∀ r, l[k]? = some r → r.1.length ≤ 20) (n := l.length) (S := fun k => ⟨[.imm true xs, .any, .any, .any, .bool false, .imm true xs, .int .i64 l.length, .int .i64 k, .any, .any, .any, .any, .any, .any, .any], []⟩) (fun k a1 => ?_) ?_
  · have e1 : xs[k]? = some (RowT.a l[k]) := by rw [← hX]; exact map_get a1
    have e4 := hf l[k]
    have eg : l[k]? = some l[k] := by simp [a1]
    generalize l[k] = x1 at *
    have i1 : ((k : Int) < (l.length : Int)) := by omega
    have i2 : bin .lss (.int .i64 (k : Int)) (.int .i64 (l.length : Int)) = some (.bool true) := by simp [i1]
    have i3 : bin .add (.int .i64 (k : Int)) (.int .i64 1) = some (.int .i64 ((k + 1 : Nat) : Int)) := by simp [wrap_sl a1 hn]
    obtain ⟨c, hc⟩ : ∃ c, decide ((20 : Int) < (x1.1.length : Int)) = c := ⟨_, rfl⟩
    have hi := over421i xs l.length k x1
    obtain ⟨zs, hZ, lZ⟩ := slA_imm Val.a x1
    simp only [hZ] at e1 hi
    clear e4
    cases c <;> rcases hi with hi | ⟨s, hi, hs⟩ <;>
    first
      | (refine .inl ⟨fun r hr => by rw [eg] at hr; cases hr; have := of_decide_eq_false hc; omega, ?_⟩; simp [l_blaw27_overRows_1, e1, i1, i2, i3, lX, hz, wrap_sl a1 hn, roundEnd, lZ, hi, hc, freezeObj, freeze, fuel]; done)
      | (refine .inr ⟨_, by simp [l_blaw27_overRows_1, e1, i1, i2, i3, lX, hz, lZ, hi, hc, freezeObj, freeze, fuel]; rfl, ?_⟩; rfl)
      | exact .inr ⟨s, by simp [l_blaw27_overRows_1, e1, i1, i2, i3, lX, hz, lZ, hi, hc, freezeObj, freeze, fuel], hs⟩
  · simp [l_blaw27_overRows_1, lX]
theorem overRows_v (a : SL RowT) : ∃ c, pcall I.blaw27_overRows [slA RowT.a a] = some (.bool c) ∧ (c = false → a.1.length ≤ 40 ∧ ∀ r ∈ a.1, r.1.length ≤ 20) := by
  rw [pcall_eq c_blaw27_overRows rfl]
  have hl := over421 a
  obtain ⟨xs, hA, lX⟩ := slA_imm RowT.a a
  simp only [hA] at hl ⊢
  obtain ⟨c, hc⟩ : ∃ c, decide ((40 : Int) < (a.1.length : Int)) = c := ⟨_, rfl⟩
  cases c
  · rcases hl with ⟨hb, hl⟩ | ⟨s, hl, hs⟩
    · refine ⟨false, by simp [f_blaw27_overRows, b_blaw27_overRows, lX, hc, hl], fun _ => ⟨?_, fun r hr => ?_⟩⟩
      · have := of_decide_eq_false hc; omega
      · obtain ⟨k, hk, rfl⟩ := List.mem_iff_getElem.1 hr
        exact hb k hk _ (by simp [hk])
    · exact ⟨true, by simp [f_blaw27_overRows, b_blaw27_overRows, lX, hc, hl, leave_at hs], fun h => by cases h⟩
  · exact ⟨true, by simp [f_blaw27_overRows, b_blaw27_overRows, lX, hc], fun h => by cases h⟩
theorem over442  (a : SL EN) : rounds code 1 [2, 3, 8, 9] l_blaw27_overExpr_0 ⟨[.agg [slA EN.a a], .ptr 0 0 0 0, .any, .any, .bool false, slA EN.a a, .int .i64 a.1.length, .int .i64 0, .any, .any], [Obj.arr 1 0 [.agg [slA EN.a a]]]⟩ = some (.ext 0, ⟨[.agg [slA EN.a a], .ptr 0 0 0 0, .any, .any, .bool false, slA EN.a a, .int .i64 a.1.length, .int .i64 a.1.length, .bool false, .any], [Obj.arr 1 0 [.agg [slA EN.a a]]]⟩) ∨
    ∃ s, rounds code 1 [2, 3, 8, 9] l_blaw27_overExpr_0 ⟨[.agg [slA EN.a a], .ptr 0 0 0 0, .any, .any, .bool false, slA EN.a a, .int .i64 a.1.length, .int .i64 0, .any, .any], [Obj.arr 1 0 [.agg [slA EN.a a]]]⟩ = some (.ret, s) ∧ s.env[2]? = some (.bool true) := by
  obtain ⟨l, hn⟩ := a
  have hf : ∀ a : EN, ncells (EN.a a) = 8 ∧ isAgg (EN.a a) = true := fun a => ⟨rfl, rfl⟩
  have hz : ∀ (a : EN) (top : Bool) (base : Nat) (σ : Store) (n : Nat), fz true top base σ (n + 3) (EN.a a) = EN.a a := fun a top base σ n => by simp [EN.a]
  generalize hX : l.map EN.a = xs
  have hA : slA EN.a ⟨l, hn⟩ = .imm true xs := by simp [slA, hX]
  have lX : xs.length = l.length := by rw [← hX]; simp
  simp only [hA]
  refine over_loop0 (n := l.length) (S := fun k => ⟨[.agg [.imm true xs], .ptr 0 0 0 0, .any, .any, .bool false, .imm true xs, .int .i64 l.length, .int .i64 k, .any, .any], [Obj.arr 1 0 [.agg [.imm true xs]]]⟩) (fun k a1 => ?_) ?_
  · have e1 : xs[k]? = some (EN.a l[k]) := by rw [← hX]; exact map_get a1
    have e4 := hf l[k]
    generalize l[k] = x1 at *
    have i1 : ((k : Int) < (l.length : Int)) := by omega
    have i2 : bin .lss (.int .i64 (k : Int)) (.int .i64 (l.length : Int)) = some (.bool true) := by simp [i1]
    have i3 : bin .add (.int .i64 (k : Int)) (.int .i64 1) = some (.int .i64 ((k + 1 : Nat) : Int)) := by simp [wrap_sl a1 hn]
    obtain ⟨c, hc⟩ : ∃ c, decide ((100 : Int) < (x1.v.s.length : Int)) = c := ⟨_, rfl⟩
    cases c <;>
    first
      | (refine .inl ?_; simp [l_blaw27_overExpr_0, e1, e4, i1, i2, i3, lX, hz, wrap_sl a1 hn, roundEnd, EN.a, hc, freezeObj, freeze, fuel]; done)
      | (refine .inr ⟨_, by simp [l_blaw27_overExpr_0, e1, e4, i1, i2, i3, lX, hz, EN.a, hc, freezeObj, freeze, fuel]; rfl, ?_⟩; rfl)
  · simp [l_blaw27_overExpr_0, lX]
theorem overExpr_442 (a : ExprT) : ∃ c, pcall I.blaw27_overExpr [.agg [slA EN.a a]] = some (.bool c) := by
  rw [pcall_eq c_blaw27_overExpr rfl]
  have hl := over442 a
  obtain ⟨xs, hA, lX⟩ := slA_imm EN.a a
  simp only [hA] at hl ⊢
  obtain ⟨c, hc⟩ : ∃ c, decide ((100 : Int) < (a.1.length : Int)) = c := ⟨_, rfl⟩
  cases c
  · rcases hl with hl | ⟨s, hl, hs⟩
    · exact ⟨false, by simp [f_blaw27_overExpr, b_blaw27_overExpr, lX, hc, hl]⟩
    · exact ⟨true, by simp [f_blaw27_overExpr, b_blaw27_overExpr, lX, hc, hl, leave_at hs]⟩
  · exact ⟨true, by simp [f_blaw27_overExpr, b_blaw27_overExpr, lX, hc]⟩
theorem over423o (A1 : List AVal) (n7 k8 : Int) (x : LNT) (a : SL ExprT) : rounds code 1 [1, 3, 14, 15] l_blaw27_overNodes_1 ⟨[.imm true A1, .any, .ptr 0 0 0 0, .any, .any, .bool false, .imm true A1, .int .i64 n7, .int .i64 k8, .bool true, .bool false, slA ExprT.a a, .int .i64 a.1.length, .int .i64 0, .any, .any, .any, .any, .any, .any, .any], [Obj.arr 12 0 [.agg [.int .i64 x.op, .int .i64 x.l, .int .i64 x.r, .int .i64 x.tab, slA (AVal.int .i64) x.cols, .bool x.flag, slA EN.a x.pred, slA (AVal.int .i64) x.keys, slA AggT.a x.aggs, slA ExprT.a a, slA OrdT.a x.ords, .int .i64 x.limit]]]⟩ = some (.ext 2, ⟨[.imm true A1, .any, .ptr 0 0 0 0, .any, .any, .bool false, .imm true A1, .int .i64 n7, .int .i64 k8, .bool true, .bool false, slA ExprT.a a, .int .i64 a.1.length, .int .i64 a.1.length, .bool false, .any, .any, .any, .any, .any, .any], [Obj.arr 12 0 [.agg [.int .i64 x.op, .int .i64 x.l, .int .i64 x.r, .int .i64 x.tab, slA (AVal.int .i64) x.cols, .bool x.flag, slA EN.a x.pred, slA (AVal.int .i64) x.keys, slA AggT.a x.aggs, slA ExprT.a a, slA OrdT.a x.ords, .int .i64 x.limit]]]⟩) ∨
    ∃ s, rounds code 1 [1, 3, 14, 15] l_blaw27_overNodes_1 ⟨[.imm true A1, .any, .ptr 0 0 0 0, .any, .any, .bool false, .imm true A1, .int .i64 n7, .int .i64 k8, .bool true, .bool false, slA ExprT.a a, .int .i64 a.1.length, .int .i64 0, .any, .any, .any, .any, .any, .any, .any], [Obj.arr 12 0 [.agg [.int .i64 x.op, .int .i64 x.l, .int .i64 x.r, .int .i64 x.tab, slA (AVal.int .i64) x.cols, .bool x.flag, slA EN.a x.pred, slA (AVal.int .i64) x.keys, slA AggT.a x.aggs, slA ExprT.a a, slA OrdT.a x.ords, .int .i64 x.limit]]]⟩ = some (.ret, s) ∧ s.env[1]? = some (.bool true) := by
  obtain ⟨l, hn⟩ := a
  have hf : ∀ a : ExprT, ncells (ExprT.a a) = 1 ∧ isAgg (ExprT.a a) = true := fun a => ⟨rfl, rfl⟩
  have hz : ∀ (a : ExprT) (top : Bool) (base : Nat) (σ : Store) (n : Nat), fz true top base σ (n + 3) (ExprT.a a) = ExprT.a a := fun a top base σ n => by simp [ExprT.a]
  generalize hX : l.map ExprT.a = xs
  have hA : slA ExprT.a ⟨l, hn⟩ = .imm true xs := by simp [slA, hX]
  have lX : xs.length = l.length := by rw [← hX]; simp
  simp only [hA]
  refine over_loop0 (n := l.length) (S := fun k => ⟨[.imm true A1, .any, .ptr 0 0 0 0, .any, .any, .bool false, .imm true A1, .int .i64 n7, .int .i64 k8, .bool true, .bool false, .imm true xs, .int .i64 l.length, .int .i64 k, .any, .any, .any, .any, .any, .any, .any], [Obj.arr 12 0 [.agg [.int .i64 x.op, .int .i64 x.l, .int .i64 x.r, .int .i64 x.tab, slA (AVal.int .i64) x.cols, .bool x.flag, slA EN.a x.pred, slA (AVal.int .i64) x.keys, slA AggT.a x.aggs, .imm true xs, slA OrdT.a x.ords, .int .i64 x.limit]]]⟩) (fun k a1 => ?_) ?_
  · have e1 : xs[k]? = some (ExprT.a l[k]) := by rw [← hX]; exact map_get a1
    have e4 := hf l[k]
    generalize l[k] = x1 at *
    have i1 : ((k : Int) < (l.length : Int)) := by omega
    have i2 : bin .lss (.int .i64 (k : Int)) (.int .i64 (l.length : Int)) = some (.bool true) := by simp [i1]
    have i3 : bin .add (.int .i64 (k : Int)) (.int .i64 1) = some (.int .i64 ((k + 1 : Nat) : Int)) := by simp [wrap_sl a1 hn]
    obtain ⟨c, hc⟩ := overExpr_442 x1
    cases c <;>
    first
      | (refine .inl ?_; simp [l_blaw27_overNodes_1, e1, e4, i1, i2, i3, lX, hz, wrap_sl a1 hn, roundEnd, ExprT.a, hc, freezeObj, freeze, fuel]; done)
      | (refine .inr ⟨_, by simp [l_blaw27_overNodes_1, e1, e4, i1, i2, i3, lX, hz, ExprT.a, hc, freezeObj, freeze, fuel]; rfl, ?_⟩; rfl)
  · simp [l_blaw27_overNodes_1, lX]
theorem over423a (A1 : List AVal) (n7 k8 n12 : Int) (x : LNT) (a : SL AggT) : rounds code 1 [1, 4, 19, 20] l_blaw27_overNodes_0 ⟨[.imm true A1, .any, .ptr 0 0 0 0, .any, .any, .bool false, .imm true A1, .int .i64 n7, .int .i64 k8, .bool true, .bool false, slA ExprT.a x.outs, .int .i64 n12, .int .i64 n12, .bool false, .any, slA AggT.a a, .int .i64 a.1.length, .int .i64 0, .any, .any], [Obj.arr 12 0 [.agg [.int .i64 x.op, .int .i64 x.l, .int .i64 x.r, .int .i64 x.tab, slA (AVal.int .i64) x.cols, .bool x.flag, slA EN.a x.pred, slA (AVal.int .i64) x.keys, slA AggT.a a, slA ExprT.a x.outs, slA OrdT.a x.ords, .int .i64 x.limit]]]⟩ = some (.ext 4, ⟨[.imm true A1, .any, .ptr 0 0 0 0, .any, .any, .bool false, .imm true A1, .int .i64 n7, .int .i64 k8, .bool true, .bool false, slA ExprT.a x.outs, .int .i64 n12, .int .i64 n12, .bool false, .any, slA AggT.a a, .int .i64 a.1.length, .int .i64 a.1.length, .bool false, .any], [Obj.arr 12 0 [.agg [.int .i64 x.op, .int .i64 x.l, .int .i64 x.r, .int .i64 x.tab, slA (AVal.int .i64) x.cols, .bool x.flag, slA EN.a x.pred, slA (AVal.int .i64) x.keys, slA AggT.a a, slA ExprT.a x.outs, slA OrdT.a x.ords, .int .i64 x.limit]]]⟩) ∨
    ∃ s, rounds code 1 [1, 4, 19, 20] l_blaw27_overNodes_0 ⟨[.imm true A1, .any, .ptr 0 0 0 0, .any, .any, .bool false, .imm true A1, .int .i64 n7, .int .i64 k8, .bool true, .bool false, slA ExprT.a x.outs, .int .i64 n12, .int .i64 n12, .bool false, .any, slA AggT.a a, .int .i64 a.1.length, .int .i64 0, .any, .any], [Obj.arr 12 0 [.agg [.int .i64 x.op, .int .i64 x.l, .int .i64 x.r, .int .i64 x.tab, slA (AVal.int .i64) x.cols, .bool x.flag, slA EN.a x.pred, slA (AVal.int .i64) x.keys, slA AggT.a a, slA ExprT.a x.outs, slA OrdT.a x.ords, .int .i64 x.limit]]]⟩ = some (.ret, s) ∧ s.env[1]? = some (.bool true) := by
  obtain ⟨l, hn⟩ := a
  have hf : ∀ a : AggT, ncells (AggT.a a) = 2 ∧ isAgg (AggT.a a) = true := fun a => ⟨rfl, rfl⟩
  have hz : ∀ (a : AggT) (top : Bool) (base : Nat) (σ : Store) (n : Nat), fz true top base σ (n + 3) (AggT.a a) = AggT.a a := fun a top base σ n => by simp [AggT.a]
  generalize hX : l.map AggT.a = xs
  have hA : slA AggT.a ⟨l, hn⟩ = .imm true xs := by simp [slA, hX]
  have lX : xs.length = l.length := by rw [← hX]; simp
  simp only [hA]
  refine over_loop0 (n := l.length) (S := fun k => ⟨[.imm true A1, .any, .ptr 0 0 0 0, .any, .any, .bool false, .imm true A1, .int .i64 n7, .int .i64 k8, .bool true, .bool false, slA ExprT.a x.outs, .int .i64 n12, .int .i64 n12, .bool false, .any, .imm true xs, .int .i64 l.length, .int .i64 k, .any, .any], [Obj.arr 12 0 [.agg [.int .i64 x.op, .int .i64 x.l, .int .i64 x.r, .int .i64 x.tab, slA (AVal.int .i64) x.cols, .bool x.flag, slA EN.a x.pred, slA (AVal.int .i64) x.keys, .imm true xs, slA ExprT.a x.outs, slA OrdT.a x.ords, .int .i64 x.limit]]]⟩) (fun k a1 => ?_) ?_
  · have e1 : xs[k]? = some (AggT.a l[k]) := by rw [← hX]; exact map_get a1
    have e4 := hf l[k]
    generalize l[k] = x1 at *
    have i1 : ((k : Int) < (l.length : Int)) := by omega
    have i2 : bin .lss (.int .i64 (k : Int)) (.int .i64 (l.length : Int)) = some (.bool true) := by simp [i1]
    have i3 : bin .add (.int .i64 (k : Int)) (.int .i64 1) = some (.int .i64 ((k + 1 : Nat) : Int)) := by simp [wrap_sl a1 hn]
    obtain ⟨c, hc⟩ := overExpr_442 x1.arg
    cases c <;>
    first
      | (refine .inl ?_; simp [l_blaw27_overNodes_0, e1, e4, i1, i2, i3, lX, hz, wrap_sl a1 hn, roundEnd, AggT.a, hc, freezeObj, freeze, fuel]; done)
      | (refine .inr ⟨_, by simp [l_blaw27_overNodes_0, e1, e4, i1, i2, i3, lX, hz, AggT.a, hc, freezeObj, freeze, fuel]; rfl, ?_⟩; rfl)
  · simp [l_blaw27_overNodes_0, lX]
theorem over423  (a : SL LNT) : rounds code 0 [1, 2, 3, 4, 9, 10, 11, 12, 13, 14, 15, 16, 17, 18, 19, 20] l_blaw27_overNodes_2 ⟨[slA LNT.a a, .any, .any, .any, .any, .bool false, slA LNT.a a, .int .i64 a.1.length, .int .i64 0, .any, .any, .any, .any, .any, .any, .any, .any, .any, .any, .any, .any], []⟩ = some (.ext 0, ⟨[slA LNT.a a, .any, .any, .any, .any, .bool false, slA LNT.a a, .int .i64 a.1.length, .int .i64 a.1.length, .bool false, .any, .any, .any, .any, .any, .any, .any, .any, .any, .any, .any], []⟩) ∨
    ∃ s, rounds code 0 [1, 2, 3, 4, 9, 10, 11, 12, 13, 14, 15, 16, 17, 18, 19, 20] l_blaw27_overNodes_2 ⟨[slA LNT.a a, .any, .any, .any, .any, .bool false, slA LNT.a a, .int .i64 a.1.length, .int .i64 0, .any, .any, .any, .any, .any, .any, .any, .any, .any, .any, .any, .any], []⟩ = some (.ret, s) ∧ s.env[1]? = some (.bool true) := by
  obtain ⟨l, hn⟩ := a
  have hf : ∀ a : LNT, ncells (LNT.a a) = 12 ∧ isAgg (LNT.a a) = true := fun a => ⟨rfl, rfl⟩
  have hz : ∀ (a : LNT) (top : Bool) (base : Nat) (σ : Store) (n : Nat), fz true top base σ (n + 3) (LNT.a a) = LNT.a a := fun a top base σ n => by simp [LNT.a]
  generalize hX : l.map LNT.a = xs
  have hA : slA LNT.a ⟨l, hn⟩ = .imm true xs := by simp [slA, hX]
  have lX : xs.length = l.length := by rw [← hX]; simp
  simp only [hA]
  refine over_loop0 (n := l.length) (S := fun k => ⟨[.imm true xs, .any, .any, .any, .any, .bool false, .imm true xs, .int .i64 l.length, .int .i64 k, .any, .any, .any, .any, .any, .any, .any, .any, .any, .any, .any, .any], []⟩) (fun k a1 => ?_) ?_
  · have e1 : xs[k]? = some (LNT.a l[k]) := by rw [← hX]; exact map_get a1
    have e4 := hf l[k]
    generalize l[k] = x1 at *
    have i1 : ((k : Int) < (l.length : Int)) := by omega
    have i2 : bin .lss (.int .i64 (k : Int)) (.int .i64 (l.length : Int)) = some (.bool true) := by simp [i1]
    have i3 : bin .add (.int .i64 (k : Int)) (.int .i64 1) = some (.int .i64 ((k + 1 : Nat) : Int)) := by simp [wrap_sl a1 hn]
    have hi := over423o xs l.length k x1 x1.outs
    have hj := over423a xs l.length k x1.outs.1.length x1 x1.aggs
    obtain ⟨c1, hc1⟩ : ∃ c, decide ((20 : Int) < (x1.cols.1.length : Int)) = c := ⟨_, rfl⟩
    obtain ⟨z1, hZ1, lZ1⟩ := slA_imm (AVal.int .i64) x1.cols
    obtain ⟨c2, hc2⟩ : ∃ c, decide ((20 : Int) < (x1.keys.1.length : Int)) = c := ⟨_, rfl⟩
    obtain ⟨z2, hZ2, lZ2⟩ := slA_imm (AVal.int .i64) x1.keys
    obtain ⟨c3, hc3⟩ : ∃ c, decide ((20 : Int) < (x1.ords.1.length : Int)) = c := ⟨_, rfl⟩
    obtain ⟨z3, hZ3, lZ3⟩ := slA_imm OrdT.a x1.ords
    obtain ⟨c4, hc4⟩ : ∃ c, decide ((20 : Int) < (x1.outs.1.length : Int)) = c := ⟨_, rfl⟩
    obtain ⟨z4, hZ4, lZ4⟩ := slA_imm ExprT.a x1.outs
    obtain ⟨c5, hc5⟩ : ∃ c, decide ((20 : Int) < (x1.aggs.1.length : Int)) = c := ⟨_, rfl⟩
    obtain ⟨z5, hZ5, lZ5⟩ := slA_imm AggT.a x1.aggs
    obtain ⟨c6, hc6⟩ := overExpr_442 x1.pred
    simp only [LNT.a, hZ1, hZ2, hZ3, hZ4, hZ5] at e1 hi hj
    clear e4
    cases c1
    rotate_left
    · refine .inr ⟨_, by simp [l_blaw27_overNodes_2, e1, i1, i2, i3, lX, hz, hc1, hc2, hc3, hc4, hc5, hc6, lZ1, lZ2, lZ3, lZ4, lZ5, hi, hj, freezeObj, freeze, fuel]; rfl, ?_⟩
      rfl
    cases c2
    rotate_left
    · refine .inr ⟨_, by simp [l_blaw27_overNodes_2, e1, i1, i2, i3, lX, hz, hc1, hc2, hc3, hc4, hc5, hc6, lZ1, lZ2, lZ3, lZ4, lZ5, hi, hj, freezeObj, freeze, fuel]; rfl, ?_⟩
      rfl
    cases c3
    rotate_left
    · refine .inr ⟨_, by simp [l_blaw27_overNodes_2, e1, i1, i2, i3, lX, hz, hc1, hc2, hc3, hc4, hc5, hc6, lZ1, lZ2, lZ3, lZ4, lZ5, hi, hj, freezeObj, freeze, fuel]; rfl, ?_⟩
      rfl
    cases c4
    rotate_left
    · refine .inr ⟨_, by simp [l_blaw27_overNodes_2, e1, i1, i2, i3, lX, hz, hc1, hc2, hc3, hc4, hc5, hc6, lZ1, lZ2, lZ3, lZ4, lZ5, hi, hj, freezeObj, freeze, fuel]; rfl, ?_⟩
      rfl
    cases c5
    rotate_left
    · refine .inr ⟨_, by simp [l_blaw27_overNodes_2, e1, i1, i2, i3, lX, hz, hc1, hc2, hc3, hc4, hc5, hc6, lZ1, lZ2, lZ3, lZ4, lZ5, hi, hj, freezeObj, freeze, fuel]; rfl, ?_⟩
      rfl
    cases c6
    rotate_left
    · refine .inr ⟨_, by simp [l_blaw27_overNodes_2, e1, i1, i2, i3, lX, hz, hc1, hc2, hc3, hc4, hc5, hc6, lZ1, lZ2, lZ3, lZ4, lZ5, hi, hj, freezeObj, freeze, fuel]; rfl, ?_⟩
      rfl
    rcases hi with hi | ⟨s, hi, hs⟩
    rotate_left
    · exact .inr ⟨s, by simp [l_blaw27_overNodes_2, e1, i1, i2, i3, lX, hz, hc1, hc2, hc3, hc4, hc5, hc6, lZ1, lZ2, lZ3, lZ4, lZ5, hi, hj, freezeObj, freeze, fuel], hs⟩
    rcases hj with hj | ⟨s, hj, hs⟩
    rotate_left
    · exact .inr ⟨s, by simp [l_blaw27_overNodes_2, e1, i1, i2, i3, lX, hz, hc1, hc2, hc3, hc4, hc5, hc6, lZ1, lZ2, lZ3, lZ4, lZ5, hi, hj, freezeObj, freeze, fuel], hs⟩
    refine .inl ?_
    simp [l_blaw27_overNodes_2, e1, i1, i2, i3, lX, hz, hc1, hc2, hc3, hc4, hc5, hc6, lZ1, lZ2, lZ3, lZ4, lZ5, hi, hj, freezeObj, freeze, fuel, wrap_sl a1 hn, roundEnd]
  · simp [l_blaw27_overNodes_2, lX]
theorem overNodes_423 (a : SL LNT) : ∃ c, pcall I.blaw27_overNodes [slA LNT.a a] = some (.bool c) := by
  rw [pcall_eq c_blaw27_overNodes rfl]
  have hl := over423 a
  obtain ⟨xs, hA, lX⟩ := slA_imm LNT.a a
  simp only [hA] at hl ⊢
  obtain ⟨c, hc⟩ : ∃ c, decide ((65 : Int) < (a.1.length : Int)) = c := ⟨_, rfl⟩
  cases c
  · rcases hl with hl | ⟨s, hl, hs⟩
    · exact ⟨false, by simp [f_blaw27_overNodes, b_blaw27_overNodes, lX, hc, hl]⟩
    · exact ⟨true, by simp [f_blaw27_overNodes, b_blaw27_overNodes, lX, hc, hl, leave_at hs]⟩
  · exact ⟨true, by simp [f_blaw27_overNodes, b_blaw27_overNodes, lX, hc]⟩
end Go.AM
section

namespace Go.AM
open P
set_option maxHeartbeats 8000000
set_option maxRecDepth 8000
theorem over393 (L : LifeT) (a : SL FragT) (ha : L.frags = a) : rounds code 1 [2, 3, 8, 9] l_blaw27_over_0 ⟨[L.a, .ptr 0 0 0 0, .any, .any, .bool false, slA FragT.a a, .int .i64 a.1.length, .int .i64 0, .any, .any], [.arr 8 0 [L.a]]⟩ = some (.ext 0, ⟨[L.a, .ptr 0 0 0 0, .any, .any, .bool false, slA FragT.a a, .int .i64 a.1.length, .int .i64 a.1.length, .bool false, .any], [.arr 8 0 [L.a]]⟩) ∨
    ∃ s, rounds code 1 [2, 3, 8, 9] l_blaw27_over_0 ⟨[L.a, .ptr 0 0 0 0, .any, .any, .bool false, slA FragT.a a, .int .i64 a.1.length, .int .i64 0, .any, .any], [.arr 8 0 [L.a]]⟩ = some (.ret, s) ∧ s.env[2]? = some (.bool true) := by
  clear ha
  have hL : ∀ (top : Bool) (base : Nat) (σ : Store) (n : Nat), fz true top base σ (n + 3) L.a = L.a := fun top base σ n => by simp [LifeT.a]
  have hL' : ∀ (base : Nat) (σ : Store) (n : Nat), fz false true base σ (n + 3) L.a = L.a := fun base σ n => by simp [LifeT.a]
  have hL1 : ncells L.a = 8 := rfl
  obtain ⟨l, hn⟩ := a
  generalize L.a = La at *
  have hf : ∀ a : FragT, ncells (FragT.a a) = 4 ∧ isAgg (FragT.a a) = true := fun a => ⟨rfl, rfl⟩
  have hz : ∀ (a : FragT) (top : Bool) (base : Nat) (σ : Store) (n : Nat), fz true top base σ (n + 3) (FragT.a a) = FragT.a a := fun a top base σ n => by simp [FragT.a, FragT.c]
  generalize hX : l.map FragT.a = xs
  have hA : slA FragT.a ⟨l, hn⟩ = .imm true xs := by simp [slA, hX]
  have lX : xs.length = l.length := by rw [← hX]; simp
  simp only [hA]
  refine over_loop0 (n := l.length) (S := fun k => ⟨[La, .ptr 0 0 0 0, .any, .any, .bool false, .imm true xs, .int .i64 l.length, .int .i64 k, .any, .any], [.arr 8 0 [La]]⟩) (fun k a1 => ?_) ?_
  · have e1 : xs[k]? = some (FragT.a l[k]) := by rw [← hX]; exact map_get a1
    generalize l[k] = x1 at *
    have i1 : ((k : Int) < (l.length : Int)) := by omega
    have i2 : bin .lss (.int .i64 (k : Int)) (.int .i64 (l.length : Int)) = some (.bool true) := by simp [i1]
    have i3 : bin .add (.int .i64 (k : Int)) (.int .i64 1) = some (.int .i64 ((k + 1 : Nat) : Int)) := by simp [wrap_sl a1 hn]
    obtain ⟨c1, hc1⟩ : ∃ c, decide ((20 : Int) < (x1.cols.1.length : Int)) = c := ⟨_, rfl⟩
    obtain ⟨z1, hZ1, lZ1⟩ := slA_imm (AVal.int .i64) x1.cols
    obtain ⟨c2, hc2⟩ := overNodes_423 x1.nodes
    simp only [FragT.a, FragT.c, hZ1] at e1
    cases c1
    · cases c2
      · refine .inl ?_
        simp [l_blaw27_over_0, e1, i1, i2, i3, lX, hc1, hc2, lZ1, hL', hL1, wrap_sl a1 hn, roundEnd, freezeObj, freeze, fuel, arrAt]
      · refine .inr ⟨_, by simp [l_blaw27_over_0, e1, i1, i2, i3, lX, hc1, hc2, lZ1, hL', hL1]; rfl, ?_⟩
        rfl
    · refine .inr ⟨_, by simp [l_blaw27_over_0, e1, i1, i2, i3, lX, hc1, lZ1, hL', hL1]; rfl, ?_⟩
      rfl
  · simp [l_blaw27_over_0, lX]
theorem over_v (L : LifeT) : ∃ c, pcall I.blaw27_over [L.a] = some (.bool c) ∧ (c = false → L.names.1.length ≤ 40 ∧ L.rows.1.length ≤ 40) := by
  rw [pcall_eq c_blaw27_over rfl]
  have hl := over393 L L.frags rfl
  obtain ⟨x1, h1, l1⟩ := slA_imm FragT.a L.frags
  obtain ⟨x2, h2, l2⟩ := slA_imm AVal.str L.names
  obtain ⟨x3, h3, l3⟩ := slA_imm AVal.str L.rnames
  obtain ⟨c4, h4, b4⟩ := overRows_v L.rows
  obtain ⟨c1, hc1⟩ : ∃ c, decide ((40 : Int) < (L.frags.1.length : Int)) = c := ⟨_, rfl⟩
  obtain ⟨c2, hc2⟩ : ∃ c, decide ((40 : Int) < (L.names.1.length : Int)) = c := ⟨_, rfl⟩
  obtain ⟨c3, hc3⟩ : ∃ c, decide ((40 : Int) < (L.rnames.1.length : Int)) = c := ⟨_, rfl⟩
  simp only [LifeT.a, h1, h2, h3] at hl ⊢
  cases c1
  · cases c2
    · cases c3
      · cases c4
        · rcases hl with hl | ⟨s, hl, hs⟩
          · refine ⟨false, by simp [f_blaw27_over, b_blaw27_over, l1, l2, l3, hc1, hc2, hc3, h4, hl], fun _ => ⟨?_, (b4 rfl).1⟩⟩
            have := of_decide_eq_false hc2; omega
          · exact ⟨true, by simp [f_blaw27_over, b_blaw27_over, l1, l2, l3, hc1, hc2, hc3, h4, hl, leave_at hs], fun h => by cases h⟩
        · exact ⟨true, by simp [f_blaw27_over, b_blaw27_over, l1, l2, l3, hc1, hc2, hc3, h4], fun h => by cases h⟩
      · exact ⟨true, by simp [f_blaw27_over, b_blaw27_over, l1, l2, l3, hc1, hc2, hc3], fun h => by cases h⟩
    · exact ⟨true, by simp [f_blaw27_over, b_blaw27_over, l1, l2, hc1, hc2], fun h => by cases h⟩
  · exact ⟨true, by simp [f_blaw27_over, b_blaw27_over, l1, hc1], fun h => by cases h⟩
end Go.AM
end
section

namespace Go.AM
open P
set_option maxHeartbeats 8000000
set_option maxRecDepth 8000
def rowsF (rs : List RowT) : List AVal := rs.map (rowC false)
theorem rowsF_succ {rs : List RowT} {k : Nat} (h : k < rs.length) : rowsF (rs.take (k + 1)) = rowsF (rs.take k) ++ [.imm false (rowA rs[k].1)] := by
  unfold rowsF
  rw [List.take_succ_eq_append_getElem h, List.map_append]
  rfl
@[simp] theorem rowsF_length (rs : List RowT) : (rowsF rs).length = rs.length := by simp [rowsF]
theorem rowsF_fz (rs : List RowT) (top : Bool) (base : Nat) (σ : Store) (n : Nat) : (rowsF rs).map (fz false top base σ (n + 1)) = rowsF rs := by
  unfold rowsF
  rw [List.map_map]
  exact List.map_congr_left fun r _ => by simp [rowC]
theorem rowsF_freeze (rs : List RowT) (base : Nat) (σ : Store) : (rowsF rs).map (freeze base σ) = rowsF rs := rowsF_fz rs true base σ 19
@[simp] theorem rowsF_ncells (rs : List RowT) : (rowsF rs).map ncells = List.replicate rs.length 1 := by
  rw [List.eq_replicate_iff]
  exact ⟨by simp, fun x hx => by
    obtain ⟨y, hy, rfl⟩ := List.mem_map.1 hx
    obtain ⟨r, _, rfl⟩ := List.mem_map.1 hy
    rfl⟩
theorem rowsF_nc (rs : List RowT) (base : Nat) (σ : Store) : (rowsF rs).map (ncells ∘ freeze base σ) = List.replicate rs.length 1 := by
  rw [← List.map_map, rowsF_freeze, rowsF_ncells]
theorem rowA_nc (r : List Val) (fl top : Bool) (base : Nat) (σ : Store) (n : Nat) : (∀ a, a ∈ rowA r → ncells (fz fl top base σ (n + 2) a) = ncells a) ↔ True :=
  ⟨fun _ => trivial, fun _ a ha => by
    obtain ⟨v, _, rfl⟩ := List.mem_map.1 ha
    simp⟩
theorem rowA_fz (r : List Val) (fl top : Bool) (base : Nat) (σ : Store) (n : Nat) : (rowA r).map (fz fl top base σ (n + 2)) = rowA r := by
  unfold rowA
  rw [List.map_map]
  exact List.map_congr_left fun v _ => by simp
theorem reportLoop (A0 A1 : AVal) (xs ys : List AVal) (m : Nat) (rs : List RowT) (h0 : ∀ σ, fz false true 4 σ 20 A0 = A0) (h1 : ∀ σ, fz false true 4 σ 20 A1 = A1) (hx : ∀ σ, xs.map (freeze 4 σ) = xs) (hxn : ∀ x ∈ xs, ncells x = 1) (hy : ∀ k (h : k < rs.length), ys[k]? = some (.imm true (rowA rs[k].1))) (hn : rs.length ≤ 40) (hr : ∀ r ∈ rs, r.1.length ≤ 20) :
    rounds code 4 [4, 8] l_query_Rows_1_0 ⟨[A0, A1, .ptr 0 0 0 0, .ptr 2 0 0 0, .any, .imm true ys, .int .i64 rs.length, .int .i64 0, .any], [.arr 4 0 [.agg [.int .i64 0, .int .i64 0, .nil0, .nil0]], .arr 1 0 xs, .arr 4 0 [.agg [.int .i64 0, .int .i64 0, .sl 1 0 0 m, .sl 3 0 0 0]], .arr 1 0 []]⟩ =
      some (.ext 0, ⟨[A0, A1, .ptr 0 0 0 0, .ptr 2 0 0 0, .any, .imm true ys, .int .i64 rs.length, .int .i64 rs.length, .bool false], [.arr 4 0 [.agg [.int .i64 0, .int .i64 0, .nil0, .nil0]], .arr 1 0 xs, .arr 4 0 [.agg [.int .i64 0, .int .i64 0, .sl 1 0 0 m, .sl 3 rs.length 0 rs.length]], .arr 1 rs.length (rowsF rs)]⟩) := by
  have := rounds_iter (base := 4) (clr := [4, 8]) (b := l_query_Rows_1_0) (fun k => ⟨[A0, A1, .ptr 0 0 0 0, .ptr 2 0 0 0, .any, .imm true ys, .int .i64 rs.length, .int .i64 k, .any], [.arr 4 0 [.agg [.int .i64 0, .int .i64 0, .nil0, .nil0]], .arr 1 0 xs, .arr 4 0 [.agg [.int .i64 0, .int .i64 0, .sl 1 0 0 m, .sl 3 k 0 k]], .arr 1 k (rowsF (rs.take k))]⟩) rs.length
    (.ext 0, ⟨[A0, A1, .ptr 0 0 0 0, .ptr 2 0 0 0, .any, .imm true ys, .int .i64 rs.length, .int .i64 rs.length, .bool false], [.arr 4 0 [.agg [.int .i64 0, .int .i64 0, .nil0, .nil0]], .arr 1 0 xs, .arr 4 0 [.agg [.int .i64 0, .int .i64 0, .sl 1 0 0 m, .sl 3 rs.length 0 rs.length]], .arr 1 rs.length (rowsF rs)]⟩)
    (fun k hk => by
      have e1 := hy k hk
      have hlt : ((k : Int) < (rs.length : Int)) := by omega
      have h3 := fun σ => acall_nil c_slices_Clone_api_Row_api_Value rfl true (rowA rs[k].1) σ
      unfold rowA at h3
      rw [Clone_api_Row_api_Value (enc := Val.a) true rs[k].1 (by have := hr _ (List.getElem_mem hk); unfold most; omega)] at h3
      replace h3 : ∀ σ, acall code I.slices_Clone_api_Row_api_Value [.imm true (rowA rs[k].1)] σ = Option.map (fun x => (x, σ)) (some (.frs 4 (rowA rs[k].1))) := h3
      have h4 : min k rs.length = k := by omega
      have h5 : k + 1 ≤ most := by unfold most; omega
      have h6 := rowsF_succ hk
      have h9 : (rowsF (rs.take k)).take k = rowsF (rs.take k) := List.take_of_length_le (by simp; omega)
      have h8 := fun top base σ n => rowsF_fz (rs.take k) top base σ n
      have h10 := rowsF_freeze (rs.take k) 4
      have h11 := rowsF_nc (rs.take k) 4
      have h12 : (rowA rs[k].1).take rs[k].1.length = rowA rs[k].1 := List.take_of_length_le (by simp)
      have h13 := rowA_nc rs[k].1
      have h14 := rowA_fz rs[k].1
      have hxc : ∀ σ, xs.map (ncells ∘ freeze 4 σ) = xs.map ncells := fun σ => by rw [← List.map_map, hx]
      simp [l_query_Rows_1_0, e1, hlt, h3, h4, h5, h6, h8, h9, h10, h11, h12, h13, h0, h1, hx, hxc, h14, append, wrap_lt hk (by unfold most; omega), roundEnd, freezeObj])
    (by simp [l_query_Rows_1_0])
  simpa [show rowsF [] = [] from rfl] using this
end Go.AM
end
section

namespace Go.AM
open P
set_option maxHeartbeats 8000000
set_option maxRecDepth 8000
theorem report_v (L : LifeT) (rs : SL RowT) (hn : L.names.1.length ≤ 40) (h40 : rs.1.length ≤ 40) (hr : ∀ r ∈ rs.1, r.1.length ≤ 20) : pcall I.query_Rows_1 [.cptr true L.a 0, .cptr true (slA RowT.a rs) 0] = some (.agg [.int .i64 0, .int .i64 0, .imm false (L.names.1.map AVal.str), .imm false (rowsF rs.1)]) := by
  rw [pcall_eq c_query_Rows_1 rfl]
  have h0 := fun σ => acall_nil c_slices_Clone_string_string rfl true (L.names.1.map AVal.str) σ
  rw [Clone_string_string (enc := AVal.str) true L.names.1 (by unfold most; omega)] at h0
  have hL : ∀ (top : Bool) (base : Nat) (σ : Store) (n : Nat), fz true top base σ (n + 3) L.a = L.a := fun top base σ n => by simp [LifeT.a]
  have hL' : ∀ (base : Nat) (σ : Store) (n : Nat), fz false true base σ (n + 3) L.a = L.a := fun base σ n => by simp [LifeT.a]
  obtain ⟨ys, hY, lY⟩ := slA_imm RowT.a rs
  have hy : ∀ k (h : k < rs.1.length), ys[k]? = some (.imm true (rowA rs.1[k].1)) := fun k h => by
    have : ys = rs.1.map RowT.a := by
      unfold slA at hY
      exact (AVal.imm.inj hY).2.symm
    rw [this]; simp [h, slA_rowA]
  generalize hX : L.names.1.map AVal.str = xs at h0 ⊢
  have lX : xs.length = L.names.1.length := by rw [← hX]; simp
  have hnc : ∀ x ∈ xs, ncells x = 1 := by rw [← hX]; intro x hx; obtain ⟨y, _, rfl⟩ := List.mem_map.1 hx; rfl
  have hxf : ∀ fl top base σ n, xs.map (fz fl top base σ (n + 1)) = xs := fun fl top base σ n => by
    rw [← hX, List.map_map]; exact List.map_congr_left fun y _ => by simp
  have hld : (cellsOf L.a)[3]? = some (.imm true xs) := by
    rw [← hX]; rfl
  have hloop := reportLoop (.cptr true L.a 0) (.cptr true (.imm true ys) 0) xs ys xs.length rs.1 (fun σ => by simp [hL', cptrAt]) (fun σ => by simp [cptrAt]) (fun σ => hxf _ _ _ _ _) hnc hy h40 hr
  have hxc : ∀ fl top base σ n, xs.map (ncells ∘ fz fl top base σ (n + 1)) = xs.map ncells := fun fl top base σ n => by rw [← List.map_map, hxf]
  have hnc' : ∀ fl top base σ n, (∀ a, a ∈ xs → ncells (fz fl top base σ (n + 1) a) = ncells a) ↔ True := fun fl top base σ n => ⟨fun _ => trivial, fun _ a ha => by
    rw [← hX] at ha
    obtain ⟨y, _, rfl⟩ := List.mem_map.1 ha
    simp⟩
  have hrf := rowsF_fz rs.1
  have hrn : ∀ top base σ n, (∀ a, a ∈ rowsF rs.1 → ncells (fz false top base σ (n + 1) a) = ncells a) ↔ True := fun top base σ n => ⟨fun _ => trivial, fun _ a ha => by
    obtain ⟨y, _, rfl⟩ := List.mem_map.1 ha
    simp [rowC]⟩
  have ht1 : xs.take xs.length = xs := List.take_of_length_le (Nat.le_refl _)
  have ht2 : (rowsF rs.1).take rs.1.length = rowsF rs.1 := List.take_of_length_le (by simp)
  have hl2 : ncells L.a = 8 := rfl
  simp only [hY]
  simp [f_query_Rows_1, b_query_Rows_1, hld, hL, hl2, h0, cptrAt, lY, hloop, hxf, hxc, hnc', hrf, hrn, ht1, ht2]
def repF (err at' : Int) (names : List NameT) (rows : SL RowT) : Bool :=
  if err = 0 then decide (at' = 0) && fitsF names.length rows
  else if err = 140 ∨ err = 300 ∨ err = 371 then decide (at' = 0) && decide (names.length = 0) && decide (rows.1.length = 0)
  else decide (0 ≤ at') && decide (names.length = 0) && decide (rows.1.length = 0)
theorem len0 {α : Type} (l : List α) : (((l.length : Nat) : Int) == 0) = decide (l.length = 0) := by
  rw [Bool.eq_iff_iff]; simp
theorem reports_v (err at' : Int) (names : SL NameT) (rows : SL RowT) : pcall I.query_reports [.agg [.int .i64 err, .int .i64 at', slA AVal.str names, slA RowT.a rows]] = some (.bool (repF err at' names.1 rows)) := by
  rw [pcall_eq c_query_reports rfl]
  obtain ⟨xs, hX, lX⟩ := slA_imm AVal.str names
  have hf := fits_v true rows xs
  rw [lX] at hf
  obtain ⟨ys, hY, lY⟩ := slA_imm RowT.a rows
  simp only [hX, hY] at hf ⊢
  unfold repF
  have hnq := len0 names.1
  have hrq := len0 rows.1
  generalize decide (names.1.length = 0) = qn at *
  generalize decide (rows.1.length = 0) = qr at *
  by_cases h0 : err = 0
  · subst h0
    by_cases ha : at' = 0
    · subst ha; simp [f_query_reports, b_query_reports, hf]
    · simp [f_query_reports, b_query_reports, ha, bq ha]
  · by_cases h1 : err = 140
    · subst h1
      by_cases ha : at' = 0
      · subst ha
        cases qn <;> cases qr <;> simp [f_query_reports, b_query_reports, lX, lY, hnq, hrq]
      · simp [f_query_reports, b_query_reports, ha, bq ha]
    · by_cases h2 : err = 300
      · subst h2
        by_cases ha : at' = 0
        · subst ha
          cases qn <;> cases qr <;> simp [f_query_reports, b_query_reports, lX, lY, hnq, hrq]
        · simp [f_query_reports, b_query_reports, ha, bq ha]
      · by_cases h3 : err = 371
        · subst h3
          by_cases ha : at' = 0
          · subst ha
            cases qn <;> cases qr <;> simp [f_query_reports, b_query_reports, lX, lY, hnq, hrq]
          · simp [f_query_reports, b_query_reports, ha, bq ha]
        · by_cases ha : 0 ≤ at'
          · cases qn <;> cases qr <;> simp [f_query_reports, b_query_reports, lX, lY, hnq, hrq, h0, h1, h2, h3, bq h0, bq h1, bq h2, bq h3, ha]
          · simp [f_query_reports, b_query_reports, h0, h1, h2, h3, bq h0, bq h1, bq h2, bq h3, ha]
theorem rowSame_nil (t : Bool) (a : SL RowT) : pcall I.row_Same [slA RowT.a a, .imm t []] = some (.bool (decide (a.1.length = 0))) := by
  rw [pcall_eq c_row_Same rfl]
  have : pcall I.slices_EqualFunc_api_Row_api_Row_api_Row_api_Row [slA RowT.a a, .imm t ([].map RowT.a), .fn I.row_equal [] []] = some (.bool (decide (a.1 = []))) := EqF_Row (f := RowT.a) (g := .fn I.row_equal [] []) (t := true) (t' := t) (l := a.1) (m := []) a.2 (fun a => ⟨rfl, rfl⟩) (fun fl top σ _ => by simp) (fun a b σ => by
    simp [row_Same_116])
  have e : decide (a.1 = []) = decide (a.1.length = 0) := by simp
  rw [e] at this
  simp only [List.map_nil] at this
  obtain ⟨ys, hY, lY⟩ := slA_imm RowT.a a
  simp only [hY] at this ⊢
  simp [f_row_Same, b_row_Same, this]
def blankRep (err at' : Int) (names : List NameT) (rows : SL RowT) : Bool := decide (err = 0) && decide (at' = 0) && decide (names.length = 0) && decide (rows.1.length = 0)
theorem sameNil_v (err at' : Int) (names : SL NameT) (rows : SL RowT) : pcall I.query_sameReport [.agg [.int .i64 err, .int .i64 at', slA AVal.str names, slA RowT.a rows], .agg [.int .i64 0, .int .i64 0, .imm false [], .imm false []]] = some (.bool (blankRep err at' names.1 rows)) := by
  rw [pcall_eq c_query_sameReport rfl]
  have h1 := EqStr_v true false names.1 [] names.2
  have h2 := rowSame_nil false rows
  have e : decide (names.1 = []) = decide (names.1.length = 0) := by simp
  rw [e] at h1
  simp only [List.map_nil] at h1
  replace h1 : pcall I.slices_Equal_string_string [slA AVal.str names, .imm false []] = _ := h1
  obtain ⟨xs, hX, lX⟩ := slA_imm AVal.str names
  obtain ⟨ys, hY, lY⟩ := slA_imm RowT.a rows
  simp only [hX, hY] at h1 h2 ⊢
  unfold blankRep
  by_cases h0 : err = 0
  · subst h0
    by_cases ha : at' = 0
    · subst ha
      by_cases hn : names.1.length = 0
      · simp [f_query_sameReport, b_query_sameReport, h1, h2, hn]
      · simp [f_query_sameReport, b_query_sameReport, h1, hn]
    · simp [f_query_sameReport, b_query_sameReport, ha, bq ha]
  · simp [f_query_sameReport, b_query_sameReport, h0, bq h0]
def rightL (L : LifeT) : Bool :=
  decide (1 ≤ L.epoch) && decide (L.epoch ≤ 12) &&
  if L.state = 1 then decide (0 < L.frags.1.length) && blankRep L.err L.at' L.rnames.1 L.rows
  else if L.state = 2 then decide (L.frags.1.length = 0) && decide (L.names.1.length = 0) && repF L.err L.at' L.rnames.1 L.rows
  else false
theorem Check_v (L : LifeT) : pcall I.query_Check [L.a] = some (.int .i64 (if rightL L then 0 else 370)) := by
  rw [pcall_eq c_query_Check rfl]
  have h1 := sameNil_v L.err L.at' L.rnames L.rows
  have h2 := reports_v L.err L.at' L.rnames L.rows
  obtain ⟨ep, stt, fr, nm, er, at', rn, rw'⟩ := L
  simp only at h1 h2
  obtain ⟨fs, hF, lF⟩ := slA_imm FragT.a fr
  obtain ⟨ns, hN, lN⟩ := slA_imm AVal.str nm
  obtain ⟨xs, hX, lX⟩ := slA_imm AVal.str rn
  obtain ⟨ys, hY, lY⟩ := slA_imm RowT.a rw'
  simp only [hX, hY] at h1 h2
  have ef : decide (fr.1.length = 0) = !decide (0 < fr.1.length) := by rw [Bool.eq_iff_iff]; simp
  have en : decide (nm.1.length = 0) = !decide (0 < nm.1.length) := by rw [Bool.eq_iff_iff]; simp
  simp only [LifeT.a, rightL, hF, hN, hX, hY, ef, en]
  generalize blankRep er at' rn.1 rw' = q1 at *
  generalize repF er at' rn.1 rw' = q2 at *
  clear ef en
  obtain ⟨qf, hf⟩ : ∃ q, decide (0 < fr.1.length) = q := ⟨_, rfl⟩
  obtain ⟨qn, hn⟩ : ∃ q, decide (0 < nm.1.length) = q := ⟨_, rfl⟩
  rw [hf, hn]
  by_cases e1 : 1 ≤ ep
  · by_cases e2 : ep ≤ 12
    · by_cases s1 : stt = 1
      · subst s1
        cases qf <;> cases qn <;> cases q1 <;> simp [f_query_Check, b_query_Check, lF, lN, e1, e2, hf, hn, h1]
      · by_cases s2 : stt = 2
        · subst s2
          cases qf <;> cases qn <;> cases q2 <;> simp [f_query_Check, b_query_Check, lF, lN, e1, e2, hf, hn, h2]
        · cases qf <;> cases qn <;> simp [f_query_Check, b_query_Check, lF, lN, e1, e2, s1, s2, bq s1, bq s2, hf, hn]
    · by_cases s1 : stt = 1
      · subst s1; cases qf <;> cases qn <;> simp [f_query_Check, b_query_Check, lF, lN, e1, e2, hf, hn]
      · by_cases s2 : stt = 2
        · subst s2; cases qf <;> cases qn <;> simp [f_query_Check, b_query_Check, lF, lN, e1, e2, hf, hn]
        · cases qf <;> cases qn <;> simp [f_query_Check, b_query_Check, lF, lN, e1, e2, s1, s2, bq s1, bq s2, hf, hn]
  · by_cases s1 : stt = 1
    · subst s1; cases qf <;> cases qn <;> simp [f_query_Check, b_query_Check, lF, lN, e1, hf, hn]
    · by_cases s2 : stt = 2
      · subst s2; cases qf <;> cases qn <;> simp [f_query_Check, b_query_Check, lF, lN, e1, hf, hn]
      · cases qf <;> cases qn <;> simp [f_query_Check, b_query_Check, lF, lN, e1, s1, s2, bq s1, bq s2, hf, hn]
end Go.AM
end
section

namespace Go.AM
open P
set_option maxHeartbeats 8000000
set_option maxRecDepth 8000
def thenKeep (res : List Res) : Option (Ex × St) → Option (AVal × Store)
  | none => none
  | some r => match r.1 with
    | .ext _ => none
    | _ => (results r.2 res).map fun v => (v, r.2.st)
theorem acall_keep {f : Nat} {g : AFunc} (h : code.fns f = .fn g) (hm : g.mode = .keep) (args : List AVal) (σ : Store) :
    acall code f args σ = thenKeep g.res (run code g.body ⟨args.take g.np ++ List.replicate (g.nenv - g.np) .any, σ⟩) := by
  rw [acall_fn good h]
  have he : enter g args σ = ⟨args.take g.np ++ List.replicate (g.nenv - g.np) .any, σ⟩ := by unfold enter; rw [hm]
  rw [he]
  cases run code g.body ⟨args.take g.np ++ List.replicate (g.nenv - g.np) .any, σ⟩ with
  | none => rfl
  | some r =>
    obtain ⟨e, s⟩ := r
    cases e <;> simp [thenKeep, leave, finish, hm]
theorem SameRep_nil (err at' : Int) (names : SL NameT) (rows : SL RowT) : pcall I.bref27_SameReport [.agg [.int .i64 err, .int .i64 at', slA AVal.str names, slA RowT.a rows], .agg [.int .i64 0, .int .i64 0, .imm false [], .imm false []]] = some (.bool (blankRep err at' names.1 rows)) := by
  rw [pcall_eq c_bref27_SameReport rfl]
  have h1 := SameNames_v true false names.1 [] names.2
  have h2 := rows_Same_431 true false true false rows ⟨[], by decide⟩
  have e : decide (names.1 = []) = decide (names.1.length = 0) := by simp
  have e2 : decide (rows = ⟨[], by decide⟩) = decide (rows.1.length = 0) := by simp [Subtype.ext_iff]
  rw [e] at h1
  rw [e2] at h2
  simp only [List.map_nil] at h1 h2
  replace h1 : pcall I.bref14_SameNames [slA AVal.str names, .imm false []] = _ := h1
  replace h2 : pcall I.bref21_Same [slA RowT.a rows, .imm false []] = _ := h2
  obtain ⟨xs, hX, lX⟩ := slA_imm AVal.str names
  obtain ⟨ys, hY, lY⟩ := slA_imm RowT.a rows
  simp only [hX, hY] at h1 h2 ⊢
  unfold blankRep
  by_cases h0 : err = 0
  · subst h0
    by_cases ha : at' = 0
    · subst ha
      by_cases hn : names.1.length = 0
      · simp [f_bref27_SameReport, b_bref27_SameReport, h1, h2, hn]
      · simp [f_bref27_SameReport, b_bref27_SameReport, h1, hn]
    · simp [f_bref27_SameReport, b_bref27_SameReport, ha, bq ha]
  · simp [f_bref27_SameReport, b_bref27_SameReport, h0, bq h0]
theorem Right27_v (L : LifeT) : pcall I.bref27_Right [L.a] = some (.bool (rightL L)) := by
  rw [pcall_eq c_bref27_Right rfl]
  have h1 := SameRep_nil L.err L.at' L.rnames L.rows
  have h3 := Fits27_v true L.rows (L.rnames.1.map AVal.str)
  obtain ⟨ep, stt, fr, nm, er, at', rn, rw'⟩ := L
  simp only at h1 h3
  replace h3 : pcall I.bref27_Fits [slA RowT.a rw', slA AVal.str rn] = _ := h3
  obtain ⟨fs, hF, lF⟩ := slA_imm FragT.a fr
  obtain ⟨ns, hN, lN⟩ := slA_imm AVal.str nm
  simp only [List.length_map] at h3
  obtain ⟨xs, hX, lX⟩ := slA_imm AVal.str rn
  obtain ⟨ys, hY, lY⟩ := slA_imm RowT.a rw'
  simp only [hX, hY] at h1 h3
  have ef : decide (fr.1.length = 0) = !decide (0 < fr.1.length) := by rw [Bool.eq_iff_iff]; simp
  have en : decide (nm.1.length = 0) = !decide (0 < nm.1.length) := by rw [Bool.eq_iff_iff]; simp
  have ex : decide (rn.1.length = 0) = !decide (0 < rn.1.length) := by rw [Bool.eq_iff_iff]; simp
  have ey : decide (rw'.1.length = 0) = !decide (0 < rw'.1.length) := by rw [Bool.eq_iff_iff]; simp
  simp only [LifeT.a, rightL, repF, hF, hN, hX, hY, ef, en, ex, ey]
  generalize blankRep er at' rn.1 rw' = q1 at *
  generalize fitsF rn.1.length rw' = q3 at *
  clear ef en ex ey
  obtain ⟨qf, hf⟩ : ∃ q, decide (0 < fr.1.length) = q := ⟨_, rfl⟩
  obtain ⟨qn, hn⟩ : ∃ q, decide (0 < nm.1.length) = q := ⟨_, rfl⟩
  obtain ⟨qx, hx⟩ : ∃ q, decide (0 < rn.1.length) = q := ⟨_, rfl⟩
  obtain ⟨qy, hy⟩ : ∃ q, decide (0 < rw'.1.length) = q := ⟨_, rfl⟩
  rw [hf, hn, hx, hy]
  by_cases e1 : 1 ≤ ep
  · have e1' : ¬ ep < 1 := by omega
    by_cases e2 : ep ≤ 12
    · have e2' : ¬ 12 < ep := by omega
      by_cases s1 : stt = 1
      · subst s1
        cases qf <;> cases q1 <;> simp [f_bref27_Right, b_bref27_Right, lF, lN, e1, e2, e1', e2', hf, hn, h1]
      · by_cases s2 : stt = 2
        · subst s2
          cases qf
          · cases qn
            · by_cases r0 : er = 0
              · subst r0
                by_cases ha : at' = 0
                · subst ha; cases q3 <;> simp [f_bref27_Right, b_bref27_Right, lF, lN, e1, e2, e1', e2', hf, hn, h3]
                · simp [f_bref27_Right, b_bref27_Right, lF, lN, e1, e2, e1', e2', hf, hn, ha, bq ha]
              · by_cases ha : at' = 0
                · subst ha
                  by_cases r1 : er = 140
                  · subst r1; cases qx <;> cases qy <;> simp [f_bref27_Right, b_bref27_Right, lF, lN, lX, lY, e1, e2, e1', e2', hf, hn, hx, hy]
                  · by_cases r2 : er = 300
                    · subst r2; cases qx <;> cases qy <;> simp [f_bref27_Right, b_bref27_Right, lF, lN, lX, lY, e1, e2, e1', e2', hf, hn, hx, hy]
                    · by_cases r3 : er = 371
                      · subst r3; cases qx <;> cases qy <;> simp [f_bref27_Right, b_bref27_Right, lF, lN, lX, lY, e1, e2, e1', e2', hf, hn, hx, hy]
                      · cases qx <;> cases qy <;> simp [f_bref27_Right, b_bref27_Right, lF, lN, lX, lY, e1, e2, e1', e2', hf, hn, hx, hy, r0, r1, r2, r3, bq r0, bq r1, bq r2, bq r3]
                · by_cases hp : 0 ≤ at'
                  · have hp' : ¬ at' < 0 := by omega
                    by_cases r1 : er = 140
                    · subst r1; cases qx <;> cases qy <;> simp [f_bref27_Right, b_bref27_Right, lF, lN, lX, lY, e1, e2, e1', e2', hf, hn, hx, hy, ha, bq ha, hp, hp']
                    · by_cases r2 : er = 300
                      · subst r2; cases qx <;> cases qy <;> simp [f_bref27_Right, b_bref27_Right, lF, lN, lX, lY, e1, e2, e1', e2', hf, hn, hx, hy, ha, bq ha, hp, hp']
                      · by_cases r3 : er = 371
                        · subst r3; cases qx <;> cases qy <;> simp [f_bref27_Right, b_bref27_Right, lF, lN, lX, lY, e1, e2, e1', e2', hf, hn, hx, hy, ha, bq ha, hp, hp']
                        · cases qx <;> cases qy <;> simp [f_bref27_Right, b_bref27_Right, lF, lN, lX, lY, e1, e2, e1', e2', hf, hn, hx, hy, r0, r1, r2, r3, bq r0, bq r1, bq r2, bq r3, bn r1, bn r2, bn r3, ha, bq ha, hp, hp']
                  · have hp' : at' < 0 := by omega
                    have hq : (decide (at' = 0) && !qx && !qy) = false := by simp [ha]
                    by_cases r1 : er = 140 ∨ er = 300 ∨ er = 371
                    · cases qx <;> cases qy <;> simp [f_bref27_Right, b_bref27_Right, lF, lN, lX, lY, e1, e2, e1', e2', hf, hn, hx, hy, r0, bq r0, r1, ha, bq ha, hp, hp']
                    · cases qx <;> cases qy <;> simp [f_bref27_Right, b_bref27_Right, lF, lN, lX, lY, e1, e2, e1', e2', hf, hn, hx, hy, r0, bq r0, r1, ha, bq ha, hp, hp']
            · simp [f_bref27_Right, b_bref27_Right, lF, lN, e1, e2, e1', e2', hf, hn]
          · simp [f_bref27_Right, b_bref27_Right, lF, lN, e1, e2, e1', e2', hf]
        · simp [f_bref27_Right, b_bref27_Right, lF, lN, e1, e2, e1', e2', s1, s2, bq s1, bq s2, bn s2]
    · have e2' : 12 < ep := by omega
      simp [f_bref27_Right, b_bref27_Right, e1, e2, e1', e2']
  · have e1' : ep < 1 := by omega
    simp [f_bref27_Right, b_bref27_Right, e1, e1']
end Go.AM
end
section

namespace Go.AM
open P
set_option maxHeartbeats 8000000
set_option maxRecDepth 8000
abbrev repV (e a : Int) (b : Bool) (xs : List AVal) (b' : Bool) (ys : List AVal) : List AVal := [.int .i64 e, .int .i64 a, .imm b xs, .imm b' ys]
abbrev zeroL : AVal := .agg [.int .i64 0, .int .i64 0, .imm false [], .imm false [], .int .i64 0, .int .i64 0, .imm false [], .imm false []]
abbrev overL (ep e a : Int) (b : Bool) (xs : List AVal) (b' : Bool) (ys : List AVal) : AVal := .agg ([.int .i64 ep, .int .i64 2, .imm false [], .imm false []] ++ repV e a b xs b' ys)
theorem over27_v (ep e a : Int) (xs ys : List AVal) : pcall I.query_over [.int .i64 ep, .agg (repV e a false xs false ys)] = some (overL ep e a false xs false ys) := by
  rw [pcall_eq c_query_over rfl]
  simp [f_query_over, b_query_over]
theorem bare1_v (q : Bool) : pcall I.query_bare_1 [.cptr false (.bool q) 0] = some (.bool q) := by
  rw [pcall_eq c_query_bare_1 rfl]
  simp [f_query_bare_1, b_query_bare_1]
theorem bare2_v (why : Int) : pcall I.query_bare_2 [.cptr false (.int .i64 why) 0] = some (.agg (repV why 0 false [] false [])) := by
  rw [pcall_eq c_query_bare_2 rfl]
  simp [f_query_bare_2, b_query_bare_2]
theorem bare_v (q : Bool) (why : Int) : pcall I.query_bare [.bool q, .int .i64 why] = some (.agg [.fn I.query_bare_1 [] [.cptr false (.bool q) 0], .fn I.query_bare_2 [] [.cptr false (.int .i64 why) 0]]) := by
  rw [pcall_eq c_query_bare rfl]
  simp [f_query_bare, b_query_bare, cptrAt]
def endsF (L : LifeT) (may : Bool) (v : AVal) : AVal :=
  if rightL L then (if L.state = 1 then (if may then .tup [v, .int .i64 0] else .tup [zeroL, .int .i64 2]) else .tup [zeroL, .int .i64 372]) else .tup [zeroL, .int .i64 370]
theorem ends_v (L : LifeT) (f1 f2 : AVal) (may : Bool) (e a : Int) (xs ys : List AVal) (h1 : ∀ σ, fz true false 0 σ 19 f1 = f1) (h2 : ∀ σ, fz true false 0 σ 19 f2 = f2) (n1 : ncells f1 = 1 ∧ isAgg f1 = false) (n2 : ncells f2 = 1 ∧ isAgg f2 = false)
    (hm : ∀ σ, acallV code f1 [] σ = some (.bool may, σ)) (hr : may = true → ∀ σ, acallV code f2 [] σ = some (.agg (repV e a false xs false ys), σ)) : pcall I.query_ends [L.a, .agg [f1, f2]] = some (endsF L may (overL L.epoch e a false xs false ys)) := by
  rw [pcall_eq c_query_ends rfl]
  have hc := Check_v L
  have hL : ∀ (top : Bool) (base : Nat) (σ : Store) (n : Nat), fz true top base σ (n + 3) L.a = L.a := fun top base σ n => by simp [LifeT.a]
  have ho := over27_v L.epoch e a xs ys
  have hn : ncells L.a = 8 := rfl
  have hs : (cellsOf L.a)[1]? = some (.int .i64 L.state) := rfl
  have hs0 : (cellsOf L.a)[0]? = some (.int .i64 L.epoch) := rfl
  have hag : isAgg L.a = true := rfl
  unfold endsF
  cases hq : rightL L
  · rw [hq] at hc
    simp [f_query_ends, b_query_ends, hL, h1, h2, n1, n2, hn, hc, hag]
  · rw [hq] at hc
    by_cases s1 : L.state = 1
    · rw [s1] at hs
      cases may
      · simp [f_query_ends, b_query_ends, hL, h1, h2, n1, n2, hn, hc, hag, hs, s1, hm]
      · have hr' := hr rfl
        simp [f_query_ends, b_query_ends, hL, h1, h2, n1, n2, hn, hc, hag, hs, hs0, s1, hm, hr', ho]
    · simp [f_query_ends, b_query_ends, hL, h1, h2, n1, n2, hn, hc, hag, hs, s1, bn s1]
end Go.AM
end
section

namespace Go.AM
open P
set_option maxHeartbeats 8000000
set_option maxRecDepth 8000
theorem Rows2_v (L : LifeT) (rs : SL RowT) : pcall I.query_Rows_2 [.cptr true (slA RowT.a rs) 0, .cptr true L.a 0] = some (.bool (fitsF L.names.1.length rs)) := by
  rw [pcall_eq c_query_Rows_2 rfl]
  have h := fits_v true rs (L.names.1.map AVal.str)
  simp only [List.length_map] at h
  have hL : ∀ (top : Bool) (base : Nat) (σ : Store) (n : Nat), fz true top base σ (n + 3) L.a = L.a := fun top base σ n => by simp [LifeT.a]
  have hn : ncells L.a = 8 := rfl
  generalize hX : L.names.1.map AVal.str = xs at h
  have hld : (cellsOf L.a)[3]? = some (.imm true xs) := by rw [← hX]; rfl
  obtain ⟨ys, hY, lY⟩ := slA_imm RowT.a rs
  simp only [hY] at h ⊢
  simp [f_query_Rows_2, b_query_Rows_2, hL, hn, hld, h, cptrAt]
theorem Rows_v (L : LifeT) (rs : SL RowT) (hn : L.names.1.length ≤ 40) (h40 : rs.1.length ≤ 40) (hr : ∀ r ∈ rs.1, r.1.length ≤ 20) : pcall I.query_Rows [L.a, slA RowT.a rs] = some (endsF L (fitsF L.names.1.length rs) (overL L.epoch 0 0 false (L.names.1.map AVal.str) false (rowsF rs.1))) := by
  rw [pcall_eq c_query_Rows rfl]
  have hL : ∀ (top : Bool) (base : Nat) (σ : Store) (n : Nat), fz true top base σ (n + 3) L.a = L.a := fun top base σ n => by simp [LifeT.a]
  have h1 := Rows2_v L rs
  have h2 := report_v L rs hn h40 hr
  have hc : ncells L.a = 8 := rfl
  have hag : isAgg L.a = true := rfl
  obtain ⟨ys, hY, lY⟩ := slA_imm RowT.a rs
  simp only [hY] at h1 h2 ⊢
  have he := ends_v L (.fn I.query_Rows_2 [] [.cptr true (.imm true ys) 0, .cptr true L.a 0]) (.fn I.query_Rows_1 [] [.cptr true L.a 0, .cptr true (.imm true ys) 0]) (fitsF L.names.1.length rs) 0 0 (L.names.1.map AVal.str) (rowsF rs.1) (fun σ => by simp [hL, cptrAt]) (fun σ => by simp [hL, cptrAt]) ⟨rfl, rfl⟩ ⟨rfl, rfl⟩ (fun σ => by simp [h1, hL, cptrAt]) (fun _ σ => by simp [h2, hL, cptrAt])
  have hx : ∀ fl top base σ n, (L.names.1.map AVal.str).map (fz fl top base σ (n + 1)) = L.names.1.map AVal.str := fun fl top base σ n => by
    rw [List.map_map]; exact List.map_congr_left fun y _ => by simp
  generalize L.names.1.map AVal.str = xs at *
  generalize rowsF rs.1 = zs at *
  unfold endsF at *
  cases hq : rightL L
  · simp only [hq, Bool.false_eq_true, if_false] at he ⊢
    simp [f_query_Rows, b_query_Rows, hL, hc, hag, he, cptrAt]
  · simp only [hq, if_true] at he ⊢
    by_cases s1 : L.state = 1
    · simp only [s1, if_true] at he ⊢
      cases hm : fitsF L.names.1.length rs
      · simp only [hm, Bool.false_eq_true, if_false] at he ⊢
        simp [f_query_Rows, b_query_Rows, hL, hc, hag, he, cptrAt]
      · simp only [hm, if_true] at he ⊢
        simp [f_query_Rows, b_query_Rows, hL, hc, hag, he, cptrAt]
    · simp only [s1, if_false] at he ⊢
      simp [f_query_Rows, b_query_Rows, hL, hc, hag, he, cptrAt]
def whyF (why : Int) : Bool := decide (why = 140) || decide (why = 300)
theorem Fail_v (L : LifeT) (why : Int) : pcall I.query_Fail [L.a, .int .i64 why] = some (endsF L (whyF why) (overL L.epoch why 0 false [] false [])) := by
  rw [pcall_eq c_query_Fail rfl]
  have hL : ∀ (top : Bool) (base : Nat) (σ : Store) (n : Nat), fz true top base σ (n + 3) L.a = L.a := fun top base σ n => by simp [LifeT.a]
  have hc : ncells L.a = 8 := rfl
  have hag : isAgg L.a = true := rfl
  have h1 := bare1_v (whyF why)
  have h2 := bare2_v why
  have h3 := bare_v (whyF why) why
  have he := ends_v L (.fn I.query_bare_1 [] [.cptr false (.bool (whyF why)) 0]) (.fn I.query_bare_2 [] [.cptr false (.int .i64 why) 0]) (whyF why) why 0 [] [] (fun σ => by simp [cptrAt]) (fun σ => by simp [cptrAt]) ⟨rfl, rfl⟩ ⟨rfl, rfl⟩ (fun σ => by simp [h1, cptrAt]) (fun _ σ => by simp [h2, cptrAt])
  unfold endsF at *
  by_cases a : why = 140
  · subst a
    have hq0 : whyF 140 = true := rfl
    rw [hq0] at h3 he ⊢
    cases hq : rightL L
    · simp only [hq, Bool.false_eq_true, if_false] at he ⊢
      simp [f_query_Fail, b_query_Fail, hL, hc, hag, h3, he]
    · simp only [hq, if_true] at he ⊢
      by_cases s1 : L.state = 1
      · simp only [s1, if_true] at he ⊢
        simp [f_query_Fail, b_query_Fail, hL, hc, hag, h3, he]
      · simp only [s1, if_false] at he ⊢
        simp [f_query_Fail, b_query_Fail, hL, hc, hag, h3, he]
  · by_cases b : why = 300
    · subst b
      have hq0 : whyF 300 = true := rfl
      rw [hq0] at h3 he ⊢
      cases hq : rightL L
      · simp only [hq, Bool.false_eq_true, if_false] at he ⊢
        simp [f_query_Fail, b_query_Fail, hL, hc, hag, h3, he]
      · simp only [hq, if_true] at he ⊢
        by_cases s1 : L.state = 1
        · simp only [s1, if_true] at he ⊢
          simp [f_query_Fail, b_query_Fail, hL, hc, hag, h3, he]
        · simp only [s1, if_false] at he ⊢
          simp [f_query_Fail, b_query_Fail, hL, hc, hag, h3, he]
    · have hq0 : whyF why = false := by simp [whyF, a, b]
      rw [hq0] at h3 he ⊢
      cases hq : rightL L
      · simp only [hq, Bool.false_eq_true, if_false] at he ⊢
        simp [f_query_Fail, b_query_Fail, hL, hc, hag, h3, he, a, b, bq a, bq b]
      · simp only [hq, if_true] at he ⊢
        by_cases s1 : L.state = 1
        · simp only [s1, if_true, Bool.false_eq_true, if_false] at he ⊢
          simp [f_query_Fail, b_query_Fail, hL, hc, hag, h3, he, a, b, bq a, bq b]
        · simp only [s1, if_false] at he ⊢
          simp [f_query_Fail, b_query_Fail, hL, hc, hag, h3, he, a, b, bq a, bq b]
theorem Cancel_v (L : LifeT) : pcall I.query_Cancel [L.a] = some (endsF L true (overL L.epoch 371 0 false [] false [])) := by
  rw [pcall_eq c_query_Cancel rfl]
  have hL : ∀ (top : Bool) (base : Nat) (σ : Store) (n : Nat), fz true top base σ (n + 3) L.a = L.a := fun top base σ n => by simp [LifeT.a]
  have hc : ncells L.a = 8 := rfl
  have hag : isAgg L.a = true := rfl
  have h1 := bare1_v true
  have h2 := bare2_v 371
  have h3 := bare_v true 371
  have he := ends_v L (.fn I.query_bare_1 [] [.cptr false (.bool true) 0]) (.fn I.query_bare_2 [] [.cptr false (.int .i64 371) 0]) true 371 0 [] [] (fun σ => by simp [cptrAt]) (fun σ => by simp [cptrAt]) ⟨rfl, rfl⟩ ⟨rfl, rfl⟩ (fun σ => by simp [h1, cptrAt]) (fun _ σ => by simp [h2, cptrAt])
  unfold endsF at *
  cases hq : rightL L
  · simp only [hq, Bool.false_eq_true, if_false] at he ⊢
    simp [f_query_Cancel, b_query_Cancel, hL, hc, hag, h3, he]
  · simp only [hq, if_true] at he ⊢
    by_cases s1 : L.state = 1
    · simp only [s1, if_true] at he ⊢
      simp [f_query_Cancel, b_query_Cancel, hL, hc, hag, h3, he]
    · simp only [s1, if_false] at he ⊢
      simp [f_query_Cancel, b_query_Cancel, hL, hc, hag, h3, he]
end Go.AM
end
section

namespace Go.AM
open P
set_option maxHeartbeats 8000000
set_option maxRecDepth 8000
theorem Same18_nil : pcall I.bref18_Same [.agg [.imm false []], .agg [.imm false []]] = some (.bool true) := by
  rw [pcall_eq c_bref18_Same rfl]
  have hloop : rounds code 2 [4, 5, 6, 7, 12, 13] l_bref18_Same_0 ⟨[.agg [.imm false []], .agg [.imm false []], .ptr 0 0 0 0, .ptr 1 0 0 0, .any, .any, .any, .any, .bool false, .imm false [], .int .i64 0, .int .i64 0, .any, .any], [.arr 1 0 [.agg [.imm false []]], .arr 1 0 [.agg [.imm false []]]]⟩ =
    some (.ext 0, ⟨[.agg [.imm false []], .agg [.imm false []], .ptr 0 0 0 0, .ptr 1 0 0 0, .any, .any, .any, .any, .bool false, .imm false [], .int .i64 0, .int .i64 0, .bool false, .any], [.arr 1 0 [.agg [.imm false []]], .arr 1 0 [.agg [.imm false []]]]⟩) := by
    rw [rounds_go']
    simp [l_bref18_Same_0]
  simp [f_bref18_Same, b_bref18_Same, hloop]
theorem names_nil (t t' : Bool) : pcall I.bref14_SameNames [.imm t [], .imm t' []] = some (.bool true) := by
  simpa using SameNames_v t t' [] [] (by decide)
theorem rows_nil (t t' : Bool) : pcall I.bref21_Same [.imm t [], .imm t' []] = some (.bool true) := by
  simpa using rows_Same_431 t t' true true ⟨[], by decide⟩ ⟨[], by decide⟩
theorem Same27_v (ep st e a : Int) (b1 b2 b3 b4 : Bool) (xs ys zs ws : List AVal) (h1 : pcall I.bref14_SameNames [.imm b1 xs, .imm b3 zs] = some (.bool true)) (h2 : pcall I.bref21_Same [.imm b2 ys, .imm b4 ws] = some (.bool true)) :
    pcall I.bref27_Same [.agg ([.int .i64 ep, .int .i64 st, .imm false [], .imm false []] ++ repV e a b1 xs b2 ys), .agg ([.int .i64 ep, .int .i64 st, .imm false [], .imm false []] ++ repV e a b3 zs b4 ws)] = some (.bool true) := by
  have hr : pcall I.bref27_SameReport [.agg (repV e a b1 xs b2 ys), .agg (repV e a b3 zs b4 ws)] = some (.bool true) := by
    rw [pcall_eq c_bref27_SameReport rfl]
    simp [f_bref27_SameReport, b_bref27_SameReport, h1, h2]
  have h3 := Same18_nil
  have h4 := names_nil false false
  rw [pcall_eq c_bref27_Same rfl]
  simp only [List.cons_append, List.nil_append] at *
  simp [f_bref27_Same, b_bref27_Same, hr, h3, h4]
theorem is_zero (L : LifeT) (no ahead e a : Int) (b : Bool) (xs : List AVal) (b' : Bool) (ys : List AVal) (h : (if rightL L then (if L.state = 2 then 372 else ahead) else 370) = no) (h0 : no ≠ 0) :
    pcall I.blaw27_QueryEnds_1 [zeroL, .int .i64 no, .int .i64 ahead, .agg (repV e a b xs b' ys), .cptr true L.a 0] = some (.bool true) := by
  rw [pcall_eq c_blaw27_QueryEnds_1 rfl]
  have hL : ∀ (top : Bool) (base : Nat) (σ : Store) (n : Nat), fz true top base σ (n + 3) L.a = L.a := fun top base σ n => by simp [LifeT.a]
  have hc : ncells L.a = 8 := rfl
  have hag : isAgg L.a = true := rfl
  have hs : (cellsOf L.a)[1]? = some (.int .i64 L.state) := rfl
  have h1 := Right27_v L
  have h2 := Same27_v 0 0 0 0 false false false false [] [] [] [] (names_nil false false) (rows_nil false false)
  simp only [List.cons_append, List.nil_append] at h2
  by_cases b1 : b = true <;> by_cases b2 : b' = true <;>
  · cases hq : rightL L
    · rw [hq] at h1 h
      simp only [Bool.false_eq_true, if_false] at h
      subst h
      simp [f_blaw27_QueryEnds_1, b_blaw27_QueryEnds_1, hL, hc, hag, h1, h2, cptrAt]
    · rw [hq] at h1 h
      simp only [if_true] at h
      by_cases s2 : L.state = 2
      · rw [s2] at hs
        simp only [s2, if_true] at h
        subst h
        simp [f_blaw27_QueryEnds_1, b_blaw27_QueryEnds_1, hL, hc, hag, h1, h2, hs, cptrAt]
      · simp only [s2, if_false] at h
        subst h
        simp [f_blaw27_QueryEnds_1, b_blaw27_QueryEnds_1, hL, hc, hag, h1, h2, hs, s2, bq s2, h0, bn h0, cptrAt]
theorem over_a (ep e a : Int) (b : Bool) (xs : List AVal) (b' : Bool) (ys : List AVal) (σ : Store) : acall code I.bref27_Over [.int .i64 ep, .agg (repV e a b xs b' ys)] σ = some (overL ep e a b xs b' ys, σ) :=
  acall_prim good (k := 7) (n := 0) rfl rfl
theorem is_over (L : LifeT) (e a : Int) (b1 b2 b3 b4 : Bool) (xs ys zs ws : List AVal) (hr : rightL L = true) (hs2 : ¬ L.state = 2) (k1 : pcall I.bref14_SameNames [.imm b1 xs, .imm b3 zs] = some (.bool true)) (k2 : pcall I.bref21_Same [.imm b2 ys, .imm b4 ws] = some (.bool true)) :
    pcall I.blaw27_QueryEnds_1 [overL L.epoch e a b1 xs b2 ys, .int .i64 0, .int .i64 0, .agg (repV e a b3 zs b4 ws), .cptr true L.a 0] = some (.bool true) := by
  rw [pcall_eq c_blaw27_QueryEnds_1 rfl]
  have hL : ∀ (top : Bool) (base : Nat) (σ : Store) (n : Nat), fz true top base σ (n + 3) L.a = L.a := fun top base σ n => by simp [LifeT.a]
  have hc : ncells L.a = 8 := rfl
  have hag : isAgg L.a = true := rfl
  have hs : (cellsOf L.a)[1]? = some (.int .i64 L.state) := rfl
  have hs0 : (cellsOf L.a)[0]? = some (.int .i64 L.epoch) := rfl
  have h1 := Right27_v L
  have h2 := Same27_v L.epoch 2 e a b1 b2 b3 b4 xs ys zs ws k1 k2
  have h3 := fun σ => over_a L.epoch e a b3 zs b4 ws σ
  simp only [List.cons_append, List.nil_append] at h2
  rw [hr] at h1
  simp [f_blaw27_QueryEnds_1, b_blaw27_QueryEnds_1, hL, hc, hag, h1, h2, hs, hs0, hs2, bq hs2, cptrAt, h3]
end Go.AM
end
section

namespace Go.AM
open P
set_option maxHeartbeats 8000000
set_option maxRecDepth 8000
theorem ends_of (hw : pcall I.blaw27_wakes [] = some (.bool true)) (L : LifeT) (rs : SL RowT) (why : Int) (g1 g2 g3 : List AVal) (n1 n2 n3 : Int) (z : ∀ g ∈ [g1, g2, g3], g.length = 8 ∧ ∀ σ n, g.map (fz true false 0 σ (n + 2)) = g)
    (ho : pcall I.blaw27_over [L.a] = some (.bool false)) (hv : pcall I.blaw27_overRows [slA RowT.a rs] = some (.bool false))
    (hR : pcall I.query_Rows [L.a, slA RowT.a rs] = some (.tup [.agg g1, .int .i64 n1])) (hF : pcall I.query_Fail [L.a, .int .i64 why] = some (.tup [.agg g2, .int .i64 n2])) (hC : pcall I.query_Cancel [L.a] = some (.tup [.agg g3, .int .i64 n3]))
    (i1 : pcall I.blaw27_QueryEnds_1 [.agg g1, .int .i64 n1, .int .i64 (if fitsF L.names.1.length rs then 0 else 2), .agg (repV 0 0 true (L.names.1.map AVal.str) true (rs.1.map RowT.a)), .cptr true L.a 0] = some (.bool true))
    (i2 : pcall I.blaw27_QueryEnds_1 [.agg g2, .int .i64 n2, .int .i64 (if whyF why then 0 else 2), .agg (repV why 0 false [] false []), .cptr true L.a 0] = some (.bool true))
    (i3 : pcall I.blaw27_QueryEnds_1 [.agg g3, .int .i64 n3, .int .i64 0, .agg (repV 371 0 false [] false []), .cptr true L.a 0] = some (.bool true)) :
    pcall I.blaw27_QueryEnds [L.a, slA RowT.a rs, .int .i64 why] = some (.bool true) := by
  rw [pcall_eq c_blaw27_QueryEnds rfl]
  obtain ⟨a1, z1⟩ := z g1 (by simp)
  obtain ⟨a2, z2⟩ := z g2 (by simp)
  obtain ⟨a3, z3⟩ := z g3 (by simp)
  have hf := Fits27_v true rs (L.names.1.map AVal.str)
  simp only [List.length_map] at hf
  have hL : ∀ (top : Bool) (base : Nat) (σ : Store) (n : Nat), fz true top base σ (n + 3) L.a = L.a := fun top base σ n => by simp [LifeT.a]
  have hc : ncells L.a = 8 := rfl
  have hag : isAgg L.a = true := rfl
  have hY : slA RowT.a rs = .imm true (rs.1.map RowT.a) := rfl
  rw [hY] at hv hR hf ⊢
  generalize hX : L.names.1.map AVal.str = xs at *
  have hld : (cellsOf L.a)[3]? = some (.imm true xs) := by rw [← hX]; rfl
  generalize rs.1.map RowT.a = ys at *
  clear hX
  have hwy : (if whyF why then (0 : Int) else 2) = if why = 140 then 0 else if why = 300 then 0 else 2 := by
    unfold whyF
    by_cases a : why = 140
    · simp [a]
    · by_cases b : why = 300
      · simp [b]
      · simp [a, b]
  rw [hwy] at i2
  clear hwy
  cases hq : fitsF L.names.1.length rs <;> rw [hq] at hf i1 <;> simp only [Bool.false_eq_true, if_true, if_false] at i1
  · by_cases w1 : why = 140
    · subst w1
      simp only [if_true] at i2
      simp [f_blaw27_QueryEnds, b_blaw27_QueryEnds, hw, ho, hv, hR, hF, hC, i1, i2, i3, hf, hL, hc, hag, hld, a1, a2, a3, z1, z2, z3, cptrAt]
    · by_cases w2 : why = 300
      · subst w2
        simp [w1] at i2
        simp [f_blaw27_QueryEnds, b_blaw27_QueryEnds, hw, ho, hv, hR, hF, hC, i1, i2, i3, hf, hL, hc, hag, hld, a1, a2, a3, z1, z2, z3, cptrAt]
      · simp only [w1, w2, if_false] at i2
        simp [f_blaw27_QueryEnds, b_blaw27_QueryEnds, hw, ho, hv, hR, hF, hC, i1, i2, i3, hf, hL, hc, hag, hld, a1, a2, a3, z1, z2, z3, cptrAt, w1, w2, bn w1, bn w2]
  · by_cases w1 : why = 140
    · subst w1
      simp only [if_true] at i2
      simp [f_blaw27_QueryEnds, b_blaw27_QueryEnds, hw, ho, hv, hR, hF, hC, i1, i2, i3, hf, hL, hc, hag, hld, a1, a2, a3, z1, z2, z3, cptrAt]
    · by_cases w2 : why = 300
      · subst w2
        simp [w1] at i2
        simp [f_blaw27_QueryEnds, b_blaw27_QueryEnds, hw, ho, hv, hR, hF, hC, i1, i2, i3, hf, hL, hc, hag, hld, a1, a2, a3, z1, z2, z3, cptrAt]
      · simp only [w1, w2, if_false] at i2
        simp [f_blaw27_QueryEnds, b_blaw27_QueryEnds, hw, ho, hv, hR, hF, hC, i1, i2, i3, hf, hL, hc, hag, hld, a1, a2, a3, z1, z2, z3, cptrAt, w1, w2, bn w1, bn w2]
end Go.AM
end
section

namespace Go.AM
open P
set_option maxHeartbeats 8000000
set_option maxRecDepth 8000
theorem zero_z : ([.int .i64 0, .int .i64 0, .imm false [], .imm false [], .int .i64 0, .int .i64 0, .imm false [], .imm false []] : List AVal).length = 8 ∧ ∀ σ n, ([.int .i64 0, .int .i64 0, .imm false [], .imm false [], .int .i64 0, .int .i64 0, .imm false [], .imm false []] : List AVal).map (fz true false 0 σ (n + 2)) = [.int .i64 0, .int .i64 0, .imm false [], .imm false [], .int .i64 0, .int .i64 0, .imm false [], .imm false []] :=
  ⟨rfl, fun σ n => by simp⟩
theorem over_z (ep e a : Int) (xs ys : List AVal) : (([.int .i64 ep, .int .i64 2, .imm false [], .imm false []] : List AVal) ++ repV e a false xs false ys).length = 8 ∧ ∀ σ n, (([.int .i64 ep, .int .i64 2, .imm false [], .imm false []] : List AVal) ++ repV e a false xs false ys).map (fz true false 0 σ (n + 2)) = [.int .i64 ep, .int .i64 2, .imm false [], .imm false []] ++ repV e a false xs false ys :=
  ⟨rfl, fun σ n => by simp⟩
theorem z3 {P : List AVal → Prop} {a b c : List AVal} (h1 : P a) (h2 : P b) (h3 : P c) : ∀ g ∈ [a, b, c], P g := fun g hg => by
  simp only [List.mem_cons, List.not_mem_nil, or_false] at hg
  rcases hg with rfl | rfl | rfl
  · exact h1
  · exact h2
  · exact h3
theorem law_over (L : LifeT) (rs : SL RowT) (why : Int) (c : Bool) (hw : pcall I.blaw27_wakes [] = some (.bool true)) (ho : pcall I.blaw27_over [L.a] = some (.bool c)) (hv : c = false → pcall I.blaw27_overRows [slA RowT.a rs] = some (.bool true)) :
    pcall I.blaw27_QueryEnds [L.a, slA RowT.a rs, .int .i64 why] = some (.bool true) := by
  rw [pcall_eq c_blaw27_QueryEnds rfl]
  have hL : ∀ (top : Bool) (base : Nat) (σ : Store) (n : Nat), fz true top base σ (n + 3) L.a = L.a := fun top base σ n => by simp [LifeT.a]
  have hc : ncells L.a = 8 := rfl
  have hag : isAgg L.a = true := rfl
  obtain ⟨ys, hY, lY⟩ := slA_imm RowT.a rs
  rw [hY] at hv ⊢
  cases c
  · have hv' := hv rfl
    simp [f_blaw27_QueryEnds, b_blaw27_QueryEnds, hw, ho, hv', hL, hc, hag]
  · simp [f_blaw27_QueryEnds, b_blaw27_QueryEnds, hw, ho, hL, hc, hag]
theorem ends_law (hw : pcall I.blaw27_wakes [] = some (.bool true)) (L : LifeT) (rs : SL RowT) (why : Int) : pcall I.blaw27_QueryEnds [L.a, slA RowT.a rs, .int .i64 why] = some (.bool true) := by
  obtain ⟨c1, ho, b1⟩ := over_v L
  obtain ⟨c2, hv, b2⟩ := overRows_v rs
  cases c1
  · cases c2
    · obtain ⟨n40, _⟩ := b1 rfl
      obtain ⟨r40, r20⟩ := b2 rfl
      have hR := Rows_v L rs n40 r40 r20
      have hF := Fail_v L why
      have hC := Cancel_v L
      unfold endsF at hR hF hC
      have kn : pcall I.bref14_SameNames [.imm false (L.names.1.map AVal.str), .imm true (L.names.1.map AVal.str)] = some (.bool true) := by
        simpa using SameNames_v false true L.names.1 L.names.1 L.names.2
      have kr : pcall I.bref21_Same [.imm false (rowsF rs.1), .imm true (rs.1.map RowT.a)] = some (.bool true) := by
        have := rows_Same_431 false true false true rs rs
        rw [decide_eq_true rfl] at this
        exact this
      have k1 := names_nil false false
      have k2 := rows_nil false false
      cases hq : rightL L
      · rw [hq] at hR hF hC
        simp only [Bool.false_eq_true, if_false] at hR hF hC
        refine ends_of hw L rs why _ _ _ _ _ _ (z3 zero_z zero_z zero_z) ho hv hR hF hC ?_ ?_ ?_
        · exact is_zero L 370 _ _ _ _ _ _ _ (by simp [hq]) (by decide)
        · exact is_zero L 370 _ _ _ _ _ _ _ (by simp [hq]) (by decide)
        · exact is_zero L 370 _ _ _ _ _ _ _ (by simp [hq]) (by decide)
      · rw [hq] at hR hF hC
        simp only [if_true] at hR hF hC
        by_cases s1 : L.state = 1
        · simp only [s1, if_true] at hR hF hC
          have s2 : ¬ L.state = 2 := by omega
          have i3 := is_over L 371 0 false false false false [] [] [] [] hq s2 k1 k2
          cases hm : fitsF L.names.1.length rs
          · rw [hm] at hR
            simp only [Bool.false_eq_true, if_false] at hR
            cases hy : whyF why
            · rw [hy] at hF
              simp only [Bool.false_eq_true, if_false] at hF
              refine ends_of hw L rs why _ _ _ _ _ _ (z3 zero_z zero_z (over_z _ _ _ _ _)) ho hv hR hF hC ?_ ?_ i3
              · rw [hm]; exact is_zero L 2 _ _ _ _ _ _ _ (by simp [hq, s2]) (by decide)
              · rw [hy]; exact is_zero L 2 _ _ _ _ _ _ _ (by simp [hq, s2]) (by decide)
            · rw [hy] at hF
              simp only [if_true] at hF
              refine ends_of hw L rs why _ _ _ _ _ _ (z3 zero_z (over_z _ _ _ _ _) (over_z _ _ _ _ _)) ho hv hR hF hC ?_ ?_ i3
              · rw [hm]; exact is_zero L 2 _ _ _ _ _ _ _ (by simp [hq, s2]) (by decide)
              · rw [hy]; exact is_over L why 0 false false false false [] [] [] [] hq s2 k1 k2
          · rw [hm] at hR
            simp only [if_true] at hR
            cases hy : whyF why
            · rw [hy] at hF
              simp only [Bool.false_eq_true, if_false] at hF
              refine ends_of hw L rs why _ _ _ _ _ _ (z3 (over_z _ _ _ _ _) zero_z (over_z _ _ _ _ _)) ho hv hR hF hC ?_ ?_ i3
              · rw [hm]; exact is_over L 0 0 false false true true _ _ _ _ hq s2 kn kr
              · rw [hy]; exact is_zero L 2 _ _ _ _ _ _ _ (by simp [hq, s2]) (by decide)
            · rw [hy] at hF
              simp only [if_true] at hF
              refine ends_of hw L rs why _ _ _ _ _ _ (z3 (over_z _ _ _ _ _) (over_z _ _ _ _ _) (over_z _ _ _ _ _)) ho hv hR hF hC ?_ ?_ i3
              · rw [hm]; exact is_over L 0 0 false false true true _ _ _ _ hq s2 kn kr
              · rw [hy]; exact is_over L why 0 false false false false [] [] [] [] hq s2 k1 k2
        · simp only [s1, if_false] at hR hF hC
          have s2 : L.state = 2 := by
            unfold rightL at hq
            simp only [s1, if_false] at hq
            by_cases s : L.state = 2
            · exact s
            · simp [s] at hq
          refine ends_of hw L rs why _ _ _ _ _ _ (z3 zero_z zero_z zero_z) ho hv hR hF hC ?_ ?_ ?_
          · exact is_zero L 372 _ _ _ _ _ _ _ (by simp [hq, s2]) (by decide)
          · exact is_zero L 372 _ _ _ _ _ _ _ (by simp [hq, s2]) (by decide)
          · exact is_zero L 372 _ _ _ _ _ _ _ (by simp [hq, s2]) (by decide)
    · exact law_over L rs why false hw ho fun _ => hv
  · exact law_over L rs why true hw ho fun h => by cases h
end Go.AM
end

namespace Go.AM
theorem HasSh.sl_inv {a : Bool} {cs : List Sh} {x : AVal} (h : HasSh (.sl a cs) x) : ∃ xs, x = .imm true xs ∧ xs.length ≤ maxLen ∧ (∀ x ∈ xs, isAgg x = a ∧ (cellsOf x).length = cs.length ∧ ncells x = cs.length) ∧
    ∀ x ∈ xs, ∀ i (h : i < cs.length) (h' : i < (cellsOf x).length), HasSh cs[i] (cellsOf x)[i] := by
  cases h with
  | sl h1 h2 h3 => exact ⟨_, rfl, h1, h2, h3⟩
theorem unmap {α : Type} (f : α → AVal) : ∀ {l : List AVal}, (∀ x ∈ l, ∃ a, x = f a) → ∃ m : List α, l = m.map f
  | [], _ => ⟨[], rfl⟩
  | x :: l, h => by
    obtain ⟨a, rfl⟩ := h x (List.mem_cons_self ..)
    obtain ⟨m, rfl⟩ := unmap f fun y hy => h y (List.mem_cons_of_mem _ hy)
    exact ⟨a :: m, rfl⟩
theorem agg_elem {cs : List Sh} {x : AVal} (h : isAgg x = true ∧ (cellsOf x).length = cs.length ∧ ncells x = cs.length) (h' : ∀ i (h : i < cs.length) (h' : i < (cellsOf x).length), HasSh cs[i] (cellsOf x)[i]) :
    ∃ ys, x = .agg ys ∧ ys.length = cs.length ∧ ∀ i (h : i < cs.length) (h' : i < ys.length), HasSh cs[i] ys[i] := by
  cases x with
  | agg ys => exact ⟨ys, rfl, h.2.1, h'⟩
  | _ => cases h.1
theorem one_elem {s : Sh} {x : AVal} (h : isAgg x = false ∧ (cellsOf x).length = [s].length ∧ ncells x = [s].length) (h' : ∀ i (h : i < [s].length) (h' : i < (cellsOf x).length), HasSh [s][i] (cellsOf x)[i]) : HasSh s x := by
  have hc : cellsOf x = [x] := by
    cases x with
    | agg ys => cases h.1
    | _ => rfl
  have := h' 0 (by simp) (by rw [hc]; simp)
  simpa only [hc, List.getElem_cons_zero] using this
end Go.AM

namespace Go.AM
theorem sl_agg {α : Type} {cs : List Sh} {f : α → AVal} (hd : ∀ ys : List AVal, ys.length = cs.length → (∀ i (h : i < cs.length) (h' : i < ys.length), HasSh cs[i] ys[i]) → ∃ a, AVal.agg ys = f a) {x : AVal} (h : HasSh (.sl true cs) x) : ∃ l : SL α, x = slA f l := by
  obtain ⟨xs, rfl, hn, h1, h2⟩ := h.sl_inv
  obtain ⟨m, rfl⟩ := unmap f (l := xs) fun x hx => by
    obtain ⟨ys, rfl, hl, hy⟩ := agg_elem (h1 x hx) (h2 x hx)
    exact hd ys hl hy
  exact ⟨⟨m, by simpa using hn⟩, rfl⟩
theorem sl_one {α : Type} {s : Sh} {f : α → AVal} (hd : ∀ y : AVal, HasSh s y → ∃ a, y = f a) {x : AVal} (h : HasSh (.sl false [s]) x) : ∃ l : SL α, x = slA f l := by
  obtain ⟨xs, rfl, hn, h1, h2⟩ := h.sl_inv
  obtain ⟨m, rfl⟩ := unmap f (l := xs) fun x hx => hd x (one_elem (h1 x hx) (h2 x hx))
  exact ⟨⟨m, by simpa using hn⟩, rfl⟩
theorem ints_of {x : AVal} (h : HasSh (.sl false [.int .i64]) x) : ∃ l : SL Int, x = slA (AVal.int .i64) l := sl_one (fun y h => by
  obtain ⟨a, rfl, _⟩ := h.int_inv
  exact ⟨a, rfl⟩) h
theorem strs_of {x : AVal} (h : HasSh (.sl false [.str]) x) : ∃ l : SL NameT, x = slA AVal.str l := sl_one (fun y h => by
  obtain ⟨a, rfl, _⟩ := h.str_inv
  exact ⟨a, rfl⟩) h
abbrev valS : List Sh := [.int .i64, .int .i64, .int .u64, .str]
theorem val_of (ys : List AVal) (hl : ys.length = valS.length) (hy : ∀ i (h : i < valS.length) (h' : i < ys.length), HasSh valS[i] ys[i]) : ∃ a, AVal.agg ys = Val.a a := by
  match ys, hl, hy with
  | [y0, y1, y2, y3], _, hy =>
    obtain ⟨v0, rfl, _⟩ := (hy 0 (by simp) (by simp)).int_inv
    obtain ⟨v1, rfl, _⟩ := (hy 1 (by simp) (by simp)).int_inv
    obtain ⟨v2, rfl, _⟩ := (hy 2 (by simp) (by simp)).int_inv
    obtain ⟨v3, rfl, _⟩ := (hy 3 (by simp) (by simp)).str_inv
    exact ⟨⟨v0, v1, v2, v3⟩, rfl⟩
theorem rowT_of {x : AVal} (h : HasSh (.sl true valS) x) : ∃ l : RowT, x = RowT.a l := sl_agg (f := Val.a) val_of h
theorem rowsT_of {x : AVal} (h : HasSh (.sl false [.sl true valS]) x) : ∃ l : SL RowT, x = slA RowT.a l := sl_one (fun y h => rowT_of h) h
abbrev enS : List Sh := [.int .i64, .int .i64, .int .i64, .int .i64, .int .i64, .int .i64, .int .u64, .str]
theorem en_of (ys : List AVal) (hl : ys.length = enS.length) (hy : ∀ i (h : i < enS.length) (h' : i < ys.length), HasSh enS[i] ys[i]) : ∃ a, AVal.agg ys = EN.a a := by
  match ys, hl, hy with
  | [y0, y1, y2, y3, y4, y5, y6, y7], _, hy =>
    obtain ⟨v0, rfl, _⟩ := (hy 0 (by simp) (by simp)).int_inv
    obtain ⟨v1, rfl, _⟩ := (hy 1 (by simp) (by simp)).int_inv
    obtain ⟨v2, rfl, _⟩ := (hy 2 (by simp) (by simp)).int_inv
    obtain ⟨v3, rfl, _⟩ := (hy 3 (by simp) (by simp)).int_inv
    obtain ⟨v4, rfl, _⟩ := (hy 4 (by simp) (by simp)).int_inv
    obtain ⟨v5, rfl, _⟩ := (hy 5 (by simp) (by simp)).int_inv
    obtain ⟨v6, rfl, _⟩ := (hy 6 (by simp) (by simp)).int_inv
    obtain ⟨v7, rfl, _⟩ := (hy 7 (by simp) (by simp)).str_inv
    exact ⟨⟨v0, v1, v2, v3, ⟨v4, v5, v6, v7⟩⟩, rfl⟩
abbrev exprS : List Sh := [.sl true enS]
theorem expr_of (ys : List AVal) (hl : ys.length = exprS.length) (hy : ∀ i (h : i < exprS.length) (h' : i < ys.length), HasSh exprS[i] ys[i]) : ∃ a, AVal.agg ys = ExprT.a a := by
  match ys, hl, hy with
  | [y0], _, hy =>
    obtain ⟨v0, rfl⟩ := sl_agg en_of (hy 0 (by simp) (by simp))
    exact ⟨v0, rfl⟩
abbrev aggS : List Sh := [.int .i64, .sl true enS]
theorem agg_of (ys : List AVal) (hl : ys.length = aggS.length) (hy : ∀ i (h : i < aggS.length) (h' : i < ys.length), HasSh aggS[i] ys[i]) : ∃ a, AVal.agg ys = AggT.a a := by
  match ys, hl, hy with
  | [y0, y1], _, hy =>
    obtain ⟨v0, rfl, _⟩ := (hy 0 (by simp) (by simp)).int_inv
    obtain ⟨v1, rfl⟩ := sl_agg en_of (hy 1 (by simp) (by simp))
    exact ⟨⟨v0, v1⟩, rfl⟩
abbrev ordS : List Sh := [.int .i64, .bool]
theorem ord_of (ys : List AVal) (hl : ys.length = ordS.length) (hy : ∀ i (h : i < ordS.length) (h' : i < ys.length), HasSh ordS[i] ys[i]) : ∃ a, AVal.agg ys = OrdT.a a := by
  match ys, hl, hy with
  | [y0, y1], _, hy =>
    obtain ⟨v0, rfl, _⟩ := (hy 0 (by simp) (by simp)).int_inv
    obtain ⟨v1, rfl⟩ := (hy 1 (by simp) (by simp)).bool_inv
    exact ⟨⟨v0, v1⟩, rfl⟩
abbrev lnS : List Sh := [.int .i64, .int .i64, .int .i64, .int .i64, .sl false [.int .i64], .bool, .sl true enS, .sl false [.int .i64], .sl true aggS, .sl true exprS, .sl true ordS, .int .i64]
theorem ln_of (ys : List AVal) (hl : ys.length = lnS.length) (hy : ∀ i (h : i < lnS.length) (h' : i < ys.length), HasSh lnS[i] ys[i]) : ∃ a, AVal.agg ys = LNT.a a := by
  match ys, hl, hy with
  | [y0, y1, y2, y3, y4, y5, y6, y7, y8, y9, y10, y11], _, hy =>
    obtain ⟨v0, rfl, _⟩ := (hy 0 (by simp) (by simp)).int_inv
    obtain ⟨v1, rfl, _⟩ := (hy 1 (by simp) (by simp)).int_inv
    obtain ⟨v2, rfl, _⟩ := (hy 2 (by simp) (by simp)).int_inv
    obtain ⟨v3, rfl, _⟩ := (hy 3 (by simp) (by simp)).int_inv
    obtain ⟨v4, rfl⟩ := ints_of (hy 4 (by simp) (by simp))
    obtain ⟨v5, rfl⟩ := (hy 5 (by simp) (by simp)).bool_inv
    obtain ⟨v6, rfl⟩ := sl_agg en_of (hy 6 (by simp) (by simp))
    obtain ⟨v7, rfl⟩ := ints_of (hy 7 (by simp) (by simp))
    obtain ⟨v8, rfl⟩ := sl_agg agg_of (hy 8 (by simp) (by simp))
    obtain ⟨v9, rfl⟩ := sl_agg expr_of (hy 9 (by simp) (by simp))
    obtain ⟨v10, rfl⟩ := sl_agg ord_of (hy 10 (by simp) (by simp))
    obtain ⟨v11, rfl, _⟩ := (hy 11 (by simp) (by simp)).int_inv
    exact ⟨⟨v0, v1, v2, v3, v4, v5, v6, v7, v8, v9, v10, v11⟩, rfl⟩
abbrev fragS : List Sh := [.sl true lnS, .int .i64, .int .i64, .sl false [.int .i64]]
theorem frag_of (ys : List AVal) (hl : ys.length = fragS.length) (hy : ∀ i (h : i < fragS.length) (h' : i < ys.length), HasSh fragS[i] ys[i]) : ∃ a, AVal.agg ys = FragT.a a := by
  match ys, hl, hy with
  | [y0, y1, y2, y3], _, hy =>
    obtain ⟨v0, rfl⟩ := sl_agg ln_of (hy 0 (by simp) (by simp))
    obtain ⟨v1, rfl, _⟩ := (hy 1 (by simp) (by simp)).int_inv
    obtain ⟨v2, rfl, _⟩ := (hy 2 (by simp) (by simp)).int_inv
    obtain ⟨v3, rfl⟩ := ints_of (hy 3 (by simp) (by simp))
    exact ⟨⟨v0, v1, v2, v3⟩, rfl⟩
abbrev lifeS : List Sh := [.int .i64, .int .i64, .sl true fragS, .sl false [.str], .int .i64, .int .i64, .sl false [.str], .sl false [.sl true valS]]
theorem life_of (ys : List AVal) (hl : ys.length = lifeS.length) (hy : ∀ i (h : i < lifeS.length) (h' : i < ys.length), HasSh lifeS[i] ys[i]) : ∃ a, AVal.agg ys = LifeT.a a := by
  match ys, hl, hy with
  | [y0, y1, y2, y3, y4, y5, y6, y7], _, hy =>
    obtain ⟨v0, rfl, _⟩ := (hy 0 (by simp) (by simp)).int_inv
    obtain ⟨v1, rfl, _⟩ := (hy 1 (by simp) (by simp)).int_inv
    obtain ⟨v2, rfl⟩ := sl_agg frag_of (hy 2 (by simp) (by simp))
    obtain ⟨v3, rfl⟩ := strs_of (hy 3 (by simp) (by simp))
    obtain ⟨v4, rfl, _⟩ := (hy 4 (by simp) (by simp)).int_inv
    obtain ⟨v5, rfl, _⟩ := (hy 5 (by simp) (by simp)).int_inv
    obtain ⟨v6, rfl⟩ := strs_of (hy 6 (by simp) (by simp))
    obtain ⟨v7, rfl⟩ := rowsT_of (hy 7 (by simp) (by simp))
    exact ⟨⟨v0, v1, v2, v3, v4, v5, v6, v7⟩, rfl⟩
theorem life_arg {x : AVal} (h : ArgSh (true, lifeS) x) : ∃ a : LifeT, x = a.a := by
  obtain ⟨ys, rfl, hl, hy⟩ := agg_elem (cs := lifeS) ⟨h.1, h.2.1, h.2.2.1⟩ h.2.2.2
  exact life_of ys hl hy
end Go.AM

namespace Go.AM
def wqC : AVal := .agg [.imm false [.agg [.str [116], .imm false [.agg [.str [97], .int .i64 2]], .imm false []]]]
def wqS : AVal := .str [83, 69, 76, 69, 67, 84, 32, 97, 32, 70, 82, 79, 77, 32, 116]
def wqN : AVal := .imm false [.agg [.int .i64 1, .int .i64 (-1), .int .i64 (-1), .int .i64 0, .imm false [.int .i64 2], .bool false, .imm false [], .imm false [], .imm false [], .imm false [], .imm false [], .int .i64 0], .agg [.int .i64 5, .int .i64 0, .int .i64 (-1), .int .i64 0, .imm false [], .bool false, .imm false [], .imm false [], .imm false [], .imm false [.agg [.imm false [.agg [.int .i64 2, .int .i64 (-1), .int .i64 (-1), .int .i64 0, .int .i64 0, .int .i64 0, .int .u64 0, .str []]]]], .imm false [], .int .i64 0], .agg [.int .i64 8, .int .i64 1, .int .i64 (-1), .int .i64 0, .imm false [], .bool false, .imm false [], .imm false [], .imm false [], .imm false [], .imm false [], .int .i64 (-1)]]
def wqP : AVal := .tup [.agg [.imm false [.agg [wqN, .int .i64 1, .int .i64 3, .imm false []], .agg [.imm false [.agg [.int .i64 9, .int .i64 (-1), .int .i64 (-1), .int .i64 0, .imm false [.int .i64 2], .bool false, .imm false [], .imm false [], .imm false [], .imm false [], .imm false [], .int .i64 0], .agg [.int .i64 8, .int .i64 0, .int .i64 (-1), .int .i64 0, .imm false [], .bool false, .imm false [], .imm false [], .imm false [], .imm false [], .imm false [], .int .i64 (-1)]], .int .i64 2, .int .i64 4, .imm false []]]], .int .i64 0]
end Go.AM

namespace Go.AM
def callB (P : Code) (C : CallF) (n : Nat) : CallF := fun f args σ => match P.fns f with
  | .none => none
  | .prim k => P.prims k C args σ
  | .fn g => callG C n g args σ
  | .nilfn g => match args with
    | x :: rest =>
      if emptyS σ x then (callG C n g (.emp true :: rest) σ).bind fun r => (callG C n g (.emp false :: rest) σ).bind fun q => if same r.1 q.1 && sameS r.2 q.2 then some r else none
      else callG C n g args σ
    | [] => none
  | .round g => match args with
    | .frs l _ :: rest =>
      match σ[l]? with
      | some (.pend false none) =>
        if (rest.drop g.nenv).length = g.params.length then
          (exec C n g.pre ⟨putEnv (rest.take g.nenv) g.params (rest.drop g.nenv), σ⟩).bind (roundGo C n l g.body)
        else none
      | _ => none
    | _ => none
theorem callN_succ (P : Code) (n : Nat) (f : Nat) (args : List AVal) (σ : Store) : callN P (n + 1) f args σ = callB P (callN P n) n f args σ := by
  simp only [callN, callB]
  rfl
theorem callB_mono {P : Code} (hP : P.Good) {C D : CallF} {n m : Nat} (hC : CLe C D) (hm : n ≤ m) : CLe (callB P C n) (callB P D m) := fun f args σ r h => by
  unfold callB at h ⊢
  split at h
  · cases h
  · exact hP _ _ _ _ _ _ hC h
  · exact callG_mono hC hm h
  · split at h
    · split at h
      · rename_i hc
        rw [if_pos hc]
        rw [Option.bind_eq_some_iff] at h ⊢
        obtain ⟨x, hx, hr⟩ := h
        refine ⟨x, callG_mono hC hm hx, ?_⟩
        rw [Option.bind_eq_some_iff] at hr ⊢
        obtain ⟨y, hy, hr⟩ := hr
        exact ⟨y, callG_mono hC hm hy, hr⟩
      · rename_i hc
        rw [if_neg hc]
        exact callG_mono hC hm h
    · cases h
  · split at h
    · split at h
      · split at h
        · rename_i hl
          rw [if_pos hl]
          rw [Option.bind_eq_some_iff] at h ⊢
          obtain ⟨x, hx, hr⟩ := h
          exact ⟨x, exec_mono hC hm hx, roundGo_mono hC hm hr⟩
        · cases h
      · cases h
    · cases h
structure Known where
  f : Nat
  args : List AVal
  out : AVal
def known (m : List Known) (f : Nat) (args : List AVal) : Option AVal := (m.find? fun e => e.f == f && sameL e.args args).map (·.out)
def callM (P : Code) (m : List Known) : Nat → CallF
  | 0 => fun _ _ _ => none
  | n + 1 => fun f args σ => match known m f (args.map (snap σ)) with
    | some v => some (v, σ)
    | none => callB P (callM P m n) n f args σ
def isPureFn : AEntry → Bool
  | .fn g => g.mode.isPure
  | _ => false
def Known.Ok (P : Code) (N : Nat) (e : Known) : Prop := isPureFn (P.fns e.f) = true ∧ callN P N e.f e.args [] = some (e.out, [])
theorem callN_pure {P : Code} {N f : Nat} (hp : isPureFn (P.fns f) = true) {args : List AVal} {σ : Store} {v : AVal} (h : callN P N f (args.map (snap σ)) [] = some (v, [])) : callN P N f args σ = some (v, σ) := by
  cases N with
  | zero => cases h
  | succ n =>
    cases hf : P.fns f with
    | fn g =>
      rw [hf] at hp
      have hm : g.mode.isPure = true := hp
      rw [callN_succ] at h ⊢
      unfold callB at h ⊢
      rw [hf] at h ⊢
      dsimp only at h ⊢
      unfold callG at h ⊢
      have he : enter g args σ = enter g (args.map (snap σ)) [] := by
        have h1 : ((args.map (snap σ)).take g.np).map (snap []) = (args.take g.np).map (snap σ) := by
          rw [← List.map_take, List.map_map]; exact List.map_congr_left fun x _ => snap_idem σ [] x
        unfold enter
        cases hg : g.mode <;> rw [hg] at hm <;> first | exact absurd hm (by decide) | (simp only [h1])
      rw [he]
      rw [Option.bind_eq_some_iff] at h ⊢
      obtain ⟨r, hr, hl⟩ := h
      refine ⟨r, hr, ?_⟩
      obtain ⟨e, s⟩ := r
      have key : (results s g.res).map (fun v => finish g.mode [] s v) = some (v, []) → (results s g.res).map (fun v => finish g.mode σ s v) = some (v, σ) := fun h => by
        cases hq : results s g.res with
        | none => rw [hq] at h; cases h
        | some x =>
          rw [hq] at h
          cases hg : g.mode <;> rw [hg] at hm h <;> first | exact absurd hm (by decide) | (simp only [Option.map_some, Option.some.injEq, finish, Prod.mk.injEq] at h ⊢; exact ⟨h.1, trivial⟩)
      cases e with
      | ext _ => cases hl
      | nrm => exact key hl
      | ret => exact key hl
    | _ => rw [hf] at hp; cases hp
theorem callM_le {P : Code} (hP : P.Good) {m : List Known} {N : Nat} (hm : ∀ e ∈ m, e.Ok P N) : ∀ n, CLe (callM P m n) (callN P (n + N))
  | 0 => fun _ _ _ _ h => by cases h
  | n + 1 => fun f args σ r h => by
    have ih := callM_le hP hm n
    unfold callM at h
    split at h
    · rename_i v hv
      cases h
      unfold known at hv
      rw [Option.map_eq_some_iff] at hv
      obtain ⟨e, he, hv⟩ := hv
      subst hv
      have hin := List.mem_of_find?_eq_some he
      have hp := List.find?_some he
      simp only [Bool.and_eq_true, beq_iff_eq] at hp
      obtain ⟨rfl, h2⟩ := hp
      have h2 := sameL_eq h2
      obtain ⟨k1, k2⟩ := hm e hin
      rw [h2] at k2
      have := callN_pure k1 k2
      have hmo := (callN_mono hP e.f args σ).le (show N ≤ n + 1 + N by omega) this
      exact hmo
    · rw [show n + 1 + N = (n + N) + 1 by omega, callN_succ]
      exact callB_mono hP ih (Nat.le_add_right n N) f args σ r h
theorem Known.Ok.mono {N N' : Nat} {e : Known} {P : Code} (hP : P.Good) (h : e.Ok P N) (hn : N ≤ N') : e.Ok P N' := ⟨h.1, (callN_mono hP e.f e.args []).le hn h.2⟩
end Go.AM
