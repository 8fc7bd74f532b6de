/- Expressions: firsts, Check. -/
import Derived.Test.YtkbcglkclodkaaaGreatDoorAm19
set_option linter.unusedVariables false
set_option linter.unusedSimpArgs false
section
namespace Go.AM
open P
set_option maxHeartbeats 4000000
set_option maxRecDepth 8000
attribute [local simp] condRun_if when_if
def arithF (t : Int) : Bool := t == 4 || decide (12 ≤ t) && decide (t ≤ 15)
@[simp] theorem arithmetic_spec (t : Int) : pcall I.expr_arithmetic [.int .i64 t] = some (.bool (arithF t)) := by
  rw [pcall_eq c_expr_arithmetic rfl]
  unfold arithF
  simp [f_expr_arithmetic, b_expr_arithmetic]
  repeat' (split <;> (try simp_all))
  all_goals omega
def ownG (own k : Int) : Int := if k = 0 ∨ k = own then own else if own = 0 then k else -1
def kind1F (kinds : List Int) (n : EN) (l : List Int) : Int × Int :=
  let own := l.foldl ownG 0
  if n.tag = 1 then (n.v.k, 0) else if n.tag = 2 then (kinds.getD n.col.toNat 0, 0) else
  let want := if arithF n.tag then 2 else if n.tag = 5 ∨ n.tag = 22 ∨ n.tag = 23 then 1 else own
  if own = -1 ∨ own ≠ 0 ∧ own ≠ want then (0, 201) else (if arithF n.tag then 2 else 1, 0)
theorem kind1_spec (n : EN) (b : Bool) (l : List Int) (bk : Bool) (kinds : List Int) (hl : l.length ≤ most) (hc : n.tag = 2 → 0 ≤ n.col ∧ n.col < kinds.length) :
    pcall I.expr_Kind_1 [n.a, .imm b (l.map (.int .i64)), .cptr true (.imm bk (kinds.map (.int .i64))) 0] = some (.tup [.int .i64 (kind1F kinds n l).1, .int .i64 (kind1F kinds n l).2]) := by
  rw [pcall_eq c_expr_Kind_1 rfl]
  have h := fun x => (rounds_fold (base := 1) (clr := [7, 13, 14, 15]) (b := l_expr_Kind_1_0) l
    (fun k (own : Int) => ⟨[n.a, .imm b (l.map (.int .i64)), .cptr true (.imm bk (kinds.map (.int .i64))) 0, .ptr 0 0 0 0, .int .i64 0, .int .i64 0, .int .i64 own, .any, .any, .any, .imm b (l.map (.int .i64)), .int .i64 l.length, .int .i64 k, .any, .any, .any, .any, .any, .any, .any, .any], [.arr 8 0 [n.a]]⟩)
    (fun _ _ => True) ownG
    (fun own => (.ext 0, ⟨[n.a, .imm b (l.map (.int .i64)), .cptr true (.imm bk (kinds.map (.int .i64))) 0, .ptr 0 0 0 0, .int .i64 0, .int .i64 0, .int .i64 own, .any, .any, .any, .imm b (l.map (.int .i64)), .int .i64 l.length, .int .i64 l.length, .bool false, .any, .any, .any, .any, .any, .any, .any], [.arr 8 0 [n.a]]⟩))
    (fun k y own hk hy _ => by
      refine ⟨?_, trivial⟩
      have hlt : ((k : Int) < (l.length : Int)) := by omega
      unfold ownG
      simp [l_expr_Kind_1_0, hlt, hy, roundEnd_same]
      repeat' (split <;> (try simp_all [wrap_lt hk hl, roundEnd_same])))
    (fun own _ => by simp [l_expr_Kind_1_0]) 0 x).1
  have h := h trivial
  simp [EN.a] at h
  unfold kind1F
  simp [f_expr_Kind_1, b_expr_Kind_1, h, EN.a]
  generalize l.foldl ownG 0 = own
  repeat' (split <;> (try simp_all))
end Go.AM
end
section
namespace Go.AM
open P
set_option maxHeartbeats 8000000
set_option maxRecDepth 8000
def natsA (l : List Nat) : List AVal := l.map fun (n : Nat) => .int .i64 (n : Int)
@[simp] theorem natsA_length (l : List Nat) : (natsA l).length = l.length := by simp [natsA]
@[simp] theorem natsA_nil : natsA [] = [] := rfl
theorem natsA_get {l : List Nat} {k : Nat} (h : k < l.length) : (natsA l)[k]? = some (.int .i64 (l[k] : Int)) := by simp [natsA, h]
theorem natsA_getE {l : List Nat} {k : Nat} (h : k < (natsA l).length) : (natsA l)[k] = .int .i64 ((l[k]'(by simpa using h) : Nat) : Int) := by simp [natsA]
theorem natsA_append (l m : List Nat) : natsA (l ++ m) = natsA l ++ natsA m := by simp [natsA]
@[simp] theorem natsA_one (n : Nat) : natsA [n] = [.int .i64 (n : Int)] := rfl
@[simp] theorem natsA_two (n m : Nat) : natsA [n, m] = [.int .i64 (n : Int), .int .i64 (m : Int)] := rfl
theorem natsA_fz (l : List Nat) (fl top : Bool) (base : Nat) (σ : Store) (m : Nat) : (natsA l).map (fz fl top base σ (m + 1)) = natsA l := by
  unfold natsA
  rw [List.map_map]
  exact List.map_congr_left fun n _ => by simp
theorem natsA_freeze (l : List Nat) (base : Nat) (σ : Store) : (natsA l).map (freeze base σ) = natsA l := natsA_fz l false true base σ 19
def stepE (i : Nat) (n : EN) (all opn : List Nat) : Option (List Nat × List Nat) :=
  if eparts n.tag < 0 ∨ opn.length < eparts n.tag ∨ countsE n = false then none else
  match opn.drop (opn.length - (eparts n.tag).toNat) with
  | [] => if n.l = -1 ∧ n.r = -1 then some (all ++ [i], opn ++ [i]) else none
  | [p] => if n.l = p ∧ n.r = -1 then some (all ++ [min i (all.getD p 0)], opn.take (opn.length - 1) ++ [i]) else none
  | [p, q] => if n.l = p ∧ n.r = q then some (all ++ [min (min i (all.getD p 0)) (all.getD q 0)], opn.take (opn.length - 2) ++ [i]) else none
  | _ => none
abbrev firstsSt (b : Bool) (e : List EN) (k : Nat) (all opn : List Nat) : St :=
  ⟨[.agg [.imm b (ensA e)], .ptr 0 0 0 0, .any, .any, .sl 1 k 0 all.length, .sl 2 k 0 opn.length, .any, .any, .any, .any, .any, .any, .any, .any, .imm b (ensA e), .int .i64 e.length, .int .i64 k, .any, .any, .any, .any, .any, .any, .any],
   [.arr 1 0 [.agg [.imm b (ensA e)]], .arr 1 k (natsA all), .arr 1 k (natsA opn)]⟩
theorem eparts_le (t : Int) : -1 ≤ eparts t ∧ eparts t ≤ 2 := by unfold eparts; repeat' split
                                                                 all_goals omega
theorem wrap1 : IntKind.i64.wrap 1 = 1 := rfl
theorem wrap2 : IntKind.i64.wrap 2 = 2 := rfl
theorem firsts_step {b : Bool} {e : List EN} {k : Nat} {all opn all' opn' : List Nat} (hk : k < e.length) (hn : e.length ≤ most) (ha : all.length = k) (ho : ∀ p ∈ opn, p < k) (hol : opn.length ≤ k)
    (h : stepE k e[k] all opn = some (all', opn')) :
    thenLoop 3 [2, 3, 6, 7, 8, 9, 10, 11, 12, 13, 17, 18, 19, 20, 21, 22, 23] l_expr_firsts_1 (run code l_expr_firsts_1 (firstsSt b e k all opn)) =
      rounds code 3 [2, 3, 6, 7, 8, 9, 10, 11, 12, 13, 17, 18, 19, 20, 21, 22, 23] l_expr_firsts_1 (firstsSt b e (k + 1) all' opn') := by
  have h1 := ensA_get hk
  have hp := parts_spec e[k].tag
  have hc := counts_spec e[k]
  have hlt : ((k : Int) < (e.length : Int)) := by omega
  unfold stepE at h
  split at h
  · cases h
  rename_i hneg
  have hc1 : countsE e[k] = true := by cases hq : countsE e[k] <;> simp_all
  rw [hc1] at hc
  have hk0 : ¬ (eparts e[k].tag < 0) := by omega
  have hk1 : ¬ ((opn.length : Int) < eparts e[k].tag) := by omega
  have hk2 := eparts_le e[k].tag
  have hm : k + 1 ≤ most := by omega
  have hcases : eparts e[k].tag = 0 ∨ eparts e[k].tag = 1 ∨ eparts e[k].tag = 2 := by omega
  rcases hcases with h0 | h0 | h0
  · rw [h0] at h hp
    simp at h
    obtain ⟨⟨e1, e2⟩, rfl, rfl⟩ := h
    unfold EN.a at h1 hc
    rw [e1, e2] at h1 hc
    have t1 : (natsA all).take k = natsA all := List.take_of_length_le (by simp [ha])
    have t2 : (natsA opn).take opn.length = natsA opn := List.take_of_length_le (by simp)
    have f1 := natsA_fz all
    have f2 := natsA_fz opn
    have g1 := natsA_freeze all
    have g2 := natsA_freeze opn
    have hnn : ¬ ((opn.length : Int) < 0) := by omega
    have hw : IntKind.i64.wrap (opn.length : Int) = opn.length := wrap64_id (by unfold most at hn; omega)
    have hm' : opn.length + 1 ≤ most := by omega
    simp [firstsSt, l_expr_firsts_1, h1, hlt, hp, hc, ha, t1, t2, f1, f2, g1, g2, hnn, hw, append, natsA_append, hm, hm', wrap_lt hk hn, roundEnd, freezeObj, rounds_go 5, rounds_go 6, l_expr_firsts_0]
  · rw [h0] at h hp hk1
    have hol1 : 1 ≤ opn.length := by omega
    obtain ⟨o, p, rfl⟩ : ∃ o p, opn = o ++ [p] := ⟨opn.dropLast, opn.getLast (by intro e; subst e; simp at hol1), (List.dropLast_concat_getLast _).symm⟩
    simp at h
    obtain ⟨⟨e1, e2⟩, rfl, rfl⟩ := h
    have hpk : p < k := ho p (by simp)
    unfold EN.a at h1 hc
    rw [e1, e2] at h1 hc
    have hpa : p < all.length := by omega
    have q1 := natsA_get hpa
    have t1 : (natsA all).take k = natsA all := List.take_of_length_le (by simp [ha])
    have t2 : (natsA (o ++ [p])).take o.length = natsA o := by rw [natsA_append, List.take_left' (by simp)]
    have t3 : (natsA (o ++ [p]))[o.length]? = some (.int .i64 (p : Int)) := by rw [natsA_append, List.getElem?_append_right (by simp)]; simp
    have f1 := natsA_fz all
    have f2 := natsA_fz o
    have g1 := natsA_freeze all
    have g2 := natsA_freeze o
    have hlen : (o ++ [p]).length = o.length + 1 := by simp
    have hnn : ¬ ((o.length : Int) + 1 < 1) := by omega
    have hw : IntKind.i64.wrap ((o.length : Int) + 1 - 1) = o.length := by rw [wrap64_id (by simp at hol; unfold most at hn; omega)]; omega
    have hw1 : IntKind.i64.wrap (o.length : Int) = o.length := by rw [wrap64_id (by simp at hol; unfold most at hn; omega)]
    have hm' : o.length + 1 ≤ most := by simp at hol; omega
    simp at hol
    have hd : all[p]?.getD 0 = all[p] := by simp [hpa]
    have hmin : (if all[p] < k then (all[p] : Int) else (k : Int)) = ((min k all[p] : Nat) : Int) := by split <;> omega
    simp [firstsSt, l_expr_firsts_1, h1, hlt, hp, hc, ha, t1, t2, t3, f1, f2, g1, g2, hnn, hw, hw1, append, natsA_append, hm, hm', wrap_lt hk hn, roundEnd, freezeObj, rounds_go 5, l_expr_firsts_0, q1, hpk, hpa, natsA_getE, hmin, wrap1]
  · rw [h0] at h hp hk1
    have hol1 : 2 ≤ opn.length := by omega
    obtain ⟨o', q, rfl⟩ : ∃ o p, opn = o ++ [p] := ⟨opn.dropLast, opn.getLast (by intro e; subst e; simp at hol1), (List.dropLast_concat_getLast _).symm⟩
    have hol2 : 1 ≤ o'.length := by simp at hol1; omega
    obtain ⟨o, p, rfl⟩ : ∃ o p, o' = o ++ [p] := ⟨o'.dropLast, o'.getLast (by intro e; subst e; simp at hol2), (List.dropLast_concat_getLast _).symm⟩
    have hdrop : (o ++ [p] ++ [q]).drop ((o ++ [p] ++ [q]).length - (2 : Int).toNat) = [p, q] := by
      simp
    have htake : (o ++ [p] ++ [q]).take ((o ++ [p] ++ [q]).length - 2) = o := by
      rw [List.append_assoc, List.take_left' (by simp)]
    rw [hdrop] at h
    simp only [htake] at h
    split at h
    · rename_i e12
      obtain ⟨e1, e2⟩ := e12
      simp only [Option.some.injEq, Prod.mk.injEq] at h
      obtain ⟨rfl, rfl⟩ := h
      have hpk : p < k := ho p (by simp)
      have hqk : q < k := ho q (by simp)
      unfold EN.a at h1 hc
      rw [e1, e2] at h1 hc
      have hpa : p < all.length := by omega
      have hqa : q < all.length := by omega
      have q1 := natsA_get hpa
      have q2 := natsA_get hqa
      have t1 : (natsA all).take k = natsA all := List.take_of_length_le (by simp [ha])
      have hN : natsA (o ++ [p] ++ [q]) = natsA o ++ ([.int .i64 (p : Int), .int .i64 (q : Int)] : List AVal) := by simp [natsA_append]
      have t2 : (natsA o ++ ([.int .i64 (p : Int), .int .i64 (q : Int)] : List AVal)).take o.length = natsA o := by rw [List.take_left' (by simp)]
      have t3 : (natsA o ++ ([.int .i64 (p : Int), .int .i64 (q : Int)] : List AVal))[o.length]? = some (.int .i64 (p : Int)) := by rw [List.getElem?_append_right (by simp)]; simp
      have t4 : (natsA o ++ ([.int .i64 (p : Int), .int .i64 (q : Int)] : List AVal))[o.length + 1]? = some (.int .i64 (q : Int)) := by rw [List.getElem?_append_right (by simp)]; simp
      have f1 := natsA_fz all
      have f2 := natsA_fz o
      have g1 := natsA_freeze all
      have g2 := natsA_freeze o
      simp at hol
      have hnn : ¬ ((o.length : Int) + 1 + 1 < 2) := by omega
      have hnn' : ¬ ((o.length : Int) + 2 < 2) := by omega
      have hw : IntKind.i64.wrap ((o.length : Int) + 1 + 1 - 2) = o.length := by rw [wrap64_id (by unfold most at hn; omega)]; omega
      have hw' : IntKind.i64.wrap ((o.length : Int) + 2 - 2) = o.length := by rw [wrap64_id (by unfold most at hn; omega)]; omega
      have hw1 : IntKind.i64.wrap (o.length : Int) = o.length := by rw [wrap64_id (by unfold most at hn; omega)]
      have hm' : o.length + 1 ≤ most := by omega
      have hd : all[p]?.getD 0 = all[p] := by simp [hpa]
      have hd2 : all[q]?.getD 0 = all[q] := by simp [hqa]
      have hmin : (if all[p] < k then (all[p] : Int) else (k : Int)) = ((min k all[p] : Nat) : Int) := by split <;> omega
      have hmin2 : (if all[q] < min k all[p] then (all[q] : Int) else ((min k all[p] : Nat) : Int)) = ((min (min k all[p]) all[q] : Nat) : Int) := by split <;> omega
      unfold firstsSt
      rw [hN]
      simp [l_expr_firsts_1, h1, hlt, hp, hc, ha, t1, t2, t3, t4, f1, f2, g1, g2, hnn, hnn', hw, hw', hw1, append, natsA_append, hm, hm', wrap_lt hk hn, roundEnd, freezeObj, rounds_go 5, l_expr_firsts_0, q1, q2, hpk, hpa, hqk, hqa, natsA_getE, hmin, hmin2, wrap1, wrap2]
    · cases h
end Go.AM
end
section

namespace Go.AM
open P
set_option maxHeartbeats 8000000
set_option maxRecDepth 8000
abbrev firstsClr : List Nat := [2, 3, 6, 7, 8, 9, 10, 11, 12, 13, 17, 18, 19, 20, 21, 22, 23]
def FirstsNo (r : Option (Ex × St)) : Prop := ∃ s, r = some (.ret, s) ∧ nth s.env 2 = .nil0 ∧ nth s.env 3 = .bool false
theorem stepE_none {k : Nat} {n : EN} {all opn : List Nat} (h : stepE k n all opn = none) :
    (eparts n.tag < 0 ∨ opn.length < eparts n.tag ∨ countsE n = false) ∨
    ((0 ≤ eparts n.tag ∧ eparts n.tag ≤ opn.length ∧ countsE n = true) ∧
      ((eparts n.tag = 0 ∧ ¬ (n.l = -1 ∧ n.r = -1)) ∨ (∃ (o : List Nat) (p : Nat), eparts n.tag = 1 ∧ opn = o ++ [p] ∧ ¬ (n.l = (p : Int) ∧ n.r = -1)) ∨ (∃ (o : List Nat) (p q : Nat), eparts n.tag = 2 ∧ opn = o ++ [p, q] ∧ ¬ (n.l = (p : Int) ∧ n.r = (q : Int))))) := by
  unfold stepE at h
  split at h
  · exact .inl (by assumption)
  · rename_i hneg
    have hc : countsE n = true := by cases hq : countsE n <;> simp_all
    have hk2 := eparts_le n.tag
    refine .inr ⟨⟨by omega, by omega, hc⟩, ?_⟩
    rcases (show eparts n.tag = 0 ∨ eparts n.tag = 1 ∨ eparts n.tag = 2 by omega) with h0 | h0 | h0
    · rw [h0] at h
      simp at h
      exact .inl ⟨h0, fun ⟨a, b⟩ => h a b⟩
    · rw [h0] at h
      have hol1 : 1 ≤ opn.length := by omega
      obtain ⟨o, p, rfl⟩ : ∃ o p, opn = o ++ [p] := ⟨opn.dropLast, opn.getLast (by intro e; subst e; simp at hol1), (List.dropLast_concat_getLast _).symm⟩
      simp at h
      exact .inr (.inl ⟨o, p, h0, rfl, fun ⟨a, b⟩ => h a b⟩)
    · rw [h0] at h
      have hol1 : 2 ≤ opn.length := by omega
      obtain ⟨o', q, rfl⟩ : ∃ o p, opn = o ++ [p] := ⟨opn.dropLast, opn.getLast (by intro e; subst e; simp at hol1), (List.dropLast_concat_getLast _).symm⟩
      have hol2 : 1 ≤ o'.length := by simp at hol1; omega
      obtain ⟨o, p, rfl⟩ : ∃ o p, o' = o ++ [p] := ⟨o'.dropLast, o'.getLast (by intro e; subst e; simp at hol2), (List.dropLast_concat_getLast _).symm⟩
      have hdrop : (o ++ [p] ++ [q]).drop ((o ++ [p] ++ [q]).length - (2 : Int).toNat) = [p, q] := by simp
      rw [hdrop] at h
      simp only at h
      split at h
      · cases h
      · rename_i hne
        exact .inr (.inr ⟨o, p, q, h0, by simp, hne⟩)
theorem eqa2 {a b c d : Int} (h : ¬ (c = a ∧ d = b)) : eqa true [0, 0] (.agg [.int .i64 a, .int .i64 b]) (.agg [.int .i64 c, .int .i64 d]) = some (.bool true) := by
  by_cases h1 : c = a
  · have h2 : ¬ b = d := fun e => h ⟨h1, e.symm⟩
    simp [h1, beq_f h2]
  · have h2 : ¬ a = c := fun e => h1 e.symm
    simp [beq_f h2]
theorem firsts_fail {b : Bool} {e : List EN} {k : Nat} {all opn : List Nat} (hk : k < e.length) (hn : e.length ≤ most) (ha : all.length = k) (ho : ∀ p ∈ opn, p < k) (hol : opn.length ≤ k)
    (h : stepE k e[k] all opn = none) : FirstsNo (thenLoop 3 firstsClr l_expr_firsts_1 (run code l_expr_firsts_1 (firstsSt b e k all opn))) := by
  have h1 := ensA_get hk
  have hp := parts_spec e[k].tag
  have hc := counts_spec e[k]
  have hlt : ((k : Int) < (e.length : Int)) := by omega
  rcases stepE_none h with hA | ⟨⟨h0, h2, h3⟩, hB⟩
  · unfold EN.a at h1 hc
    by_cases hk0 : eparts e[k].tag < 0
    · exact ⟨_, by simp [firstsSt, l_expr_firsts_1, h1, hlt, hp, hk0]; rfl, rfl, rfl⟩
    · by_cases hk1 : (opn.length : Int) < eparts e[k].tag
      · exact ⟨_, by simp [firstsSt, l_expr_firsts_1, h1, hlt, hp, hk0, hk1]; rfl, rfl, rfl⟩
      · have hc1 : countsE e[k] = false := hA.elim (fun h => absurd h hk0) fun h => h.elim (fun h => absurd h hk1) id
        rw [hc1] at hc
        exact ⟨_, by simp [firstsSt, l_expr_firsts_1, h1, hlt, hp, hk0, hk1, hc]; rfl, rfl, rfl⟩
  · have hk0 : ¬ (eparts e[k].tag < 0) := by omega
    have hk1 : ¬ ((opn.length : Int) < eparts e[k].tag) := by omega
    rw [h3] at hc
    unfold EN.a at h1 hc
    have hw1 : IntKind.i64.wrap (opn.length : Int) = opn.length := by rw [wrap64_id (by unfold most at hn; omega)]
    rcases hB with ⟨h0, hne⟩ | ⟨o, p, h0, rfl, hne⟩ | ⟨o, p, q, h0, rfl, hne⟩
    · rw [h0] at hp
      have hx := eqa2 hne
      have hnn : ¬ ((opn.length : Int) < 0) := by omega
      exact ⟨_, by simp [firstsSt, l_expr_firsts_1, h1, hlt, hp, hnn, hc, hw1, rounds_go 5, rounds_go 6, l_expr_firsts_0, -eqa, hx]; rfl, rfl, rfl⟩
    · rw [h0] at hp
      have hx := eqa2 hne
      have hpk : p < k := ho p (by simp)
      have hpa : p < all.length := by omega
      have q1 := natsA_get hpa
      simp at hol
      have t3 : (natsA (o ++ [p]))[o.length]? = some (.int .i64 (p : Int)) := by rw [natsA_append, List.getElem?_append_right (by simp)]; simp
      have hnn : ¬ ((o.length : Int) + 1 < 1) := by omega
      have hw : IntKind.i64.wrap ((o.length : Int) + 1 - 1) = o.length := by rw [wrap64_id (by unfold most at hn; omega)]; omega
      have hw2 : IntKind.i64.wrap (o.length : Int) = o.length := by rw [wrap64_id (by unfold most at hn; omega)]
      exact ⟨_, by simp [firstsSt, l_expr_firsts_1, h1, hlt, hp, hnn, hc, hw, hw2, ha, t3, q1, hpk, hpa, natsA_getE, natsA_append, roundEnd, freezeObj, rounds_go 5, l_expr_firsts_0, wrap1, -eqa, hx]; rfl, rfl, rfl⟩
    · rw [h0] at hp
      have hx := eqa2 hne
      have hpk : p < k := ho p (by simp)
      have hqk : q < k := ho q (by simp)
      have hpa : p < all.length := by omega
      have hqa : q < all.length := by omega
      have q1 := natsA_get hpa
      have q2 := natsA_get hqa
      simp at hol
      have hN : natsA (o ++ [p, q]) = natsA o ++ ([.int .i64 (p : Int), .int .i64 (q : Int)] : List AVal) := by simp [natsA_append]
      have t3 : (natsA o ++ ([.int .i64 (p : Int), .int .i64 (q : Int)] : List AVal))[o.length]? = some (.int .i64 (p : Int)) := by rw [List.getElem?_append_right (by simp)]; simp
      have t4 : (natsA o ++ ([.int .i64 (p : Int), .int .i64 (q : Int)] : List AVal))[o.length + 1]? = some (.int .i64 (q : Int)) := by rw [List.getElem?_append_right (by simp)]; simp
      have hnn : ¬ ((o.length : Int) + 2 < 2) := by omega
      have hw : IntKind.i64.wrap ((o.length : Int) + 2 - 2) = o.length := by rw [wrap64_id (by unfold most at hn; omega)]; omega
      have hw2 : IntKind.i64.wrap (o.length : Int) = o.length := by rw [wrap64_id (by unfold most at hn; omega)]
      unfold firstsSt
      rw [hN]
      exact ⟨_, by simp [l_expr_firsts_1, h1, hlt, hp, hnn, hc, hw, hw2, ha, t3, t4, q1, q2, hpk, hpa, hqk, hqa, natsA_getE, natsA_append, roundEnd, freezeObj, rounds_go 5, l_expr_firsts_0, wrap1, wrap2, -eqa, hx]; rfl, rfl, rfl⟩
def firstsL : List EN → Nat → List Nat → List Nat → Option (List Nat × List Nat)
  | [], _, all, opn => some (all, opn)
  | n :: r, i, all, opn => (stepE i n all opn).bind fun q => firstsL r (i + 1) q.1 q.2
theorem stepE_inv {k : Nat} {n : EN} {all opn all' opn' : List Nat} (ha : all.length = k) (ho : ∀ p ∈ opn, p < k) (hol : opn.length ≤ k) (h : stepE k n all opn = some (all', opn')) :
    all'.length = k + 1 ∧ (∀ p ∈ opn', p < k + 1) ∧ opn'.length ≤ k + 1 := by
  unfold stepE at h
  split at h
  · cases h
  split at h
  · split at h
    · cases h
      exact ⟨by simp [ha], fun p hp => by
        rcases List.mem_append.1 hp with hp | hp
        · have := ho p hp; omega
        · simp at hp; omega, by simp; omega⟩
    · cases h
  · split at h
    · cases h
      exact ⟨by simp [ha], fun p hp => by
        rcases List.mem_append.1 hp with hp | hp
        · have := ho p (List.mem_of_mem_take hp); omega
        · simp at hp; omega, by simp; omega⟩
    · cases h
  · split at h
    · cases h
      exact ⟨by simp [ha], fun p hp => by
        rcases List.mem_append.1 hp with hp | hp
        · have := ho p (List.mem_of_mem_take hp); omega
        · simp at hp; omega, by simp; omega⟩
    · cases h
  · cases h
theorem firsts_loop {b : Bool} {e : List EN} (hn : e.length ≤ most) : ∀ (m k : Nat) (all opn : List Nat), k + m = e.length → all.length = k → (∀ p ∈ opn, p < k) → opn.length ≤ k →
    (match firstsL (e.drop k) k all opn with
      | none => FirstsNo (rounds code 3 firstsClr l_expr_firsts_1 (firstsSt b e k all opn))
      | some (all', opn') => all'.length = e.length ∧ ∃ x, rounds code 3 firstsClr l_expr_firsts_1 (firstsSt b e k all opn) =
          some (.ext 0, ⟨[.agg [.imm b (ensA e)], .ptr 0 0 0 0, .any, .any, .sl 1 e.length 0 all'.length, .sl 2 e.length 0 opn'.length, .any, .any, .any, .any, .any, .any, .any, .any, .imm b (ensA e), .int .i64 e.length, .int .i64 e.length, x, .any, .any, .any, .any, .any, .any],
            [.arr 1 0 [.agg [.imm b (ensA e)]], .arr 1 e.length (natsA all'), .arr 1 e.length (natsA opn')]⟩))
  | 0, k, all, opn, hk, ha, ho, hol => by
    have hk : k = e.length := by omega
    subst hk
    rw [List.drop_length]
    simp only [firstsL]
    refine ⟨ha, .bool false, ?_⟩
    rw [rounds_go]
    simp [firstsSt, l_expr_firsts_1]
  | m + 1, k, all, opn, hk, ha, ho, hol => by
    have hk' : k < e.length := by omega
    rw [List.drop_eq_getElem_cons hk']
    simp only [firstsL]
    cases hs : stepE k e[k] all opn with
    | none =>
      simp only [Option.bind_none]
      rw [rounds_go]
      exact firsts_fail hk' hn ha ho hol hs
    | some q =>
      obtain ⟨all', opn'⟩ := q
      simp only [Option.bind_some]
      obtain ⟨i1, i2, i3⟩ := stepE_inv ha ho hol hs
      have ih := firsts_loop (b := b) hn m (k + 1) all' opn' (by omega) i1 i2 i3
      have hst := firsts_step (b := b) hk' hn ha ho hol hs
      rw [rounds_go 3 firstsClr l_expr_firsts_1 (firstsSt b e k all opn), hst]
      exact ih
theorem natsA_nc' (l : List Nat) (fl top : Bool) (base : Nat) (σ : Store) (n : Nat) : ∀ a, a ∈ natsA l → ncells (fz fl top base σ (n + 1) a) = ncells a := fun a ha => by
  obtain ⟨k, _, rfl⟩ := List.mem_map.1 ha
  simp
def okE (e : List EN) : Bool := match firstsL e 0 [] [] with
  | none => false
  | some (all, opn) => opn.length == 1 && decide (all.length ≤ 1000)
theorem firsts_spec (b : Bool) (e : List EN) (hn : e.length ≤ most) : ∃ x, pcall I.expr_firsts [exprA b e] = some (.tup [x, .bool (okE e)]) ∧ (okE e = true → ∃ all, firstsL e 0 [] [] = some all ∧ x = .imm false (natsA all.1)) := by
  rw [pcall_eq c_expr_firsts rfl]
  have h := firsts_loop (b := b) hn e.length 0 [] [] (by omega) rfl (by simp) (by simp)
  rw [List.drop_zero] at h
  unfold okE exprA
  cases hf : firstsL e 0 [] [] with
  | none =>
    rw [hf] at h
    obtain ⟨s, h1, h2, h3⟩ := h
    refine ⟨.imm false [], ?_, fun h => by cases h⟩
    unfold firstsSt at h1
    simp at h1
    have h2' : s.env[2]?.getD .any = .nil0 := h2
    have h3' : s.env[3]?.getD .any = .bool false := h3
    simp [f_expr_firsts, b_expr_firsts, h1, h2', h3']
  | some q =>
    rw [hf] at h
    obtain ⟨all, opn⟩ := q
    obtain ⟨hl, x, h1⟩ := h
    refine ⟨.imm false (natsA all), ?_, fun _ => ⟨_, rfl, rfl⟩⟩
    unfold firstsSt at h1
    simp at h1
    have t1 : (natsA all).take all.length = natsA all := List.take_of_length_le (by simp)
    have f1 := natsA_fz all
    by_cases ho : opn.length = 1
    · simp [f_expr_firsts, b_expr_firsts, h1, ho, t1, f1]
      exact ⟨natsA_nc' all _ _ _ _ _, by omega⟩
    · have ho' : ¬ ((opn.length : Int) = 1) := by omega
      simp [f_expr_firsts, b_expr_firsts, h1, ho, beq_f ho', t1, f1]
      exact natsA_nc' all _ _ _ _ _
theorem eCheck_spec (b : Bool) (e : List EN) (hn : e.length ≤ most) : pcall I.expr_Check [exprA b e] = some (.int .i64 (if okE e then 0 else 200)) := by
  rw [pcall_eq c_expr_Check rfl]
  obtain ⟨x, h, _⟩ := firsts_spec b e hn
  have hx : ∀ b', b' = b ∨ b' = true → True := fun _ _ => trivial
  unfold exprA at *
  cases ho : okE e <;> rw [ho] at h <;> simp [f_expr_Check, b_expr_Check, h]
end Go.AM
end
section

namespace Go.AM
open P
set_option maxHeartbeats 4000000
set_option maxRecDepth 8000
attribute [local simp] condRun_if when_if
def insI (x : Int) : List Int → List Int
  | [] => [x]
  | y :: r => if x ≤ y then x :: y :: r else y :: insI x r
def sortI : List Int → List Int
  | [] => []
  | x :: r => insI x (sortI r)
theorem insI_mem (x z : Int) : ∀ l : List Int, z ∈ insI x l ↔ z = x ∨ z ∈ l
  | [] => by simp [insI]
  | y :: r => by
    unfold insI
    split
    · simp
    · simp [insI_mem x z r]
      constructor <;> rintro (h | h | h) <;> simp [h]
theorem sortI_mem (z : Int) : ∀ l : List Int, z ∈ sortI l ↔ z ∈ l
  | [] => by simp [sortI]
  | x :: r => by simp [sortI, insI_mem, sortI_mem z r]
theorem insI_len (x : Int) : ∀ l : List Int, (insI x l).length = l.length + 1
  | [] => rfl
  | y :: r => by
    unfold insI
    split <;> simp [insI_len x r]
theorem sortI_len : ∀ l : List Int, (sortI l).length = l.length
  | [] => rfl
  | x :: r => by simp [sortI, insI_len, sortI_len r]
theorem insI_by (x : Int) : ∀ l : List Int, insertBy leInt (.int .i64 x) (l.map (.int .i64)) = (insI x l).map (.int .i64)
  | [] => rfl
  | y :: r => by
    by_cases h : x ≤ y
    · simp [insertBy, insI, leInt, h]
    · simp [insertBy, insI, leInt, h, insI_by x r]
theorem sortI_by : ∀ l : List Int, sortBy leInt (l.map (.int .i64)) = (sortI l).map (.int .i64)
  | [] => rfl
  | x :: r => by simp only [List.map_cons, sortBy, sortI_by r, insI_by]; rfl
theorem ints_some : ∀ l : List Int, ints (l.map (.int .i64)) = some l
  | [] => rfl
  | x :: r => by simp [ints, ints_some r]
theorem sort_call {σ : Store} {id ep : Nat} {l : List Int} (hσ : σ[id]? = some (.arr 1 ep (intsA l))) (hn : l.length ≤ most) :
    acall code I.slices_Sort_int_int [.sl id ep 0 l.length] σ = some (.any, σ.set id (.arr 1 ep (intsA (sortI l)))) := by
  refine acall_prim good (k := 2) (n := 0) c_slices_Sort_int_int ?_
  have hp : code.prims = prims := rfl
  rw [hp]
  have h1 : ((intsA l).drop 0).take l.length = intsA l := by simp
  have h2 : (intsA l).drop l.length = [] := by simp
  simp only [prims, sortInts, hσ, h1, h2, Nat.zero_add, ints_some, sortI_by]
  rw [if_pos (by simp [hn])]
  simp
def colsE (e : List EN) : List Int := e.flatMap fun n => if n.tag = 2 then [n.col] else []
theorem colsE_le (e : List EN) : (colsE e).length ≤ e.length := by
  induction e with
  | nil => exact Nat.le_refl _
  | cons n e ih =>
    unfold colsE at *
    simp only [List.flatMap_cons, List.length_append, List.length_cons]
    split <;> simp only [List.length_cons, List.length_nil] <;> omega
def colsF (e : List EN) : List Int := compactL (sortI (colsE e))
theorem Cols_spec (b : Bool) (e : List EN) (hn : e.length ≤ most) (ho : okE e = true) : pcall I.expr_Cols [.agg [.imm b (e.map EN.a)]] = some (.imm false (intsA (colsF e))) := by
  rw [pcall_eq c_expr_Cols rfl]
  have hc := fun b => eCheck_spec b e hn
  rw [ho] at hc
  simp only [exprA, ensA] at hc
  have hm : (colsE e).length ≤ most := Nat.le_trans (colsE_le e) hn
  obtain ⟨ep, hl⟩ := rounds_acc (base := 2) (clr := [4, 9, 10]) (b := l_expr_Cols_0) e
    (fun k ep (acc : List Int) => ⟨[.agg [.imm b (e.map EN.a)], .ptr 0 0 0 0, .nil0, .sl 1 ep 0 acc.length, .any, .bool false, .imm b (e.map EN.a), .int .i64 e.length, .int .i64 k, .any, .any], [.arr 1 0 [.agg [.imm b (e.map EN.a)]], .arr 1 ep (intsA acc)]⟩)
    (fun n => if n.tag = 2 then [n.col] else [])
    (fun ep acc => (.ext 0, ⟨[.agg [.imm b (e.map EN.a)], .ptr 0 0 0 0, .nil0, .sl 1 ep 0 acc.length, .any, .bool false, .imm b (e.map EN.a), .int .i64 e.length, .int .i64 e.length, .bool false, .any], [.arr 1 0 [.agg [.imm b (e.map EN.a)]], .arr 1 ep (intsA acc)]⟩)) 1
    (fun n _ => by split <;> simp)
    (fun k n ep acc hk hy ha => by
      have hlt : ((k : Int) < (e.length : Int)) := by omega
      have h5 : acc.length + 1 ≤ most := by omega
      by_cases ht : n.tag = 2
      · exact ⟨ep + 1, by simp [l_expr_Cols_0, hlt, hy, EN.a, ht, append, h5, wrap_lt hk hn, roundEnd, freezeObj]⟩
      · exact ⟨ep, by simp [l_expr_Cols_0, hlt, hy, EN.a, ht, beq_f ht, wrap_lt hk hn, roundEnd, freezeObj]⟩)
    (fun ep acc _ => by simp [l_expr_Cols_0]) 0
  have hs := fun σ' : Obj => sort_call (σ := [σ', .arr 1 ep (intsA (colsE e))]) (id := 1) (ep := ep) rfl hm
  obtain ⟨A, h1, h2, h3⟩ := compact_spec (σ := [.arr 1 0 [.agg [.imm b (e.map EN.a)]], .arr 1 ep (intsA (sortI (colsE e)))]) (id := 1) (ep := ep) (l := sortI (colsE e)) rfl (by rw [sortI_len]; exact hm)
  simp only [intsA, List.map_nil, List.length_nil, show ((0 : Nat) : Int) = 0 from rfl] at hl
  rw [sortI_len] at h1
  unfold colsF
  have hcl := compactL_le (sortI (colsE e))
  have hfl : (e.flatMap fun n => if n.tag = 2 then [n.col] else []) = colsE e := rfl
  rw [hfl] at hl
  have hA : (intsA A).take (compactL (sortI (colsE e))).length = intsA (compactL (sortI (colsE e))) := by
    unfold intsA; rw [← List.map_take, h3]
  generalize compactL (sortI (colsE e)) = c at *
  generalize sortI (colsE e) = s at *
  generalize colsE e = cs at *
  have hle : c.length ≤ A.length := by omega
  simp [f_expr_Cols, b_expr_Cols, hc, hl, hs, h1, hA, hle]
end Go.AM
end
section

namespace Go.AM
open P
set_option maxHeartbeats 8000000
set_option maxRecDepth 8000
theorem acall_nil_sl {f : Nat} {g : AFunc} (h : code.fns f = .nilfn g) (hm : g.mode.isPure = true) {x : AVal} {σ : Store} {xs : List AVal} (hx : snap σ x = .imm true xs) (he : emptyS σ x = xs.isEmpty) :
    acall code f [x] σ = (pcall f [.imm true xs]).map (·, σ) := by
  have e2 : ∀ b, emptyS [] (.imm b xs) = xs.isEmpty := fun b => by cases xs <;> simp [emptyS, rd]
  have h1 := acall_nil h hm true xs σ
  rw [← h1, acall_nilfn good h, acall_nilfn good h, he]
  have e3 : emptyS σ (.imm true xs) = xs.isEmpty := by cases xs <;> simp [emptyS, rd]
  rw [e3]
  have e4 : snap σ (.imm true xs) = .imm true xs := by simp
  cases xs.isEmpty with
  | true => rfl
  | false =>
    simp only [Bool.false_eq_true, if_false]
    rw [acallG_pure hm [x] σ, acallG_pure hm [.imm true xs] σ]
    simp only [List.map_cons, List.map_nil, hx, e4]
def overG {β : Type} (doF : EN → List β → β × Int) (_ : Nat) (n : EN) (st : List β) : List β ⊕ Int :=
  if (doF n (st.drop (st.length - (eparts n.tag).toNat))).2 = 0 then .inl (st.take (st.length - (eparts n.tag).toNat) ++ [(doF n (st.drop (st.length - (eparts n.tag).toNat))).1])
  else .inr (doF n (st.drop (st.length - (eparts n.tag).toNat))).2
def overF {β : Type} (z : β) (doF : EN → List β → β × Int) (e : List EN) : β × Int :=
  match foldL (overG doF) e 0 [] with
  | .inl st => (st.headD z, 0)
  | .inr no => (z, no)
theorem firstsL_snoc : ∀ (l : List EN) (n : EN) (i : Nat) (a o : List Nat), firstsL (l ++ [n]) i a o = (firstsL l i a o).bind fun q => stepE (i + l.length) n q.1 q.2
  | [], n, i, a, o => by simp [firstsL]; cases stepE i n a o <;> rfl
  | m :: l, n, i, a, o => by
    simp only [List.cons_append, firstsL, List.length_cons]
    cases stepE i m a o with
    | none => rfl
    | some q =>
      simp only [Option.bind_some]
      rw [firstsL_snoc l n (i + 1) q.1 q.2]
      simp only [Nat.add_assoc, Nat.add_comm 1]
theorem okE_at {e : List EN} (ho : okE e = true) {k : Nat} (hk : k ≤ e.length) : ∃ a o, firstsL (e.take k) 0 [] [] = some (a, o) := by
  cases h : firstsL (e.take k) 0 [] [] with
  | some q => exact ⟨q.1, q.2, rfl⟩
  | none =>
    have key : ∀ m, k ≤ m → m ≤ e.length → firstsL (e.take m) 0 [] [] = none := by
      intro m hm
      induction hm with
      | refl => intro _; exact h
      | @step m hm ih =>
        intro hl
        rw [List.take_succ_eq_append_getElem (by omega), firstsL_snoc, ih (by omega)]; rfl
    have := key e.length hk (Nat.le_refl _)
    rw [List.take_length] at this
    unfold okE at ho
    rw [this] at ho; cases ho
theorem okE_step {e : List EN} (ho : okE e = true) {k : Nat} {n : EN} (hn : e[k]? = some n) {a o : List Nat} (h : firstsL (e.take k) 0 [] [] = some (a, o)) :
    ∃ a' o', firstsL (e.take (k + 1)) 0 [] [] = some (a', o') ∧ stepE k n a o = some (a', o') ∧ 0 ≤ eparts n.tag ∧ eparts n.tag ≤ o.length ∧ countsE n = true ∧ o'.length = o.length - (eparts n.tag).toNat + 1 := by
  obtain ⟨hk, he⟩ := List.getElem?_eq_some_iff.1 hn
  obtain ⟨a', o', h'⟩ := okE_at ho (k := k + 1) (by omega)
  have hs := h'
  rw [List.take_succ_eq_append_getElem hk, firstsL_snoc, h, he] at hs
  simp only [Option.bind_some, List.length_take, Nat.min_eq_left (Nat.le_of_lt hk), Nat.zero_add] at hs
  refine ⟨a', o', h', hs, ?_⟩
  unfold stepE at hs
  split at hs
  · cases hs
  · rename_i hc
    have h1 : 0 ≤ eparts n.tag ∧ eparts n.tag ≤ o.length ∧ countsE n = true := by
      refine ⟨by omega, by omega, ?_⟩
      cases hq : countsE n
      · exact absurd (.inr (.inr hq)) hc
      · rfl
    refine ⟨h1.1, h1.2.1, h1.2.2, ?_⟩
    have hd : (o.drop (o.length - (eparts n.tag).toNat)).length = (eparts n.tag).toNat := by rw [List.length_drop]; omega
    have := eparts_le n.tag
    rcases hL : o.drop (o.length - (eparts n.tag).toNat) with _ | ⟨p, _ | ⟨q, _ | ⟨r, t⟩⟩⟩ <;> rw [hL] at hs hd <;> simp only [List.length_nil, List.length_cons] at hs hd <;> (try split at hs) <;> (try cases hs) <;> simp <;> omega
theorem okE_end {e : List EN} (ho : okE e = true) {a o : List Nat} (h : firstsL e 0 [] [] = some (a, o)) : o.length = 1 := by
  unfold okE at ho
  rw [h] at ho
  simp at ho
  exact ho.1
theorem pop_int {f : Int → AVal} (hf : f = (AVal.int .i64)) (st : List Int) (k ep : Nat) (hk : k ≤ st.length) (hn : st.length ≤ most) (OA OB : Obj) :
    acall code I.expr_over_int_1 [.int .i64 k, .ptr 1 0 0 0] [OA, .arr 1 0 [.sl 2 ep 0 st.length], .arr 1 ep (st.map f), OB] =
      some (.sl 4 0 0 k, [OA, .arr 1 0 [.sl 2 ep 0 (st.length - k)], .arr 1 ep (st.map f), OB, .arr 1 0 ((st.drop (st.length - k)).map f)]) := by
  subst hf
  rw [acall_keep c_expr_over_int_1 rfl]
  have hn' : st.length ≤ 68719476736 := hn
  have w1 := w64 (n := (st.length : Int) - (k : Int)) (by omega) (by omega)
  have w2 : ((st.length : Int) - (k : Int)).toNat = st.length - k := by omega
  have w3 : (0 : Int) ≤ (st.length : Int) - (k : Int) := by omega
  have w4 : st.length - k + k = st.length := by omega
  have hw4 : st.length - (st.length - k) = k := by omega
  have hd : (st.drop (st.length - k)).length = k := by rw [List.length_drop]; omega
  have hcl := Clone_int_int (enc := (AVal.int .i64)) true (st.drop (st.length - k)) (by rw [hd]; omega)
  have hx : snap [OA, .arr 1 0 [.sl 2 ep 0 st.length], .arr 1 ep (st.map (AVal.int .i64)), OB] (.sl 2 ep (st.length - k) k) = .imm true ((st.drop (st.length - k)).map (AVal.int .i64)) := by
    have ht : (st.drop (st.length - k)).take k = st.drop (st.length - k) := List.take_of_length_le (by omega)
    simp [w4, ← List.map_drop, ht, ← List.map_take]
  have he : emptyS [OA, .arr 1 0 [.sl 2 ep 0 st.length], .arr 1 ep (st.map (AVal.int .i64)), OB] (.sl 2 ep (st.length - k) k) = ((st.drop (st.length - k)).map (AVal.int .i64)).isEmpty := by
    have ht : (st.drop (st.length - k)).take k = st.drop (st.length - k) := List.take_of_length_le (by omega)
    simp only [emptyS, rd, sliceAt]
    simp [w4, ← List.map_drop, ht, ← List.map_take]
    cases st.drop (st.length - k) <;> simp
  have hcall := acall_nil_sl c_slices_Clone_int_int rfl hx he
  rw [hcl] at hcall
  have hle : (st.length : Int) - (k : Int) ≤ st.length := by omega
  simp [f_expr_over_int_1, b_expr_over_int_1, w1, w2, w3, hw4, hcall, hd, hk]
def overH_int (doF : EN → List Int → Int × Int) (k : Nat) (n : EN) (s : Nat × List Int) : Nat × List Int ⊕ Int := match overG doF k n s.2 with
  | .inl st => .inl (s.1 + 1, st)
  | .inr r => .inr r
theorem overH_fold_int (doF : EN → List Int → Int × Int) : ∀ (l : List EN) (k ep : Nat) (st : List Int), foldL (overH_int doF) l k (ep, st) = match foldL (overG doF) l k st with
    | .inl st' => .inl (ep + l.length, st')
    | .inr r => .inr r
  | [], k, ep, st => rfl
  | n :: l, k, ep, st => by
    simp only [foldL, overH_int]
    cases overG doF k n st with
    | inl st' =>
      simp only
      rw [overH_fold_int doF l (k + 1) (ep + 1) st']
      cases foldL (overG doF) l (k + 1) st' <;> simp [Nat.add_assoc, Nat.add_comm 1]
    | inr r => rfl
theorem over_int (b : Bool) (e : List EN) (hn : e.length ≤ most) (ho : okE e = true) (g : AVal) (hg : ∀ fl top base σ, (fl || top) = true → fz fl top base σ 20 g = g) (doF : EN → List Int → Int × Int)
    (hdo : ∀ n ∈ e, ∀ l : List Int, l.length = (eparts n.tag).toNat → countsE n = true → ∀ σ x, snap σ x = .imm true (l.map (AVal.int .i64)) → acallV code g [n.a, x] σ = some (.tup [(AVal.int .i64) (doF n l).1, .int .i64 (doF n l).2], σ)) :
    pcall I.expr_over_int [.agg [.imm b (e.map EN.a)], g] = some (.tup [(AVal.int .i64) (overF 0 doF e).1, .int .i64 (overF 0 doF e).2]) := by
  rw [pcall_eq c_expr_over_int rfl]
  have hg1 := hg true false 0 [] rfl
  have h := rounds_list (base := 3) (clr := [9, 10, 11, 15, 16]) (b := l_expr_over_int_0) e
    (fun k (s : Nat × List Int) => ⟨[.agg [.imm b (e.map EN.a)], g, .ptr 0 0 0 0, .int .i64 0, .int .i64 0, .ptr 1 0 0 0, .int .i64 0, .fn I.expr_over_int_1 [] [.ptr 1 0 0 0], .int .i64 0, .any, .any, .any, .imm b (e.map EN.a), .int .i64 e.length, .int .i64 k, .any, .any, .any], [.arr 1 0 [.agg [.imm b (e.map EN.a)]], .arr 1 0 [.sl 2 s.1 0 s.2.length], .arr 1 s.1 (s.2.map (AVal.int .i64))]⟩)
    (fun k s => s.2.length ≤ k ∧ ∃ a o, firstsL (e.take k) 0 [] [] = some (a, o) ∧ s.2.length = o.length)
    (overH_int doF)
    (fun s => (.ext 0, ⟨[.agg [.imm b (e.map EN.a)], g, .ptr 0 0 0 0, .int .i64 0, .int .i64 0, .ptr 1 0 0 0, .int .i64 0, .fn I.expr_over_int_1 [] [.ptr 1 0 0 0], .int .i64 0, .any, .any, .any, .imm b (e.map EN.a), .int .i64 e.length, .int .i64 e.length, .bool false, .any, .any], [.arr 1 0 [.agg [.imm b (e.map EN.a)]], .arr 1 0 [.sl 2 s.1 0 s.2.length], .arr 1 s.1 (s.2.map (AVal.int .i64))]⟩))
    (fun r o => r ≠ 0 ∧ ∃ k x9 x10 A τ, o = (.ext 0, ⟨[.agg [.imm b (e.map EN.a)], g, .ptr 0 0 0 0, .int .i64 0, .int .i64 0, .ptr 1 0 0 0, .int .i64 0, .fn I.expr_over_int_1 [] [.ptr 1 0 0 0], .int .i64 r, x9, x10, .int .i64 r, .imm b (e.map EN.a), .int .i64 e.length, k, .bool true, .bool true, .any], .arr 1 0 [.agg [.imm b (e.map EN.a)]] :: A :: τ⟩))
    (fun k n s hk hy hi => by
      obtain ⟨ep, st⟩ := s
      obtain ⟨hle, a, o, hf, hlo⟩ := hi
      simp only at hle hlo
      obtain ⟨a', o', hf', hs, h1, h2, h3, h4⟩ := okE_step ho hy hf
      have hlt : ((k : Int) < (e.length : Int)) := by omega
      have hk2 : (eparts n.tag).toNat ≤ st.length := by omega
      have hpc : ((eparts n.tag).toNat : Int) = eparts n.tag := by omega
      have hd : (st.drop (st.length - (eparts n.tag).toNat)).length = (eparts n.tag).toNat := by rw [List.length_drop]; omega
      have hp := parts_spec n.tag
      have hpop := fun OA OB => pop_int rfl st (eparts n.tag).toNat ep hk2 (by omega) OA OB
      rw [hpc] at hpop
      have hdo' := hdo n (List.mem_of_getElem? hy) (st.drop (st.length - (eparts n.tag).toNat)) hd h3
      have hlen : st.length - (eparts n.tag).toNat + 1 ≤ most := by omega
      have htl : (st.take (st.length - (eparts n.tag).toNat)).length = st.length - (eparts n.tag).toNat := by rw [List.length_take]; omega
      have hdo2 := hdo' [.arr 1 0 [.agg [.imm b (e.map EN.a)]], .arr 1 0 [.sl 2 ep 0 (st.length - (eparts n.tag).toNat)], .arr 1 ep (st.map (AVal.int .i64)), .arr 8 0 [n.a], .arr 1 0 ((st.drop (st.length - (eparts n.tag).toNat)).map (AVal.int .i64))] (.sl 4 0 0 (eparts n.tag).toNat) (by
        have := List.take_of_length_le (Nat.le_of_eq hd)
        simp [← List.map_drop, hd, ← List.map_take, this])
      unfold overH_int overG
      rcases hr : doF n (st.drop (st.length - (eparts n.tag).toNat)) with ⟨x, no⟩
      rw [hr] at hdo2
      simp only [List.map_drop] at hdo2
      simp only
      have hz : ∀ x, ncells ((AVal.int .i64) x) = 1 ∧ isAgg ((AVal.int .i64) x) = false := fun x => ⟨rfl, rfl⟩
      have hzx : ∀ fl top base σ n, fz fl top base σ (n + 3) ((AVal.int .i64) x) = (AVal.int .i64) x := fun fl top base σ n => Fx.fx fl top base σ n x
      have hng : ∀ fl top base σ n', fz fl top base σ (n' + 3) n.a = n.a := fun fl top base σ n' => Fx.fx fl top base σ n' n
      have hnn : ncells n.a = 8 ∧ isAgg n.a = true := ⟨rfl, rfl⟩
      have htag : (cellsOf n.a)[0]? = some (.int .i64 n.tag) := rfl
      by_cases h0 : no = 0
      · subst h0
        refine ⟨?_, by simp; omega, a', o', hf', by simp [htl, h4, hlo]⟩
        simp [l_expr_over_int_0, hlt, hy, hp, hpop, hdo2, htag, hz, hzx, hng, hnn, append, hlen, htl, wrap_lt hk hn, roundEnd, freezeObj, hg]
      · rw [if_neg h0]
        exact ⟨_, by simp [l_expr_over_int_0, hlt, hy, hp, hpop, hdo2, htag, hz, hzx, hng, hnn, bne_t h0]; and_intros <;> rfl, h0, _, _, _, _, _, rfl⟩)
    (fun s _ => by simp [l_expr_over_int_0]) (0, []) ⟨Nat.le_refl _, [], [], by simp [firstsL], rfl⟩
  rw [overH_fold_int] at h
  unfold overF
  cases hf : foldL (overG doF) e 0 [] with
  | inl st =>
    rw [hf] at h
    obtain ⟨⟨_, a, o, h1, h2⟩, h3⟩ := h
    simp only at h2
    rw [List.take_length] at h1
    rw [okE_end ho h1] at h2
    match st, h2 with
    | [x], _ =>
      simp at h3
      simp [f_expr_over_int, b_expr_over_int, hg1, h3]
  | inr r =>
    rw [hf] at h
    obtain ⟨_, h3, h0, k, x9, x10, A, τ, rfl⟩ := h
    simp at h3
    simp [f_expr_over_int, b_expr_over_int, hg1, h3, bne_t h0]
end Go.AM
end
section

namespace Go.AM
open P
set_option maxHeartbeats 8000000
set_option maxRecDepth 8000
attribute [local simp] condRun_if when_if
def oddK (k : Int) : Bool := decide (k < 0) || decide (3 < k)
def kindF (e : List EN) (kinds : List Int) : Int × Int :=
  if okE e = false then (0, 200) else if kinds.any oddK then (0, 2) else if (colsF e).any (fun c => decide ((kinds.length : Int) ≤ c)) then (0, 2) else overF 0 (kind1F kinds) e
theorem colsE_mem {e : List EN} {n : EN} (h : n ∈ e) (ht : n.tag = 2) : n.col ∈ colsF e := by
  unfold colsF
  rw [compactL_mem, sortI_mem]
  exact List.mem_flatMap.2 ⟨n, h, by rw [if_pos ht]; simp⟩
theorem counts_col {n : EN} (h : countsE n = true) (ht : n.tag = 2) : 0 ≤ n.col ∧ n.col < 16 := by
  unfold countsE at h
  rw [if_neg (by omega), if_pos ht] at h
  simp at h
  exact ⟨h.1.2, h.2⟩
theorem colsF_le (e : List EN) : (colsF e).length ≤ e.length := by
  unfold colsF
  have h1 := compactL_le (sortI (colsE e))
  have h2 := sortI_len (colsE e)
  have h3 := colsE_le e
  omega
theorem kind_spec (b : Bool) (e : List EN) (bk : Bool) (kinds : List Int) (hn : e.length ≤ most) (hk : kinds.length ≤ most) :
    pcall I.expr_Kind [.agg [.imm b (e.map EN.a)], .imm bk (intsA kinds)] = some (.tup [.int .i64 (kindF e kinds).1, .int .i64 (kindF e kinds).2]) := by
  rw [pcall_eq c_expr_Kind rfl]
  have hc := fun b => eCheck_spec b e hn
  simp only [exprA, ensA] at hc
  unfold kindF
  cases ho : okE e with
  | false =>
    rw [ho] at hc
    simp [f_expr_Kind, b_expr_Kind, hc]
  | true =>
    rw [ho] at hc
    have h1 := rounds_any (base := 2) (clr := [4, 5, 7, 13, 14]) (b := l_expr_Kind_1) kinds
      (fun k => ⟨[.agg [.imm b (e.map EN.a)], .imm bk (intsA kinds), .ptr 0 0 0 0, .ptr 1 0 0 0, .any, .any, .int .i64 0, .any, .any, .bool false, .imm bk (intsA kinds), .int .i64 kinds.length, .int .i64 k, .any, .any, .any, .any, .any, .any, .any], [.arr 1 0 [.agg [.imm b (e.map EN.a)]], .arr 1 0 [.imm bk (intsA kinds)]]⟩) oddK
      (.ext 0, ⟨[.agg [.imm b (e.map EN.a)], .imm bk (intsA kinds), .ptr 0 0 0 0, .ptr 1 0 0 0, .any, .any, .int .i64 0, .any, .any, .bool false, .imm bk (intsA kinds), .int .i64 kinds.length, .int .i64 kinds.length, .bool false, .any, .any, .any, .any, .any, .any], [.arr 1 0 [.agg [.imm b (e.map EN.a)]], .arr 1 0 [.imm bk (intsA kinds)]]⟩)
      (fun o => ∃ s, o = (.ret, s) ∧ thenLeave .pure [.env 4, .env 5] (some (.ret, s)) = some (.tup [.int .i64 0, .int .i64 2]))
      (fun k y hk' hy hp => by
        have hlt : ((k : Int) < (kinds.length : Int)) := by omega
        unfold oddK at hp
        simp at hp
        have e1 : ¬ (y < 0) := by omega
        have e2 : ¬ (3 < y) := by omega
        simp [l_expr_Kind_1, hlt, hy, e1, e2, wrap_lt hk' hk, roundEnd_same])
      (fun k y hk' hy hp => by
        have hlt : ((k : Int) < (kinds.length : Int)) := by omega
        unfold oddK at hp
        simp at hp
        by_cases e1 : y < 0
        · exact ⟨_, by simp [l_expr_Kind_1, hlt, hy, e1]; rfl, _, rfl, by simp⟩
        · have e2 : 3 < y := by omega
          exact ⟨_, by simp [l_expr_Kind_1, hlt, hy, e1, e2]; rfl, _, rfl, by simp⟩)
      (by simp [l_expr_Kind_1])
    rcases h1 with ⟨ha, h1⟩ | ⟨ha, o, h1, s, rfl, h2⟩
    · rw [ha]
      have hC := fun b => Cols_spec b e hn ho
      have hcl := colsF_le e
      have h2 := rounds_any (base := 2) (clr := [4, 5, 8, 18, 19]) (b := l_expr_Kind_0) (colsF e)
        (fun k => ⟨[.agg [.imm b (e.map EN.a)], .imm bk (intsA kinds), .ptr 0 0 0 0, .ptr 1 0 0 0, .any, .any, .int .i64 0, .any, .any, .bool false, .imm bk (intsA kinds), .int .i64 kinds.length, .int .i64 kinds.length, .bool false, .any, .imm false (intsA (colsF e)), .int .i64 (colsF e).length, .int .i64 k, .any, .any], [.arr 1 0 [.agg [.imm b (e.map EN.a)]], .arr 1 0 [.imm bk (intsA kinds)]]⟩)
        (fun c => decide ((kinds.length : Int) ≤ c))
        (.ext 2, ⟨[.agg [.imm b (e.map EN.a)], .imm bk (intsA kinds), .ptr 0 0 0 0, .ptr 1 0 0 0, .any, .any, .int .i64 0, .any, .any, .bool false, .imm bk (intsA kinds), .int .i64 kinds.length, .int .i64 kinds.length, .bool false, .any, .imm false (intsA (colsF e)), .int .i64 (colsF e).length, .int .i64 (colsF e).length, .bool false, .any], [.arr 1 0 [.agg [.imm b (e.map EN.a)]], .arr 1 0 [.imm bk (intsA kinds)]]⟩)
        (fun o => ∃ s, o = (.ret, s) ∧ thenLeave .pure [.env 4, .env 5] (some (.ret, s)) = some (.tup [.int .i64 0, .int .i64 2]))
        (fun k y hk' hy hp => by
          have hlt : ((k : Int) < ((colsF e).length : Int)) := by omega
          have hp' : ¬ ((kinds.length : Int) ≤ y) := by simpa using hp
          simp [l_expr_Kind_0, hlt, hy, hp', wrap_lt hk' (by omega), roundEnd_same])
        (fun k y hk' hy hp => by
          have hlt : ((k : Int) < ((colsF e).length : Int)) := by omega
          have hp' : ((kinds.length : Int) ≤ y) := by simpa using hp
          exact ⟨_, by simp [l_expr_Kind_0, hlt, hy, hp']; rfl, _, rfl, by simp⟩)
        (by simp [l_expr_Kind_0])
      simp at h1
      rcases h2 with ⟨hb, h2⟩ | ⟨hb, o, h2, s, rfl, h3⟩
      · rw [hb]
        have hover := fun b => over_int b e hn ho (.fn I.expr_Kind_1 [] [.cptr true (.imm bk (intsA kinds)) 0]) (fun fl top base σ h => by cases fl <;> cases top <;> simp at h ⊢) (kind1F kinds)
          (fun n hne l hl hcn σ x hx => by
            have := eparts_le n.tag
            have hk1 := kind1_spec n true l bk kinds (by unfold most; omega) (fun ht => by
              obtain ⟨h1, h2⟩ := counts_col hcn ht
              have := List.any_eq_false.1 hb n.col (colsE_mem hne ht)
              simp at this
              exact ⟨h1, by omega⟩)
            have hna : fz true false 0 σ 20 n.a = n.a := Fx.fx true false 0 σ 17 n
            simp only [snap_eq] at hx
            simp [hx, hna, hk1])
        simp at h2
        simp [f_expr_Kind, b_expr_Kind, hc, h1, hC, h2, hover]
      · rw [hb]
        simp at h2
        simp [f_expr_Kind, b_expr_Kind, hc, h1, hC, h2, -thenLeave_ret]
        exact h3
    · rw [ha]
      simp at h1
      simp [f_expr_Kind, b_expr_Kind, hc, h1, -thenLeave_ret]
      exact h2
end Go.AM
end
section

namespace Go.AM
open P
set_option maxHeartbeats 8000000
set_option maxRecDepth 8000
attribute [local simp] condRun_if when_if
def truthF (e : List EN) (kinds : List Int) : Bool := (kindF e kinds).2 == 0 && ((kindF e kinds).1 == 0 || (kindF e kinds).1 == 1)
theorem truth18_spec (b : Bool) (e : List EN) (bk : Bool) (kinds : List Int) (hn : e.length ≤ most) (hk : kinds.length ≤ most) :
    pcall I.prop_truth [.agg [.imm b (e.map EN.a)], .imm bk (intsA kinds)] = some (.bool (truthF e kinds)) := by
  rw [pcall_eq c_prop_truth rfl]
  have h := fun b bk => kind_spec b e bk kinds hn hk
  unfold truthF
  simp [f_prop_truth, b_prop_truth, h]
  repeat' (split <;> (try simp_all))
abbrev laidO (nd c1 c2 : AVal) (n : LNX) (a b r : AVal) : Obj := .arr 18 0 [.agg [nd, c1, c2, .int .i64 n.op, .int .i64 n.l, .int .i64 n.r, .int .i64 n.tab, .imm n.bk (n.kinds.map (.int .i64)), .bool n.left, .imm n.bc (n.cond.map EN.a), .imm n.by' (n.keys.map (.int .i64)), .imm n.bg (n.aggs.map AggX.a), .imm n.bi (n.items.map ExX.a), .imm n.bo (n.ords.map ordA), .int .i64 n.limit, a, b, r]]
def scanF (n : LNX) : Bool := !(n.kinds.any fun k => decide (k < 1) || decide (3 < k)) && decide (0 ≤ n.tab) && decide (n.tab < 4) && decide (0 < n.kinds.length) && decide (n.kinds.length ≤ 4)
def inputF (n : LNX) : Bool := !(n.kinds.any fun k => decide (k < 0) || decide (4 < k)) && decide (0 ≤ n.tab) && decide (n.tab < 30) && decide (0 < n.kinds.length) && decide (n.kinds.length ≤ 16)
theorem scan1_spec (k : Int) : pcall I.prop_laid_scan_1 [.int .i64 k] = some (.bool (decide (k < 1) || decide (3 < k))) := by
  rw [pcall_eq c_prop_laid_scan_1 rfl]
  simp [f_prop_laid_scan_1, b_prop_laid_scan_1]
  repeat' (split <;> (try simp_all))
  all_goals omega
theorem input1_spec (k : Int) : pcall I.prop_laid_input_1 [.int .i64 k] = some (.bool (decide (k < 0) || decide (4 < k))) := by
  rw [pcall_eq c_prop_laid_input_1 rfl]
  simp [f_prop_laid_input_1, b_prop_laid_input_1]
  repeat' (split <;> (try simp_all))
  all_goals omega
theorem scan_spec (nd c1 c2 : AVal) (n : LNX) (a b r : AVal) (τ : Store) (hk : n.kinds.length ≤ most) :
    acall code I.prop_laid_scan [.ptr 0 0 0 0] (laidO nd c1 c2 n a b r :: τ) = some (.bool (scanF n), laidO nd c1 c2 n a b (.imm n.bk (n.kinds.map (.int .i64))) :: τ) := by
  rw [acall_keep c_prop_laid_scan rfl]
  have hc := fun b => Contains_int_int (enc := .int .i64) (b := b) (l := n.kinds) (f := .fn 272 [] []) (p := fun k => decide (k < 1) || decide (3 < k)) hk (fun _ => ⟨rfl, rfl⟩) (fun σ => by simp) (fun k _ => by simp [scan1_spec])
  unfold scanF
  cases hA : n.kinds.any fun k => decide (k < 1) || decide (3 < k) <;> rw [hA] at hc <;> simp [f_prop_laid_scan, b_prop_laid_scan, hc]
  repeat' (split <;> (try simp_all))
  all_goals omega
theorem input_spec (nd c1 c2 : AVal) (n : LNX) (a b r : AVal) (τ : Store) (hk : n.kinds.length ≤ most) :
    acall code I.prop_laid_input [.ptr 0 0 0 0] (laidO nd c1 c2 n a b r :: τ) = some (.bool (inputF n), laidO nd c1 c2 n a b (.imm n.bk (n.kinds.map (.int .i64))) :: τ) := by
  rw [acall_keep c_prop_laid_input rfl]
  have hc := fun b => Contains_int_int (enc := .int .i64) (b := b) (l := n.kinds) (f := .fn 273 [] []) (p := fun k => decide (k < 0) || decide (4 < k)) hk (fun _ => ⟨rfl, rfl⟩) (fun σ => by simp) (fun k _ => by simp [input1_spec])
  unfold inputF
  cases hA : n.kinds.any fun k => decide (k < 0) || decide (4 < k) <;> rw [hA] at hc <;> simp [f_prop_laid_input, b_prop_laid_input, hc]
  repeat' (split <;> (try simp_all))
  all_goals omega
theorem filter_spec (nd c1 c2 : AVal) (n : LNX) (ba : Bool) (a : List Int) (b r : AVal) (τ : Store) (hc : n.cond.length ≤ most) (ha : a.length ≤ most) :
    acall code I.prop_laid_filter [.ptr 0 0 0 0] (laidO nd c1 c2 n (.imm ba (intsA a)) b r :: τ) = some (.bool (truthF n.cond a), laidO nd c1 c2 n (.imm ba (intsA a)) b (.imm ba (intsA a)) :: τ) := by
  rw [acall_keep c_prop_laid_filter rfl]
  have h := fun b bk => truth18_spec b n.cond bk a hc ha
  simp [f_prop_laid_filter, b_prop_laid_filter, h]
theorem keeps_spec (nd c1 c2 : AVal) (n : LNX) (ba : Bool) (a : List Int) (b r : AVal) (τ : Store) :
    acall code I.prop_laid_keeps [.ptr 0 0 0 0] (laidO nd c1 c2 n (.imm ba (intsA a)) b r :: τ) = some (.bool true, laidO nd c1 c2 n (.imm ba (intsA a)) b (.imm ba (intsA a)) :: τ) := by
  rw [acall_keep c_prop_laid_keeps rfl]
  simp [f_prop_laid_keeps, b_prop_laid_keeps]
theorem join_spec (nd c1 c2 : AVal) (n : LNX) (ba bb : Bool) (a b : List Int) (r : AVal) (τ : Store) (hc : n.cond.length ≤ most) (ha : a.length + b.length ≤ most) :
    acall code I.prop_laid_join [.ptr 0 0 0 0] (laidO nd c1 c2 n (.imm ba (intsA a)) (.imm bb (intsA b)) r :: τ) = some (.bool (truthF n.cond (a ++ b)), laidO nd c1 c2 n (.imm ba (intsA a)) (.imm bb (intsA b)) (.imm false (intsA (a ++ b))) :: τ) := by
  rw [acall_keep c_prop_laid_join rfl]
  have h := fun b' bk => truth18_spec b' n.cond bk (a ++ b) hc (by simpa using ha)
  have hcc : ∀ t, pcall I.slices_Concat_int_int [.imm t [.imm ba (intsA a), .imm bb (intsA b)]] = some (.imm false (intsA (a ++ b))) := fun t => by
    have := Concat_int_int (enc := .int .i64) t [⟨ba, a⟩, ⟨bb, b⟩] (by simpa using ha) (by simp [most])
    simpa using this
  simp only [intsA, List.map_append] at h hcc
  simp [f_prop_laid_join, b_prop_laid_join, h, hcc]
def sortF (n : LNX) (a : List Int) : Bool := !(n.ords.any fun o => decide (o.1 < 0) || decide ((a.length : Int) ≤ o.1)) && decide (n.ords.length ≤ 3) && decide (-1 ≤ n.limit) && decide (n.limit ≤ 2147483647)
theorem sort1_spec (o : Int × Bool) (t t' : Bool) (x0 x1 x2 x3 x4 x5 x6 x7 x8 x9 x10 x11 x12 x13 x14 x16 x17 : AVal) (ba : Bool) (a : List Int) :
    pcall I.prop_laid_sort_1 [ordA o, .cptr t (.cptr t' (.agg [x0, x1, x2, x3, x4, x5, x6, x7, x8, x9, x10, x11, x12, x13, x14, .imm ba (intsA a), x16, x17]) 0) 0] = some (.bool (decide (o.1 < 0) || decide ((a.length : Int) ≤ o.1))) := by
  rw [pcall_eq c_prop_laid_sort_1 rfl]
  obtain ⟨c, d⟩ := o
  cases t <;> cases t' <;> simp [f_prop_laid_sort_1, b_prop_laid_sort_1, ordA] <;> (repeat' (split <;> (try simp_all))) <;> omega
theorem lsort_spec (nd c1 c2 : AVal) (n : LNX) (ba : Bool) (a : List Int) (b r : AVal) (τ : Store) (ho : n.ords.length ≤ most) :
    ∃ X, acall code I.prop_laid_sort [.ptr 0 0 0 0] (laidO nd c1 c2 n (.imm ba (intsA a)) b r :: τ) = some (.bool (sortF n a), laidO nd c1 c2 n (.imm ba (intsA a)) b (.imm ba (intsA a)) :: (τ ++ [X])) := by
  rw [acall_keep c_prop_laid_sort rfl]
  refine ⟨.arr 1 0 [.ptr 0 0 0 0], ?_⟩
  unfold sortF
  have hC := Contains_api_Ord_api_Ord (enc := ordA) (b := n.bo) (l := n.ords) (f := snap (laidO nd c1 c2 n (.imm ba (intsA a)) b (.imm ba (intsA a)) :: (τ ++ [.arr 1 0 [.ptr 0 0 0 0]])) (.fn 277 [] [.ptr (τ.length + 1) 0 0 0])) (p := fun o => decide (o.1 < 0) || decide ((a.length : Int) ≤ o.1)) ho (fun _ => ⟨rfl, rfl⟩) (fun σ => snap_idem _ _ _) (fun o _ => by
    have hz : ∀ σ, fz true false 0 σ 20 (ordA o) = ordA o := fun σ => Fx.fx true false 0 σ 17 o
    simp [hz, sort1_spec])
  simp at hC
  cases hA : (n.ords.any fun o => decide (o.1 < 0) || decide ((a.length : Int) ≤ o.1)) <;> rw [hA] at hC <;> simp [f_prop_laid_sort, b_prop_laid_sort, hC]
  clear hC
  repeat' (split <;> (try simp_all))
  all_goals omega
end Go.AM
end
section

namespace Go.AM
open P
set_option maxHeartbeats 8000000
set_option maxRecDepth 8000
attribute [local simp] condRun_if when_if
@[simp] theorem set_concat {α : Type} (τ : List α) (a b : α) : (τ ++ [a]).set τ.length b = τ ++ [b] := by
  rw [List.set_append_right _ _ (Nat.le_refl _)]; simp
@[simp] theorem set_concat2 {α : Type} (τ : List α) (a c b : α) : (τ ++ [a, c]).set τ.length b = τ ++ [b, c] := by
  rw [List.set_append_right _ _ (Nat.le_refl _)]; simp
@[simp] theorem set_concat2' {α : Type} (τ : List α) (a c b : α) : (τ ++ [a, c]).set (τ.length + 1) b = τ ++ [a, b] := by
  rw [List.set_append_right _ _ (by omega)]; simp
@[simp] theorem set_concat3 {α : Type} (τ : List α) (a c d b : α) : (τ ++ [a, c, d]).set (τ.length + 1) b = τ ++ [a, b, d] := by
  rw [List.set_append_right _ _ (by omega)]; simp
@[simp] theorem set_concat3' {α : Type} (τ : List α) (a c d b : α) : (τ ++ [a, c, d]).set (τ.length + 2) b = τ ++ [a, c, b] := by
  rw [List.set_append_right _ _ (by omega)]; simp
@[simp] theorem get_concat2 {α : Type} (τ : List α) (a b : α) : (τ ++ [a, b])[τ.length]? = some a := by simp
@[simp] theorem get_concat2' {α : Type} (τ : List α) (a b : α) : (τ ++ [a, b])[τ.length + 1]? = some b := by simp
@[simp] theorem get_concat3 {α : Type} (τ : List α) (a b c : α) : (τ ++ [a, b, c])[τ.length + 1]? = some b := by simp
@[simp] theorem get_concat3' {α : Type} (τ : List α) (a b c : α) : (τ ++ [a, b, c])[τ.length + 2]? = some c := by simp
@[simp] theorem take_concat1 {α : Type} (τ : List α) (a : α) (t : List α) : List.take (τ.length + 1) (τ ++ a :: t) = τ ++ [a] := by
  rw [List.take_append]; simp
  exact List.take_of_length_le (by omega)
@[simp] theorem take_concat2 {α : Type} (τ : List α) (a b : α) (t : List α) : List.take (τ.length + 2) (τ ++ a :: b :: t) = τ ++ [a, b] := by
  rw [List.take_append]; simp
  exact List.take_of_length_le (by omega)
abbrev laidX (bn : Bool) (nodes : List LNX) (ep1 m1 ep2 m2 : Nat) (n : LNX) (a b r : AVal) : Obj := laidO (.imm bn (nodes.map LNX.a)) (.sl 1 ep1 0 m1) (.sl 2 ep2 0 m2) n a b r
abbrev Fzs (τ : Store) : Prop := ∀ base σ, τ.map (freezeObj base σ) = τ
def itemsF (a : List Int) : List ExX → Option (List Int)
  | [] => some []
  | e :: r => if (kindF e.l a).2 = 0 then (itemsF a r).map ((kindF e.l a).1 :: ·) else none
def itemG (a : List Int) (_ : Nat) (e : ExX) (acc : Nat × List Int) : Nat × List Int ⊕ Unit := if (kindF e.l a).2 = 0 then .inl (acc.1 + 1, acc.2 ++ [(kindF e.l a).1]) else .inr ()
theorem itemG_fold (a : List Int) : ∀ (l : List ExX) (k ep : Nat) (acc : List Int), foldL (itemG a) l k (ep, acc) = match itemsF a l with
    | some r => .inl (ep + l.length, acc ++ r)
    | none => .inr ()
  | [], k, ep, acc => by simp [foldL, itemsF]
  | e :: l, k, ep, acc => by
    by_cases h : (kindF e.l a).2 = 0
    · simp only [foldL, itemG, itemsF, if_pos h]
      rw [itemG_fold a l (k + 1) (ep + 1)]
      cases itemsF a l <;> simp [Nat.add_assoc, Nat.add_comm 1]
    · simp only [foldL, itemG, itemsF, if_neg h]
theorem project_spec (bn : Bool) (nodes : List LNX) (ep1 m1 ep2 m2 : Nat) (n : LNX) (ba : Bool) (a : List Int) (r : AVal) (τ : Store) (hτ : Fzs τ) (hl : 2 ≤ τ.length) (hi : n.items.length ≤ most) (he : ∀ e ∈ n.items, e.l.length ≤ most) (ha : a.length ≤ most) :
    match itemsF a n.items with
    | none => ∃ σ', acall code I.prop_laid_project [.ptr 0 0 0 0] (laidX bn nodes ep1 m1 ep2 m2 n (.imm ba (intsA a)) .nil0 r :: τ) = some (.bool false, σ')
    | some ks => acall code I.prop_laid_project [.ptr 0 0 0 0] (laidX bn nodes ep1 m1 ep2 m2 n (.imm ba (intsA a)) .nil0 r :: τ) =
        some (.bool (decide (0 < ks.length)), laidX bn nodes ep1 m1 ep2 m2 n (.imm ba (intsA a)) .nil0 (.sl (τ.length + 1) n.items.length 0 ks.length) :: (τ ++ [.arr 1 n.items.length (intsA ks)])) := by
  have h := rounds_list (base := τ.length + 2) (clr := [1, 2, 3, 4, 8, 9]) (b := l_prop_laid_project_0) n.items
    (fun k (s : Nat × List Int) => ⟨[.ptr 0 0 0 0, .any, .any, .any, .any, .imm n.bi (n.items.map ExX.a), .int .i64 n.items.length, .int .i64 k, .any, .any], laidX bn nodes ep1 m1 ep2 m2 n (.imm ba (intsA a)) .nil0 (.sl (τ.length + 1) s.1 0 s.2.length) :: (τ ++ [.arr 1 s.1 (intsA s.2)])⟩)
    (fun k s => s.2.length ≤ k) (itemG a)
    (fun s => (.ext 0, ⟨[.ptr 0 0 0 0, .any, .any, .any, .any, .imm n.bi (n.items.map ExX.a), .int .i64 n.items.length, .int .i64 n.items.length, .bool false, .any], laidX bn nodes ep1 m1 ep2 m2 n (.imm ba (intsA a)) .nil0 (.sl (τ.length + 1) s.1 0 s.2.length) :: (τ ++ [.arr 1 s.1 (intsA s.2)])⟩))
    (fun _ o => ∃ s, o = (.ret, s) ∧ results s [.env 1] = some (.bool false))
    (fun k e s hk hy hs => by
      obtain ⟨ep, acc⟩ := s
      simp only at hs
      have hlt : ((k : Int) < (n.items.length : Int)) := by omega
      have hkd := fun b bk => kind_spec b e.l bk a (he e (List.mem_of_getElem? hy)) ha
      have h5 : acc.length + 1 ≤ most := by omega
      have q1 : 1 < τ.length + 2 := by omega
      have q2 : 2 < τ.length + 2 := by omega
      unfold itemG
      by_cases h0 : (kindF e.l a).2 = 0
      · rw [if_pos h0]
        refine ⟨?_, by simp; omega⟩
        simp [l_prop_laid_project_0, hlt, hy, ExX.a, hkd, h0, append, h5, wrap_lt hk hi, roundEnd, freezeObj, hτ, q1, q2]
      · rw [if_neg h0]
        exact ⟨_, by simp [l_prop_laid_project_0, hlt, hy, ExX.a, hkd, h0, bne_t h0]; rfl, _, rfl, by simp⟩)
    (fun s hs => by simp [l_prop_laid_project_0]) (0, []) (Nat.le_refl _)
  rw [itemG_fold] at h
  cases hq : itemsF a n.items with
  | none =>
    rw [hq] at h
    obtain ⟨o, h1, s, rfl, h2⟩ := h
    refine ⟨s.st, ?_⟩
    rw [acall_keep c_prop_laid_project rfl]
    simp at h1
    simp [f_prop_laid_project, b_prop_laid_project, h1, -results, h2]
  | some ks =>
    rw [hq] at h
    have h1 := h.2
    rw [acall_keep c_prop_laid_project rfl]
    simp at h1
    simp [f_prop_laid_project, b_prop_laid_project, h1]
def unionF : List Int → List Int → Option (List Int)
  | [], _ => some []
  | _ :: _, [] => none
  | k :: a, o :: b => if o ≠ 0 ∧ o ≠ (if k = 0 then o else k) then none else (unionF a b).map ((if k = 0 then o else k) :: ·)
def unionG (b : List Int) (i : Nat) (k : Int) (acc : Nat × List Int) : Nat × List Int ⊕ Unit :=
  if b.getD i 0 ≠ 0 ∧ b.getD i 0 ≠ (if k = 0 then b.getD i 0 else k) then .inr () else .inl (acc.1 + 1, acc.2 ++ [if k = 0 then b.getD i 0 else k])
theorem unionG_fold (b : List Int) : ∀ (l : List Int) (k ep : Nat) (acc : List Int), l.length = (b.drop k).length → foldL (unionG b) l k (ep, acc) = match unionF l (b.drop k) with
    | some r => .inl (ep + l.length, acc ++ r)
    | none => .inr ()
  | [], k, ep, acc, h => by
    cases hb : b.drop k with
    | nil => simp [foldL, unionF]
    | cons o t => rw [hb] at h; cases h
  | x :: l, k, ep, acc, h => by
    cases hb : b.drop k with
    | nil => rw [hb] at h; cases h
    | cons o t =>
      have ho : b.getD k 0 = o := by
        have := congrArg (·[0]?) hb
        simp at this
        simp [List.getD_eq_getElem?_getD, this]
      have ht : b.drop (k + 1) = t := by
        have := congrArg List.tail hb
        simpa [List.tail_drop] using this
      rw [hb] at h
      have ih := fun ep acc => unionG_fold b l (k + 1) ep acc (by rw [ht]; simpa using h)
      rw [ht] at ih
      by_cases hc : o ≠ 0 ∧ o ≠ (if x = 0 then o else x)
      · simp only [foldL, unionG, unionF, ho, if_pos hc]
      · simp only [foldL, unionG, unionF, ho, if_neg hc, ih]
        cases unionF l t <;> simp [Nat.add_assoc, Nat.add_comm 1]
theorem union_spec (bn : Bool) (nodes : List LNX) (ep1 m1 ep2 m2 : Nat) (n : LNX) (ba bb : Bool) (a b : List Int) (r : AVal) (τ : Store) (hτ : Fzs τ) (hl : 2 ≤ τ.length) (ha : a.length ≤ most) (hlen : a.length = b.length) :
    match unionF a b with
    | none => ∃ σ', acall code I.prop_laid_union [.ptr 0 0 0 0] (laidX bn nodes ep1 m1 ep2 m2 n (.imm ba (intsA a)) (.imm bb (intsA b)) r :: τ) = some (.bool false, σ')
    | some ks => acall code I.prop_laid_union [.ptr 0 0 0 0] (laidX bn nodes ep1 m1 ep2 m2 n (.imm ba (intsA a)) (.imm bb (intsA b)) r :: τ) =
        some (.bool true, laidX bn nodes ep1 m1 ep2 m2 n (.imm ba (intsA a)) (.imm bb (intsA b)) (.sl (τ.length + 1) a.length 0 ks.length) :: (τ ++ [.arr 1 a.length (intsA ks)])) := by
  have h := rounds_list (base := τ.length + 2) (clr := [1, 2, 3, 4, 9, 10, 11]) (b := l_prop_laid_union_0) a
    (fun k (s : Nat × List Int) => ⟨[.ptr 0 0 0 0, .any, .any, .any, .any, .bool false, .imm ba (intsA a), .int .i64 a.length, .int .i64 k, .any, .any, .any], laidX bn nodes ep1 m1 ep2 m2 n (.imm ba (intsA a)) (.imm bb (intsA b)) (.sl (τ.length + 1) s.1 0 s.2.length) :: (τ ++ [.arr 1 s.1 (intsA s.2)])⟩)
    (fun k s => s.2.length ≤ k) (unionG b)
    (fun s => (.ext 0, ⟨[.ptr 0 0 0 0, .any, .any, .any, .any, .bool false, .imm ba (intsA a), .int .i64 a.length, .int .i64 a.length, .bool false, .any, .any], laidX bn nodes ep1 m1 ep2 m2 n (.imm ba (intsA a)) (.imm bb (intsA b)) (.sl (τ.length + 1) s.1 0 s.2.length) :: (τ ++ [.arr 1 s.1 (intsA s.2)])⟩))
    (fun _ o => ∃ s, o = (.ret, s) ∧ results s [.env 1] = some (.bool false))
    (fun k x s hk hy hs => by
      obtain ⟨ep, acc⟩ := s
      simp only at hs
      have hlt : ((k : Int) < (a.length : Int)) := by omega
      have hb : b[k]? = some (b.getD k 0) := by
        have : k < b.length := by omega
        simp [List.getD_eq_getElem?_getD, this]
      have h5 : acc.length + 1 ≤ most := by omega
      unfold unionG
      generalize b.getD k 0 = o at *
      by_cases hx : x = 0
      · subst hx
        simp only [if_true]
        rw [if_neg (by simp)]
        refine ⟨?_, by simp; omega⟩
        by_cases ho : o = 0
        · subst ho
          simp [l_prop_laid_union_0, hlt, hy, hb, append, h5, wrap_lt hk ha, roundEnd]
        · simp [l_prop_laid_union_0, hlt, hy, hb, ho, bne_t ho, append, h5, wrap_lt hk ha, roundEnd]
      · simp only [if_neg hx]
        by_cases ho : o = 0
        · subst ho
          rw [if_neg (by simp)]
          refine ⟨?_, by simp; omega⟩
          simp [l_prop_laid_union_0, hlt, hy, hb, hx, beq_f hx, append, h5, wrap_lt hk ha, roundEnd]
        · by_cases hox : o = x
          · subst hox
            rw [if_neg (by simp)]
            refine ⟨?_, by simp; omega⟩
            simp [l_prop_laid_union_0, hlt, hy, hb, hx, beq_f hx, bne_t hx, append, h5, wrap_lt hk ha, roundEnd]
          · rw [if_pos ⟨ho, hox⟩]
            exact ⟨_, by simp [l_prop_laid_union_0, hlt, hy, hb, hx, beq_f hx, ho, bne_t ho, bne_t hox]; rfl, _, rfl, by simp⟩)
    (fun s hs => by simp [l_prop_laid_union_0]) (0, []) (Nat.le_refl _)
  rw [unionG_fold b a 0 0 [] (by simpa using hlen)] at h
  rw [List.drop_zero] at h
  have hne : ((a.length : Int) != (b.length : Int)) = false := by simp [hlen]
  cases hq : unionF a b with
  | none =>
    rw [hq] at h
    obtain ⟨o, h1, s, rfl, h2⟩ := h
    refine ⟨s.st, ?_⟩
    rw [acall_keep c_prop_laid_union rfl]
    simp at h1
    simp [f_prop_laid_union, b_prop_laid_union, hne, h1, -results, h2]
  | some ks =>
    rw [hq] at h
    have h1 := h.2
    rw [acall_keep c_prop_laid_union rfl]
    simp at h1
    simp [f_prop_laid_union, b_prop_laid_union, hne, h1]
theorem union_bad (bn : Bool) (nodes : List LNX) (ep1 m1 ep2 m2 : Nat) (n : LNX) (ba bb : Bool) (a b : List Int) (r : AVal) (τ : Store) (hlen : a.length ≠ b.length) :
    ∃ σ', acall code I.prop_laid_union [.ptr 0 0 0 0] (laidX bn nodes ep1 m1 ep2 m2 n (.imm ba (intsA a)) (.imm bb (intsA b)) r :: τ) = some (.bool false, σ') := by
  have hne : ((a.length : Int) != (b.length : Int)) = true := by simp; omega
  rw [acall_keep c_prop_laid_union rfl]
  exact ⟨_, by simp [f_prop_laid_union, b_prop_laid_union, hne]; rfl⟩
end Go.AM
end
section

namespace Go.AM
open P
set_option maxHeartbeats 16000000
set_option maxRecDepth 8000
attribute [local simp] condRun_if when_if
@[simp] theorem set_concat4 {α : Type} (τ : List α) (a b c x : α) : (τ ++ [a, b, c]).set τ.length x = τ ++ [x, b, c] := by
  rw [List.set_append_right _ _ (Nat.le_refl _)]; simp
@[simp] theorem get_concat4 {α : Type} (τ : List α) (a b c : α) : (τ ++ [a, b, c])[τ.length]? = some a := by simp
def keysF (a keys : List Int) : Option (List Int) := if keys.all fun k => decide (0 ≤ k) && decide (k < a.length) then some (keys.map fun k => a.getD k.toNat 0) else none
def keyG (a : List Int) (_ : Nat) (x : Int) (acc : Nat × List Int) : Nat × List Int ⊕ Unit := if 0 ≤ x ∧ x < a.length then .inl (acc.1 + 1, acc.2 ++ [a.getD x.toNat 0]) else .inr ()
theorem keyG_fold (a : List Int) : ∀ (l : List Int) (k ep : Nat) (acc : List Int), foldL (keyG a) l k (ep, acc) = match keysF a l with
    | some r => .inl (ep + l.length, acc ++ r)
    | none => .inr ()
  | [], k, ep, acc => by simp [foldL, keysF]
  | x :: l, k, ep, acc => by
    by_cases h : 0 ≤ x ∧ x < a.length
    · simp only [foldL, keyG, if_pos h]
      rw [keyG_fold a l (k + 1) (ep + 1)]
      unfold keysF
      by_cases hl : (l.all fun k => decide (0 ≤ k) && decide (k < (a.length : Int))) = true
      · have : ((x :: l).all fun k => decide (0 ≤ k) && decide (k < (a.length : Int))) = true := by simp only [List.all_cons, hl]; simp [h]
        rw [if_pos hl, if_pos this]
        simp [Nat.add_assoc, Nat.add_comm 1]
      · have : ¬ ((x :: l).all fun k => decide (0 ≤ k) && decide (k < (a.length : Int))) = true := by
          intro hq
          simp only [List.all_cons, Bool.and_eq_true] at hq
          exact hl hq.2
        rw [if_neg hl, if_neg this]
    · simp only [foldL, keyG, if_neg h]
      unfold keysF
      have : ¬ ((x :: l).all fun k => decide (0 ≤ k) && decide (k < (a.length : Int))) = true := by
        intro hq
        simp only [List.all_cons, Bool.and_eq_true, decide_eq_true_eq] at hq
        exact h hq.1
      rw [if_neg this]
theorem keysF_len {a l r : List Int} (h : keysF a l = some r) : r.length = l.length := by
  unfold keysF at h
  split at h
  · cases h; simp
  · cases h
def aggK (a : List Int) (g : AggX) : Bool × Int :=
  if g.tag = 1 then (g.arg.length == 0, 2)
  else ((kindF g.arg a).2 == 0 && decide (1 < g.tag) && decide (g.tag ≤ 5) && (g.tag != 3 || (kindF g.arg a).1 == 2 || (kindF g.arg a).1 == 0), if g.tag = 4 ∨ g.tag = 5 then (kindF g.arg a).1 else 2)
def aggsOk (n : LNX) (a : List Int) : Bool := decide (n.keys.length ≤ 3) && decide (n.aggs.length ≤ 12) && decide (0 < n.keys.length + n.aggs.length) && n.aggs.all fun g => (aggK a g).1
def headOk (n : LNX) : Bool := decide (n.keys.length ≤ 3) && decide (n.aggs.length ≤ 12) && decide (0 < n.keys.length + n.aggs.length)
def aggsG (a : List Int) (s : Bool × Nat × List Int) (g : AggX) : Bool × Nat × List Int := (s.1 && (aggK a g).1, s.2.1 + 1, s.2.2 ++ [(aggK a g).2])
theorem aggsG_fold (a : List Int) : ∀ (l : List AggX) (ok : Bool) (ep : Nat) (acc : List Int), l.foldl (aggsG a) (ok, ep, acc) = (ok && l.all (fun g => (aggK a g).1), ep + l.length, acc ++ l.map fun g => (aggK a g).2)
  | [], ok, ep, acc => by simp
  | g :: l, ok, ep, acc => by
    rw [List.foldl_cons, aggsG, aggsG_fold a l]
    simp [Bool.and_assoc, Nat.add_assoc, Nat.add_comm 1]
abbrev grpO (n : LNX) : Obj := .arr 12 0 [.agg [.int .i64 n.op, .int .i64 n.l, .int .i64 n.r, .int .i64 n.tab, .imm n.bk (n.kinds.map (.int .i64)), .bool n.left, .imm n.bc (n.cond.map EN.a), .imm n.by' (n.keys.map (.int .i64)), .imm n.bg (n.aggs.map AggX.a), .imm n.bi (n.items.map ExX.a), .imm n.bo (n.ords.map ordA), .int .i64 n.limit]]
theorem group_spec (bn : Bool) (nodes : List LNX) (ep1 m1 ep2 m2 : Nat) (n : LNX) (ba : Bool) (a : List Int) (r : AVal) (τ : Store) (hτ : Fzs τ) (hl : 2 ≤ τ.length) (hk : n.keys.length ≤ most) (hg : n.aggs.length ≤ most) (hkg : n.keys.length + n.aggs.length ≤ most) (he : ∀ g ∈ n.aggs, g.arg.length ≤ most) (ha : a.length ≤ most) :
    match keysF a n.keys with
    | none => ∃ σ', acall code I.prop_laid_group [.ptr 0 0 0 0] (laidX bn nodes ep1 m1 ep2 m2 n (.imm ba (intsA a)) .nil0 r :: τ) = some (.bool false, σ')
    | some ks => acall code I.prop_laid_group [.ptr 0 0 0 0] (laidX bn nodes ep1 m1 ep2 m2 n (.imm ba (intsA a)) .nil0 r :: τ) =
        some (.bool (aggsOk n a), laidX bn nodes ep1 m1 ep2 m2 n (.imm ba (intsA a)) .nil0 (.sl (τ.length + 2) (n.keys.length + n.aggs.length) 0 (n.keys.length + n.aggs.length)) :: (τ ++ [grpO n, .arr 1 (n.keys.length + n.aggs.length) (intsA (ks ++ n.aggs.map fun g => (aggK a g).2))])) := by
  have hkg' : n.keys.length + n.aggs.length ≤ 68719476736 := hkg
  have q1 : 1 < τ.length + 3 := by omega
  have q2 : 2 < τ.length + 3 := by omega
  have h := rounds_list (base := τ.length + 3) (clr := [1, 4, 12, 13]) (b := l_prop_laid_group_1) n.keys
    (fun k (s : Nat × List Int) => ⟨[.ptr 0 0 0 0, .any, .ptr (τ.length + 1) 0 0 0, .bool (headOk n), .any, .any, .any, .any, .any, .imm n.by' (n.keys.map (.int .i64)), .int .i64 n.keys.length, .int .i64 k, .any, .any, .any, .any, .any, .any, .any, .any, .any, .any], laidX bn nodes ep1 m1 ep2 m2 n (.imm ba (intsA a)) .nil0 (.sl (τ.length + 2) s.1 0 s.2.length) :: (τ ++ [grpO n, .arr 1 s.1 (intsA s.2)])⟩)
    (fun k s => s.2.length ≤ k) (keyG a)
    (fun s => (.ext 0, ⟨[.ptr 0 0 0 0, .any, .ptr (τ.length + 1) 0 0 0, .bool (headOk n), .any, .any, .any, .any, .any, .imm n.by' (n.keys.map (.int .i64)), .int .i64 n.keys.length, .int .i64 n.keys.length, .bool false, .any, .any, .any, .any, .any, .any, .any, .any, .any], laidX bn nodes ep1 m1 ep2 m2 n (.imm ba (intsA a)) .nil0 (.sl (τ.length + 2) s.1 0 s.2.length) :: (τ ++ [grpO n, .arr 1 s.1 (intsA s.2)])⟩))
    (fun _ o => ∃ s, o = (.ret, s) ∧ results s [.env 1] = some (.bool false))
    (fun k x s hk' hy hs => by
      obtain ⟨ep, acc⟩ := s
      simp only at hs
      have hlt : ((k : Int) < (n.keys.length : Int)) := by omega
      have h5 : acc.length + 1 ≤ most := by omega
      unfold keyG
      by_cases h1 : 0 ≤ x
      · by_cases h2 : x < a.length
        · rw [if_pos ⟨h1, h2⟩]
          refine ⟨?_, by simp; omega⟩
          have e1 : ¬ (x < 0) := by omega
          have e2 : ¬ ((a.length : Int) ≤ x) := by omega
          have e3 : a[x.toNat]? = some (a.getD x.toNat 0) := by
            have : x.toNat < a.length := by omega
            simp [List.getD_eq_getElem?_getD, this]
          generalize a.getD x.toNat 0 = w at *
          simp [l_prop_laid_group_1, hlt, hy, e1, e2, e3, h1, append, h5, wrap_lt hk' hk, roundEnd]
        · rw [if_neg (fun h => h2 h.2)]
          have e1 : ¬ (x < 0) := by omega
          have e2 : ((a.length : Int) ≤ x) := by omega
          exact ⟨_, by simp [l_prop_laid_group_1, hlt, hy, e1, e2]; rfl, _, rfl, by simp⟩
      · rw [if_neg (fun h => h1 h.1)]
        have e1 : (x < 0) := by omega
        exact ⟨_, by simp [l_prop_laid_group_1, hlt, hy, e1]; rfl, _, rfl, by simp⟩)
    (fun s hs => by simp [l_prop_laid_group_1]) (0, []) (Nat.le_refl _)
  rw [keyG_fold] at h
  have hw : IntKind.i64.wrap ((n.keys.length : Int) + (n.aggs.length : Int)) = (n.keys.length : Int) + n.aggs.length := w64 (by omega) (by omega)
  have g2 := fun ks : List Int => fun hks : ks.length = n.keys.length => (rounds_fold (base := τ.length + 3) (clr := [5, 6, 7, 8, 17, 18, 19, 20, 21]) (b := l_prop_laid_group_0) n.aggs
    (fun k (s : Bool × Nat × List Int) => ⟨[.ptr 0 0 0 0, .any, .ptr (τ.length + 1) 0 0 0, .bool s.1, .any, .any, .any, .any, .any, .imm n.by' (n.keys.map (.int .i64)), .int .i64 n.keys.length, .int .i64 n.keys.length, .bool false, .any, .imm n.bg (n.aggs.map AggX.a), .int .i64 n.aggs.length, .int .i64 k, .any, .any, .any, .any, .any], laidX bn nodes ep1 m1 ep2 m2 n (.imm ba (intsA a)) .nil0 (.sl (τ.length + 2) s.2.1 0 s.2.2.length) :: (τ ++ [grpO n, .arr 1 s.2.1 (intsA s.2.2)])⟩)
    (fun k s => s.2.2.length ≤ n.keys.length + k) (aggsG a)
    (fun s => (.ext 2, ⟨[.ptr 0 0 0 0, .any, .ptr (τ.length + 1) 0 0 0, .bool s.1, .any, .any, .any, .any, .any, .imm n.by' (n.keys.map (.int .i64)), .int .i64 n.keys.length, .int .i64 n.keys.length, .bool false, .any, .imm n.bg (n.aggs.map AggX.a), .int .i64 n.aggs.length, .int .i64 n.aggs.length, .bool false, .any, .any, .any, .any], laidX bn nodes ep1 m1 ep2 m2 n (.imm ba (intsA a)) .nil0 (.sl (τ.length + 2) s.2.1 0 s.2.2.length) :: (τ ++ [grpO n, .arr 1 s.2.1 (intsA s.2.2)])⟩))
    (fun k g s hk' hy hs => by
      obtain ⟨ok, ep, acc⟩ := s
      simp only at hs
      have hlt : ((k : Int) < (n.aggs.length : Int)) := by omega
      have h5 : acc.length + 1 ≤ most := by unfold most; omega
      have hkd := fun b bk => kind_spec b g.arg bk a (he g (List.mem_of_getElem? hy)) ha
      refine ⟨?_, by simp [aggsG]; omega⟩
      unfold aggsG aggK
      by_cases t1 : g.tag = 1
      · simp only [if_pos t1]
        cases ok
        · simp [l_prop_laid_group_0, hlt, hy, AggX.a, append, h5, wrap_lt hk' hg, roundEnd, freezeObj, hτ, q1, q2, t1]
        · by_cases hx : g.arg = []
          · simp [l_prop_laid_group_0, hlt, hy, AggX.a, append, h5, wrap_lt hk' hg, roundEnd, freezeObj, hτ, q1, q2, t1, hx]
          · have hx1 : ((g.arg.length : Int) == 0) = false := by simp [hx]
            have hx2 : (g.arg.length == 0) = false := by simp [hx]
            simp [l_prop_laid_group_0, hlt, hy, AggX.a, append, h5, wrap_lt hk' hg, roundEnd, freezeObj, hτ, q1, q2, t1, hx1, hx2]
      · simp only [if_neg t1]
        generalize (kindF g.arg a).1 = kk at *
        generalize (kindF g.arg a).2 = no at *
        by_cases t3 : g.tag = 3
        · simp only [t3]
          cases ok
          · simp [l_prop_laid_group_0, hlt, hy, AggX.a, append, h5, wrap_lt hk' hg, roundEnd, freezeObj, hτ, q1, q2, t3, hkd]
          · by_cases hn0 : no = 0
            · by_cases k2 : kk = 2
              · simp [l_prop_laid_group_0, hlt, hy, AggX.a, append, h5, wrap_lt hk' hg, roundEnd, freezeObj, hτ, q1, q2, t3, hkd, hn0, k2]
              · simp [l_prop_laid_group_0, hlt, hy, AggX.a, append, h5, wrap_lt hk' hg, roundEnd, freezeObj, hτ, q1, q2, t3, hkd, hn0, k2, beq_f k2]
            · simp [l_prop_laid_group_0, hlt, hy, AggX.a, append, h5, wrap_lt hk' hg, roundEnd, freezeObj, hτ, q1, q2, t3, hkd, hn0, beq_f hn0]
        · by_cases t45 : g.tag = 4 ∨ g.tag = 5
          · simp only [if_pos t45]
            rcases t45 with t4 | t4 <;> simp only [t4]
            · cases ok
              · simp [l_prop_laid_group_0, hlt, hy, AggX.a, append, h5, wrap_lt hk' hg, roundEnd, freezeObj, hτ, q1, q2, t4, hkd]
              · by_cases hn0 : no = 0
                · simp [l_prop_laid_group_0, hlt, hy, AggX.a, append, h5, wrap_lt hk' hg, roundEnd, freezeObj, hτ, q1, q2, t4, hkd, hn0]
                · simp [l_prop_laid_group_0, hlt, hy, AggX.a, append, h5, wrap_lt hk' hg, roundEnd, freezeObj, hτ, q1, q2, t4, hkd, hn0, beq_f hn0]
            · cases ok
              · simp [l_prop_laid_group_0, hlt, hy, AggX.a, append, h5, wrap_lt hk' hg, roundEnd, freezeObj, hτ, q1, q2, t4, hkd]
              · by_cases hn0 : no = 0
                · simp [l_prop_laid_group_0, hlt, hy, AggX.a, append, h5, wrap_lt hk' hg, roundEnd, freezeObj, hτ, q1, q2, t4, hkd, hn0]
                · simp [l_prop_laid_group_0, hlt, hy, AggX.a, append, h5, wrap_lt hk' hg, roundEnd, freezeObj, hτ, q1, q2, t4, hkd, hn0, beq_f hn0]
          · simp only [if_neg t45]
            have t4 : ¬ g.tag = 4 := fun h => t45 (.inl h)
            have t5 : ¬ g.tag = 5 := fun h => t45 (.inr h)
            cases ok
            · simp [l_prop_laid_group_0, hlt, hy, AggX.a, append, h5, wrap_lt hk' hg, roundEnd, freezeObj, hτ, q1, q2, t1, t3, t4, t5, beq_f t1, beq_f t3, beq_f t4, beq_f t5, hkd]
            · by_cases hn0 : no = 0
              · by_cases l1 : 1 < g.tag
                · by_cases l5 : g.tag ≤ 5
                  · simp [l_prop_laid_group_0, hlt, hy, AggX.a, append, h5, wrap_lt hk' hg, roundEnd, freezeObj, hτ, q1, q2, t1, t3, t4, t5, beq_f t1, beq_f t3, beq_f t4, beq_f t5, bne_t t3, hkd, hn0, l1, l5]
                  · simp [l_prop_laid_group_0, hlt, hy, AggX.a, append, h5, wrap_lt hk' hg, roundEnd, freezeObj, hτ, q1, q2, t1, t3, t4, t5, beq_f t1, beq_f t3, beq_f t4, beq_f t5, bne_t t3, hkd, hn0, l1, l5]
                · simp [l_prop_laid_group_0, hlt, hy, AggX.a, append, h5, wrap_lt hk' hg, roundEnd, freezeObj, hτ, q1, q2, t1, t3, t4, t5, beq_f t1, beq_f t3, beq_f t4, beq_f t5, bne_t t3, hkd, hn0, l1]
              · simp [l_prop_laid_group_0, hlt, hy, AggX.a, append, h5, wrap_lt hk' hg, roundEnd, freezeObj, hτ, q1, q2, t1, t3, t4, t5, beq_f t1, beq_f t3, beq_f t4, beq_f t5, hkd, hn0, beq_f hn0])
    (fun s _ => by simp [l_prop_laid_group_0]) (headOk n, n.keys.length, ks) (by simp [hks])).1
  rw [acall_keep c_prop_laid_group rfl]
  have hh1 : n.keys.length ≤ 3 → n.aggs.length ≤ 12 → headOk n = decide ((0 : Int) < (n.keys.length : Int) + n.aggs.length) := fun c1 c2 => by
    unfold headOk
    rw [decide_eq_true c1, decide_eq_true c2]
    exact decide_eq_decide.2 (by omega)
  have hh2 : ¬ n.aggs.length ≤ 12 → headOk n = false := fun c => by
    unfold headOk
    rw [decide_eq_false c]; simp
  have hh3 : ¬ n.keys.length ≤ 3 → headOk n = false := fun c => by
    unfold headOk
    rw [decide_eq_false c]; simp
  have hH : ∀ R, (n.keys.length ≤ 3 → n.aggs.length ≤ 12 → headOk n = decide ((0 : Int) < (n.keys.length : Int) + n.aggs.length) → R) → (n.keys.length ≤ 3 → ¬ n.aggs.length ≤ 12 → headOk n = false → R) → (¬ n.keys.length ≤ 3 → headOk n = false → R) → R := fun R r1 r2 r3 => by
    by_cases c1 : n.keys.length ≤ 3
    · by_cases c2 : n.aggs.length ≤ 12
      · exact r1 c1 c2 (hh1 c1 c2)
      · exact r2 c1 c2 (hh2 c2)
    · exact r3 c1 (hh3 c1)
  cases hq : keysF a n.keys with
  | none =>
    rw [hq] at h
    obtain ⟨o, h1, s, rfl, h2⟩ := h
    refine ⟨s.st, ?_⟩
    simp at h1
    refine hH _ (fun c1 c2 hh => ?_) (fun c1 c2 hh => ?_) (fun c1 hh => ?_) <;> rw [hh] at h1
    · have c1' : ((n.keys.length : Int) ≤ 3) := by omega
      have c2' : ((n.aggs.length : Int) ≤ 12) := by omega
      simp [f_prop_laid_group, b_prop_laid_group, c1', c2', hw, h1, -results, h2]
    · have c1' : ((n.keys.length : Int) ≤ 3) := by omega
      have c2' : ¬ ((n.aggs.length : Int) ≤ 12) := by omega
      simp [f_prop_laid_group, b_prop_laid_group, c1', c2', hw, h1, -results, h2]
    · have c1' : ¬ ((n.keys.length : Int) ≤ 3) := by omega
      simp [f_prop_laid_group, b_prop_laid_group, c1', hw, h1, -results, h2]
  | some ks =>
    rw [hq] at h
    have h1 := h.2
    have hks := keysF_len hq
    have h2 := g2 ks hks
    rw [aggsG_fold] at h2
    simp at h1 h2
    have hA : aggsOk n a = (headOk n && n.aggs.all fun g => (aggK a g).1) := rfl
    rw [hA]
    rw [hks] at h1 h2
    simp only
    refine hH _ (fun c1 c2 hh => ?_) (fun c1 c2 hh => ?_) (fun c1 hh => ?_) <;> rw [hh] at h1 h2 ⊢
    · have c1' : ((n.keys.length : Int) ≤ 3) := by omega
      have c2' : ((n.aggs.length : Int) ≤ 12) := by omega
      simp [f_prop_laid_group, b_prop_laid_group, c1', c2', hw, h1, h2]
    · have c1' : ((n.keys.length : Int) ≤ 3) := by omega
      have c2' : ¬ ((n.aggs.length : Int) ≤ 12) := by omega
      simp [f_prop_laid_group, b_prop_laid_group, c1', c2', hw, h1, h2]
    · have c1' : ¬ ((n.keys.length : Int) ≤ 3) := by omega
      simp [f_prop_laid_group, b_prop_laid_group, c1', hw, h1, h2]
end Go.AM
end
section

namespace Go.AM
open P
set_option maxHeartbeats 16000000
set_option maxRecDepth 8000
attribute [local simp] condRun_if when_if
def partK (a : List Int) (g : AggX) : Int := if g.tag = 3 then 4 else (aggK a g).2
abbrev curP (a ks : List Int) (n : LNX) (k : Nat) : List Int := ks ++ ((n.aggs.take k).map (partK a) ++ (n.aggs.drop k).map fun g => (aggK a g).2)
theorem curP_next {a ks : List Int} {n : LNX} {k : Nat} {g : AggX} (hy : n.aggs[k]? = some g) :
    curP a ks n (k + 1) = if g.tag = 3 then (curP a ks n k).set (ks.length + k) 4 else curP a ks n k := by
  obtain ⟨hk, he⟩ := List.getElem?_eq_some_iff.1 hy
  unfold curP
  rw [List.drop_eq_getElem_cons hk, he, List.take_succ_eq_append_getElem hk, he]
  by_cases h3 : g.tag = 3
  · rw [if_pos h3, List.set_append_right _ _ (by omega), List.set_append_right _ _ (by simp; omega)]
    simp [partK, h3, Nat.min_eq_left (Nat.le_of_lt hk)]
  · rw [if_neg h3]
    simp [partK, h3]
theorem partial_spec (bn : Bool) (nodes : List LNX) (ep1 m1 ep2 m2 : Nat) (n : LNX) (ba : Bool) (a : List Int) (r : AVal) (τ : Store) (hτ : Fzs τ) (hl : 2 ≤ τ.length) (hk : n.keys.length ≤ most) (hg : n.aggs.length ≤ most) (hkg : n.keys.length + n.aggs.length ≤ most) (he : ∀ g ∈ n.aggs, g.arg.length ≤ most) (ha : a.length ≤ most) :
    match keysF a n.keys with
    | none => ∃ σ', acall code I.prop_laid_partial [.ptr 0 0 0 0] (laidX bn nodes ep1 m1 ep2 m2 n (.imm ba (intsA a)) .nil0 r :: τ) = some (.bool false, σ')
    | some ks => if aggsOk n a = true then acall code I.prop_laid_partial [.ptr 0 0 0 0] (laidX bn nodes ep1 m1 ep2 m2 n (.imm ba (intsA a)) .nil0 r :: τ) =
        some (.bool true, laidX bn nodes ep1 m1 ep2 m2 n (.imm ba (intsA a)) .nil0 (.sl (τ.length + 2) (n.keys.length + n.aggs.length) 0 (n.keys.length + n.aggs.length)) :: (τ ++ [grpO n, .arr 1 (n.keys.length + n.aggs.length) (intsA (ks ++ n.aggs.map (partK a)))]))
      else ∃ σ', acall code I.prop_laid_partial [.ptr 0 0 0 0] (laidX bn nodes ep1 m1 ep2 m2 n (.imm ba (intsA a)) .nil0 r :: τ) = some (.bool false, σ') := by
  have hgr := group_spec bn nodes ep1 m1 ep2 m2 n ba a r τ hτ hl hk hg hkg he ha
  have hkg' : n.keys.length + n.aggs.length ≤ 68719476736 := hkg
  rw [acall_keep c_prop_laid_partial rfl]
  cases hq : keysF a n.keys with
  | none =>
    rw [hq] at hgr
    obtain ⟨σ', hgr⟩ := hgr
    exact ⟨_, by simp [f_prop_laid_partial, b_prop_laid_partial, hgr]; rfl⟩
  | some ks =>
    rw [hq] at hgr
    simp only at hgr ⊢
    cases hok : aggsOk n a with
    | false =>
      rw [hok] at hgr
      simp only [Bool.false_eq_true, if_false]
      exact ⟨_, by simp [f_prop_laid_partial, b_prop_laid_partial, hgr]; rfl⟩
    | true =>
      rw [hok] at hgr
      simp only [if_true]
      have hks := keysF_len hq
      have q1 : 1 < τ.length + 3 := by omega
      have q2 : 2 < τ.length + 3 := by omega
      have hloop := rounds_iter (base := τ.length + 3) (clr := [3, 4, 9, 10]) (b := l_prop_laid_partial_0)
        (fun k => ⟨[.ptr 0 0 0 0, .bool false, .bool true, .any, .any, .bool false, .imm n.bg (n.aggs.map AggX.a), .int .i64 n.aggs.length, .int .i64 k, .any, .any], laidX bn nodes ep1 m1 ep2 m2 n (.imm ba (intsA a)) .nil0 (.sl (τ.length + 2) (n.keys.length + n.aggs.length) 0 (n.keys.length + n.aggs.length)) :: (τ ++ [grpO n, .arr 1 (n.keys.length + n.aggs.length) (intsA (curP a ks n k))])⟩) n.aggs.length
        (.ext 0, ⟨[.ptr 0 0 0 0, .bool false, .bool true, .any, .any, .bool false, .imm n.bg (n.aggs.map AggX.a), .int .i64 n.aggs.length, .int .i64 n.aggs.length, .bool false, .any], laidX bn nodes ep1 m1 ep2 m2 n (.imm ba (intsA a)) .nil0 (.sl (τ.length + 2) (n.keys.length + n.aggs.length) 0 (n.keys.length + n.aggs.length)) :: (τ ++ [grpO n, .arr 1 (n.keys.length + n.aggs.length) (intsA (curP a ks n n.aggs.length))])⟩)
        (fun k hk' => by
          have hlt : ((k : Int) < (n.aggs.length : Int)) := by omega
          have hy : n.aggs[k]? = some n.aggs[k] := List.getElem?_eq_getElem hk'
          have hc := curP_next (a := a) (ks := ks) hy
          have hl3 : (curP a ks n k).length = n.keys.length + n.aggs.length := by
            unfold curP
            simp [hks]; omega
          rw [hc]
          generalize curP a ks n k = X at *
          rw [hks]
          generalize n.aggs[k] = g at *
          have w1 := w64 (n := (n.keys.length : Int) + (k : Int)) (by omega) (by omega)
          have w2 : (0 : Int) ≤ (n.keys.length : Int) + (k : Int) := by omega
          have w3 : ((n.keys.length : Int) + (k : Int)).toNat = n.keys.length + k := by omega
          have w4 : X[n.keys.length + k]? = some (X.getD (n.keys.length + k) 0) := by
            have : n.keys.length + k < X.length := by omega
            simp [List.getD_eq_getElem?_getD, this]
          generalize X.getD (n.keys.length + k) 0 = w at *
          by_cases h3 : g.tag = 3
          · rw [if_pos h3]
            simp [l_prop_laid_partial_0, hlt, hy, AggX.a, h3, w1, w2, w3, w4, wrap_lt hk' hg, roundEnd, freezeObj, hτ, q1, q2]
            simp [hk', w1, w2, w3, w4, wrap_lt hk' hg, roundEnd, freezeObj, hτ, q1, q2]
          · rw [if_neg h3]
            simp [l_prop_laid_partial_0, hlt, hy, AggX.a, h3, beq_f h3, wrap_lt hk' hg, roundEnd, freezeObj, hτ, q1, q2])
        (by simp [l_prop_laid_partial_0])
      have e0 : curP a ks n 0 = ks ++ n.aggs.map fun g => (aggK a g).2 := by simp [curP]
      have e1 : curP a ks n n.aggs.length = ks ++ n.aggs.map (partK a) := by simp [curP]
      rw [e0, e1] at hloop
      simp at hloop
      simp at hgr
      simp [f_prop_laid_partial, b_prop_laid_partial, hgr, hloop]
def finKeys (a : List Int) : Nat → List Int → Bool
  | _, [] => true
  | i, x :: r => (x == (i : Int) && a.getD i 0 != 4) && finKeys a (i + 1) r
def finAgg (o : Int) (g : AggX) : Bool := g.arg.length == 0 && (if g.tag = 1 ∨ g.tag = 2 then o == 2 else if g.tag = 3 then o == 4 else if g.tag = 4 ∨ g.tag = 5 then o != 4 else false)
def finAggs (a : List Int) : Nat → List AggX → Bool
  | _, [] => true
  | i, g :: r => finAgg (a.getD i 0) g && finAggs a (i + 1) r
def finSet : Nat → List AggX → List Int → List Int
  | _, [], l => l
  | i, g :: r, l => finSet (i + 1) r (if g.tag = 3 then l.set i 2 else l)
def finHead (n m : LNX) (a : List Int) : Bool := m.op == 9 && decide (n.keys.length ≤ 3) && decide (n.aggs.length ≤ 12) && n.keys.length + n.aggs.length == a.length
theorem finKeys_fold (a : List Int) : ∀ (l : List Int) (k : Nat) (ok : Bool), foldL (ρ := Empty) (fun k x ok => .inl (ok && (x == (k : Int) && a.getD k 0 != 4))) l k ok = .inl (ok && finKeys a k l)
  | [], k, ok => by simp [foldL, finKeys]
  | x :: l, k, ok => by
    simp only [foldL]
    rw [finKeys_fold a l (k + 1)]
    simp [finKeys, Bool.and_assoc]
def finG (a : List Int) (K k : Nat) (g : AggX) (s : Bool × List Int) : Bool × List Int ⊕ Empty := .inl (s.1 && finAgg (a.getD (K + k) 0) g, if g.tag = 3 then s.2.set (K + k) 2 else s.2)
theorem finG_fold (a : List Int) (K : Nat) : ∀ (l : List AggX) (k : Nat) (ok : Bool) (x : List Int), foldL (finG a K) l k (ok, x) = .inl (ok && finAggs a (K + k) l, finSet (K + k) l x)
  | [], k, ok, x => by simp [foldL, finAggs, finSet]
  | g :: l, k, ok, x => by
    simp only [foldL, finG]
    rw [finG_fold a K l (k + 1)]
    simp [finAggs, finSet, Bool.and_assoc, Nat.add_assoc]
theorem finSet_len : ∀ (l : List AggX) (i : Nat) (x : List Int), (finSet i l x).length = x.length
  | [], i, x => rfl
  | g :: l, i, x => by
    rw [finSet, finSet_len l]
    split <;> simp
theorem final_bad (bn : Bool) (nodes : List LNX) (ep1 m1 ep2 m2 : Nat) (n m : LNX) (ba : Bool) (a : List Int) (r : AVal) (τ : Store) (hA : 0 ≤ n.l) (hm : nodes[n.l.toNat]? = some m) (hkg : n.keys.length + n.aggs.length ≤ most) (hh : finHead n m a = false) :
    ∃ σ', acall code I.prop_laid_final [.ptr 0 0 0 0] (laidX bn nodes ep1 m1 ep2 m2 n (.imm ba (intsA a)) .nil0 r :: τ) = some (.bool false, σ') := by
  rw [acall_keep c_prop_laid_final rfl]
  have hkg' : n.keys.length + n.aggs.length ≤ 68719476736 := hkg
  have w1 := w64 (n := (n.keys.length : Int) + (n.aggs.length : Int)) (by omega) (by omega)
  unfold finHead at hh
  by_cases c1 : m.op = 9
  · by_cases c2 : n.keys.length ≤ 3
    · have c2' : ((n.keys.length : Int) ≤ 3) := by omega
      by_cases c3 : n.aggs.length ≤ 12
      · have c3' : ((n.aggs.length : Int) ≤ 12) := by omega
        have c4 : n.keys.length + n.aggs.length ≠ a.length := by
          intro h; simp [c1, c2, c3, h] at hh
        have c4' : ((n.keys.length : Int) + n.aggs.length == (a.length : Int)) = false := by simp; omega
        exact ⟨_, by simp [f_prop_laid_final, b_prop_laid_final, hA, hm, LNX.a, c1, c2', c3', w1, c4']; rfl⟩
      · have c3' : ¬ ((n.aggs.length : Int) ≤ 12) := by omega
        exact ⟨_, by simp [f_prop_laid_final, b_prop_laid_final, hA, hm, LNX.a, c1, c2', c3']; rfl⟩
    · have c2' : ¬ ((n.keys.length : Int) ≤ 3) := by omega
      exact ⟨_, by simp [f_prop_laid_final, b_prop_laid_final, hA, hm, LNX.a, c1, c2']; rfl⟩
  · exact ⟨_, by simp [f_prop_laid_final, b_prop_laid_final, hA, hm, LNX.a, c1, beq_f c1]; rfl⟩
theorem final_spec (bn : Bool) (nodes : List LNX) (ep1 m1 ep2 m2 : Nat) (n m : LNX) (ba : Bool) (a : List Int) (r : AVal) (τ : Store) (hτ : Fzs τ) (hl : 2 ≤ τ.length) (hA : 0 ≤ n.l) (hm : nodes[n.l.toNat]? = some m) (hkg : n.keys.length + n.aggs.length ≤ most) (ha : a.length ≤ most) (hh : finHead n m a = true) :
    acall code I.prop_laid_final [.ptr 0 0 0 0] (laidX bn nodes ep1 m1 ep2 m2 n (.imm ba (intsA a)) .nil0 r :: τ) =
      some (.bool (finKeys a 0 n.keys && finAggs a n.keys.length n.aggs), laidX bn nodes ep1 m1 ep2 m2 n (.imm ba (intsA a)) .nil0 (.sl (τ.length + 2) 0 0 a.length) :: (τ ++ [grpO n, .arr 1 0 (intsA (finSet n.keys.length n.aggs a))])) := by
  have hkg' : n.keys.length + n.aggs.length ≤ 68719476736 := hkg
  have w1 := w64 (n := (n.keys.length : Int) + (n.aggs.length : Int)) (by omega) (by omega)
  unfold finHead at hh
  simp only [Bool.and_eq_true, beq_iff_eq, decide_eq_true_eq] at hh
  obtain ⟨⟨⟨c1, c2⟩, c3⟩, c4⟩ := hh
  have c2' : ((n.keys.length : Int) ≤ 3) := by omega
  have c3' : ((n.aggs.length : Int) ≤ 12) := by omega
  have c4' : ((n.keys.length : Int) + n.aggs.length == (a.length : Int)) = true := by simp; omega
  have hk : n.keys.length ≤ most := by unfold most; omega
  have hg : n.aggs.length ≤ most := by unfold most; omega
  have q1 : 1 < τ.length + 3 := by omega
  have q2 : 2 < τ.length + 3 := by omega
  have h1 := rounds_list (base := τ.length + 3) (clr := [5, 6, 14]) (b := l_prop_laid_final_1) n.keys
    (fun k (ok : Bool) => ⟨[.ptr 0 0 0 0, .bool false, .ptr (τ.length + 1) 0 0 0, .int .i64 n.keys.length, .bool ok, .any, .any, .any, .any, .any, .bool false, .imm n.by' (n.keys.map (.int .i64)), .int .i64 n.keys.length, .int .i64 k, .any, .any, .any, .any, .any, .any, .any, .any, .any], laidX bn nodes ep1 m1 ep2 m2 n (.imm ba (intsA a)) .nil0 (.sl (τ.length + 2) 0 0 a.length) :: (τ ++ [grpO n, .arr 1 0 (intsA a)])⟩)
    (fun _ _ => True) (fun k x ok => .inl (ok && (x == (k : Int) && a.getD k 0 != 4)))
    (fun ok => (.ext 0, ⟨[.ptr 0 0 0 0, .bool false, .ptr (τ.length + 1) 0 0 0, .int .i64 n.keys.length, .bool ok, .any, .any, .any, .any, .any, .bool false, .imm n.by' (n.keys.map (.int .i64)), .int .i64 n.keys.length, .int .i64 n.keys.length, .bool false, .any, .any, .any, .any, .any, .any, .any, .any], laidX bn nodes ep1 m1 ep2 m2 n (.imm ba (intsA a)) .nil0 (.sl (τ.length + 2) 0 0 a.length) :: (τ ++ [grpO n, .arr 1 0 (intsA a)])⟩))
    (fun (r : Empty) _ => r.elim)
    (fun k x ok hk' hy _ => by
      refine ⟨?_, trivial⟩
      have hlt : ((k : Int) < (n.keys.length : Int)) := by omega
      have hof : a[k]? = some (a.getD k 0) := by
        have : k < a.length := by omega
        simp [List.getD_eq_getElem?_getD, this]
      generalize a.getD k 0 = o at *
      cases ok
      · simp [l_prop_laid_final_1, hlt, hy, wrap_lt hk' hk, roundEnd]
      · by_cases h0 : x = (k : Int)
        · simp [l_prop_laid_final_1, hlt, hy, h0, hof, wrap_lt hk' hk, roundEnd]
        · simp [l_prop_laid_final_1, hlt, hy, h0, beq_f h0, wrap_lt hk' hk, roundEnd])
    (fun s _ => by simp [l_prop_laid_final_1]) true trivial
  rw [finKeys_fold] at h1
  have h1 := h1.2
  rw [Bool.true_and] at h1
  generalize finKeys a 0 n.keys = ok1 at *
  have h2 := rounds_list (base := τ.length + 3) (clr := [7, 8, 9, 18, 19, 20, 21, 22]) (b := l_prop_laid_final_0) n.aggs
    (fun k (s : Bool × List Int) => ⟨[.ptr 0 0 0 0, .bool false, .ptr (τ.length + 1) 0 0 0, .int .i64 n.keys.length, .bool s.1, .any, .any, .any, .any, .any, .bool false, .imm n.by' (n.keys.map (.int .i64)), .int .i64 n.keys.length, .int .i64 n.keys.length, .bool false, .imm n.bg (n.aggs.map AggX.a), .int .i64 n.aggs.length, .int .i64 k, .any, .any, .any, .any, .any], laidX bn nodes ep1 m1 ep2 m2 n (.imm ba (intsA a)) .nil0 (.sl (τ.length + 2) 0 0 a.length) :: (τ ++ [grpO n, .arr 1 0 (intsA s.2)])⟩)
    (fun _ s => s.2.length = a.length) (finG a n.keys.length)
    (fun s => (.ext 2, ⟨[.ptr 0 0 0 0, .bool false, .ptr (τ.length + 1) 0 0 0, .int .i64 n.keys.length, .bool s.1, .any, .any, .any, .any, .any, .bool false, .imm n.by' (n.keys.map (.int .i64)), .int .i64 n.keys.length, .int .i64 n.keys.length, .bool false, .imm n.bg (n.aggs.map AggX.a), .int .i64 n.aggs.length, .int .i64 n.aggs.length, .bool false, .any, .any, .any, .any], laidX bn nodes ep1 m1 ep2 m2 n (.imm ba (intsA a)) .nil0 (.sl (τ.length + 2) 0 0 a.length) :: (τ ++ [grpO n, .arr 1 0 (intsA s.2)])⟩))
    (fun (r : Empty) _ => r.elim)
    (fun k g s hk' hy hs => by
      obtain ⟨ok, X⟩ := s
      simp only at hs
      unfold finG
      refine ⟨?_, by simp only; split <;> simp [hs]⟩
      have hlt : ((k : Int) < (n.aggs.length : Int)) := by omega
      have hof : a[n.keys.length + k]? = some (a.getD (n.keys.length + k) 0) := by
        have : n.keys.length + k < a.length := by omega
        simp [List.getD_eq_getElem?_getD, this]
      have w1 := w64 (n := (n.keys.length : Int) + (k : Int)) (by omega) (by omega)
      have w2 : (0 : Int) ≤ (n.keys.length : Int) + (k : Int) := by omega
      have w3 : ((n.keys.length : Int) + (k : Int)).toNat = n.keys.length + k := by omega
      have w4 : X[n.keys.length + k]? = some (X.getD (n.keys.length + k) 0) := by
        have : n.keys.length + k < X.length := by omega
        simp [List.getD_eq_getElem?_getD, this]
      have w5 : n.keys.length + k < a.length := by omega
      generalize X.getD (n.keys.length + k) 0 = w at *
      unfold finAgg
      generalize a.getD (n.keys.length + k) 0 = o at *
      have hx0 : g.arg.length = 0 ∨ (((g.arg.length : Int) == 0) = false ∧ (g.arg.length == 0) = false) := by
        by_cases h : g.arg.length = 0
        · exact .inl h
        · exact .inr ⟨by simp; intro h'; exact h (by rw [h']; rfl), by simp; intro h'; exact h (by rw [h']; rfl)⟩
      by_cases t1 : g.tag = 1
      · simp only [t1]
        cases ok
        · simp [l_prop_laid_final_0, hlt, hy, AggX.a, hof, w1, w2, w3, w4, wrap_lt hk' hg, roundEnd, freezeObj, hτ, q1, q2, t1]
        · rcases hx0 with h0 | ⟨h0, h0'⟩
          · simp [l_prop_laid_final_0, hlt, hy, AggX.a, hof, w1, w2, w3, w4, wrap_lt hk' hg, roundEnd, freezeObj, hτ, q1, q2, t1, h0]
          · simp [l_prop_laid_final_0, hlt, hy, AggX.a, hof, w1, w2, w3, w4, wrap_lt hk' hg, roundEnd, freezeObj, hτ, q1, q2, t1, h0, h0']
      · by_cases t2 : g.tag = 2
        · simp only [t2]
          cases ok
          · simp [l_prop_laid_final_0, hlt, hy, AggX.a, hof, w1, w2, w3, w4, wrap_lt hk' hg, roundEnd, freezeObj, hτ, q1, q2, t2]
          · rcases hx0 with h0 | ⟨h0, h0'⟩
            · simp [l_prop_laid_final_0, hlt, hy, AggX.a, hof, w1, w2, w3, w4, wrap_lt hk' hg, roundEnd, freezeObj, hτ, q1, q2, t2, h0]
            · simp [l_prop_laid_final_0, hlt, hy, AggX.a, hof, w1, w2, w3, w4, wrap_lt hk' hg, roundEnd, freezeObj, hτ, q1, q2, t2, h0, h0']
        · by_cases t3 : g.tag = 3
          · simp only [t3]
            cases ok
            · simp [l_prop_laid_final_0, hlt, hy, AggX.a, hof, w1, w2, w3, w4, wrap_lt hk' hg, roundEnd, freezeObj, hτ, q1, q2, t3]
              simp [w5, hof, w1, w2, w3, w4, wrap_lt hk' hg, roundEnd, freezeObj, hτ, q1, q2]
            · rcases hx0 with h0 | ⟨h0, h0'⟩
              · simp [l_prop_laid_final_0, hlt, hy, AggX.a, hof, w1, w2, w3, w4, wrap_lt hk' hg, roundEnd, freezeObj, hτ, q1, q2, t3, h0]
                simp [w5, hof, w1, w2, w3, w4, wrap_lt hk' hg, roundEnd, freezeObj, hτ, q1, q2, h0]
              · simp [l_prop_laid_final_0, hlt, hy, AggX.a, hof, w1, w2, w3, w4, wrap_lt hk' hg, roundEnd, freezeObj, hτ, q1, q2, t3, h0, h0']
                simp [w5, hof, w1, w2, w3, w4, wrap_lt hk' hg, roundEnd, freezeObj, hτ, q1, q2, h0, h0']
          · by_cases t4 : g.tag = 4
            · simp only [t4]
              cases ok
              · simp [l_prop_laid_final_0, hlt, hy, AggX.a, hof, w1, w2, w3, w4, wrap_lt hk' hg, roundEnd, freezeObj, hτ, q1, q2, t4]
              · rcases hx0 with h0 | ⟨h0, h0'⟩
                · simp [l_prop_laid_final_0, hlt, hy, AggX.a, hof, w1, w2, w3, w4, wrap_lt hk' hg, roundEnd, freezeObj, hτ, q1, q2, t4, h0]
                · simp [l_prop_laid_final_0, hlt, hy, AggX.a, hof, w1, w2, w3, w4, wrap_lt hk' hg, roundEnd, freezeObj, hτ, q1, q2, t4, h0, h0']
            · by_cases t5 : g.tag = 5
              · simp only [t5]
                cases ok
                · simp [l_prop_laid_final_0, hlt, hy, AggX.a, hof, w1, w2, w3, w4, wrap_lt hk' hg, roundEnd, freezeObj, hτ, q1, q2, t5]
                · rcases hx0 with h0 | ⟨h0, h0'⟩
                  · simp [l_prop_laid_final_0, hlt, hy, AggX.a, hof, w1, w2, w3, w4, wrap_lt hk' hg, roundEnd, freezeObj, hτ, q1, q2, t5, h0]
                  · simp [l_prop_laid_final_0, hlt, hy, AggX.a, hof, w1, w2, w3, w4, wrap_lt hk' hg, roundEnd, freezeObj, hτ, q1, q2, t5, h0, h0']
              · cases ok
                · simp [l_prop_laid_final_0, hlt, hy, AggX.a, hof, w1, w2, w3, w4, wrap_lt hk' hg, roundEnd, freezeObj, hτ, q1, q2, t1, t2, t3, t4, t5, beq_f t1, beq_f t2, beq_f t3, beq_f t4, beq_f t5]
                · rcases hx0 with h0 | ⟨h0, h0'⟩
                  · simp [l_prop_laid_final_0, hlt, hy, AggX.a, hof, w1, w2, w3, w4, wrap_lt hk' hg, roundEnd, freezeObj, hτ, q1, q2, t1, t2, t3, t4, t5, beq_f t1, beq_f t2, beq_f t3, beq_f t4, beq_f t5, h0]
                  · simp [l_prop_laid_final_0, hlt, hy, AggX.a, hof, w1, w2, w3, w4, wrap_lt hk' hg, roundEnd, freezeObj, hτ, q1, q2, t1, t2, t3, t4, t5, beq_f t1, beq_f t2, beq_f t3, beq_f t4, beq_f t5, h0, h0'])
    (fun s _ => by simp [l_prop_laid_final_0]) (ok1, a) rfl
  rw [finG_fold] at h2
  have h2 := h2.2
  rw [Nat.add_zero] at h2
  have hcl := aClone_int_int (enc := .int .i64) ba a ha
  rw [acall_keep c_prop_laid_final rfl]
  simp at h1 h2
  simp [f_prop_laid_final, b_prop_laid_final, hA, hm, LNX.a, c1, c2', c3', w1, c4', hcl, h1, h2]
end Go.AM
end
