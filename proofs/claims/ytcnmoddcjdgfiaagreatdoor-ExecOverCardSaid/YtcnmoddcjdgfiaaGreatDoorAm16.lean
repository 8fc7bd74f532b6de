/- A fragment of one node. -/
import Derived.Test.YtcnmoddcjdgfiaaGreatDoorAm15
section
namespace Go.AM
open P
set_option maxHeartbeats 4000000
set_option maxRecDepth 8000
theorem does_spec : pcall I.exec_does [] = some (.imap false [(.int .i64 1, .fn 98 [] []), (.int .i64 9, .fn 98 [] []), (.int .i64 2, .fn 99 [] []), (.int .i64 3, .fn 100 [] []), (.int .i64 5, .fn 101 [] []), (.int .i64 4, .fn 102 [] []), (.int .i64 10, .fn 103 [] []), (.int .i64 11, .fn 104 [] []), (.int .i64 6, .fn 105 [] []), (.int .i64 7, .fn 106 [] []), (.int .i64 8, .fn 107 [] [])]) := by
  exact pcall_from (n := 20) (σ := []) (by kernel_rfl)
theorem Run1_ok {ps qs : List (List AVal)} (hp : ps.length ≤ 200) (hpr : ∀ r ∈ ps, IsRow false r) :
    ∃ rs' : List (List AVal), rs'.length = ps.length ∧ pcall I.exec_Run [.agg [.imm true [scanN], .int .i64 0, .int .i64 0, E0], tabs ps, tabs qs] = some (.tup [.imm false (rowsV rs'), .int .i64 0]) := by
  obtain ⟨rs', e1, e2, e3⟩ := given_scan (qs := qs) (x0 := .imm true [scanN]) (x1 := .int .i64 0) (x2 := .int .i64 0) (x3 := E0) (x6 := K1) (x7 := .imm true []) (by simp) (by simp) (by simp) (by simp) (by simp) (by simp) (by omega) hpr
  refine ⟨rs', e1, ?_⟩
  rw [pcall_eq c_exec_Run rfl]
  have hk := pcall_from kinds1
  have hh := handed_scan_p (qs := qs) (by omega) hpr
  have h4 : ¬ ((200 : Int) < (rs'.length : Int)) := by omega
  simp [f_exec_Run, b_exec_Run, l_exec_Run_1, l_exec_Run_0, hk, hh, does_spec, e3, h4, rounds_go, roundEnd, freezeObj, append, most, isKey, lookup, keyIs, IntKind.wrap, IntKind.bits, IntKind.signed]
theorem Run1_over {ps qs : List (List AVal)} (hp : 200 < ps.length) (hq : ps.length ≤ 8000) (hpr : ∀ r ∈ ps, IsRow false r) :
    pcall I.exec_Run [.agg [.imm true [scanN], .int .i64 0, .int .i64 0, E0], tabs ps, tabs qs] = some (.tup [E0, .int .i64 300]) := by
  obtain ⟨rs', e1, e2, e3⟩ := given_scan (qs := qs) (x0 := .imm true [scanN]) (x1 := .int .i64 0) (x2 := .int .i64 0) (x3 := E0) (x6 := K1) (x7 := .imm true []) (by simp) (by simp) (by simp) (by simp) (by simp) (by simp) (by omega) hpr
  rw [pcall_eq c_exec_Run rfl]
  have hk := pcall_from kinds1
  have hh := handed_scan_p (qs := qs) (by omega) hpr
  have h4 : ((200 : Int) < (rs'.length : Int)) := by omega
  simp [f_exec_Run, b_exec_Run, l_exec_Run_1, l_exec_Run_0, hk, hh, does_spec, e3, h4, rounds_go, roundEnd, freezeObj, append, most, isKey, lookup, keyIs, IntKind.wrap, IntKind.bits, IntKind.signed]
end Go.AM
end
section

namespace Go.AM
open P
set_option maxHeartbeats 4000000
set_option maxRecDepth 8000
abbrev envJ (R A B : AVal) : List AVal := [.cptr true R 0, joinN, .ptr 0 0 0 0, .ptr 1 0 0 0, .ptr 2 0 0 0, A, B, .ptr 3 0 0 0, .ptr 5 0 0 0, .any, .any, .any, .any, .any, .any, .fn 279 [] [.ptr 7 0 0 0, .ptr 8 0 0 0], .any, .any, .any, .any, .any, .any, .any, .any, .any, .any]
abbrev stJ (A B : AVal) (F out : List AVal) (o : Obj) : Store := [.arr 12 0 [joinN], .arr 1 0 [.nil0], .arr 1 0 [.int .i64 0], .arr 1 0 [.sl 6 out.length 0 out.length], .arr 1 0 F, .arr 1 0 [.sl 4 0 0 F.length], .arr 1 out.length out, .arr 1 0 [A], .arr 1 0 [B], o]
theorem round_join {R A B : AVal} {F out r : List AVal} {i : Nat} (hi : i < F.length) (hF : ∀ x ∈ F, ncells x = 1 ∧ isAgg x = false) (ho : out.length + 1 ≤ most) (h : pcall 192 [.agg [yesN], .imm false r] = some (.tup [.bool true, .bool true])) :
    acall code 193 (.frs 9 [] :: (envJ R A B ++ [.int .i64 i, .imm false r])) (stJ A B F out (.pend false none)) = some (.bool true, stJ A B (F.set i (.bool true)) (out ++ [.imm false r]) (.pend false none)) := by
  rw [acall_round good (g := r_exec_run_join_0) rfl]
  have h1 := hF F[i] (List.getElem_mem hi)
  simp [r_exec_run_join_0, q_exec_run_join_0p, q_exec_run_join_0, putEnv, runRound, roundOver, h, hi, h1, append, ho]
end Go.AM
end
section

namespace Go.AM
open P
set_option maxHeartbeats 4000000
set_option maxRecDepth 8000
theorem rounds_rel {base : Nat} {clr : List Nat} {b : ACode} {Inv : Nat → St → Prop} {n : Nat} {Q : Ex × St → Prop}
    (step : ∀ k s, k < n → Inv k s → ∃ s', Inv (k + 1) s' ∧ thenLoop base clr b (run code b s) = rounds code base clr b s')
    (last : ∀ s, Inv n s → ∃ r, Q r ∧ thenLoop base clr b (run code b s) = some r) (s : St) (h : Inv 0 s) : ∃ r, Q r ∧ rounds code base clr b s = some r := by
  have key : ∀ m k s, k + m = n → Inv k s → ∃ r, Q r ∧ rounds code base clr b s = some r := by
    intro m
    induction m with
    | zero =>
      intro k s hk h
      obtain rfl : k = n := by omega
      rw [rounds_eq good]
      exact last s h
    | succ m ih =>
      intro k s hk h
      obtain ⟨s', h1, h2⟩ := step k s (by omega) h
      obtain ⟨r, h3, h4⟩ := ih (k + 1) s' (by omega) h1
      exact ⟨r, h3, (rounds_go base clr b s).trans (h2.trans h4)⟩
  exact key n 0 s (by omega) h
@[simp] theorem V_yld (l site : Nat) (env args : List AVal) (σ : Store) : acallV code (.yld l site env) args σ = if pendAt σ l then acall code site (.frs l [] :: env ++ args) σ else none := rfl
theorem concat_rows {x y : List AVal} (hx : IsRow false x) (hy : IsRow false y) : pcall 168 [.imm true [.imm false x, .imm false y]] = some (.imm false (x ++ y)) ∧ IsRow true (x ++ y) := by
  obtain ⟨p, _, rfl⟩ := hx
  obtain ⟨q, _, rfl⟩ := hy
  exact ⟨pcall_from (concat2 p.1 q.1), (p.1, q.1), fun h => (by cases h), rfl⟩
theorem holds_row {r : List AVal} (h : IsRow true r) : pcall 192 [.agg [yesN], .imm false r] = some (.tup [.bool true, .bool true]) := by
  obtain ⟨p, _, rfl⟩ := h
  exact pcall_from (holds2 p.1 p.2)
def FOk (a : Nat) (F : List AVal) : Prop := F.length = a ∧ ∀ x ∈ F, ncells x = 1 ∧ isAgg x = false
theorem FOk.set {a : Nat} {F : List AVal} (h : FOk a F) (i : Nat) : FOk a (F.set i (.bool true)) :=
  ⟨by rw [List.length_set]; exact h.1, fun x hx => (List.mem_or_eq_of_mem_set hx).elim (h.2 x) fun e => by rw [e]; exact ⟨rfl, rfl⟩⟩
theorem rowsV_snoc (os : List (List AVal)) (r : List AVal) : rowsV os ++ [.imm false r] = rowsV (os ++ [r]) := by simp [rowsV]
def pend0 : Obj := .pend false none
theorem inner_pairs {R A : AVal} {es0 bs : List (List AVal)} (hA : ∀ r ∈ es0, IsRow false r) (hB : ∀ r ∈ bs, IsRow false r) (hab : es0.length * bs.length ≤ 8000) {i : Nat} (hi : i < es0.length)
    {F : List AVal} {os : List (List AVal)} (hF : FOk es0.length F) (ho : os.length = i * bs.length) (hos : ∀ r ∈ os, IsRow true r) (e9 : AVal) :
    ∃ F' os', FOk es0.length F' ∧ os'.length = (i + 1) * bs.length ∧ (∀ r ∈ os', IsRow true r) ∧
      rounds code 10 [5, 13, 14] l_exec_pairs_1_0 ⟨[.yld 9 193 (envJ R A (.imm false (rowsV bs))), .ptr 7 0 0 0, .ptr 8 0 0 0, .int .i64 i, .imm false es0[i], .any, .imm false (rowsV es0), .int .i64 es0.length, .int .i64 i, e9, .imm false (rowsV bs), .int .i64 bs.length, .int .i64 0, .any, .any], stJ A (.imm false (rowsV bs)) F (rowsV os) (.pend false none)⟩ =
        some (.ext 2, ⟨[.yld 9 193 (envJ R A (.imm false (rowsV bs))), .ptr 7 0 0 0, .ptr 8 0 0 0, .int .i64 i, .imm false es0[i], .any, .imm false (rowsV es0), .int .i64 es0.length, .int .i64 i, e9, .imm false (rowsV bs), .int .i64 bs.length, .int .i64 bs.length, .bool false, .any], stJ A (.imm false (rowsV bs)) F' (rowsV os') (.pend false none)⟩) := by
  have key := rounds_rel (base := 10) (clr := [5, 13, 14]) (b := l_exec_pairs_1_0) (n := bs.length)
    (Inv := fun k s => ∃ F os, FOk es0.length F ∧ os.length = i * bs.length + k ∧ (∀ r ∈ os, IsRow true r) ∧ s = ⟨[.yld 9 193 (envJ R A (.imm false (rowsV bs))), .ptr 7 0 0 0, .ptr 8 0 0 0, .int .i64 i, .imm false es0[i], .any, .imm false (rowsV es0), .int .i64 es0.length, .int .i64 i, e9, .imm false (rowsV bs), .int .i64 bs.length, .int .i64 k, .any, .any], stJ A (.imm false (rowsV bs)) F (rowsV os) (.pend false none)⟩)
    (Q := fun r => ∃ F os, FOk es0.length F ∧ os.length = i * bs.length + bs.length ∧ (∀ r ∈ os, IsRow true r) ∧ r = (.ext 2, ⟨[.yld 9 193 (envJ R A (.imm false (rowsV bs))), .ptr 7 0 0 0, .ptr 8 0 0 0, .int .i64 i, .imm false es0[i], .any, .imm false (rowsV es0), .int .i64 es0.length, .int .i64 i, e9, .imm false (rowsV bs), .int .i64 bs.length, .int .i64 bs.length, .bool false, .any], stJ A (.imm false (rowsV bs)) F (rowsV os) (.pend false none)⟩))
    (fun k s hk ⟨F, os, h1, h2, h3, e⟩ => by
      have h4 := rowsV_get hk
      obtain ⟨h5, h6⟩ := concat_rows (hA es0[i] (List.getElem_mem hi)) (hB bs[k] (List.getElem_mem hk))
      have h7 : os.length + 1 ≤ most := by
        have : (i + 1) * bs.length ≤ es0.length * bs.length := Nat.mul_le_mul_right _ hi
        rw [Nat.add_mul] at this
        unfold most; omega
      have h8 := round_join (R := R) (A := A) (B := .imm false (rowsV bs)) (F := F) (out := rowsV os) (i := i) (by rw [h1.1]; exact hi) h1.2 (by simpa using h7) (holds_row h6)
      have hlt : ((k : Int) < (bs.length : Int)) := by omega
      refine ⟨_, ⟨F.set i (.bool true), os ++ [es0[i] ++ bs[k]], h1.set i, by simp [h2]; omega, fun r hr => (List.mem_append.1 hr).elim (h3 r) fun h => (List.mem_singleton.1 h) ▸ h6, rfl⟩, ?_⟩
      rw [← rowsV_snoc]
      subst e
      simp at h8
      simp [l_exec_pairs_1_0, h4, hlt, h5, h8, pendAt, roundEnd_same, wrap_lt hk (show bs.length ≤ most by unfold most; have := Nat.mul_le_mul_right bs.length (show 1 ≤ es0.length by omega); omega)])
    (fun s ⟨F, os, h1, h2, h3, e⟩ => by
      subst e
      exact ⟨_, ⟨F, os, h1, h2, h3, rfl⟩, by simp [l_exec_pairs_1_0]⟩)
    _ ⟨F, os, hF, by omega, hos, rfl⟩
  obtain ⟨r, ⟨F', os', h1, h2, h3, rfl⟩, h4⟩ := key
  exact ⟨F', os', h1, by rw [h2, Nat.add_mul, Nat.one_mul], h3, h4⟩
theorem outer_pairs {R : AVal} {es0 bs : List (List AVal)} (hA : ∀ r ∈ es0, IsRow false r) (hB : ∀ r ∈ bs, IsRow false r) (hab : es0.length * bs.length ≤ 8000) (ha : es0.length ≤ 8000) (hb : bs.length ≤ 8000) {F : List AVal} (hF : FOk es0.length F) :
    ∃ F' os', FOk es0.length F' ∧ os'.length = es0.length * bs.length ∧ (∀ r ∈ os', IsRow true r) ∧
      acall code 279 [.yld 9 193 (envJ R (.imm false (rowsV es0)) (.imm false (rowsV bs))), .ptr 7 0 0 0, .ptr 8 0 0 0] (stJ (.imm false (rowsV es0)) (.imm false (rowsV bs)) F (rowsV []) (.pend false none)) =
        some (.tup [], stJ (.imm false (rowsV es0)) (.imm false (rowsV bs)) F' (rowsV os') (.pend false none)) := by
  have key := rounds_rel (base := 10) (clr := [3, 4, 5, 9, 10, 11, 12, 13, 14]) (b := l_exec_pairs_1_1) (n := es0.length)
    (Inv := fun k s => ∃ F os, FOk es0.length F ∧ os.length = k * bs.length ∧ (∀ r ∈ os, IsRow true r) ∧ s = ⟨[.yld 9 193 (envJ R (.imm false (rowsV es0)) (.imm false (rowsV bs))), .ptr 7 0 0 0, .ptr 8 0 0 0, .any, .any, .any, .imm false (rowsV es0), .int .i64 es0.length, .int .i64 k, .any, .any, .any, .any, .any, .any], stJ (.imm false (rowsV es0)) (.imm false (rowsV bs)) F (rowsV os) (.pend false none)⟩)
    (Q := fun r => ∃ F os, FOk es0.length F ∧ os.length = es0.length * bs.length ∧ (∀ r ∈ os, IsRow true r) ∧ r = (.ext 0, ⟨[.yld 9 193 (envJ R (.imm false (rowsV es0)) (.imm false (rowsV bs))), .ptr 7 0 0 0, .ptr 8 0 0 0, .any, .any, .any, .imm false (rowsV es0), .int .i64 es0.length, .int .i64 es0.length, .bool false, .any, .any, .any, .any, .any], stJ (.imm false (rowsV es0)) (.imm false (rowsV bs)) F (rowsV os) (.pend false none)⟩))
    (fun k s hk ⟨F, os, h1, h2, h3, e⟩ => by
      have h4 := rowsV_get hk
      obtain ⟨F', os', g1, g2, g3, g4⟩ := inner_pairs (R := R) (A := .imm false (rowsV es0)) hA hB hab hk h1 h2 h3 (.bool true)
      have hlt : ((k : Int) < (es0.length : Int)) := by omega
      refine ⟨_, ⟨F', os', g1, g2, g3, rfl⟩, ?_⟩
      subst e
      simp [l_exec_pairs_1_1, h4, hlt, g4, roundEnd_same, wrap_lt hk (show es0.length ≤ most by unfold most; omega)])
    (fun s ⟨F, os, h1, h2, h3, e⟩ => by
      subst e
      exact ⟨_, ⟨F, os, h1, h2, h3, rfl⟩, by simp [l_exec_pairs_1_1]⟩)
    _ ⟨F, [], hF, by simp, fun r h => (by cases h), rfl⟩
  obtain ⟨r, ⟨F', os', h1, h2, h3, rfl⟩, h4⟩ := key
  refine ⟨F', os', h1, h2, h3, ?_⟩
  rw [acall_keep c_exec_pairs_1 rfl]
  simp at h4
  simp [f_exec_pairs_1, b_exec_pairs_1, h4]
end Go.AM
end
section

namespace Go.AM
open P
set_option maxHeartbeats 4000000
set_option maxRecDepth 8000
theorem FOk.falses (a : Nat) : FOk a (List.replicate a (.bool false)) := ⟨List.length_replicate .., fun x hx => by rw [(List.mem_replicate.1 hx).2]; exact ⟨rfl, rfl⟩⟩
@[simp] theorem thenRng_some (l : Nat) (env : List AVal) (r : AVal × Store) : thenRng l env (some r) = jumped l env r.2 := rfl
theorem rows_fz (rs : List (List AVal)) (fl top : Bool) (base : Nat) (σ : Store) (n : Nat) : (rowsV rs).map (fz fl top base σ (n + 1)) = rowsV rs := by
  unfold rowsV
  rw [List.map_map]
  exact List.map_congr_left fun r _ => by simp
theorem pairs_call (es0 bs : List (List AVal)) (σ : Store) : acall code 194 [.imm false (rowsV es0), .imm false (rowsV bs)] σ = some (.fn 279 [] [.ptr σ.length 0 0 0, .ptr (σ.length + 1) 0 0 0], σ ++ [.arr 1 0 [.imm false (rowsV es0)], .arr 1 0 [.imm false (rowsV bs)]]) := by
  rw [acall_keep c_exec_pairs rfl]
  simp [f_exec_pairs, b_exec_pairs]
theorem join_spec {es0 bs : List (List AVal)} {x0 x1 x2 x3 x4 x5 x6 : AVal} (h0 : ∀ n, fz true false 0 [] (n + 1) x0 = x0) (h1 : ∀ n, fz true false 0 [] (n + 1) x1 = x1) (h2 : ∀ n, fz true false 0 [] (n + 1) x2 = x2) (h3 : ∀ n, fz true false 0 [] (n + 1) x3 = x3)
    (h4 : ∀ n, fz true false 0 [] (n + 1) x4 = x4) (h5 : ∀ n, fz true false 0 [] (n + 1) x5 = x5) (h6 : ∀ n, fz true false 0 [] (n + 1) x6 = x6)
    (hA : ∀ r ∈ es0, IsRow false r) (hB : ∀ r ∈ bs, IsRow false r) (hab : es0.length * bs.length ≤ 8000) (ha : es0.length ≤ 8000) (hb : bs.length ≤ 8000) :
    ∃ rs' : List (List AVal), rs'.length = es0.length * bs.length ∧
      pcall I.exec_run_join [.cptr true (.agg [x0, x1, x2, x3, x4, x5, x6, .imm true [.imm false (rowsV es0), .imm false (rowsV bs)]]) 0, joinN] = some (.tup [.imm false (rowsV rs'), .int .i64 0]) := by
  obtain ⟨F', os, g1, g2, g3, g4⟩ := outer_pairs (R := .agg [x0, x1, x2, x3, x4, x5, x6, .imm true [.imm false (rowsV es0), .imm false (rowsV bs)]]) hA hB hab ha hb (FOk.falses es0.length)
  obtain ⟨rs', e1, e2, e3⟩ := exec_sorted_spec (b := true) (two := true) (rs := os) (by omega) g3
  refine ⟨rs', by rw [e1, g2], ?_⟩
  rw [pcall_eq c_exec_run_join rfl]
  simp [show rowsV [] = [] from rfl, envJ, stJ] at g4
  have h8 := fun fl top base σ n => rows_nc' os fl top base σ n
  have hm : es0.length ≤ most := by unfold most; omega
  simp [f_exec_run_join, b_exec_run_join, h0, h1, h2, h3, h4, h5, h6, jumped, pairs_call, g4, e3, h8, hm, rows_fz]
end Go.AM
end
section

namespace Go.AM
open P
set_option maxHeartbeats 8000000
set_option maxRecDepth 8000
theorem Run3_over1 {ps qs : List (List AVal)} (hp : 200 < ps.length) (hp' : ps.length ≤ 8000) (hpr : ∀ r ∈ ps, IsRow false r) (hq' : qs.length ≤ 8000) (hqr : ∀ r ∈ qs, IsRow false r) :
    pcall I.exec_Run [.agg [.imm true [scanN, inN, joinN], .int .i64 0, .int .i64 0, E0], tabs ps, tabs qs] = some (.tup [E0, .int .i64 300]) := by
  obtain ⟨es0, e1, e2, e3⟩ := given_scan (qs := qs) (x0 := .imm true [scanN, inN, joinN]) (x1 := .int .i64 0) (x2 := .int .i64 0) (x3 := E0) (x6 := K3) (x7 := .imm true []) (by simp) (by simp) (by simp) (by simp) (by simp) (by simp) hp' hpr
  rw [pcall_eq c_exec_Run rfl]
  have hk := pcall_from kinds3
  have hh := handed_scan_p (qs := qs) hp' hpr
  have hh' := handed_in_p (ps := ps) hq' hqr
  have h4 : ((200 : Int) < (es0.length : Int)) := by omega
  simp [f_exec_Run, b_exec_Run, l_exec_Run_1, l_exec_Run_0, hk, hh, hh', does_spec, e3, h4, rounds_go, roundEnd, freezeObj, append, most, isKey, lookup, keyIs, IntKind.wrap, IntKind.bits, IntKind.signed]
theorem Run3 {ps qs : List (List AVal)} (hp : ps.length ≤ 200) (hpr : ∀ r ∈ ps, IsRow false r) (hq : qs.length ≤ 200) (hqr : ∀ r ∈ qs, IsRow false r) (hab : ps.length * qs.length ≤ 8000) :
    ∃ rs' : List (List AVal), rs'.length = ps.length * qs.length ∧ pcall I.exec_Run [.agg [.imm true [scanN, inN, joinN], .int .i64 0, .int .i64 0, E0], tabs ps, tabs qs] = some (if 200 < ps.length * qs.length then .tup [E0, .int .i64 300] else .tup [.imm false (rowsV rs'), .int .i64 0]) := by
  obtain ⟨es0, e1, e2, e3⟩ := given_scan (qs := qs) (x0 := .imm true [scanN, inN, joinN]) (x1 := .int .i64 0) (x2 := .int .i64 0) (x3 := E0) (x6 := K3) (x7 := .imm true []) (by simp) (by simp) (by simp) (by simp) (by simp) (by simp) (by omega) hpr
  obtain ⟨bs, d1, d2, d3⟩ := given_in (ps := ps) (x0 := .imm true [scanN, inN, joinN]) (x1 := .int .i64 0) (x2 := .int .i64 0) (x3 := E0) (x6 := K3) (x7 := .imm true [.imm false (rowsV es0)]) (by simp) (by simp) (by simp) (by simp) (by simp) (by simp) (by omega) hqr
  obtain ⟨rs', g1, g3⟩ := join_spec (es0 := es0) (bs := bs) (x0 := .imm true [scanN, inN, joinN]) (x1 := .int .i64 0) (x2 := .int .i64 0) (x3 := E0) (x4 := tabs ps) (x5 := tabs qs) (x6 := K3) (by simp) (by simp) (by simp) (by simp) (by simp) (by simp) (by simp)
    (fun r h => hpr r (e2 r h)) (fun r h => hqr r (d2 r h)) (by rw [e1, d1]; exact hab) (by omega) (by omega)
  rw [e1, d1] at g1
  refine ⟨rs', g1, ?_⟩
  rw [pcall_eq c_exec_Run rfl]
  have hk := pcall_from kinds3
  have hh := handed_scan_p (qs := qs) (by omega) hpr
  have hh' := handed_in_p (ps := ps) (by omega) hqr
  have h4 : ¬ ((200 : Int) < (es0.length : Int)) := by omega
  have h5 : ¬ ((200 : Int) < (bs.length : Int)) := by omega
  by_cases h6 : 200 < ps.length * qs.length
  · have h7 : ((200 : Int) < (rs'.length : Int)) := by omega
    simp [f_exec_Run, b_exec_Run, l_exec_Run_1, l_exec_Run_0, hk, hh, hh', does_spec, e3, d3, g3, h4, h5, h6, h7, rounds_go, roundEnd, freezeObj, append, most, isKey, lookup, keyIs, IntKind.wrap, IntKind.bits, IntKind.signed]
  · have h7 : ¬ ((200 : Int) < (rs'.length : Int)) := by omega
    simp [f_exec_Run, b_exec_Run, l_exec_Run_1, l_exec_Run_0, hk, hh, hh', does_spec, e3, d3, g3, h4, h5, h6, h7, rounds_go, roundEnd, freezeObj, append, most, isKey, lookup, keyIs, IntKind.wrap, IntKind.bits, IntKind.signed]
end Go.AM
end
