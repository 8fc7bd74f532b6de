/- Sorted rows. -/
import Derived.Test.YtcnmoddcjdgfiaaGreatDoorAm13
section
namespace Go.AM
open P
set_option maxHeartbeats 2000000
set_option maxRecDepth 4000
def rowP (two : Bool) (p : Int × Int) : List AVal := if two then [intV p.1, intV p.2] else [intV p.1]
def IsRow (two : Bool) (r : List AVal) : Prop := ∃ p : Int × Int, (two = false → p.2 = 0) ∧ r = rowP two p
theorem IsRow.ok {two : Bool} {r : List AVal} (h : IsRow two r) : RowOk r := by
  obtain ⟨p, _, rfl⟩ := h
  cases two
  · exact row1_ok p.1
  · exact row2_ok p.1 p.2
theorem order_row {two : Bool} {p q : Int × Int} (hp : two = false → p.2 = 0) (hq : two = false → q.2 = 0) : pcall I.row_order [.imm false (rowP two p), .imm false (rowP two q)] = some (.int .i64 (cmp2 p.1 p.2 q.1 q.2)) := by
  cases two
  · have h := order1 (b := false) (b' := false) p.1 q.1
    rw [hp rfl, hq rfl]
    simp only [rowP]
    rw [show (if false = true then ([intV p.1, intV p.2] : List AVal) else [intV p.1]) = [intV p.1] from rfl, show (if false = true then ([intV q.1, intV q.2] : List AVal) else [intV q.1]) = [intV q.1] from rfl, h]
    unfold cmp2
    split
    · rename_i h0
      rw [h0]; rfl
    · rfl
  · exact order2 (b := false) (b' := false) p.1 p.2 q.1 q.2
theorem order_acall {two : Bool} {p q : Int × Int} (hp : two = false → p.2 = 0) (hq : two = false → q.2 = 0) :
    acall code 140 [.imm false (rowP two p), .imm false (rowP two q)] [] = some (.int .i64 (cmp2 p.1 p.2 q.1 q.2), []) := by
  have := acall_pure (f := I.row_order) c_row_order rfl [.imm false (rowP two p), .imm false (rowP two q)] []
  simp only [List.map_cons, List.map_nil, snap_eq, fz_immf] at this
  rw [order_row hp hq] at this
  exact this
theorem all_fuel {α : Type} {F : Nat → α → Prop} (hm : ∀ n m x, n ≤ m → F n x → F m x) : ∀ l : List α, (∀ x ∈ l, ∃ n, F n x) → ∃ n, ∀ x ∈ l, F n x
  | [], _ => ⟨0, fun _ h => by cases h⟩
  | x :: l, h => by
    obtain ⟨n, hn⟩ := h x (List.mem_cons_self ..)
    obtain ⟨m, hm'⟩ := all_fuel hm l fun y hy => h y (List.mem_cons_of_mem _ hy)
    refine ⟨max n m, fun y hy => ?_⟩
    rcases List.mem_cons.1 hy with rfl | hy
    · exact hm _ _ _ (Nat.le_max_left ..) hn
    · exact hm _ _ _ (Nat.le_max_right ..) (hm' y hy)
theorem length_insertBy (le : AVal → AVal → Bool) (x : AVal) : ∀ l : List AVal, (insertBy le x l).length = l.length + 1
  | [] => rfl
  | y :: r => by
    unfold insertBy
    split
    · rfl
    · simp [length_insertBy le x r]
theorem length_sortBy (le : AVal → AVal → Bool) : ∀ l : List AVal, (sortBy le l).length = l.length
  | [] => rfl
  | x :: r => by simp [sortBy, length_insertBy, length_sortBy le r]
theorem cmp2_range (a b c d : Int) : -9223372036854775808 ≤ cmp2 a b c d ∧ cmp2 a b c d < 9223372036854775808 := by
  unfold cmp2 cmp3; repeat' split
  all_goals omega
theorem cmp2_anti (a b c d : Int) : cmp2 a b c d < 0 ↔ 0 < cmp2 c d a b := by
  unfold cmp2 cmp3; repeat' split
  all_goals omega
theorem cmp2_zero {a b c d : Int} (h : cmp2 a b c d = 0) : a = c ∧ b = d := by
  unfold cmp2 cmp3 at h; repeat' split at h
  all_goals omega
theorem cmp2_self (a b : Int) : cmp2 a b a b = 0 := by
  unfold cmp2 cmp3; repeat' split
  all_goals omega
theorem cmp2_neg {a b c d : Int} : cmp2 a b c d < 0 ↔ a < c ∨ a = c ∧ b < d := by
  unfold cmp2 cmp3; repeat' split
  all_goals omega
theorem cmp2_trans {a b c d e f : Int} (h : cmp2 a b c d < 0) (h' : cmp2 c d e f < 0) : cmp2 a b e f < 0 := by
  rw [cmp2_neg] at *
  omega
theorem rows_unmap {two : Bool} {rs : List (List AVal)} : ∀ {l : List AVal}, (∀ x ∈ l, x ∈ rowsV rs) → ∃ rs' : List (List AVal), l = rowsV rs' ∧ ∀ r ∈ rs', r ∈ rs
  | [], _ => ⟨[], rfl, fun _ h => by cases h⟩
  | x :: l, h => by
    obtain ⟨rs', h1, h2⟩ := rows_unmap (two := two) fun y hy => h y (List.mem_cons_of_mem _ hy)
    obtain ⟨r, hr, e⟩ := List.mem_map.1 (h x (List.mem_cons_self ..))
    refine ⟨r :: rs', by rw [h1, ← e]; rfl, fun s hs => ?_⟩
    rcases List.mem_cons.1 hs with rfl | hs
    · exact hr
    · exact h2 s hs
theorem sort_rows {two : Bool} {rs : List (List AVal)} (hn : rs.length ≤ most) (hr : ∀ r ∈ rs, IsRow two r) {σ : Store} {id ep k : Nat} (h : σ[id]? = some (.arr k ep (rowsV rs))) :
    ∃ rs' : List (List AVal), rs'.length = rs.length ∧ (∀ r ∈ rs', r ∈ rs) ∧ acall code 67 [.sl id ep 0 rs.length, .fn 140 [] []] σ = some (.any, σ.set id (.arr k ep (rowsV rs'))) := by
  have hk : ∀ x ∈ rowsV rs, ∃ p : Int × Int, (two = false → p.2 = 0) ∧ x = .imm false (rowP two p) := fun x hx => by
    obtain ⟨r, h1, h2⟩ := List.mem_map.1 hx
    obtain ⟨p, h3, h4⟩ := hr r h1
    exact ⟨p, h3, by rw [← h2, h4]⟩
  obtain ⟨n, hf⟩ := all_fuel (F := fun n (x : AVal) => ∀ y ∈ rowsV rs, ∀ p q : Int × Int, (two = false → p.2 = 0) → (two = false → q.2 = 0) → x = .imm false (rowP two p) → y = .imm false (rowP two q) →
      callN code n 140 [x, y] [] = some (.int .i64 (cmp2 p.1 p.2 q.1 q.2), []))
    (fun n m x hnm h y hy p q hp hq e1 e2 => (callN_mono good _ _ _).le hnm (h y hy p q hp hq e1 e2)) (rowsV rs) (fun x hx => by
      obtain ⟨n, hn⟩ := all_fuel (F := fun n (y : AVal) => ∀ p q : Int × Int, (two = false → p.2 = 0) → (two = false → q.2 = 0) → x = .imm false (rowP two p) → y = .imm false (rowP two q) →
          callN code n 140 [x, y] [] = some (.int .i64 (cmp2 p.1 p.2 q.1 q.2), []))
        (fun n m y hnm h p q hp hq e1 e2 => (callN_mono good _ _ _).le hnm (h p q hp hq e1 e2)) (rowsV rs) (fun y hy => by
          obtain ⟨p, hp, e1⟩ := hk x hx
          obtain ⟨q, hq, e2⟩ := hk y hy
          obtain ⟨n, hn⟩ := (lim_eq (callN_mono good _ _ _) _).1 (order_acall hp hq)
          have hinj : ∀ p p' : Int × Int, (two = false → p.2 = 0) → (two = false → p'.2 = 0) → rowP two p = rowP two p' → p = p' := fun p p' h1 h2 h3 => by
            obtain ⟨a, b⟩ := p
            obtain ⟨c, d⟩ := p'
            cases two
            · have h1 := h1 rfl
              have h2 := h2 rfl
              simp [rowP, intV] at h3 h1 h2
              rw [h3, h1, h2]
            · simp [rowP, intV] at h3
              rw [h3.1, h3.2]
          refine ⟨n, fun p' q' hp' hq' e1' e2' => ?_⟩
          have a1 : p = p' := hinj p p' hp hp' (by have := e1.symm.trans e1'; simpa using this)
          have a2 : q = q' := hinj q q' hq hq' (by have := e2.symm.trans e2'; simpa using this)
          rw [← a1, ← a2, e1, e2]
          exact hn)
      exact ⟨n, fun y hy => hn y hy⟩)
  have hc : ∀ (p q : Int × Int), (two = false → p.2 = 0) → (two = false → q.2 = 0) → .imm false (rowP two p) ∈ rowsV rs → .imm false (rowP two q) ∈ rowsV rs →
      cmpOf (callN code n) (.fn 140 [] []) (.imm false (rowP two p)) (.imm false (rowP two q)) = some (cmp2 p.1 p.2 q.1 q.2) := fun p q hp hq m1 m2 => by
    have := hf _ m1 _ m2 p q hp hq rfl rfl
    unfold cmpOf callV
    simp [this]
  have hO : orderedB (cmpOf (callN code n) (.fn 140 [] [])) (rowsV rs) = true := by
    rw [orderedB_iff]
    refine ⟨fun x hx y hy => ?_, fun x hx y hy a b e1 e2 => ?_, fun x hx y hy e => ?_, fun x hx => ?_, fun x hx y hy z hz a b c e1 e2 e3 h1 h2 => ?_⟩
    · obtain ⟨p, hp, rfl⟩ := hk x hx
      obtain ⟨q, hq, rfl⟩ := hk y hy
      exact ⟨_, hc p q hp hq hx hy, cmp2_range ..⟩
    · obtain ⟨p, hp, rfl⟩ := hk x hx
      obtain ⟨q, hq, rfl⟩ := hk y hy
      rw [hc p q hp hq hx hy] at e1
      rw [hc q p hq hp hy hx] at e2
      cases e1; cases e2
      exact cmp2_anti ..
    · obtain ⟨p, hp, rfl⟩ := hk x hx
      obtain ⟨q, hq, rfl⟩ := hk y hy
      rw [hc p q hp hq hx hy] at e
      have := cmp2_zero (Option.some.inj e)
      rw [show p = q from Prod.ext this.1 this.2]
    · obtain ⟨p, hp, rfl⟩ := hk x hx
      rw [hc p p hp hp hx hx, cmp2_self]
    · obtain ⟨p, hp, rfl⟩ := hk x hx
      obtain ⟨q, hq, rfl⟩ := hk y hy
      obtain ⟨s, hs, rfl⟩ := hk z hz
      rw [hc p q hp hq hx hy] at e1
      rw [hc q s hq hs hy hz] at e2
      rw [hc p s hp hs hx hz] at e3
      cases e1; cases e2; cases e3
      exact cmp2_trans h1 h2
  obtain ⟨rs', e1, e2⟩ := rows_unmap (two := two) (rs := rs) (l := sortBy (leOf (cmpOf (callN code n) (.fn 140 [] []))) (rowsV rs)) (fun x hx => mem_sortBy.1 hx)
  refine ⟨rs', ?_, e2, acall_prim good (k := 1) (n := n) rfl ?_⟩
  · have := congrArg List.length e1
    rw [length_sortBy, rowsV_length, rowsV_length] at this
    exact this.symm
  · have hp : code.prims 1 (callN code n) = sortFunc (callN code n) := rfl
    rw [hp]
    have h9 : (rowsV rs).take rs.length = rowsV rs := List.take_of_length_le (by simp)
    have h10 : ((rowsV rs).all fun x => same (snap (σ.set id .dead) x) x && ncells x == 1 && !isAgg x && !plainArg x) = true := by
      rw [List.all_eq_true]
      intro x hx
      obtain ⟨p, hp, rfl⟩ := hk x hx
      simp [plainArg]
    simp only [sortFunc, h, List.drop_zero, h9]
    have h11 : snap (σ.set id .dead) (.fn 140 [] []) = .fn 140 [] [] := by simp
    rw [if_pos ⟨by trivial, by simp, hn, h10, by rw [h11]; exact hO, by rw [h11]; rfl⟩, h11, e1]
    have h12 : (rowsV rs).drop (0 + rs.length) = [] := List.drop_of_length_le (by simp)
    rw [h12]
    simp
theorem sorted_spec {b two : Bool} {rs : List (List AVal)} (hn : rs.length ≤ most) (hr : ∀ r ∈ rs, IsRow two r) :
    ∃ rs' : List (List AVal), rs'.length = rs.length ∧ (∀ r ∈ rs', r ∈ rs) ∧ pcall I.row_sorted [.imm b (rowsV rs)] = some (.frs 1 (rowsV rs')) := by
  obtain ⟨rs', e1, e2, e3⟩ := sort_rows hn hr (σ := [.arr 1 0 (rowsV rs)]) (id := 0) (ep := 0) (k := 1) rfl
  refine ⟨rs', e1, e2, ?_⟩
  rw [pcall_eq c_row_sorted rfl]
  have h1 := copies_spec (b := b) hn fun r h => (hr r h).ok
  simp [f_row_sorted, b_row_sorted, h1, e3]
  rw [← e1]
  exact fresh_rows rs' 0 0 _ rfl
end Go.AM
end
section

namespace Go.AM
open P
set_option maxHeartbeats 2000000
set_option maxRecDepth 4000
@[simp] theorem rowsV_take (rs : List (List AVal)) : (rowsV rs).take rs.length = rowsV rs := List.take_of_length_le (by simp)
@[simp] theorem rowsV_drop (rs : List (List AVal)) : (rowsV rs).drop rs.length = [] := List.drop_of_length_le (by simp)
theorem rows_nc' (rs : List (List AVal)) (fl top : Bool) (base : Nat) (σ : Store) (n : Nat) : (∀ a, a ∈ rowsV rs → ncells (fz fl top base σ (n + 1) a) = ncells a) ↔ True :=
  ⟨fun _ => trivial, fun _ a ha => by
    obtain ⟨r, _, rfl⟩ := List.mem_map.1 ha
    simp⟩
theorem lists_spec {b c : Bool} {rs : List (List AVal)} (hn : rs.length ≤ 8000) (hr : ∀ r ∈ rs, RowOk r) : pcall I.row_lists [.imm c [.imm b (rowsV rs)]] = some (.int .i64 0) := by
  rw [pcall_eq c_row_lists rfl]
  have hm : rs.length ≤ most := by unfold most; omega
  have hloop := rounds_iter (base := 0) (clr := [1, 4, 12, 13]) (b := l_row_lists_0) (fun k => ⟨[.imm c [.imm b (rowsV rs)], .any, .int .i64 0, .imm b (rowsV rs), .any, .imm c [.imm b (rowsV rs)], .int .i64 1, .int .i64 0, .bool true, .imm b (rowsV rs), .int .i64 rs.length, .int .i64 k, .any, .any, .any], []⟩) rs.length
    (.ext 2, ⟨[.imm c [.imm b (rowsV rs)], .any, .int .i64 0, .imm b (rowsV rs), .any, .imm c [.imm b (rowsV rs)], .int .i64 1, .int .i64 0, .bool true, .imm b (rowsV rs), .int .i64 rs.length, .int .i64 rs.length, .bool false, .any, .any], []⟩)
    (fun k hk => by
      have h1 := rowsV_get hk
      have h2 := (hr rs[k] (List.getElem_mem hk)).right
      have hlt : ((k : Int) < (rs.length : Int)) := by omega
      simp [l_row_lists_0, h1, h2, hlt, wrap_lt hk hm, roundEnd_same])
    (by simp [l_row_lists_0])
  simp at hloop
  have h3 : (if 0 < rs.length then (rs.length : Int) else 0) = rs.length := by split <;> omega
  have h4 : ¬ ((8000 : Int) < (rs.length : Int)) := by omega
  simp [f_row_lists, b_row_lists, rounds_go 0 [1, 3, 4, 8, 9, 10, 11, 12, 13], l_row_lists_1, hloop, roundEnd, IntKind.wrap, IntKind.bits, IntKind.signed, h3, h4]
theorem Sorted_spec {b two : Bool} {rs : List (List AVal)} (hn : rs.length ≤ 8000) (hr : ∀ r ∈ rs, IsRow two r) :
    ∃ rs' : List (List AVal), rs'.length = rs.length ∧ (∀ r ∈ rs', r ∈ rs) ∧ pcall I.row_Sorted [.imm b (rowsV rs)] = some (.tup [.imm false (rowsV rs'), .int .i64 0]) := by
  obtain ⟨rs', e1, e2, e3⟩ := sorted_spec (b := b) (by unfold most; omega) hr
  refine ⟨rs', e1, e2, ?_⟩
  rw [pcall_eq c_row_Sorted rfl]
  have h1 := fun c => lists_spec (b := b) (c := c) hn fun r h => (hr r h).ok
  have h8 := fun top base σ n => rows_freeze rs' top base σ n
  simp [f_row_Sorted, b_row_Sorted, h1, e3, h8, rows_nc']
theorem exec_sorted_spec {b two : Bool} {rs : List (List AVal)} (hn : rs.length ≤ 8000) (hr : ∀ r ∈ rs, IsRow two r) :
    ∃ rs' : List (List AVal), rs'.length = rs.length ∧ (∀ r ∈ rs', r ∈ rs) ∧ pcall I.exec_sorted [.imm b (rowsV rs)] = some (.tup [.imm false (rowsV rs'), .int .i64 0]) := by
  obtain ⟨rs', e1, e2, e3⟩ := Sorted_spec (b := b) hn hr
  refine ⟨rs', e1, e2, ?_⟩
  rw [pcall_eq c_exec_sorted rfl]
  have h4 : ¬ ((8000 : Int) < (rs.length : Int)) := by omega
  simp [f_exec_sorted, b_exec_sorted, e3, h4]
end Go.AM
end
section

namespace Go.AM
open P
set_option maxHeartbeats 2000000
set_option maxRecDepth 4000
theorem fit1 (n : Int) : ∀ b' : Bool, callN code 60 I.exec_fit_1 [.imm false [intV n], .cptr true (.imm b' [.int .i64 2]) 0] [] = some (.bool false, [])
  | false => by kernel_rfl
  | true => by kernel_rfl
theorem fit_spec {b b' : Bool} {rs : List (List AVal)} (hn : rs.length ≤ 8000) (hr : ∀ r ∈ rs, IsRow false r) : pcall I.exec_fit [.imm b (rowsV rs), .imm b' [.int .i64 2]] = some (.bool true) := by
  have hm : rs.length ≤ most := by unfold most; omega
  have h1 := IndexFunc_none (b := b) (xs := rowsV rs) (f := .fn 161 [] [.cptr true (.imm b' [.int .i64 2]) 0]) (by simpa using hm) (fun x hx => by
      obtain ⟨r, _, rfl⟩ := List.mem_map.1 hx
      exact ⟨rfl, rfl⟩) (by simp) (fun x hx => by
      obtain ⟨r, h, rfl⟩ := List.mem_map.1 hx
      obtain ⟨p, _, rfl⟩ := hr r h
      exact acall_of (fit1 p.1 b'))
  have h2 : pcall I.slices_ContainsFunc_api_Row_api_Row [.imm b (rowsV rs), .fn 161 [] [.cptr true (.imm b' [.int .i64 2]) 0]] = some (.bool false) := by
    rw [pcall_eq c_slices_ContainsFunc_api_Row_api_Row rfl]
    simp [f_slices_ContainsFunc_api_Row_api_Row, b_slices_ContainsFunc_api_Row_api_Row, h1]
  rw [pcall_eq c_exec_fit rfl]
  have h4 : ¬ ((8000 : Int) < (rs.length : Int)) := by omega
  simp [f_exec_fit, b_exec_fit, h2, h4]
end Go.AM
end
section

namespace Go.AM
open P
set_option maxHeartbeats 2000000
set_option maxRecDepth 4000
abbrev E0 : AVal := .imm false []
abbrev scanN : AVal := .agg [.int .i64 1, .int .i64 (-1), .int .i64 (-1), .int .i64 0, .imm true [.int .i64 2], .bool false, E0, E0, E0, E0, E0, .int .i64 0]
abbrev inN : AVal := .agg [.int .i64 9, .int .i64 (-1), .int .i64 (-1), .int .i64 0, .imm true [.int .i64 2], .bool false, E0, E0, E0, E0, E0, .int .i64 0]
abbrev yesN : AVal := .imm false [.agg [.int .i64 1, .int .i64 (-1), .int .i64 (-1), .int .i64 0, .int .i64 1, .int .i64 1, .int .u64 0, .str []]]
abbrev joinN : AVal := .agg [.int .i64 2, .int .i64 0, .int .i64 1, .int .i64 0, E0, .bool false, yesN, E0, E0, E0, E0, .int .i64 0]
abbrev tabs (ps : List (List AVal)) : AVal := .imm true [.imm true (rowsV ps)]
def thenKeep (res : List Res) (r : Option (Ex × St)) : Option (AVal × Store) := r.bind fun r => match r.1 with
  | .ext _ => none
  | _ => (results r.2 res).map fun v => (v, r.2.st)
@[simp] theorem thenKeep_ret (res : List Res) (s : St) : thenKeep res (some (.ret, s)) = (results s res).map fun v => (v, s.st) := rfl
@[simp] theorem thenKeep_nrm (res : List Res) (s : St) : thenKeep res (some (.nrm, s)) = (results s res).map fun v => (v, s.st) := rfl
theorem acall_keep {f : Nat} {g : AFunc} (h : code.fns f = .fn g) (hm : g.mode = .keep) (args : List AVal) (σ : Store) :
    acall code f args σ = thenKeep g.res (run code g.body ⟨args.take g.np ++ List.replicate (g.nenv - g.np) .any, σ⟩) := by
  rw [acall_fn good h]
  have he : enter g args σ = ⟨args.take g.np ++ List.replicate (g.nenv - g.np) .any, σ⟩ := by unfold enter; rw [hm]
  rw [he]
  unfold thenKeep
  congr 1
  funext r
  obtain ⟨e, s⟩ := r
  unfold leave finish
  rw [hm]
  cases e <;> rfl
theorem handed_scan_c {ps qs : List (List AVal)} (hp : ps.length ≤ 8000) (hpr : ∀ r ∈ ps, IsRow false r) (σ : Store) (x0 x1 x2 x3 x6 x7 : AVal) :
    acall code 36 [.cptr true (.agg [x0, x1, x2, x3, tabs ps, tabs qs, x6, x7]) 0, scanN] σ = some (.tup [.imm true (rowsV ps), .bool true], σ ++ [.arr 12 0 [scanN]]) := by
  have hf := fit_spec (b := true) (b' := true) hp hpr
  rw [acall_keep c_exec_run_handed rfl]
  simp [f_exec_run_handed, b_exec_run_handed, hf]
theorem handed_in_c {ps qs : List (List AVal)} (hp : qs.length ≤ 8000) (hpr : ∀ r ∈ qs, IsRow false r) (σ : Store) (x0 x1 x2 x3 x6 x7 : AVal) :
    acall code 36 [.cptr true (.agg [x0, x1, x2, x3, tabs ps, tabs qs, x6, x7]) 0, inN] σ = some (.tup [.imm true (rowsV qs), .bool true], σ ++ [.arr 12 0 [inN]]) := by
  have hf := fit_spec (b := true) (b' := true) hp hpr
  rw [acall_keep c_exec_run_handed rfl]
  simp [f_exec_run_handed, b_exec_run_handed, hf]
theorem handed_scan_p {ps qs : List (List AVal)} (hp : ps.length ≤ 8000) (hpr : ∀ r ∈ ps, IsRow false r) (o : Obj) (τ : Store) (x0 x1 x2 x3 x6 x7 : AVal) :
    acall code 36 [.ptr 1 0 0 0, scanN] (o :: .arr 8 0 [.agg [x0, x1, x2, x3, tabs ps, tabs qs, x6, x7]] :: τ) = some (.tup [.imm true (rowsV ps), .bool true], o :: .arr 8 0 [.agg [x0, x1, x2, x3, tabs ps, tabs qs, x6, x7]] :: (τ ++ [.arr 12 0 [scanN]])) := by
  have hf := fit_spec (b := true) (b' := true) hp hpr
  rw [acall_keep c_exec_run_handed rfl]
  simp [f_exec_run_handed, b_exec_run_handed, hf]
theorem handed_in_p {ps qs : List (List AVal)} (hp : qs.length ≤ 8000) (hpr : ∀ r ∈ qs, IsRow false r) (o : Obj) (τ : Store) (x0 x1 x2 x3 x6 x7 : AVal) :
    acall code 36 [.ptr 1 0 0 0, inN] (o :: .arr 8 0 [.agg [x0, x1, x2, x3, tabs ps, tabs qs, x6, x7]] :: τ) = some (.tup [.imm true (rowsV qs), .bool true], o :: .arr 8 0 [.agg [x0, x1, x2, x3, tabs ps, tabs qs, x6, x7]] :: (τ ++ [.arr 12 0 [inN]])) := by
  have hf := fit_spec (b := true) (b' := true) hp hpr
  rw [acall_keep c_exec_run_handed rfl]
  simp [f_exec_run_handed, b_exec_run_handed, hf]
theorem given_scan {ps qs : List (List AVal)} {x0 x1 x2 x3 x6 x7 : AVal} (h0 : ∀ n, fz true false 0 [] (n + 1) x0 = x0) (h1 : ∀ n, fz true false 0 [] (n + 1) x1 = x1) (h2 : ∀ n, fz true false 0 [] (n + 1) x2 = x2) (h3 : ∀ n, fz true false 0 [] (n + 1) x3 = x3)
    (h6 : ∀ n, fz true false 0 [] (n + 1) x6 = x6) (h7 : ∀ n, fz true false 0 [] (n + 1) x7 = x7) (hp : ps.length ≤ 8000) (hpr : ∀ r ∈ ps, IsRow false r) :
    ∃ rs' : List (List AVal), rs'.length = ps.length ∧ (∀ r ∈ rs', r ∈ ps) ∧
      pcall I.exec_run_given [.cptr true (.agg [x0, x1, x2, x3, tabs ps, tabs qs, x6, x7]) 0, scanN] = some (.tup [.imm false (rowsV rs'), .int .i64 0]) := by
  obtain ⟨rs', e1, e2, e3⟩ := exec_sorted_spec (b := true) hp hpr
  refine ⟨rs', e1, e2, ?_⟩
  rw [pcall_eq c_exec_run_given rfl]
  have hh := handed_scan_c (qs := qs) hp hpr [.arr 12 0 [scanN]] x0 x1 x2 x3 x6 x7
  simp [f_exec_run_given, b_exec_run_given, h0, h1, h2, h3, h6, h7, e3, hh]
theorem given_in {ps qs : List (List AVal)} {x0 x1 x2 x3 x6 x7 : AVal} (h0 : ∀ n, fz true false 0 [] (n + 1) x0 = x0) (h1 : ∀ n, fz true false 0 [] (n + 1) x1 = x1) (h2 : ∀ n, fz true false 0 [] (n + 1) x2 = x2) (h3 : ∀ n, fz true false 0 [] (n + 1) x3 = x3)
    (h6 : ∀ n, fz true false 0 [] (n + 1) x6 = x6) (h7 : ∀ n, fz true false 0 [] (n + 1) x7 = x7) (hp : qs.length ≤ 8000) (hpr : ∀ r ∈ qs, IsRow false r) :
    ∃ rs' : List (List AVal), rs'.length = qs.length ∧ (∀ r ∈ rs', r ∈ qs) ∧
      pcall I.exec_run_given [.cptr true (.agg [x0, x1, x2, x3, tabs ps, tabs qs, x6, x7]) 0, inN] = some (.tup [.imm false (rowsV rs'), .int .i64 0]) := by
  obtain ⟨rs', e1, e2, e3⟩ := exec_sorted_spec (b := true) hp hpr
  refine ⟨rs', e1, e2, ?_⟩
  rw [pcall_eq c_exec_run_given rfl]
  have hh := handed_in_c (ps := ps) hp hpr [.arr 12 0 [inN]] x0 x1 x2 x3 x6 x7
  simp [f_exec_run_given, b_exec_run_given, h0, h1, h2, h3, h6, h7, e3, hh]
end Go.AM
end
