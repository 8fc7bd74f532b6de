/- The law of MeanMay, walked. -/
import Derived.Test.YtappfinkgehchaaGreatDoorAm23
import Derived.Test.YtappfinkgehchaaGreatDoorAm16
set_option linter.unusedVariables false
set_option linter.unusedSimpArgs false
set_option linter.unusedSectionVars false
namespace Go.AM
open P
set_option maxHeartbeats 8000000
set_option maxRecDepth 8000
structure MeanT where
  rows : SL RowT
  f : Bool
  o : Bool
def MeanT.a (m : MeanT) : AVal := .agg [slA RowT.a m.rows, .bool m.f, .bool m.o]
def mayR (m : MeanT) (rs : SL RowT) (e : Int) : Bool :=
  if e = 0 then !m.f && !m.o && decide (rs = m.rows) else if e = 140 then m.f && decide (rs.1.length = 0) else if e = 300 then m.o && decide (rs.1.length = 0) else false
theorem May_v (m : MeanT) (t : Bool) (rs : SL RowT) (e : Int) : pcall I.mean_May [m.a, .imm t (rs.1.map RowT.a), .int .i64 e] = some (.bool (mayR m rs e)) := by
  rw [pcall_eq c_mean_May rfl]
  obtain ⟨r, f, o⟩ := m
  have h1 := row_Same_44 t rs r
  by_cases e0 : e = 0
  · subst e0
    cases f <;> cases o <;> simp [f_mean_May, b_mean_May, MeanT.a, mayR, h1]
  · by_cases e1 : e = 140
    · subst e1
      by_cases hl : rs.1.length = 0 <;> cases f <;> simp [f_mean_May, b_mean_May, MeanT.a, mayR, hl]
    · by_cases e2 : e = 300
      · subst e2
        by_cases hl : rs.1.length = 0 <;> cases o <;> simp [f_mean_May, b_mean_May, MeanT.a, mayR, hl]
      · simp [f_mean_May, b_mean_May, MeanT.a, mayR, e0, e1, e2, bq e0, bq e1, bq e2]
theorem May21_v (m : MeanT) (t : Bool) (rs : SL RowT) (e : Int) : pcall I.bref21_May [m.a, .imm t (rs.1.map RowT.a), .int .i64 e] = some (.bool (mayR m rs e)) := by
  rw [pcall_eq c_bref21_May rfl]
  obtain ⟨r, f, o⟩ := m
  have h1 := rows_Same_431 t rs r
  by_cases e1 : e = 140
  · subst e1
    by_cases hl : rs.1.length = 0 <;> cases f <;> simp [f_bref21_May, b_bref21_May, MeanT.a, mayR, hl]
  · by_cases e2 : e = 300
    · subst e2
      by_cases hl : rs.1.length = 0 <;> cases o <;> simp [f_bref21_May, b_bref21_May, MeanT.a, mayR, hl]
    · by_cases e0 : e = 0
      · subst e0
        cases f <;> cases o <;> simp [f_bref21_May, b_bref21_May, MeanT.a, mayR, h1]
      · simp [f_bref21_May, b_bref21_May, MeanT.a, mayR, e0, e1, e2, bq e0, bq e1, bq e2]
theorem MSame_v (m o : MeanT) : pcall I.mean_Same [m.a, o.a] = some (.bool (decide (m.f = o.f) && decide (m.o = o.o) && decide (m.rows = o.rows))) := by
  rw [pcall_eq c_mean_Same rfl]
  obtain ⟨r, f, g⟩ := m
  obtain ⟨r', f', g'⟩ := o
  have h1 := row_Same_44 true r r'
  replace h1 : pcall I.row_Same [slA RowT.a r, slA RowT.a r'] = some (.bool (decide (r = r'))) := h1
  cases f <;> cases f' <;> cases g <;> cases g' <;> simp [f_mean_Same, b_mean_Same, MeanT.a, h1]
theorem wakes_v : pcall I.blaw21_wakes [] = some (.bool true) := by
  have h := (lim_eq (callN_mono good _ _ _) _).2 ⟨220, wakes_run⟩
  have h2 : acall code I.blaw21_wakes [] [] = some (.bool true, []) := h
  unfold pcall
  rw [h2]; rfl
theorem may_law (m o : MeanT) (e : Int) : pcall I.blaw21_MeanMay [m.a, o.a, .int .i64 e] = some (.bool true) := by
  rw [pcall_eq c_blaw21_MeanMay rfl]
  obtain ⟨c1, h1⟩ := overRows_421 m.rows
  obtain ⟨c2, h2⟩ := overRows_421 o.rows
  have k1 := May_v m true o.rows e
  have k2 := May21_v m true o.rows e
  have k3 := May_v m false ⟨[], by decide⟩ e
  have k4 := May21_v m false ⟨[], by decide⟩ e
  have k5 := MSame_v m o
  have k6 := MSame_v m m
  have k7 := rows_Same_431 true m.rows o.rows
  have hw := wakes_v
  replace k7 : pcall I.bref21_Same [slA RowT.a m.rows, slA RowT.a o.rows] = some (.bool (decide (m.rows = o.rows))) := k7
  replace k1 : pcall I.mean_May [m.a, slA RowT.a o.rows, .int .i64 e] = _ := k1
  replace k2 : pcall I.bref21_May [m.a, slA RowT.a o.rows, .int .i64 e] = _ := k2
  simp only [List.map_nil] at k3 k4
  obtain ⟨r, f, g⟩ := m
  obtain ⟨r', f', g'⟩ := o
  simp only [MeanT.a] at *
  generalize mayR ⟨r, f, g⟩ r' e = q1 at *
  generalize mayR ⟨r, f, g⟩ ⟨[], by decide⟩ e = q2 at *
  cases c1
  · cases c2
    · by_cases hr : r = r'
      · subst hr
        cases f <;> cases f' <;> cases g <;> cases g' <;> simp [f_blaw21_MeanMay, b_blaw21_MeanMay, hw, h1, k1, k2, k3, k4, k5, k6, k7]
      · cases f <;> cases f' <;> cases g <;> cases g' <;> simp [f_blaw21_MeanMay, b_blaw21_MeanMay, hw, h1, h2, k1, k2, k3, k4, k5, k6, k7, hr]
    · simp [f_blaw21_MeanMay, b_blaw21_MeanMay, hw, h1, h2]
  · simp [f_blaw21_MeanMay, b_blaw21_MeanMay, hw, h1, h2]
end Go.AM

namespace Go.AM
theorem HasSh.sl_inv {a : Bool} {cs : List Sh} {x : AVal} (h : HasSh (.sl a cs) x) : ∃ xs, x = .imm true xs ∧ xs.length ≤ maxLen ∧ (∀ x ∈ xs, isAgg x = a ∧ (cellsOf x).length = cs.length ∧ ncells x = cs.length) ∧
    ∀ x ∈ xs, ∀ i (h : i < cs.length) (h' : i < (cellsOf x).length), HasSh cs[i] (cellsOf x)[i] := by
  cases h with
  | sl h1 h2 h3 => exact ⟨_, rfl, h1, h2, h3⟩
theorem unmap {α : Type} (f : α → AVal) : ∀ {l : List AVal}, (∀ x ∈ l, ∃ a, x = f a) → ∃ m : List α, l = m.map f
  | [], _ => ⟨[], rfl⟩
  | x :: l, h => by
    obtain ⟨a, rfl⟩ := h x (List.mem_cons_self ..)
    obtain ⟨m, rfl⟩ := unmap f fun y hy => h y (List.mem_cons_of_mem _ hy)
    exact ⟨a :: m, rfl⟩
theorem agg_elem {cs : List Sh} {x : AVal} (h : isAgg x = true ∧ (cellsOf x).length = cs.length ∧ ncells x = cs.length) (h' : ∀ i (h : i < cs.length) (h' : i < (cellsOf x).length), HasSh cs[i] (cellsOf x)[i]) :
    ∃ ys, x = .agg ys ∧ ys.length = cs.length ∧ ∀ i (h : i < cs.length) (h' : i < ys.length), HasSh cs[i] ys[i] := by
  cases x with
  | agg ys => exact ⟨ys, rfl, h.2.1, h'⟩
  | _ => cases h.1
theorem one_elem {s : Sh} {x : AVal} (h : isAgg x = false ∧ (cellsOf x).length = [s].length ∧ ncells x = [s].length) (h' : ∀ i (h : i < [s].length) (h' : i < (cellsOf x).length), HasSh [s][i] (cellsOf x)[i]) : HasSh s x := by
  have hc : cellsOf x = [x] := by
    cases x with
    | agg ys => cases h.1
    | _ => rfl
  have := h' 0 (by simp) (by rw [hc]; simp)
  simpa only [hc, List.getElem_cons_zero] using this
end Go.AM

namespace Go.AM
theorem sl_agg {α : Type} {cs : List Sh} {f : α → AVal} (hd : ∀ ys : List AVal, ys.length = cs.length → (∀ i (h : i < cs.length) (h' : i < ys.length), HasSh cs[i] ys[i]) → ∃ a, AVal.agg ys = f a) {x : AVal} (h : HasSh (.sl true cs) x) : ∃ l : SL α, x = slA f l := by
  obtain ⟨xs, rfl, hn, h1, h2⟩ := h.sl_inv
  obtain ⟨m, rfl⟩ := unmap f (l := xs) fun x hx => by
    obtain ⟨ys, rfl, hl, hy⟩ := agg_elem (h1 x hx) (h2 x hx)
    exact hd ys hl hy
  exact ⟨⟨m, by simpa using hn⟩, rfl⟩
theorem sl_one {α : Type} {s : Sh} {f : α → AVal} (hd : ∀ y : AVal, HasSh s y → ∃ a, y = f a) {x : AVal} (h : HasSh (.sl false [s]) x) : ∃ l : SL α, x = slA f l := by
  obtain ⟨xs, rfl, hn, h1, h2⟩ := h.sl_inv
  obtain ⟨m, rfl⟩ := unmap f (l := xs) fun x hx => hd x (one_elem (h1 x hx) (h2 x hx))
  exact ⟨⟨m, by simpa using hn⟩, rfl⟩
abbrev valS : List Sh := [.int .i64, .int .i64, .int .u64, .str]
theorem val_of (ys : List AVal) (hl : ys.length = valS.length) (hy : ∀ i (h : i < valS.length) (h' : i < ys.length), HasSh valS[i] ys[i]) : ∃ a, AVal.agg ys = Val.a a := by
  match ys, hl, hy with
  | [y0, y1, y2, y3], _, hy =>
    obtain ⟨v0, rfl, _⟩ := (hy 0 (by simp) (by simp)).int_inv
    obtain ⟨v1, rfl, _⟩ := (hy 1 (by simp) (by simp)).int_inv
    obtain ⟨v2, rfl, _⟩ := (hy 2 (by simp) (by simp)).int_inv
    obtain ⟨v3, rfl, _⟩ := (hy 3 (by simp) (by simp)).str_inv
    exact ⟨⟨v0, v1, v2, v3⟩, rfl⟩
theorem rowT_of {x : AVal} (h : HasSh (.sl true valS) x) : ∃ l : RowT, x = slA Val.a l := sl_agg val_of h
theorem rowsT_of {x : AVal} (h : HasSh (.sl false [.sl true valS]) x) : ∃ l : SL RowT, x = slA RowT.a l := sl_one (fun y h => rowT_of h) h
abbrev meanS : List Sh := [.sl false [.sl true valS], .bool, .bool]
theorem mean_of (ys : List AVal) (hl : ys.length = meanS.length) (hy : ∀ i (h : i < meanS.length) (h' : i < ys.length), HasSh meanS[i] ys[i]) : ∃ a, AVal.agg ys = MeanT.a a := by
  match ys, hl, hy with
  | [y0, y1, y2], _, hy =>
    obtain ⟨r, rfl⟩ := rowsT_of (hy 0 (by simp) (by simp))
    obtain ⟨v1, rfl⟩ := (hy 1 (by simp) (by simp)).bool_inv
    obtain ⟨v2, rfl⟩ := (hy 2 (by simp) (by simp)).bool_inv
    exact ⟨⟨r, v1, v2⟩, rfl⟩
theorem mean_arg {x : AVal} (h : ArgSh (true, meanS) x) : ∃ a : MeanT, x = a.a := by
  obtain ⟨ys, rfl, hl, hy⟩ := agg_elem (cs := meanS) ⟨h.1, h.2.1, h.2.2.1⟩ h.2.2.2
  exact mean_of ys hl hy
end Go.AM
