/- ExecSplits: the law. -/
import Derived.Test.YtkbcglkclodkaaaGreatDoorAm22
import Derived.Test.YtkbcglkclodkaaaGreatDoorAm23
import Derived.Test.YtkbcglkclodkaaaGreatDoorAm16
import Derived.Test.YtkbcglkclodkaaaGreatDoorAm19
import Derived.Test.YtkbcglkclodkaaaGreatDoorAm21
set_option linter.unusedVariables false
set_option linter.unusedSimpArgs false
section
namespace Go.AM
open P
set_option maxHeartbeats 16000000
set_option maxRecDepth 8000
attribute [local simp] condRun_if when_if
theorem wakes_ok : pcall I.blaw20_wakes [] = some (.bool true) := pcall_from wakes_run
abbrev cEnv (x l : AVal) (n : Int) (own parts tog srt : AVal) (np k : Nat) (e28 e29 : AVal) : List AVal :=
  [x, l, .int .i64 n, .ptr 0 0 0 0, .any, .ptr 1 0 0 0, own, parts, .int .i64 0, tog, srt, .any, .any, .any, .any, .any, .any, .any, .any, .any, .bool false, .bool false, .bool false, .bool false, .bool true, parts, .int .i64 np, .int .i64 k, e28, e29, .any, .any, .any, .any, .any, .any, .any, .any, .any, .any]
theorem alikeX (rs : List (List Val)) (hn : rs.length ≤ most) (hr : ∀ r ∈ rs, r.length ≤ most) : pcall I.blaw20_alike [.imm false (rs.map rowX), .imm false (rs.map rowX)] = some (.bool true) := alike_self false false false false rs hn hr
theorem splits_cast (x l : AVal) (n : Int) (tog srt : AVal) (σ : Store) (h2 : σ.length = 2) (m : Nat) (hm : m ≤ 8) (R : List (List Val)) (hn : R.length ≤ most) (hr : ∀ r ∈ R, r.length ≤ most) :
    rounds code 2 [4, 11, 28, 29] l_blaw20_ExecSplits_2 ⟨cEnv x l n (listX R) (.imm false (List.replicate m (listX R))) tog srt m 0 .any .any, σ⟩ =
      some (.ext 0, ⟨cEnv x l n (listX R) (.imm false (List.replicate m (listX R))) tog srt m m (.bool false) .any, σ⟩) := by
  have hmm : m ≤ most := by unfold most; omega
  have h := rounds_fold (base := 2) (clr := [4, 11, 28, 29]) (b := l_blaw20_ExecSplits_2) (List.replicate m R)
    (fun k (_ : Unit) => ⟨cEnv x l n (listX R) (.imm false (List.replicate m (listX R))) tog srt m k .any .any, σ⟩)
    (fun _ _ => True) (fun _ _ => ())
    (fun _ => (.ext 0, ⟨cEnv x l n (listX R) (.imm false (List.replicate m (listX R))) tog srt m m (.bool false) .any, σ⟩))
    (fun k p _ hk hy _ => by
      rw [List.length_replicate] at hk
      have hlt : ((k : Int) < (m : Int)) := by omega
      have ha := alikeX R hn hr
      refine ⟨?_, trivial⟩
      simp [l_blaw20_ExecSplits_2, cEnv, hlt, hk, listX, ha, wrap_lt hk hmm, roundEnd, h2])
    (fun _ _ => by simp [l_blaw20_ExecSplits_2, cEnv]) () trivial
  simpa using h.1
end Go.AM
end
section

namespace Go.AM
open P
set_option maxHeartbeats 16000000
set_option maxRecDepth 8000
attribute [local simp] condRun_if when_if
theorem take32 {α : Type} (l : List α) (k : Nat) (h : k ≤ 100) : (l.take k).length ≤ m32 := by
  show _ ≤ 4294967296
  rw [List.length_take]; omega
theorem short32 (l : List EN) : (shortE l).length ≤ m32 := by
  unfold shortE
  rw [List.length_map]
  exact take32 l 60 (by decide)
theorem ownN_fit (n : LNX) : NFit (ownN n) where
  kinds := take32 n.kinds 17 (by decide)
  cond := short32 n.cond
  keys := take32 n.keys 6 (by decide)
  aggs := by show ((n.aggs.take 14).map agO).length ≤ m32; rw [List.length_map]; exact take32 _ 14 (by decide)
  args := fun g hg => by
    obtain ⟨y, _, rfl⟩ := List.mem_map.1 (show g ∈ (n.aggs.take 14).map agO from hg)
    exact short32 _
  items := by show ((n.items.take 17).map exO).length ≤ m32; rw [List.length_map]; exact take32 _ 17 (by decide)
  exprs := fun g hg => by
    obtain ⟨y, _, rfl⟩ := List.mem_map.1 (show g ∈ (n.items.take 17).map exO from hg)
    exact short32 _
  ords := take32 n.ords 5 (by decide)
theorem Merge_P (P : List (List (List Val))) (hl : P.length ≤ 8000) (hn : P.flatten.length ≤ 8000) (hr : ∀ p ∈ P, ∀ r ∈ p, okR r = true) :
    pcall I.row_Merge [.imm false (P.map listX)] = some (.tup [.imm false ((sortC cmpR P.flatten).map rowX), .int .i64 0]) := by
  have h := Merge_X false (P.map (SlX.mk false)) (by simpa using hl) (by simpa [List.flatMap_map, List.flatMap_id'] using hn) (fun s hs => by
    obtain ⟨p, hp, rfl⟩ := List.mem_map.1 hs
    exact hr p hp)
  rw [List.map_map] at h
  have e : (P.map (SlX.mk false)).flatMap (·.l) = P.flatten := by simp [List.flatMap_map, List.flatMap_id']
  rw [e] at h
  exact h
theorem splits_law (bn : Bool) (nodes : List LNX) (at' way : Int) (bc : Bool) (cols : List Int) (rs : List (List Val)) (n : Int) :
    pcall I.blaw20_ExecSplits [fragA bn nodes at' way bc cols, .imm true (rowsA true rs), .int .i64 n] = some (.bool true) := by
  rw [pcall_eq c_blaw20_ExecSplits rfl]
  have hf := frag_spec bn nodes at' way bc cols
  have hrow := rowsX_spec 40 (by decide) (by decide) true rs
  have hNF : ∀ x ∈ (nodes.take 12).map ownN, NFit x := fun x hx => by
    obtain ⟨y, _, rfl⟩ := List.mem_map.1 hx
    exact ownN_fit y
  have hNl : ((nodes.take 12).map ownN).length ≤ m32 := by rw [List.length_map]; exact take32 _ 12 (by decide)
  have hCl : (cols.take 17).length ≤ m32 := take32 _ 17 (by decide)
  have hRl : ((rs.take 40).map ownR).length ≤ 40 := by simp; omega
  have hRr : ∀ r ∈ (rs.take 40).map ownR, r.length ≤ 17 := fun r hr => by
    obtain ⟨y, _, rfl⟩ := List.mem_map.1 hr
    simp [ownR]; omega
  generalize (nodes.take 12).map ownN = N at *
  generalize cols.take 17 = C at *
  generalize (rs.take 40).map ownR = R at *
  have hRm : ∀ r ∈ R, r.length ≤ most := fun r hr => by have := hRr r hr; unfold most; omega
  have hrow' : pcall I.blaw20_rows [.imm true (rowsA true rs), .int .i64 40] = some (.imm false (R.map rowX)) := hrow
  clear hrow
  cases hk : kindsF N with
  | inr i =>
    have hg := goes_kinds false N at' way false C false R n hNF hNl i hk
    simp only [fragA] at hf hg ⊢
    simp [f_blaw20_ExecSplits, b_blaw20_ExecSplits, wakes_ok, hf, hrow', hg]
  | inl K =>
    obtain ⟨k1, k2, k3, k4⟩ := kindsF_le hk
    obtain ⟨root, hroot⟩ : ∃ root, K[K.length - 1]? = some root := ⟨_, List.getElem?_eq_getElem (by omega)⟩
    cases hw : (wrongC root C || wayBad way C) with
    | true =>
      have hg := goes_way false N at' way false C false R n hNF hNl K hk root hroot hCl hw
      simp only [fragA] at hf hg ⊢
      simp [f_blaw20_ExecSplits, b_blaw20_ExecSplits, wakes_ok, hf, hrow', hg]
    | false =>
      have hok := goesOk hw
      by_cases hb : n < 1 ∨ 8 < n ∨ fitL root R = false
      · have hg := goes_arg false N at' way false C false R n hNF hNl K hk root hroot hCl hok hRm hb
        simp only [fragA] at hf hg ⊢
        simp [f_blaw20_ExecSplits, b_blaw20_ExecSplits, wakes_ok, hf, hrow', hg]
      · have hn1 : ¬ n < 1 := fun h => hb (.inl h)
        have hn8 : ¬ 8 < n := fun h => hb (.inr (.inl h))
        have hfl : fitL root R = true := by
          cases h : fitL root R with
          | true => rfl
          | false => exact absurd (.inr (.inr h)) hb
        have hfl' := hfl
        unfold fitL at hfl'
        simp only [Bool.and_eq_true, decide_eq_true_eq] at hfl'
        have hroot16 : root.length ≤ 16 := k4 root (List.mem_of_getElem? hroot)
        have hRok : ∀ r ∈ R, okR r = true := fun r hr => (fitR_ok hroot16 (List.all_eq_true.1 hfl'.2 r hr)).1
        have hS := Sorted_X false R (by omega) hRok
        have hsl : (sortC cmpR R).length = R.length := sortC_length _ _
        have hsr : ∀ r ∈ sortC cmpR R, r.length ≤ most := fun r hr => hRm r ((sortC_perm R).mem_iff.1 hr)
        have hal := alikeX (sortC cmpR R) (by unfold most; omega) hsr
        by_cases w2 : way = 2
        · have hg := goes_cast false N at' way false C false R n hNF hNl K hk root hroot hCl hok hRm hn1 hn8 hfl w2 rfl
          have hM := Merge_P (List.replicate n.toNat R) (by simp; omega) (by
            rw [List.length_flatten, List.map_replicate, List.sum_replicate_nat]
            have := Nat.mul_le_mul (show n.toNat ≤ 8 by omega) hRl
            omega) (fun p hp r hr => by
            rw [(List.mem_replicate.1 hp).2] at hr
            exact hRok r hr)
          rw [List.map_replicate] at hM
          generalize sortC cmpR (List.replicate n.toNat R).flatten = tog at hM
          have hl := splits_cast (fragA bn nodes at' way bc cols) (.imm true (rowsA true rs)) n (.imm false (tog.map rowX)) (.imm false ((sortC cmpR R).map rowX)) [.arr 4 0 [fragA bn nodes at' way bc cols], .arr 4 0 [fragA false N at' way false C]] rfl n.toNat (by omega) R (by unfold most; omega) hRm
          have hnn : ((n.toNat : Nat) : Int) = n := by omega
          simp only [fragA] at hf hg hl ⊢
          simp only [listX] at hM
          simp [cEnv, listX, hnn] at hl
          subst w2
          simp [f_blaw20_ExecSplits, b_blaw20_ExecSplits, wakes_ok, hf, hrow', hg, hM, hS, hl, hnn]
        · by_cases w1 : way = 1
          · have hg := goes_shuf false N at' way false C false R n hNF hNl K hk root hroot hCl hok hRm hn1 hn8 hfl w1 rfl
            obtain ⟨s1, s2, s3⟩ := shufF_spec C n.toNat (by omega) R
            have hmem : ∀ p ∈ shufF C n.toNat R, ∀ r ∈ p, r ∈ R := fun p hp r hr => s3.mem_iff.1 (List.mem_flatten.2 ⟨p, hp, hr⟩)
            have hM := Merge_P (shufF C n.toNat R) (by omega) (by rw [s3.length_eq]; omega) (fun p hp r hr => hRok r (hmem p hp r hr))
            rw [sortC_congr (fun a b => cmpR_zero) cmpR_ok s3] at hM
            have hC := wrongC_in hok.wrong
            have hparts : ∀ i p, (shufF C n.toNat R)[i]? = some p → p.length ≤ 8000 ∧ ∀ r ∈ p, okR r = true ∧ hasC r C = true ∧ atH C n.toNat r = i := fun i p hi => by
              have hpm := List.mem_of_getElem? hi
              refine ⟨?_, fun r hr => ?_⟩
              · have : p.length ≤ (shufF C n.toNat R).flatten.length := by
                  obtain ⟨a, c, e⟩ := List.append_of_mem hpm
                  rw [e]; simp; omega
                rw [s3.length_eq] at this
                omega
              · have hrR := hmem p hpm r hr
                obtain ⟨o1, o2⟩ := fitR_ok hroot16 (List.all_eq_true.1 hfl'.2 r hrR)
                refine ⟨o1, ?_, s2 i p hi r hr⟩
                unfold hasC
                simp only [Bool.and_eq_true, decide_eq_true_eq]
                refine ⟨by have := hok.len; omega, ?_⟩
                rw [List.all_eq_true]
                intro c hc
                have := hC c hc
                unfold inC
                simp; omega
            obtain ⟨hs, hl⟩ := splits_parts (fragA bn nodes at' way bc cols) (.imm true (rowsA true rs)) n.toNat (.imm false (R.map rowX)) (.imm false ((sortC cmpR R).map rowX)) (.imm false ((sortC cmpR R).map rowX)) (.arr 4 0 [fragA bn nodes at' way bc cols]) (.imm false (N.map LNX.a)) at' way C (shufF C n.toNat R) (by omega) (by omega) (by omega) hparts
            generalize shufF C n.toNat R = P at *
            have hnn : ((n.toNat : Nat) : Int) = n := by omega
            simp only [fragA] at hf hg hl ⊢
            simp [sEnv, sStore, seenA, hnn, s1] at hl
            subst w1
            simp [f_blaw20_ExecSplits, b_blaw20_ExecSplits, wakes_ok, hf, hrow', hg, hM, hS, hal, hl, hnn, s1]
          · have hg := goes_one false N at' way false C false R n hNF hNl K hk root hroot hCl hok hRm hn1 hn8 hfl w1 w2 rfl
            have hM := Merge_P [R] (by simp) (by simp; omega) (by simpa using hRok)
            simp [listX] at hM
            simp only [fragA] at hf hg ⊢
            simp [f_blaw20_ExecSplits, b_blaw20_ExecSplits, wakes_ok, hf, hrow', hg, hM, hS, hal, beq_f w2, bne_t w1]
end Go.AM
end

namespace Go.AM
theorem HasSh.sl_inv {a : Bool} {cs : List Sh} {x : AVal} (h : HasSh (.sl a cs) x) : ∃ xs, x = .imm true xs ∧ xs.length ≤ maxLen ∧ (∀ x ∈ xs, isAgg x = a ∧ (cellsOf x).length = cs.length ∧ ncells x = cs.length) ∧
    ∀ x ∈ xs, ∀ i (h : i < cs.length) (h' : i < (cellsOf x).length), HasSh cs[i] (cellsOf x)[i] := by
  cases h with
  | sl h1 h2 h3 => exact ⟨_, rfl, h1, h2, h3⟩
theorem unmap {α : Type} (f : α → AVal) : ∀ {l : List AVal}, (∀ x ∈ l, ∃ a, x = f a) → ∃ m : List α, l = m.map f
  | [], _ => ⟨[], rfl⟩
  | x :: l, h => by
    obtain ⟨a, rfl⟩ := h x (List.mem_cons_self ..)
    obtain ⟨m, rfl⟩ := unmap f fun y hy => h y (List.mem_cons_of_mem _ hy)
    exact ⟨a :: m, rfl⟩
theorem agg_elem {cs : List Sh} {x : AVal} (h : isAgg x = true ∧ (cellsOf x).length = cs.length ∧ ncells x = cs.length) (h' : ∀ i (h : i < cs.length) (h' : i < (cellsOf x).length), HasSh cs[i] (cellsOf x)[i]) :
    ∃ ys, x = .agg ys ∧ ys.length = cs.length ∧ ∀ i (h : i < cs.length) (h' : i < ys.length), HasSh cs[i] ys[i] := by
  cases x with
  | agg ys => exact ⟨ys, rfl, h.2.1, h'⟩
  | _ => cases h.1
theorem one_elem {s : Sh} {x : AVal} (h : isAgg x = false ∧ (cellsOf x).length = [s].length ∧ ncells x = [s].length) (h' : ∀ i (h : i < [s].length) (h' : i < (cellsOf x).length), HasSh [s][i] (cellsOf x)[i]) : HasSh s x := by
  have hc : cellsOf x = [x] := by
    cases x with
    | agg ys => cases h.1
    | _ => rfl
  have := h' 0 (by simp) (by rw [hc]; simp)
  simpa only [hc, List.getElem_cons_zero] using this
theorem row_of {x : AVal} (h : HasSh (.sl true [.int .i64, .int .i64, .int .u64, .str]) x) : ∃ r : List Val, x = .imm true (rowA r) := by
  obtain ⟨xs, rfl, _, h1, h2⟩ := h.sl_inv
  obtain ⟨r, rfl⟩ := unmap Val.a (l := xs) fun x hx => by
    obtain ⟨ys, rfl, hl, hy⟩ := agg_elem (h1 x hx) (h2 x hx)
    match ys, hl, hy with
    | [t, u, v, w], _, hy =>
      obtain ⟨a, rfl, _⟩ := (hy 0 (by simp) (by simp)).int_inv
      obtain ⟨b, rfl, _⟩ := (hy 1 (by simp) (by simp)).int_inv
      obtain ⟨c, rfl, _⟩ := (hy 2 (by simp) (by simp)).int_inv
      obtain ⟨d, rfl, _⟩ := (hy 3 (by simp) (by simp)).str_inv
      exact ⟨⟨a, b, c, d⟩, rfl⟩
  exact ⟨r, rfl⟩
theorem rows_of {x : AVal} (h : HasSh (.sl false [.sl true [.int .i64, .int .i64, .int .u64, .str]]) x) : ∃ rs : List (List Val), x = .imm true (rowsA true rs) := by
  obtain ⟨xs, rfl, _, h1, h2⟩ := h.sl_inv
  obtain ⟨rs, rfl⟩ := unmap (fun r => .imm true (rowA r)) (l := xs) fun x hx => row_of (one_elem (h1 x hx) (h2 x hx))
  exact ⟨rs, rfl⟩
end Go.AM

namespace Go.AM
theorem slX_agg {α : Type} {cs : List Sh} {f : α → AVal} (hd : ∀ ys : List AVal, ys.length = cs.length → (∀ i (h : i < cs.length) (h' : i < ys.length), HasSh cs[i] ys[i]) → ∃ a, AVal.agg ys = f a) {x : AVal} (h : HasSh (.sl true cs) x) : ∃ l : List α, x = .imm true (l.map f) := by
  obtain ⟨xs, rfl, hn, h1, h2⟩ := h.sl_inv
  obtain ⟨m, rfl⟩ := unmap f (l := xs) fun x hx => by
    obtain ⟨ys, rfl, hl, hy⟩ := agg_elem (h1 x hx) (h2 x hx)
    exact hd ys hl hy
  exact ⟨m, rfl⟩
theorem intsX_of {x : AVal} (h : HasSh (.sl false [.int .i64]) x) : ∃ l : List Int, x = .imm true (l.map (.int .i64)) := by
  obtain ⟨xs, rfl, hn, h1, h2⟩ := h.sl_inv
  obtain ⟨m, rfl⟩ := unmap (.int .i64) (l := xs) fun x hx => by
    obtain ⟨a, rfl, _⟩ := (one_elem (h1 x hx) (h2 x hx)).int_inv
    exact ⟨a, rfl⟩
  exact ⟨m, rfl⟩
abbrev enX : List Sh := [.int .i64, .int .i64, .int .i64, .int .i64, .int .i64, .int .i64, .int .u64, .str]
theorem enX_of (ys : List AVal) (hl : ys.length = enX.length) (hy : ∀ i (h : i < enX.length) (h' : i < ys.length), HasSh enX[i] ys[i]) : ∃ a, AVal.agg ys = EN.a a := by
  match ys, hl, hy with
  | [y0, y1, y2, y3, y4, y5, y6, y7], _, hy =>
    obtain ⟨v0, rfl, _⟩ := (hy 0 (by simp) (by simp)).int_inv
    obtain ⟨v1, rfl, _⟩ := (hy 1 (by simp) (by simp)).int_inv
    obtain ⟨v2, rfl, _⟩ := (hy 2 (by simp) (by simp)).int_inv
    obtain ⟨v3, rfl, _⟩ := (hy 3 (by simp) (by simp)).int_inv
    obtain ⟨v4, rfl, _⟩ := (hy 4 (by simp) (by simp)).int_inv
    obtain ⟨v5, rfl, _⟩ := (hy 5 (by simp) (by simp)).int_inv
    obtain ⟨v6, rfl, _⟩ := (hy 6 (by simp) (by simp)).int_inv
    obtain ⟨v7, rfl, _⟩ := (hy 7 (by simp) (by simp)).str_inv
    exact ⟨⟨v0, v1, v2, v3, ⟨v4, v5, v6, v7⟩⟩, rfl⟩
abbrev exX : List Sh := [.sl true enX]
theorem exX_of (ys : List AVal) (hl : ys.length = exX.length) (hy : ∀ i (h : i < exX.length) (h' : i < ys.length), HasSh exX[i] ys[i]) : ∃ a, AVal.agg ys = ExX.a a := by
  match ys, hl, hy with
  | [y0], _, hy =>
    obtain ⟨v0, rfl⟩ := slX_agg enX_of (hy 0 (by simp) (by simp))
    exact ⟨⟨true, v0⟩, rfl⟩
abbrev agX : List Sh := [.int .i64, .sl true enX]
theorem agX_of (ys : List AVal) (hl : ys.length = agX.length) (hy : ∀ i (h : i < agX.length) (h' : i < ys.length), HasSh agX[i] ys[i]) : ∃ a, AVal.agg ys = AggX.a a := by
  match ys, hl, hy with
  | [y0, y1], _, hy =>
    obtain ⟨v0, rfl, _⟩ := (hy 0 (by simp) (by simp)).int_inv
    obtain ⟨v1, rfl⟩ := slX_agg enX_of (hy 1 (by simp) (by simp))
    exact ⟨⟨v0, true, v1⟩, rfl⟩
abbrev orX : List Sh := [.int .i64, .bool]
theorem orX_of (ys : List AVal) (hl : ys.length = orX.length) (hy : ∀ i (h : i < orX.length) (h' : i < ys.length), HasSh orX[i] ys[i]) : ∃ a, AVal.agg ys = ordA a := by
  match ys, hl, hy with
  | [y0, y1], _, hy =>
    obtain ⟨v0, rfl, _⟩ := (hy 0 (by simp) (by simp)).int_inv
    obtain ⟨v1, rfl⟩ := (hy 1 (by simp) (by simp)).bool_inv
    exact ⟨(v0, v1), rfl⟩
abbrev lnX : List Sh := [.int .i64, .int .i64, .int .i64, .int .i64, .sl false [.int .i64], .bool, .sl true enX, .sl false [.int .i64], .sl true agX, .sl true exX, .sl true orX, .int .i64]
theorem lnX_of (ys : List AVal) (hl : ys.length = lnX.length) (hy : ∀ i (h : i < lnX.length) (h' : i < ys.length), HasSh lnX[i] ys[i]) : ∃ a, AVal.agg ys = LNX.a a := by
  match ys, hl, hy with
  | [y0, y1, y2, y3, y4, y5, y6, y7, y8, y9, y10, y11], _, hy =>
    obtain ⟨v0, rfl, _⟩ := (hy 0 (by simp) (by simp)).int_inv
    obtain ⟨v1, rfl, _⟩ := (hy 1 (by simp) (by simp)).int_inv
    obtain ⟨v2, rfl, _⟩ := (hy 2 (by simp) (by simp)).int_inv
    obtain ⟨v3, rfl, _⟩ := (hy 3 (by simp) (by simp)).int_inv
    obtain ⟨v4, rfl⟩ := intsX_of (hy 4 (by simp) (by simp))
    obtain ⟨v5, rfl⟩ := (hy 5 (by simp) (by simp)).bool_inv
    obtain ⟨v6, rfl⟩ := slX_agg enX_of (hy 6 (by simp) (by simp))
    obtain ⟨v7, rfl⟩ := intsX_of (hy 7 (by simp) (by simp))
    obtain ⟨v8, rfl⟩ := slX_agg agX_of (hy 8 (by simp) (by simp))
    obtain ⟨v9, rfl⟩ := slX_agg exX_of (hy 9 (by simp) (by simp))
    obtain ⟨v10, rfl⟩ := slX_agg orX_of (hy 10 (by simp) (by simp))
    obtain ⟨v11, rfl, _⟩ := (hy 11 (by simp) (by simp)).int_inv
    exact ⟨⟨v0, v1, v2, v3, true, v4, v5, true, v6, true, v7, true, v8, true, v9, true, v10, v11⟩, rfl⟩
abbrev fragX : List Sh := [.sl true lnX, .int .i64, .int .i64, .sl false [.int .i64]]
theorem fragX_of {x : AVal} (h : ArgSh (true, fragX) x) : ∃ nodes at' way cols, x = fragA true nodes at' way true cols := by
  obtain ⟨ys, rfl, hl, hy⟩ := agg_elem (cs := fragX) ⟨h.1, h.2.1, h.2.2.1⟩ h.2.2.2
  match ys, hl, hy with
  | [y0, y1, y2, y3], _, hy =>
    obtain ⟨v0, rfl⟩ := slX_agg lnX_of (hy 0 (by simp) (by simp))
    obtain ⟨v1, rfl, _⟩ := (hy 1 (by simp) (by simp)).int_inv
    obtain ⟨v2, rfl, _⟩ := (hy 2 (by simp) (by simp)).int_inv
    obtain ⟨v3, rfl⟩ := intsX_of (hy 3 (by simp) (by simp))
    exact ⟨v0, v1, v2, v3, rfl⟩
end Go.AM
