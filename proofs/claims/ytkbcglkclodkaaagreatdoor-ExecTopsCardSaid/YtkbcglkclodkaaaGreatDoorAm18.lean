/- The law ExecTops, in the abstract machine. -/
import Derived.Test.YtkbcglkclodkaaaGreatDoorAm16
import Derived.Test.YtkbcglkclodkaaaGreatDoorAm17
import Derived.Test.YtkbcglkclodkaaaGreatDoorAm13
set_option linter.unusedVariables false
set_option linter.unusedSimpArgs false
section
namespace Go.AM
open P
set_option maxHeartbeats 8000000
set_option maxRecDepth 8000
def partsS (P0 P1 P2 P3 : List (List Val)) : Store :=
  [.arr 1 0 [.sl 2 P0.length 0 P0.length, .sl 3 P1.length 0 P1.length, .sl 4 P2.length 0 P2.length, .sl 5 P3.length 0 P3.length],
   .arr 1 P0.length (rowsA false P0), .arr 1 P1.length (rowsA false P1), .arr 1 P2.length (rowsA false P2), .arr 1 P3.length (rowsA false P3)]
theorem splitS_parts (rs : List (List Val)) (n : Nat) : splitS rs n = partsS (partAt rs 0 n) (partAt rs 1 n) (partAt rs 2 n) (partAt rs 3 n) := rfl
def epN (ys : List (List Val)) : Nat := if ys = [] then 0 else 1
theorem app_rows (acc ys : List (List Val)) (ep : Nat) (T : Store) (h : acc.length + ys.length ≤ most) :
    append 1 (.sl 0 ep 0 acc.length) (rowsA false ys) (.arr 1 ep (rowsA false acc) :: T) = some (.sl 0 (ep + epN ys) 0 (acc ++ ys).length, .arr 1 (ep + epN ys) (rowsA false (acc ++ ys)) :: T) := by
  unfold epN
  by_cases he : ys = []
  · subst he
    simp [append, rowsA]
  · have h0 : ys.length ≠ 0 := fun e => he (List.length_eq_zero_iff.1 e)
    have h1 : rowsA false ys ≠ [] := by simpa [rowsA] using he
    have h7 := fun a ha => rowsA_nc1 false ys a ha
    have h2 : rowsA false (acc ++ ys) = rowsA false acc ++ rowsA false ys := by simp [rowsA]
    simp [append, he, h1, h, h2, rowsA_takeAll, if_pos h7]
theorem rowsA_fzG (b : Bool) (rs : List (List Val)) (top : Bool) (base : Nat) (σ : Store) (n : Nat) : (rowsA b rs).map (fz true top base σ (n + 1)) = rowsA b rs := by
  unfold rowsA
  rw [List.map_map]
  exact List.map_congr_left fun r _ => by simp
def topOf (os : List (Int × Bool)) (lim : Int) (rs : List (List Val)) : List (List Val) := cutC lim (sortC (byC os) rs)
theorem topOf_le (os : List (Int × Bool)) (lim : Int) (rs : List (List Val)) : (topOf os lim rs).length ≤ rs.length := by
  unfold topOf cutC
  split
  · rw [List.length_take, sortC_length]; omega
  · rw [sortC_length]; exact Nat.le_refl _
theorem topOf_mem {os : List (Int × Bool)} {lim : Int} {rs : List (List Val)} {r : List Val} (h : r ∈ topOf os lim rs) : r ∈ rs := by
  unfold topOf cutC at h
  split at h
  · exact (sortC_perm rs).mem_iff.1 (List.mem_of_mem_take h)
  · exact (sortC_perm rs).mem_iff.1 h
theorem Sort_good (b c : Bool) {os : List (Int × Bool)} {lim : Int} {rs : List (List Val)} (hn : rs.length ≤ 8000) (hg : goodS os lim rs = true) :
    pcall I.denote_Sort [.imm b (rowsA c rs), .imm false (ordsA os), .int .i64 lim] = some (.tup [.imm false (rowsA false (topOf os lim rs)), .int .i64 0]) := by
  rw [Sort_spec b c os lim rs hn, hg]
  rfl
theorem topStep0 (e2 e4 e5 : AVal) (os : List (Int × Bool)) (lim : Int) (P0 P1 P2 P3 acc : List (List Val)) (ep : Nat) (hn : P0.length ≤ 8000) (ha : acc.length ≤ 32000) (hg : goodS os lim P0 = true) :
    thenLoop 6 [3, 8, 9, 10, 17, 18] l_blaw20_ExecTops_0 (run code l_blaw20_ExecTops_0 ⟨[.imm false (ordsA os), .int .i64 lim, e2, .any, e4, e5, .int .i64 0, .sl 0 ep 0 (acc).length, .any, .any, .any, .any, .bool false, .bool false, .sl 1 0 0 4, .int .i64 4, .int .i64 0, .any, .any], .arr 1 ep (rowsA false (acc)) :: partsS P0 P1 P2 P3⟩) =
      rounds code 6 [3, 8, 9, 10, 17, 18] l_blaw20_ExecTops_0 ⟨[.imm false (ordsA os), .int .i64 lim, e2, .any, e4, e5, .int .i64 0, .sl 0 (ep + epN (topOf os lim P0)) 0 (acc ++ topOf os lim P0).length, .any, .any, .any, .any, .bool false, .bool false, .sl 1 0 0 4, .int .i64 4, .int .i64 (1 : Nat), .any, .any], .arr 1 (ep + epN (topOf os lim P0)) (rowsA false (acc ++ topOf os lim P0)) :: partsS P0 P1 P2 P3⟩ := by
  have h1 := fun b => Sort_good b false hn hg
  have h2 := app_rows acc (topOf os lim P0) ep (partsS P0 P1 P2 P3) (by have := topOf_le os lim P0; unfold most; omega)
  have h3 := fun top base σ n => rowsA_fzG false P0 top base σ n
  have h4 := rowsA_takeAll false P0
  unfold partsS at *
  simp [l_blaw20_ExecTops_0, h1, h2, h3, h4, rowsA_nc', roundEnd_same, IntKind.wrap, IntKind.bits, IntKind.signed]
theorem topStep1 (e2 e4 e5 : AVal) (os : List (Int × Bool)) (lim : Int) (P0 P1 P2 P3 acc : List (List Val)) (ep : Nat) (hn : P1.length ≤ 8000) (ha : acc.length ≤ 32000) (hg : goodS os lim P1 = true) :
    thenLoop 6 [3, 8, 9, 10, 17, 18] l_blaw20_ExecTops_0 (run code l_blaw20_ExecTops_0 ⟨[.imm false (ordsA os), .int .i64 lim, e2, .any, e4, e5, .int .i64 0, .sl 0 ep 0 (acc).length, .any, .any, .any, .any, .bool false, .bool false, .sl 1 0 0 4, .int .i64 4, .int .i64 1, .any, .any], .arr 1 ep (rowsA false (acc)) :: partsS P0 P1 P2 P3⟩) =
      rounds code 6 [3, 8, 9, 10, 17, 18] l_blaw20_ExecTops_0 ⟨[.imm false (ordsA os), .int .i64 lim, e2, .any, e4, e5, .int .i64 0, .sl 0 (ep + epN (topOf os lim P1)) 0 (acc ++ topOf os lim P1).length, .any, .any, .any, .any, .bool false, .bool false, .sl 1 0 0 4, .int .i64 4, .int .i64 (2 : Nat), .any, .any], .arr 1 (ep + epN (topOf os lim P1)) (rowsA false (acc ++ topOf os lim P1)) :: partsS P0 P1 P2 P3⟩ := by
  have h1 := fun b => Sort_good b false hn hg
  have h2 := app_rows acc (topOf os lim P1) ep (partsS P0 P1 P2 P3) (by have := topOf_le os lim P1; unfold most; omega)
  have h3 := fun top base σ n => rowsA_fzG false P1 top base σ n
  have h4 := rowsA_takeAll false P1
  unfold partsS at *
  simp [l_blaw20_ExecTops_0, h1, h2, h3, h4, rowsA_nc', roundEnd_same, IntKind.wrap, IntKind.bits, IntKind.signed]
theorem topStep2 (e2 e4 e5 : AVal) (os : List (Int × Bool)) (lim : Int) (P0 P1 P2 P3 acc : List (List Val)) (ep : Nat) (hn : P2.length ≤ 8000) (ha : acc.length ≤ 32000) (hg : goodS os lim P2 = true) :
    thenLoop 6 [3, 8, 9, 10, 17, 18] l_blaw20_ExecTops_0 (run code l_blaw20_ExecTops_0 ⟨[.imm false (ordsA os), .int .i64 lim, e2, .any, e4, e5, .int .i64 0, .sl 0 ep 0 (acc).length, .any, .any, .any, .any, .bool false, .bool false, .sl 1 0 0 4, .int .i64 4, .int .i64 2, .any, .any], .arr 1 ep (rowsA false (acc)) :: partsS P0 P1 P2 P3⟩) =
      rounds code 6 [3, 8, 9, 10, 17, 18] l_blaw20_ExecTops_0 ⟨[.imm false (ordsA os), .int .i64 lim, e2, .any, e4, e5, .int .i64 0, .sl 0 (ep + epN (topOf os lim P2)) 0 (acc ++ topOf os lim P2).length, .any, .any, .any, .any, .bool false, .bool false, .sl 1 0 0 4, .int .i64 4, .int .i64 (3 : Nat), .any, .any], .arr 1 (ep + epN (topOf os lim P2)) (rowsA false (acc ++ topOf os lim P2)) :: partsS P0 P1 P2 P3⟩ := by
  have h1 := fun b => Sort_good b false hn hg
  have h2 := app_rows acc (topOf os lim P2) ep (partsS P0 P1 P2 P3) (by have := topOf_le os lim P2; unfold most; omega)
  have h3 := fun top base σ n => rowsA_fzG false P2 top base σ n
  have h4 := rowsA_takeAll false P2
  unfold partsS at *
  simp [l_blaw20_ExecTops_0, h1, h2, h3, h4, rowsA_nc', roundEnd_same, IntKind.wrap, IntKind.bits, IntKind.signed]
theorem topStep3 (e2 e4 e5 : AVal) (os : List (Int × Bool)) (lim : Int) (P0 P1 P2 P3 acc : List (List Val)) (ep : Nat) (hn : P3.length ≤ 8000) (ha : acc.length ≤ 32000) (hg : goodS os lim P3 = true) :
    thenLoop 6 [3, 8, 9, 10, 17, 18] l_blaw20_ExecTops_0 (run code l_blaw20_ExecTops_0 ⟨[.imm false (ordsA os), .int .i64 lim, e2, .any, e4, e5, .int .i64 0, .sl 0 ep 0 (acc).length, .any, .any, .any, .any, .bool false, .bool false, .sl 1 0 0 4, .int .i64 4, .int .i64 3, .any, .any], .arr 1 ep (rowsA false (acc)) :: partsS P0 P1 P2 P3⟩) =
      rounds code 6 [3, 8, 9, 10, 17, 18] l_blaw20_ExecTops_0 ⟨[.imm false (ordsA os), .int .i64 lim, e2, .any, e4, e5, .int .i64 0, .sl 0 (ep + epN (topOf os lim P3)) 0 (acc ++ topOf os lim P3).length, .any, .any, .any, .any, .bool false, .bool false, .sl 1 0 0 4, .int .i64 4, .int .i64 (4 : Nat), .any, .any], .arr 1 (ep + epN (topOf os lim P3)) (rowsA false (acc ++ topOf os lim P3)) :: partsS P0 P1 P2 P3⟩ := by
  have h1 := fun b => Sort_good b false hn hg
  have h2 := app_rows acc (topOf os lim P3) ep (partsS P0 P1 P2 P3) (by have := topOf_le os lim P3; unfold most; omega)
  have h3 := fun top base σ n => rowsA_fzG false P3 top base σ n
  have h4 := rowsA_takeAll false P3
  unfold partsS at *
  simp [l_blaw20_ExecTops_0, h1, h2, h3, h4, rowsA_nc', roundEnd_same, IntKind.wrap, IntKind.bits, IntKind.signed]
end Go.AM
end
section

namespace Go.AM
open P
set_option maxHeartbeats 8000000
set_option maxRecDepth 8000
theorem topsLoop (e2 e4 e5 : AVal) (os : List (Int × Bool)) (lim : Int) (P0 P1 P2 P3 : List (List Val)) (h0 : P0.length ≤ 8000) (h1 : P1.length ≤ 8000) (h2 : P2.length ≤ 8000) (h3 : P3.length ≤ 8000)
    (g0 : goodS os lim P0 = true) (g1 : goodS os lim P1 = true) (g2 : goodS os lim P2 = true) (g3 : goodS os lim P3 = true) :
    ∃ ep, rounds code 6 [3, 8, 9, 10, 17, 18] l_blaw20_ExecTops_0 ⟨[.imm false (ordsA os), .int .i64 lim, e2, .any, e4, e5, .int .i64 0, .sl 0 0 0 0, .any, .any, .any, .any, .bool false, .bool false, .sl 1 0 0 4, .int .i64 4, .int .i64 0, .any, .any], .arr 1 0 [] :: partsS P0 P1 P2 P3⟩ =
      some (.ext 0, ⟨[.imm false (ordsA os), .int .i64 lim, e2, .any, e4, e5, .int .i64 0, .sl 0 ep 0 (topOf os lim P0 ++ topOf os lim P1 ++ topOf os lim P2 ++ topOf os lim P3).length, .any, .any, .any, .any, .bool false, .bool false, .sl 1 0 0 4, .int .i64 4, .int .i64 4, .bool false, .any],
        .arr 1 ep (rowsA false (topOf os lim P0 ++ topOf os lim P1 ++ topOf os lim P2 ++ topOf os lim P3)) :: partsS P0 P1 P2 P3⟩) := by
  have l0 := topOf_le os lim P0
  have l1 := topOf_le os lim P1
  have l2 := topOf_le os lim P2
  have a0 := topStep0 e2 e4 e5 os lim P0 P1 P2 P3 [] 0 h0 (by simp) g0
  have a1 := topStep1 e2 e4 e5 os lim P0 P1 P2 P3 (topOf os lim P0) (0 + epN (topOf os lim P0)) h1 (by omega) g1
  have a2 := topStep2 e2 e4 e5 os lim P0 P1 P2 P3 (topOf os lim P0 ++ topOf os lim P1) (0 + epN (topOf os lim P0) + epN (topOf os lim P1)) h2 (by rw [List.length_append]; omega) g2
  have a3 := topStep3 e2 e4 e5 os lim P0 P1 P2 P3 (topOf os lim P0 ++ topOf os lim P1 ++ topOf os lim P2) (0 + epN (topOf os lim P0) + epN (topOf os lim P1) + epN (topOf os lim P2)) h3 (by rw [List.length_append, List.length_append]; omega) g3
  refine ⟨0 + epN (topOf os lim P0) + epN (topOf os lim P1) + epN (topOf os lim P2) + epN (topOf os lim P3), ?_⟩
  rw [rounds_go]
  refine a0.trans ?_
  rw [List.nil_append, rounds_go]
  refine a1.trans ?_
  rw [rounds_go]
  refine a2.trans ?_
  rw [rounds_go]
  refine a3.trans ?_
  rw [rounds_go]
  simp [l_blaw20_ExecTops_0]
theorem part_perm (rs : List (List Val)) : ∀ n, n ≤ rs.length → (partAt rs 0 n ++ (partAt rs 1 n ++ (partAt rs 2 n ++ partAt rs 3 n))).Perm (rs.take n)
  | 0, _ => by simp [partAt]
  | n + 1, hn => by
    have ih := part_perm rs n (by omega)
    have hk : n < rs.length := by omega
    rw [List.take_succ_eq_append_getElem hk]
    refine List.Perm.trans ?_ (ih.append_right [rs[n]])
    have key : ∀ (A B C : List (List Val)) (x : List Val), ((A ++ [x]) ++ B).Perm ((A ++ B) ++ [x]) := fun A B C x => by
      rw [List.append_assoc, List.append_assoc]
      exact (List.Perm.refl A).append List.perm_append_comm
    rcases (show n % 4 = 0 ∨ n % 4 = 1 ∨ n % 4 = 2 ∨ n % 4 = 3 by omega) with h | h | h | h
    · rw [partAt_next h hk, partAt_same (j := 1) (by omega), partAt_same (j := 2) (by omega), partAt_same (j := 3) (by omega)]
      exact key _ _ [] _
    · rw [partAt_next h hk, partAt_same (j := 0) (by omega), partAt_same (j := 2) (by omega), partAt_same (j := 3) (by omega)]
      rw [List.append_assoc (partAt rs 0 n)]
      exact (List.Perm.refl _).append (key _ _ [] _)
    · rw [partAt_next h hk, partAt_same (j := 0) (by omega), partAt_same (j := 1) (by omega), partAt_same (j := 3) (by omega)]
      rw [List.append_assoc (partAt rs 0 n), List.append_assoc (partAt rs 1 n)]
      exact (List.Perm.refl _).append ((List.Perm.refl _).append (key _ _ [] _))
    · rw [partAt_next h hk, partAt_same (j := 0) (by omega), partAt_same (j := 1) (by omega), partAt_same (j := 2) (by omega)]
      simp only [List.append_assoc]
      exact List.Perm.refl _
theorem goodS_mono {os : List (Int × Bool)} {lim : Int} {rs qs : List (List Val)} (h : goodS os lim rs = true) (hq : ∀ q ∈ qs, q ∈ rs) : goodS os lim qs = true := by
  unfold goodS at *
  simp only [Bool.and_eq_true, List.all_eq_true] at *
  exact ⟨⟨⟨fun q hq' => h.1.1.1 q (hq q hq'), h.1.1.2⟩, h.1.2⟩, fun q hq' => h.2 q (hq q hq')⟩
theorem wakes_true : pcall I.blaw20_wakes [] = some (.bool true) := pcall_from wakes_run
theorem ownRs_le (rs : List (List Val)) : (ownRs rs).length ≤ 30 := by simp [ownRs]; omega
def limOf (limit : Int) : Int := (if limit < -1 then -1 else limit).tmod 40
theorem tops_law (os0 : List (Int × Bool)) (limit : Int) (rs0 : List (List Val)) : pcall I.blaw20_ExecTops [.imm true (ordsA os0), .int .i64 limit, .imm true (rowsA true rs0)] = some (.bool true) := by
  rw [pcall_eq c_blaw20_ExecTops rfl]
  have h1 := fun b => rows_spec b rs0
  have h2 := fun b => cutOrd_spec b os0
  have hl := ownRs_le rs0
  have h3 := fun b => Sort_spec b false (os0.take 3) (limOf limit) (ownRs rs0) (by omega)
  have h4 := fun b => split_spec b (ownRs rs0) (by omega)
  rw [splitS_parts] at h4
  have hperm := part_perm (ownRs rs0) (ownRs rs0).length (Nat.le_refl _)
  rw [List.take_length] at hperm
  have hw : (if limit < -1 then AVal.int .i64 (-1) else .int .i64 limit) = .int .i64 (if limit < -1 then -1 else limit) := by split <;> rfl
  have hlim : (if limit < -1 then (-1 : Int) else limit).tmod 40 = limOf limit := rfl
  generalize hO : ownRs rs0 = own at *
  generalize os0.take 3 = os at *
  generalize limOf limit = lim at *
  have hmem : ∀ q, q ∈ partAt own 0 own.length ++ (partAt own 1 own.length ++ (partAt own 2 own.length ++ partAt own 3 own.length)) → q ∈ own := fun q hq => hperm.mem_iff.1 hq
  have hlen := hperm.length_eq
  cases hg : goodS os lim own with
  | false =>
    rw [hg] at h3
    simp [f_blaw20_ExecTops, b_blaw20_ExecTops, wakes_true, h1, h2, h3, hlim]
  | true =>
    rw [hg] at h3
    generalize partAt own 0 own.length = P0 at *
    generalize partAt own 1 own.length = P1 at *
    generalize partAt own 2 own.length = P2 at *
    generalize partAt own 3 own.length = P3 at *
    simp only [List.length_append] at hlen
    have g0 : goodS os lim P0 = true := goodS_mono hg fun q hq => hmem q (by simp [hq])
    have g1 : goodS os lim P1 = true := goodS_mono hg fun q hq => hmem q (by simp [hq])
    have g2 : goodS os lim P2 = true := goodS_mono hg fun q hq => hmem q (by simp [hq])
    have g3 : goodS os lim P3 = true := goodS_mono hg fun q hq => hmem q (by simp [hq])
    have hloop := fun e2 e4 e5 => topsLoop e2 e4 e5 os lim P0 P1 P2 P3 (by omega) (by omega) (by omega) (by omega) g0 g1 g2 g3
    have hacc : topOf os lim (topOf os lim P0 ++ topOf os lim P1 ++ topOf os lim P2 ++ topOf os lim P3) = topOf os lim own := by
      have h := sortC_parts (c := byC os) (fun a b => byC_zero) (byC_ok os) lim [P0, P1, P2, P3] []
      have hc := sortC_congr (c := byC os) (fun a b => byC_zero) (byC_ok os) hperm
      simp only [List.flatten_cons, List.flatten_nil, List.append_nil, List.map_cons, List.map_nil] at h
      unfold topOf
      rw [hc] at h
      simp only [List.append_assoc]
      exact h.symm
    have ga : goodS os lim (topOf os lim P0 ++ topOf os lim P1 ++ topOf os lim P2 ++ topOf os lim P3) = true := goodS_mono hg fun q hq => by
      simp only [List.mem_append] at hq
      rcases hq with ((hq | hq) | hq) | hq
      · exact hmem q (by simp [topOf_mem hq])
      · exact hmem q (by simp [topOf_mem hq])
      · exact hmem q (by simp [topOf_mem hq])
      · exact hmem q (by simp [topOf_mem hq])
    have la : (topOf os lim P0 ++ topOf os lim P1 ++ topOf os lim P2 ++ topOf os lim P3).length ≤ 8000 := by
      have := topOf_le os lim P0; have := topOf_le os lim P1; have := topOf_le os lim P2; have := topOf_le os lim P3
      simp only [List.length_append]; omega
    have h5 := fun b => Sort_good b false la ga
    rw [hacc] at h5
    have h6 := fun b b' => alike_self b b' false false (topOf os lim own) (by have := topOf_le os lim own; unfold most; omega) (fun r hr => by
      have := topOf_mem hr
      unfold goodS at hg
      simp only [Bool.and_eq_true, List.all_eq_true] at hg
      have := hg.1.1.1 r this
      unfold okR at this
      simp at this
      unfold most; omega)
    have h8 := fun rs top base σ n => rowsA_fzG false rs top base σ n
    have h9 := fun rs => rowsA_takeAll false rs
    have h3' : ∀ b, pcall I.denote_Sort [.imm b (rowsA false own), .imm false (ordsA os), .int .i64 lim] = some (.tup [.imm false (rowsA false (topOf os lim own)), .int .i64 0]) := h3
    obtain ⟨ep, hloop⟩ := hloop (.imm true (rowsA true rs0)) (.imm false (rowsA false own)) (.imm false (rowsA false (topOf os lim own)))
    generalize (topOf os lim P0 ++ topOf os lim P1 ++ topOf os lim P2 ++ topOf os lim P3) = acc at *
    unfold partsS at *
    simp [f_blaw20_ExecTops, b_blaw20_ExecTops, wakes_true, h1, h2, h3', hlim, h4, hloop, h5, h6, h8, h9, rowsA_nc']
end Go.AM
end

namespace Go.AM
theorem HasSh.sl_inv {a : Bool} {cs : List Sh} {x : AVal} (h : HasSh (.sl a cs) x) : ∃ xs, x = .imm true xs ∧ xs.length ≤ maxLen ∧ (∀ x ∈ xs, isAgg x = a ∧ (cellsOf x).length = cs.length ∧ ncells x = cs.length) ∧
    ∀ x ∈ xs, ∀ i (h : i < cs.length) (h' : i < (cellsOf x).length), HasSh cs[i] (cellsOf x)[i] := by
  cases h with
  | sl h1 h2 h3 => exact ⟨_, rfl, h1, h2, h3⟩
theorem unmap {α : Type} (f : α → AVal) : ∀ {l : List AVal}, (∀ x ∈ l, ∃ a, x = f a) → ∃ m : List α, l = m.map f
  | [], _ => ⟨[], rfl⟩
  | x :: l, h => by
    obtain ⟨a, rfl⟩ := h x (List.mem_cons_self ..)
    obtain ⟨m, rfl⟩ := unmap f fun y hy => h y (List.mem_cons_of_mem _ hy)
    exact ⟨a :: m, rfl⟩
theorem agg_elem {cs : List Sh} {x : AVal} (h : isAgg x = true ∧ (cellsOf x).length = cs.length ∧ ncells x = cs.length) (h' : ∀ i (h : i < cs.length) (h' : i < (cellsOf x).length), HasSh cs[i] (cellsOf x)[i]) :
    ∃ ys, x = .agg ys ∧ ys.length = cs.length ∧ ∀ i (h : i < cs.length) (h' : i < ys.length), HasSh cs[i] ys[i] := by
  cases x with
  | agg ys => exact ⟨ys, rfl, h.2.1, h'⟩
  | _ => cases h.1
theorem one_elem {s : Sh} {x : AVal} (h : isAgg x = false ∧ (cellsOf x).length = [s].length ∧ ncells x = [s].length) (h' : ∀ i (h : i < [s].length) (h' : i < (cellsOf x).length), HasSh [s][i] (cellsOf x)[i]) : HasSh s x := by
  have hc : cellsOf x = [x] := by
    cases x with
    | agg ys => cases h.1
    | _ => rfl
  have := h' 0 (by simp) (by rw [hc]; simp)
  simpa only [hc, List.getElem_cons_zero] using this
theorem ords_of {x : AVal} (h : HasSh (.sl true [.int .i64, .bool]) x) : ∃ os, x = .imm true (ordsA os) := by
  obtain ⟨xs, rfl, _, h1, h2⟩ := h.sl_inv
  obtain ⟨os, rfl⟩ := unmap ordA (l := xs) fun x hx => by
    obtain ⟨ys, rfl, hl, hy⟩ := agg_elem (h1 x hx) (h2 x hx)
    match ys, hl, hy with
    | [u, v], _, hy =>
      obtain ⟨c, rfl, _⟩ := (hy 0 (by simp) (by simp)).int_inv
      obtain ⟨d, rfl⟩ := (hy 1 (by simp) (by simp)).bool_inv
      exact ⟨(c, d), rfl⟩
  exact ⟨os, rfl⟩
theorem row_of {x : AVal} (h : HasSh (.sl true [.int .i64, .int .i64, .int .u64, .str]) x) : ∃ r : List Val, x = .imm true (rowA r) := by
  obtain ⟨xs, rfl, _, h1, h2⟩ := h.sl_inv
  obtain ⟨r, rfl⟩ := unmap Val.a (l := xs) fun x hx => by
    obtain ⟨ys, rfl, hl, hy⟩ := agg_elem (h1 x hx) (h2 x hx)
    match ys, hl, hy with
    | [t, u, v, w], _, hy =>
      obtain ⟨a, rfl, _⟩ := (hy 0 (by simp) (by simp)).int_inv
      obtain ⟨b, rfl, _⟩ := (hy 1 (by simp) (by simp)).int_inv
      obtain ⟨c, rfl, _⟩ := (hy 2 (by simp) (by simp)).int_inv
      obtain ⟨d, rfl, _⟩ := (hy 3 (by simp) (by simp)).str_inv
      exact ⟨⟨a, b, c, d⟩, rfl⟩
  exact ⟨r, rfl⟩
theorem rows_of {x : AVal} (h : HasSh (.sl false [.sl true [.int .i64, .int .i64, .int .u64, .str]]) x) : ∃ rs : List (List Val), x = .imm true (rowsA true rs) := by
  obtain ⟨xs, rfl, _, h1, h2⟩ := h.sl_inv
  obtain ⟨rs, rfl⟩ := unmap (fun r => .imm true (rowA r)) (l := xs) fun x hx => row_of (one_elem (h1 x hx) (h2 x hx))
  exact ⟨rs, rfl⟩
end Go.AM
