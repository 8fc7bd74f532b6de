/- Conditions that are not known: the ways part, and each goes on. -/
import Derived.Test.YtkbcglkclodkaaaGreatDoorAm18
import Derived.KernelRfl
set_option linter.unusedVariables false
set_option linter.unusedSimpArgs false
namespace Go.AM
open P
theorem condRun_if (a b : ACode) (s : St) (c : Bool) : condRun a b s (.bool c) = if c = true then run code a s else run code b s := by cases c <;> rfl
theorem when_if (env : List AVal) (x : Opd) (b : Bool) (o : AOp) (is : List Ins) (ls : List AVal) (σ : Store) (c : Bool) :
    whenOps env (P.g x b o) is ls σ (some c) = if c = true then thenOps env is ls (step code env ls σ o) else runOps code env is (ls ++ [.tup []]) σ := by cases c <;> rfl
end Go.AM
section

namespace Go.AM
open P
set_option maxHeartbeats 2000000
set_option maxRecDepth 4000
def rowP (two : Bool) (p : Int × Int) : List AVal := if two then [intV p.1, intV p.2] else [intV p.1]
def IsRow (two : Bool) (r : List AVal) : Prop := ∃ p : Int × Int, (two = false → p.2 = 0) ∧ r = rowP two p
theorem IsRow.ok {two : Bool} {r : List AVal} (h : IsRow two r) : RowOk r := by
  obtain ⟨p, _, rfl⟩ := h
  cases two
  · exact row1_ok p.1
  · exact row2_ok p.1 p.2
theorem all_fuel {α : Type} {F : Nat → α → Prop} (hm : ∀ n m x, n ≤ m → F n x → F m x) : ∀ l : List α, (∀ x ∈ l, ∃ n, F n x) → ∃ n, ∀ x ∈ l, F n x
  | [], _ => ⟨0, fun _ h => by cases h⟩
  | x :: l, h => by
    obtain ⟨n, hn⟩ := h x (List.mem_cons_self ..)
    obtain ⟨m, hm'⟩ := all_fuel hm l fun y hy => h y (List.mem_cons_of_mem _ hy)
    refine ⟨max n m, fun y hy => ?_⟩
    rcases List.mem_cons.1 hy with rfl | hy
    · exact hm _ _ _ (Nat.le_max_left ..) hn
    · exact hm _ _ _ (Nat.le_max_right ..) (hm' y hy)
end Go.AM
end
section

namespace Go.AM
open P
set_option maxHeartbeats 4000000
set_option maxRecDepth 4000
theorem insertBy_map {α : Type} {le : AVal → AVal → Bool} {c : α → α → Int} {f : α → AVal} {a : α} : ∀ {l : List α}, (∀ b ∈ l, le (f a) (f b) = decide (c a b ≤ 0)) → insertBy le (f a) (l.map f) = (insC c a l).map f
  | [], _ => rfl
  | b :: r, h => by
    have h1 := h b (List.mem_cons_self ..)
    simp only [List.map_cons, insertBy, insC, h1]
    by_cases hc : c a b ≤ 0
    · simp [hc]
    · simp [hc, insertBy_map fun x hx => h x (List.mem_cons_of_mem _ hx)]
theorem sortBy_map {α : Type} {le : AVal → AVal → Bool} {c : α → α → Int} {f : α → AVal} : ∀ {l : List α}, (∀ a ∈ l, ∀ b ∈ l, le (f a) (f b) = decide (c a b ≤ 0)) → sortBy le (l.map f) = (sortC c l).map f
  | [], _ => rfl
  | a :: r, h => by
    simp only [List.map_cons, sortBy, sortC]
    rw [sortBy_map fun x hx y hy => h x (List.mem_cons_of_mem _ hx) y (List.mem_cons_of_mem _ hy)]
    exact insertBy_map fun b hb => h a (List.mem_cons_self ..) b (List.mem_cons_of_mem _ ((sortC_perm r).mem_iff.1 hb))
theorem rowsA_V (rs : List (List Val)) : rowsA false rs = rowsV (rs.map rowA) := by simp [rowsA, rowsV, Function.comp_def]
theorem rowsA_succ {rs : List (List Val)} {k : Nat} (h : k < rs.length) : rowsA false (rs.take (k + 1)) = rowsA false (rs.take k) ++ [.imm false (rowA rs[k])] := by
  unfold rowsA
  rw [List.take_succ_eq_append_getElem h, List.map_append]
  rfl
theorem rowsA_fz (rs : List (List Val)) (top : Bool) (base : Nat) (σ : Store) (n : Nat) : (rowsA false rs).map (fz false top base σ (n + 1)) = rowsA false rs := by
  rw [rowsA_V]; exact rows_freeze _ top base σ n
theorem rowsA_freeze (rs : List (List Val)) (base : Nat) (σ : Store) : (rowsA false rs).map (freeze base σ) = rowsA false rs := by
  rw [rowsA_V]; exact rows_freeze' _ base σ
theorem rowsA_nc (rs : List (List Val)) (base : Nat) (σ : Store) : (rowsA false rs).map (ncells ∘ freeze base σ) = List.replicate rs.length 1 := by
  rw [rowsA_V, rows_nc]; simp
theorem rowsA_nc' (rs : List (List Val)) (fl top : Bool) (base : Nat) (σ : Store) (n : Nat) : (∀ a, a ∈ rowsA false rs → ncells (fz fl top base σ (n + 1) a) = ncells a) ↔ True :=
  ⟨fun _ => trivial, fun _ a ha => by
    obtain ⟨r, _, rfl⟩ := List.mem_map.1 ha
    simp⟩
@[simp] theorem rowsA_ncells (rs : List (List Val)) : (rowsA false rs).map ncells = List.replicate rs.length 1 := by
  rw [rowsA_V, rowsV_ncells]; simp
theorem rowA_nc (r : List Val) (fl top : Bool) (base : Nat) (σ : Store) (n : Nat) : (∀ a, a ∈ rowA r → ncells (fz fl top base σ (n + 2) a) = ncells a) ↔ True :=
  ⟨fun _ => trivial, fun _ a ha => by
    obtain ⟨v, _, rfl⟩ := List.mem_map.1 ha
    simp⟩
end Go.AM
end
section

namespace Go.AM
open P
set_option maxHeartbeats 4000000
set_option maxRecDepth 4000
theorem sortC_length {α : Type} (c : α → α → Int) (l : List α) : (sortC c l).length = l.length := (sortC_perm l).length_eq
theorem eqa_self (v : Val) : eqa true [0, 0, 0, 2] v.a v.a = some (.bool false) := by simp [Val.a]
theorem Equal_self (b b' : Bool) (r : List Val) (hn : r.length ≤ most) : pcall I.slices_Equal_api_Row_api_Value [.imm b (rowA r), .imm b' (rowA r)] = some (.bool true) := by
  rw [pcall_eq c_slices_Equal_api_Row_api_Value rfl]
  have hloop := rounds_iter (base := 0) (clr := [2, 3, 7, 8]) (b := l_slices_Equal_api_Row_api_Value_0) (fun k => ⟨[.imm b (rowA r), .imm b' (rowA r), .any, .any, .bool false, .int .i64 r.length, .int .i64 k, .any, .any], []⟩) r.length
    (.ext 0, ⟨[.imm b (rowA r), .imm b' (rowA r), .any, .any, .bool false, .int .i64 r.length, .int .i64 r.length, .bool false, .any], []⟩)
    (fun k hk => by
      have h1 := rowA_get hk
      have hlt : ((k : Int) < (r.length : Int)) := by omega
      have h2 := eqa_self r[k]
      simp [l_slices_Equal_api_Row_api_Value_0, h1, hlt, -eqa, h2, wrap_lt hk hn, roundEnd_same])
    (by simp [l_slices_Equal_api_Row_api_Value_0])
  simp at hloop
  simp [f_slices_Equal_api_Row_api_Value, b_slices_Equal_api_Row_api_Value, hloop]
theorem equal_self (b b' : Bool) (r : List Val) (hn : r.length ≤ most) : pcall I.row_equal [.imm b (rowA r), .imm b' (rowA r)] = some (.bool true) := by
  rw [pcall_eq c_row_equal rfl]
  have := fun b b' => Equal_self b b' r hn
  simp [f_row_equal, b_row_equal, this]
theorem Same_self (b b' c c' : Bool) (rs : List (List Val)) (hn : rs.length ≤ most) (hr : ∀ r ∈ rs, r.length ≤ most) : pcall I.row_Same [.imm b (rowsA c rs), .imm b' (rowsA c' rs)] = some (.bool true) := by
  rw [pcall_eq c_row_Same rfl]
  have h : ∀ b b', pcall I.slices_EqualFunc_api_Row_api_Row_api_Row_api_Row [.imm b (rowsA c rs), .imm b' (rowsA c' rs), .fn 116 [] []] = some (.bool true) := fun b b' => by
    rw [pcall_eq c_slices_EqualFunc_api_Row_api_Row_api_Row_api_Row rfl]
    have hloop := rounds_iter (base := 0) (clr := [3, 4, 5, 6, 11, 12]) (b := l_slices_EqualFunc_api_Row_api_Row_api_Row_api_Row_0) (fun k => ⟨[.imm b (rowsA c rs), .imm b' (rowsA c' rs), .fn 116 [] [], .any, .any, .any, .any, .bool false, .imm b (rowsA c rs), .int .i64 rs.length, .int .i64 k, .any, .any], []⟩) rs.length
      (.ext 0, ⟨[.imm b (rowsA c rs), .imm b' (rowsA c' rs), .fn 116 [] [], .any, .any, .any, .any, .bool false, .imm b (rowsA c rs), .int .i64 rs.length, .int .i64 rs.length, .bool false, .any], []⟩)
      (fun k hk => by
        have h1 := rowsA_get (b := c) hk
        have h2 := rowsA_get (b := c') hk
        have h3 := fun b b' => equal_self b b' rs[k] (hr _ (List.getElem_mem hk))
        have hlt : ((k : Int) < (rs.length : Int)) := by omega
        simp [l_slices_EqualFunc_api_Row_api_Row_api_Row_api_Row_0, h1, h2, h3, hlt, wrap_lt hk hn, roundEnd_same])
      (by simp [l_slices_EqualFunc_api_Row_api_Row_api_Row_api_Row_0])
    simp at hloop
    simp [f_slices_EqualFunc_api_Row_api_Row_api_Row_api_Row, b_slices_EqualFunc_api_Row_api_Row_api_Row_api_Row, hloop]
  simp [f_row_Same, b_row_Same, h]
theorem alike_self (b b' c c' : Bool) (rs : List (List Val)) (hn : rs.length ≤ most) (hr : ∀ r ∈ rs, r.length ≤ most) : pcall I.blaw20_alike [.imm b (rowsA c rs), .imm b' (rowsA c' rs)] = some (.bool true) := by
  rw [pcall_eq c_blaw20_alike rfl]
  have := fun b b' => Same_self b b' c c' rs hn hr
  simp [f_blaw20_alike, b_blaw20_alike, this]
end Go.AM
end
section

namespace Go.AM
open P
set_option maxHeartbeats 4000000
set_option maxRecDepth 4000
def thenKeep (res : List Res) (r : Option (Ex × St)) : Option (AVal × Store) := r.bind fun r => match r.1 with
  | .ext _ => none
  | _ => (results r.2 res).map fun v => (v, r.2.st)
@[simp] theorem thenKeep_ret (res : List Res) (s : St) : thenKeep res (some (.ret, s)) = (results s res).map fun v => (v, s.st) := rfl
@[simp] theorem thenKeep_nrm (res : List Res) (s : St) : thenKeep res (some (.nrm, s)) = (results s res).map fun v => (v, s.st) := rfl
theorem acall_keep {f : Nat} {g : AFunc} (h : code.fns f = .fn g) (hm : g.mode = .keep) (args : List AVal) (σ : Store) :
    acall code f args σ = thenKeep g.res (run code g.body ⟨args.take g.np ++ List.replicate (g.nenv - g.np) .any, σ⟩) := by
  rw [acall_fn good h]
  have he : enter g args σ = ⟨args.take g.np ++ List.replicate (g.nenv - g.np) .any, σ⟩ := by unfold enter; rw [hm]
  rw [he]
  unfold thenKeep
  congr 1
  funext r
  obtain ⟨e, s⟩ := r
  unfold leave finish
  rw [hm]
  cases e <;> rfl
theorem rowA_take (r : List Val) (k : Nat) : (rowA r).take k = rowA (r.take k) := by simp [rowA, List.map_take]
theorem rowA_nc4 (r : List Val) : ∀ a, a ∈ rowA r → ncells a = 4 := fun a ha => by
  obtain ⟨o, _, rfl⟩ := List.mem_map.1 ha
  rfl
theorem cutVal_spec (b : Bool) (r : List Val) : pcall I.blaw20_cut_api_Value [.imm b (rowA r), .int .i64 17] = some (.frs 4 (rowA (r.take 17))) := by
  rw [pcall_eq c_blaw20_cut_api_Value rfl]
  by_cases h : 17 < r.length
  · have hi : ((17 : Int) < r.length) := by omega
    have h1 : min 17 r.length = 17 := by omega
    have h2 : r.take 17 ≠ [] := List.ne_nil_of_length_pos (by simp; omega)
    have h3 : rowA (r.take 17) ≠ [] := List.ne_nil_of_length_pos (by simp; omega)
    have h4 : (17 : Nat) ≤ r.length := by omega
    have h5 : (rowA (r.take 17)).take 17 = rowA (r.take 17) := List.take_of_length_le (by simp; omega)
    have h7 := fun a ha => rowA_nc4 r a ha
    have h8 := fun a ha => rowA_nc4 (r.take 17) a ha
    have hf := fresh_row (r.take 17) 0 1 [.arr 4 1 (rowA (r.take 17))] rfl
    rw [show (r.take 17).length = 17 by simp; omega] at hf
    simp [f_blaw20_cut_api_Value, b_blaw20_cut_api_Value, hi, append, rowA_take, h1, h2, h3, h4, h5, if_pos h7, if_pos h8, most, hf]
  · have hi : ¬ ((17 : Int) < r.length) := by omega
    have h0 : r.take 17 = r := List.take_of_length_le (by omega)
    have h6 : r.take r.length = r := List.take_of_length_le (by omega)
    have h7 := fun a ha => rowA_nc4 r a ha
    rw [h0]
    by_cases he : r = []
    · subst he
      simp [f_blaw20_cut_api_Value, b_blaw20_cut_api_Value, append, rowA, freshOf]
    · have h3 : rowA r ≠ [] := by simpa [rowA] using he
      have h5 : (rowA r).take r.length = rowA r := List.take_of_length_le (by simp)
      have h9 : r.length ≤ most := by unfold most; omega
      have hf := fresh_row r 0 1 [.arr 4 1 (rowA r)] rfl
      simp [f_blaw20_cut_api_Value, b_blaw20_cut_api_Value, hi, append, rowA_take, he, h3, h5, h6, if_pos h7, h9, hf]
end Go.AM
end
section

namespace Go.AM
open P
set_option maxHeartbeats 4000000
set_option maxRecDepth 8000
theorem fresh_map {α : Type} {f : α → AVal} {m : Nat} {g : Bool} [Nc f m g] [Fx f] (l : List α) (id ep : Nat) (σ : Store) (h : σ[id]? = some (.arr m ep (l.map f))) : freshOf m σ (.sl id ep 0 l.length) = .frs m (l.map f) := by
  have h9 : (l.map f).take l.length = l.map f := List.take_of_length_le (by simp)
  have h10 : ∀ σ', (l.map f).map (frozen σ') = l.map f := fun σ' => by
    rw [List.map_map]; exact List.map_congr_left fun y _ => Fx.fx false false 0 σ' 17 y
  simp only [freshOf, h, h9, h10, frsAt]
  simp
theorem w64 {n : Int} (h1 : -9223372036854775808 ≤ n) (h2 : n < 9223372036854775808) : IntKind.i64.wrap n = n := wrap64_id ⟨h1, h2⟩
abbrev Still (f : AVal) : Prop := ∀ σ, fz true false 0 σ 20 f = f
def ixF {α : Type} (p : α → Bool) (l : List α) : Int := if l.any p then ((l.findIdx p : Nat) : Int) else -1
theorem Index_int_int {α : Type} {enc : α → AVal} {b : Bool} {l : List α} {f : AVal} {p : α → Bool} (hn : l.length ≤ most) (he : ∀ y, ncells (enc y) = 1 ∧ isAgg (enc y) = false) (hs : Still f)
    (h : ∀ y ∈ l, acallV code f [enc y] [] = some (.bool (p y), [])) : pcall I.slices_IndexFunc_int_int [.imm b (l.map enc), f] = some (.int .i64 (ixF p l)) := by
  rw [pcall_eq c_slices_IndexFunc_int_int rfl]
  have hs0 := hs []
  have hstep : ∀ k, k < l.length → ∀ y, l[k]? = some y → p y = false → thenLoop 0 [2, 3, 6, 7] l_slices_IndexFunc_int_int_0 (run code l_slices_IndexFunc_int_int_0 ⟨[.imm b (l.map enc), f, .any, .any, .int .i64 l.length, .int .i64 k, .any, .any], []⟩) =
      rounds code 0 [2, 3, 6, 7] l_slices_IndexFunc_int_int_0 ⟨[.imm b (l.map enc), f, .any, .any, .int .i64 l.length, .int .i64 (k + 1 : Nat), .any, .any], []⟩ := fun k hk y hy hp => by
    have h2 := he y
    have h3 := h y (List.mem_of_getElem? hy)
    rw [hp] at h3
    have hlt : ((k : Int) < (l.length : Int)) := by omega
    simp [l_slices_IndexFunc_int_int_0, hy, h2, h3, hlt, wrap_lt hk hn, roundEnd_same]
  unfold ixF
  by_cases ha : l.any p = true
  · have hlt := List.findIdx_lt_length_of_exists (List.any_eq_true.1 ha)
    have hp : p l[l.findIdx p] = true := List.findIdx_getElem (w := hlt)
    have hloop := rounds_iter (base := 0) (clr := [2, 3, 6, 7]) (b := l_slices_IndexFunc_int_int_0) (fun k => ⟨[.imm b (l.map enc), f, .any, .any, .int .i64 l.length, .int .i64 k, .any, .any], []⟩) (l.findIdx p)
      (.ret, ⟨[.imm b (l.map enc), f, .int .i64 (l.findIdx p), .int .i64 (l.findIdx p), .int .i64 l.length, .int .i64 (l.findIdx p), .bool true, .bool true], []⟩)
      (fun k hk => hstep k (by omega) _ (List.getElem?_eq_getElem (by omega)) (by simpa using List.not_of_lt_findIdx hk))
      (by
        have h1 : l[l.findIdx p]? = some l[l.findIdx p] := List.getElem?_eq_getElem hlt
        have h2 := he l[l.findIdx p]
        have h3 := h _ (List.getElem_mem hlt)
        rw [hp] at h3
        have hlt' : ((l.findIdx p : Int) < (l.length : Int)) := by omega
        simp [l_slices_IndexFunc_int_int_0, h1, h2, h3, hlt'])
    simp at hloop
    simp [f_slices_IndexFunc_int_int, b_slices_IndexFunc_int_int, hs0, hloop, ha]
  · have hall : ∀ y ∈ l, p y = false := fun y hy => by simpa using List.any_eq_false.1 (Bool.not_eq_true _ ▸ ha) y hy
    have hloop := rounds_iter (base := 0) (clr := [2, 3, 6, 7]) (b := l_slices_IndexFunc_int_int_0) (fun k => ⟨[.imm b (l.map enc), f, .any, .any, .int .i64 l.length, .int .i64 k, .any, .any], []⟩) l.length
      (.ext 0, ⟨[.imm b (l.map enc), f, .any, .any, .int .i64 l.length, .int .i64 l.length, .bool false, .any], []⟩)
      (fun k hk => hstep k hk _ (List.getElem?_eq_getElem hk) (hall _ (List.getElem_mem hk)))
      (by simp [l_slices_IndexFunc_int_int_0])
    simp at hloop
    simp [f_slices_IndexFunc_int_int, b_slices_IndexFunc_int_int, hs0, hloop, ha]
theorem Contains_int_int {α : Type} {enc : α → AVal} {b : Bool} {l : List α} {f : AVal} {p : α → Bool} (hn : l.length ≤ most) (he : ∀ y, ncells (enc y) = 1 ∧ isAgg (enc y) = false) (hs : Still f)
    (h : ∀ y ∈ l, acallV code f [enc y] [] = some (.bool (p y), [])) : pcall I.slices_ContainsFunc_int_int [.imm b (l.map enc), f] = some (.bool (l.any p)) := by
  rw [pcall_eq c_slices_ContainsFunc_int_int rfl]
  have h := Index_int_int (b := b) hn he hs h
  have hs0 := hs []
  unfold ixF at h
  cases ha : l.any p <;> rw [ha] at h <;> simp [f_slices_ContainsFunc_int_int, b_slices_ContainsFunc_int_int, hs0, h]
theorem Index_api_Ord_api_Ord {α : Type} {enc : α → AVal} {b : Bool} {l : List α} {f : AVal} {p : α → Bool} (hn : l.length ≤ most) (he : ∀ y, ncells (enc y) = 2 ∧ isAgg (enc y) = true) (hs : Still f)
    (h : ∀ y ∈ l, acallV code f [enc y] [] = some (.bool (p y), [])) : pcall I.slices_IndexFunc_api_Ord_api_Ord [.imm b (l.map enc), f] = some (.int .i64 (ixF p l)) := by
  rw [pcall_eq c_slices_IndexFunc_api_Ord_api_Ord rfl]
  have hs0 := hs []
  have hstep : ∀ k, k < l.length → ∀ y, l[k]? = some y → p y = false → thenLoop 0 [2, 3, 6, 7] l_slices_IndexFunc_api_Ord_api_Ord_0 (run code l_slices_IndexFunc_api_Ord_api_Ord_0 ⟨[.imm b (l.map enc), f, .any, .any, .int .i64 l.length, .int .i64 k, .any, .any], []⟩) =
      rounds code 0 [2, 3, 6, 7] l_slices_IndexFunc_api_Ord_api_Ord_0 ⟨[.imm b (l.map enc), f, .any, .any, .int .i64 l.length, .int .i64 (k + 1 : Nat), .any, .any], []⟩ := fun k hk y hy hp => by
    have h2 := he y
    have h3 := h y (List.mem_of_getElem? hy)
    rw [hp] at h3
    have hlt : ((k : Int) < (l.length : Int)) := by omega
    simp [l_slices_IndexFunc_api_Ord_api_Ord_0, hy, h2, h3, hlt, wrap_lt hk hn, roundEnd_same]
  unfold ixF
  by_cases ha : l.any p = true
  · have hlt := List.findIdx_lt_length_of_exists (List.any_eq_true.1 ha)
    have hp : p l[l.findIdx p] = true := List.findIdx_getElem (w := hlt)
    have hloop := rounds_iter (base := 0) (clr := [2, 3, 6, 7]) (b := l_slices_IndexFunc_api_Ord_api_Ord_0) (fun k => ⟨[.imm b (l.map enc), f, .any, .any, .int .i64 l.length, .int .i64 k, .any, .any], []⟩) (l.findIdx p)
      (.ret, ⟨[.imm b (l.map enc), f, .int .i64 (l.findIdx p), .int .i64 (l.findIdx p), .int .i64 l.length, .int .i64 (l.findIdx p), .bool true, .bool true], []⟩)
      (fun k hk => hstep k (by omega) _ (List.getElem?_eq_getElem (by omega)) (by simpa using List.not_of_lt_findIdx hk))
      (by
        have h1 : l[l.findIdx p]? = some l[l.findIdx p] := List.getElem?_eq_getElem hlt
        have h2 := he l[l.findIdx p]
        have h3 := h _ (List.getElem_mem hlt)
        rw [hp] at h3
        have hlt' : ((l.findIdx p : Int) < (l.length : Int)) := by omega
        simp [l_slices_IndexFunc_api_Ord_api_Ord_0, h1, h2, h3, hlt'])
    simp at hloop
    simp [f_slices_IndexFunc_api_Ord_api_Ord, b_slices_IndexFunc_api_Ord_api_Ord, hs0, hloop, ha]
  · have hall : ∀ y ∈ l, p y = false := fun y hy => by simpa using List.any_eq_false.1 (Bool.not_eq_true _ ▸ ha) y hy
    have hloop := rounds_iter (base := 0) (clr := [2, 3, 6, 7]) (b := l_slices_IndexFunc_api_Ord_api_Ord_0) (fun k => ⟨[.imm b (l.map enc), f, .any, .any, .int .i64 l.length, .int .i64 k, .any, .any], []⟩) l.length
      (.ext 0, ⟨[.imm b (l.map enc), f, .any, .any, .int .i64 l.length, .int .i64 l.length, .bool false, .any], []⟩)
      (fun k hk => hstep k hk _ (List.getElem?_eq_getElem hk) (hall _ (List.getElem_mem hk)))
      (by simp [l_slices_IndexFunc_api_Ord_api_Ord_0])
    simp at hloop
    simp [f_slices_IndexFunc_api_Ord_api_Ord, b_slices_IndexFunc_api_Ord_api_Ord, hs0, hloop, ha]
theorem Contains_api_Ord_api_Ord {α : Type} {enc : α → AVal} {b : Bool} {l : List α} {f : AVal} {p : α → Bool} (hn : l.length ≤ most) (he : ∀ y, ncells (enc y) = 2 ∧ isAgg (enc y) = true) (hs : Still f)
    (h : ∀ y ∈ l, acallV code f [enc y] [] = some (.bool (p y), [])) : pcall I.slices_ContainsFunc_api_Ord_api_Ord [.imm b (l.map enc), f] = some (.bool (l.any p)) := by
  rw [pcall_eq c_slices_ContainsFunc_api_Ord_api_Ord rfl]
  have h := Index_api_Ord_api_Ord (b := b) hn he hs h
  have hs0 := hs []
  unfold ixF at h
  cases ha : l.any p <;> rw [ha] at h <;> simp [f_slices_ContainsFunc_api_Ord_api_Ord, b_slices_ContainsFunc_api_Ord_api_Ord, hs0, h]
theorem Index_api_Row_api_Row {α : Type} {enc : α → AVal} {b : Bool} {l : List α} {f : AVal} {p : α → Bool} (hn : l.length ≤ most) (he : ∀ y, ncells (enc y) = 1 ∧ isAgg (enc y) = false) (hs : Still f)
    (h : ∀ y ∈ l, acallV code f [enc y] [] = some (.bool (p y), [])) : pcall I.slices_IndexFunc_api_Row_api_Row [.imm b (l.map enc), f] = some (.int .i64 (ixF p l)) := by
  rw [pcall_eq c_slices_IndexFunc_api_Row_api_Row rfl]
  have hs0 := hs []
  have hstep : ∀ k, k < l.length → ∀ y, l[k]? = some y → p y = false → thenLoop 0 [2, 3, 6, 7] l_slices_IndexFunc_api_Row_api_Row_0 (run code l_slices_IndexFunc_api_Row_api_Row_0 ⟨[.imm b (l.map enc), f, .any, .any, .int .i64 l.length, .int .i64 k, .any, .any], []⟩) =
      rounds code 0 [2, 3, 6, 7] l_slices_IndexFunc_api_Row_api_Row_0 ⟨[.imm b (l.map enc), f, .any, .any, .int .i64 l.length, .int .i64 (k + 1 : Nat), .any, .any], []⟩ := fun k hk y hy hp => by
    have h2 := he y
    have h3 := h y (List.mem_of_getElem? hy)
    rw [hp] at h3
    have hlt : ((k : Int) < (l.length : Int)) := by omega
    simp [l_slices_IndexFunc_api_Row_api_Row_0, hy, h2, h3, hlt, wrap_lt hk hn, roundEnd_same]
  unfold ixF
  by_cases ha : l.any p = true
  · have hlt := List.findIdx_lt_length_of_exists (List.any_eq_true.1 ha)
    have hp : p l[l.findIdx p] = true := List.findIdx_getElem (w := hlt)
    have hloop := rounds_iter (base := 0) (clr := [2, 3, 6, 7]) (b := l_slices_IndexFunc_api_Row_api_Row_0) (fun k => ⟨[.imm b (l.map enc), f, .any, .any, .int .i64 l.length, .int .i64 k, .any, .any], []⟩) (l.findIdx p)
      (.ret, ⟨[.imm b (l.map enc), f, .int .i64 (l.findIdx p), .int .i64 (l.findIdx p), .int .i64 l.length, .int .i64 (l.findIdx p), .bool true, .bool true], []⟩)
      (fun k hk => hstep k (by omega) _ (List.getElem?_eq_getElem (by omega)) (by simpa using List.not_of_lt_findIdx hk))
      (by
        have h1 : l[l.findIdx p]? = some l[l.findIdx p] := List.getElem?_eq_getElem hlt
        have h2 := he l[l.findIdx p]
        have h3 := h _ (List.getElem_mem hlt)
        rw [hp] at h3
        have hlt' : ((l.findIdx p : Int) < (l.length : Int)) := by omega
        simp [l_slices_IndexFunc_api_Row_api_Row_0, h1, h2, h3, hlt'])
    simp at hloop
    simp [f_slices_IndexFunc_api_Row_api_Row, b_slices_IndexFunc_api_Row_api_Row, hs0, hloop, ha]
  · have hall : ∀ y ∈ l, p y = false := fun y hy => by simpa using List.any_eq_false.1 (Bool.not_eq_true _ ▸ ha) y hy
    have hloop := rounds_iter (base := 0) (clr := [2, 3, 6, 7]) (b := l_slices_IndexFunc_api_Row_api_Row_0) (fun k => ⟨[.imm b (l.map enc), f, .any, .any, .int .i64 l.length, .int .i64 k, .any, .any], []⟩) l.length
      (.ext 0, ⟨[.imm b (l.map enc), f, .any, .any, .int .i64 l.length, .int .i64 l.length, .bool false, .any], []⟩)
      (fun k hk => hstep k hk _ (List.getElem?_eq_getElem hk) (hall _ (List.getElem_mem hk)))
      (by simp [l_slices_IndexFunc_api_Row_api_Row_0])
    simp at hloop
    simp [f_slices_IndexFunc_api_Row_api_Row, b_slices_IndexFunc_api_Row_api_Row, hs0, hloop, ha]
theorem Contains_api_Row_api_Row {α : Type} {enc : α → AVal} {b : Bool} {l : List α} {f : AVal} {p : α → Bool} (hn : l.length ≤ most) (he : ∀ y, ncells (enc y) = 1 ∧ isAgg (enc y) = false) (hs : Still f)
    (h : ∀ y ∈ l, acallV code f [enc y] [] = some (.bool (p y), [])) : pcall I.slices_ContainsFunc_api_Row_api_Row [.imm b (l.map enc), f] = some (.bool (l.any p)) := by
  rw [pcall_eq c_slices_ContainsFunc_api_Row_api_Row rfl]
  have h := Index_api_Row_api_Row (b := b) hn he hs h
  have hs0 := hs []
  unfold ixF at h
  cases ha : l.any p <;> rw [ha] at h <;> simp [f_slices_ContainsFunc_api_Row_api_Row, b_slices_ContainsFunc_api_Row_api_Row, hs0, h]
theorem Clone_int_int {α : Type} {enc : α → AVal} [Nc enc 1 false] [Fx enc] (b : Bool) (l : List α) (hn : l.length ≤ most) : pcall I.slices_Clone_int_int [.imm b (l.map enc)] = some (.frs 1 (l.map enc)) := by
  cases l with
  | nil => cases b <;> exact pcall_from (n := 20) (σ := []) (by kernel_rfl)
  | cons v r =>
    have hall := all_nc (f := enc) (v :: r)
    have hl : ((v :: r).map enc).length = r.length + 1 := by simp
    have hne : emptyS [] (.imm b ((v :: r).map enc)) = false := rfl
    unfold pcall
    rw [acall_nilfn good c_slices_Clone_int_int, hne]
    simp only [Bool.false_eq_true, if_false]
    unfold acallG
    have hn' : r.length + 1 ≤ most := by simpa using hn
    have hnil : nilsV false [] (.imm b ((v :: r).map enc)) = some (.bool false) := rfl
    have hf := fresh_map (f := enc) (v :: r) 0 0 [.arr 1 0 ((v :: r).map enc)] rfl
    have hx : (v :: r).map enc ≠ [] := by simp
    have hy : ∀ x, x ∈ (v :: r).map enc → ncells x = 1 := fun x hx => by simpa using List.all_eq_true.1 hall x hx
    have ht : ((v :: r).map enc).take (r.length + 1) = (v :: r).map enc := List.take_of_length_le (by simp)
    simp only [List.length_cons] at hf
    generalize (v :: r).map enc = xs at *
    simp [f_slices_Clone_int_int, b_slices_Clone_int_int, enter, leave, append, hall, hl, hn', -nilsV, hnil, hx]
    rw [if_pos hy]
    simp [leave]
    exact hf
@[simp] theorem aClone_int_int {α : Type} {enc : α → AVal} [Nc enc 1 false] [Fx enc] (b : Bool) (l : List α) (hn : l.length ≤ most) (σ : Store) : acall code I.slices_Clone_int_int [.imm b (l.map enc)] σ = some (.frs 1 (l.map enc), σ) := by
  rw [acall_nil c_slices_Clone_int_int rfl, Clone_int_int b l hn]; rfl
theorem Clone_api_Row_api_Row {α : Type} {enc : α → AVal} [Nc enc 1 false] [Fx enc] (b : Bool) (l : List α) (hn : l.length ≤ most) : pcall I.slices_Clone_api_Row_api_Row [.imm b (l.map enc)] = some (.frs 1 (l.map enc)) := by
  cases l with
  | nil => cases b <;> exact pcall_from (n := 20) (σ := []) (by kernel_rfl)
  | cons v r =>
    have hall := all_nc (f := enc) (v :: r)
    have hl : ((v :: r).map enc).length = r.length + 1 := by simp
    have hne : emptyS [] (.imm b ((v :: r).map enc)) = false := rfl
    unfold pcall
    rw [acall_nilfn good c_slices_Clone_api_Row_api_Row, hne]
    simp only [Bool.false_eq_true, if_false]
    unfold acallG
    have hn' : r.length + 1 ≤ most := by simpa using hn
    have hnil : nilsV false [] (.imm b ((v :: r).map enc)) = some (.bool false) := rfl
    have hf := fresh_map (f := enc) (v :: r) 0 0 [.arr 1 0 ((v :: r).map enc)] rfl
    have hx : (v :: r).map enc ≠ [] := by simp
    have hy : ∀ x, x ∈ (v :: r).map enc → ncells x = 1 := fun x hx => by simpa using List.all_eq_true.1 hall x hx
    have ht : ((v :: r).map enc).take (r.length + 1) = (v :: r).map enc := List.take_of_length_le (by simp)
    simp only [List.length_cons] at hf
    generalize (v :: r).map enc = xs at *
    simp [f_slices_Clone_api_Row_api_Row, b_slices_Clone_api_Row_api_Row, enter, leave, append, hall, hl, hn', -nilsV, hnil, hx]
    rw [if_pos hy]
    simp [leave]
    exact hf
@[simp] theorem aClone_api_Row_api_Row {α : Type} {enc : α → AVal} [Nc enc 1 false] [Fx enc] (b : Bool) (l : List α) (hn : l.length ≤ most) (σ : Store) : acall code I.slices_Clone_api_Row_api_Row [.imm b (l.map enc)] σ = some (.frs 1 (l.map enc), σ) := by
  rw [acall_nil c_slices_Clone_api_Row_api_Row rfl, Clone_api_Row_api_Row b l hn]; rfl
theorem Clone_api_Row_api_Value {α : Type} {enc : α → AVal} [Nc enc 4 true] [Fx enc] (b : Bool) (l : List α) (hn : l.length ≤ most) : pcall I.slices_Clone_api_Row_api_Value [.imm b (l.map enc)] = some (.frs 4 (l.map enc)) := by
  cases l with
  | nil => cases b <;> exact pcall_from (n := 20) (σ := []) (by kernel_rfl)
  | cons v r =>
    have hall := all_nc (f := enc) (v :: r)
    have hl : ((v :: r).map enc).length = r.length + 1 := by simp
    have hne : emptyS [] (.imm b ((v :: r).map enc)) = false := rfl
    unfold pcall
    rw [acall_nilfn good c_slices_Clone_api_Row_api_Value, hne]
    simp only [Bool.false_eq_true, if_false]
    unfold acallG
    have hn' : r.length + 1 ≤ most := by simpa using hn
    have hnil : nilsV false [] (.imm b ((v :: r).map enc)) = some (.bool false) := rfl
    have hf := fresh_map (f := enc) (v :: r) 0 0 [.arr 4 0 ((v :: r).map enc)] rfl
    have hx : (v :: r).map enc ≠ [] := by simp
    have hy : ∀ x, x ∈ (v :: r).map enc → ncells x = 4 := fun x hx => by simpa using List.all_eq_true.1 hall x hx
    have ht : ((v :: r).map enc).take (r.length + 1) = (v :: r).map enc := List.take_of_length_le (by simp)
    simp only [List.length_cons] at hf
    generalize (v :: r).map enc = xs at *
    simp [f_slices_Clone_api_Row_api_Value, b_slices_Clone_api_Row_api_Value, enter, leave, append, hall, hl, hn', -nilsV, hnil, hx]
    rw [if_pos hy]
    simp [leave]
    exact hf
@[simp] theorem aClone_api_Row_api_Value {α : Type} {enc : α → AVal} [Nc enc 4 true] [Fx enc] (b : Bool) (l : List α) (hn : l.length ≤ most) (σ : Store) : acall code I.slices_Clone_api_Row_api_Value [.imm b (l.map enc)] σ = some (.frs 4 (l.map enc), σ) := by
  rw [acall_nil c_slices_Clone_api_Row_api_Value rfl, Clone_api_Row_api_Value b l hn]; rfl
theorem Clone_api_Value_api_Value {α : Type} {enc : α → AVal} [Nc enc 4 true] [Fx enc] (b : Bool) (l : List α) (hn : l.length ≤ most) : pcall I.slices_Clone_api_Value_api_Value [.imm b (l.map enc)] = some (.frs 4 (l.map enc)) := by
  cases l with
  | nil => cases b <;> exact pcall_from (n := 20) (σ := []) (by kernel_rfl)
  | cons v r =>
    have hall := all_nc (f := enc) (v :: r)
    have hl : ((v :: r).map enc).length = r.length + 1 := by simp
    have hne : emptyS [] (.imm b ((v :: r).map enc)) = false := rfl
    unfold pcall
    rw [acall_nilfn good c_slices_Clone_api_Value_api_Value, hne]
    simp only [Bool.false_eq_true, if_false]
    unfold acallG
    have hn' : r.length + 1 ≤ most := by simpa using hn
    have hnil : nilsV false [] (.imm b ((v :: r).map enc)) = some (.bool false) := rfl
    have hf := fresh_map (f := enc) (v :: r) 0 0 [.arr 4 0 ((v :: r).map enc)] rfl
    have hx : (v :: r).map enc ≠ [] := by simp
    have hy : ∀ x, x ∈ (v :: r).map enc → ncells x = 4 := fun x hx => by simpa using List.all_eq_true.1 hall x hx
    have ht : ((v :: r).map enc).take (r.length + 1) = (v :: r).map enc := List.take_of_length_le (by simp)
    simp only [List.length_cons] at hf
    generalize (v :: r).map enc = xs at *
    simp [f_slices_Clone_api_Value_api_Value, b_slices_Clone_api_Value_api_Value, enter, leave, append, hall, hl, hn', -nilsV, hnil, hx]
    rw [if_pos hy]
    simp [leave]
    exact hf
@[simp] theorem aClone_api_Value_api_Value {α : Type} {enc : α → AVal} [Nc enc 4 true] [Fx enc] (b : Bool) (l : List α) (hn : l.length ≤ most) (σ : Store) : acall code I.slices_Clone_api_Value_api_Value [.imm b (l.map enc)] σ = some (.frs 4 (l.map enc), σ) := by
  rw [acall_nil c_slices_Clone_api_Value_api_Value rfl, Clone_api_Value_api_Value b l hn]; rfl
theorem Concat_int_int {α : Type} {enc : α → AVal} [Nc enc 1 false] [Fx enc] (b : Bool) (ls : List (SlX α)) (hn : (ls.flatMap (·.l)).length ≤ most) (hl : ls.length ≤ most) :
    pcall I.slices_Concat_int_int [.imm b (ls.map (SlX.c enc))] = some (.imm false ((ls.flatMap (·.l)).map enc)) := by
  rw [pcall_eq c_slices_Concat_int_int rfl]
  have hsum0 : ∀ (r : List (SlX α)) (k : Nat), ls.drop k = r → (ls.flatMap (·.l)).length = ((ls.take k).flatMap (·.l)).length + (r.flatMap (·.l)).length := fun r k h => by
    have := congrArg (fun x => (x.flatMap (fun (s : SlX α) => s.l)).length) (List.take_append_drop k ls)
    simp only [List.flatMap_append, List.length_append, h] at this
    omega
  generalize hF : ls.flatMap (·.l) = F at *
  have hn' : F.length ≤ 68719476736 := hn
  have hsum := hsum0
  have h1 : ∀ (r : List (SlX α)) (k : Nat), ls.drop k = r → k ≤ ls.length → rounds code 0 [3, 9, 10] l_slices_Concat_int_int_1 ⟨[.imm b (ls.map (SlX.c enc)), .nil0, .int .i64 (((ls.take k).flatMap (·.l)).length : Nat), .any, .any, .any, .imm b (ls.map (SlX.c enc)), .int .i64 ls.length, .int .i64 k, .any, .any, .any, .any, .any, .any], []⟩ =
      some (.ext 0, ⟨[.imm b (ls.map (SlX.c enc)), .nil0, .int .i64 (F.length : Nat), .any, .any, .any, .imm b (ls.map (SlX.c enc)), .int .i64 ls.length, .int .i64 ls.length, .bool false, .any, .any, .any, .any, .any], []⟩) := by
    intro r
    induction r with
    | nil =>
      intro k hd hk
      have : k = ls.length := by
        have := congrArg List.length hd
        simp at this; omega
      subst this
      rw [rounds_go0, List.take_length, hF]
      simp [l_slices_Concat_int_int_1]
    | cons y r ih =>
      intro k hd hk
      have hlt : k < ls.length := by
        have := congrArg List.length hd
        simp at this; omega
      have hy : ls[k]? = some y := by
        have := congrArg (·[0]?) hd
        simpa using this
      have hr : ls.drop (k + 1) = r := by
        have := congrArg List.tail hd
        simpa [List.tail_drop] using this
      have hi : ((k : Int) < (ls.length : Int)) := by omega
      have hs1 := hsum r (k + 1) hr
      have ht : ((ls.take (k + 1)).flatMap (·.l)).length = ((ls.take k).flatMap (·.l)).length + y.l.length := by
        rw [List.take_add_one, hy]; simp
      have ih := ih (k + 1) hr (by omega)
      rw [ht] at ih hs1
      generalize ((ls.take k).flatMap (·.l)).length = s at *
      have w := w64 (n := (s : Int) + (y.l.length : Int)) (by omega) (by omega)
      have hneg : ¬ ((s : Int) + (y.l.length : Int) < 0) := by omega
      rw [rounds_go0, ← ih]
      simp [l_slices_Concat_int_int_1, hi, hy, w, hneg, wrap_lt hlt hl, roundEnd_same]
  have h1 := h1 ls 0 (by simp) (by simp)
  simp at h1
  have h2 : ∀ (r : List (SlX α)) (k ep : Nat) (es : List AVal), ls.drop k = r → k ≤ ls.length → es.take ((ls.take k).flatMap (·.l)).length = ((ls.take k).flatMap (·.l)).map enc → ((ls.take k).flatMap (·.l)).length ≤ es.length → ∃ ep' es', es'.take F.length = F.map enc ∧ F.length ≤ es'.length ∧
      rounds code 1 [5, 14] l_slices_Concat_int_int_0 ⟨[.imm b (ls.map (SlX.c enc)), .nil0, .int .i64 (F.length : Nat), .any, .sl 0 ep 0 ((ls.take k).flatMap (·.l)).length, .any, .imm b (ls.map (SlX.c enc)), .int .i64 ls.length, .int .i64 ls.length, .bool false, .any, .imm b (ls.map (SlX.c enc)), .int .i64 ls.length, .int .i64 k, .any], [.arr 1 ep es]⟩ =
      some (.ext 2, ⟨[.imm b (ls.map (SlX.c enc)), .nil0, .int .i64 (F.length : Nat), .any, .sl 0 ep' 0 F.length, .any, .imm b (ls.map (SlX.c enc)), .int .i64 ls.length, .int .i64 ls.length, .bool false, .any, .imm b (ls.map (SlX.c enc)), .int .i64 ls.length, .int .i64 ls.length, .bool false], [.arr 1 ep' es']⟩) := by
    intro r
    induction r with
    | nil =>
      intro k ep es hd hk he hel
      have : k = ls.length := by
        have := congrArg List.length hd
        simp at this; omega
      subst this
      rw [List.take_length, hF] at he hel
      refine ⟨ep, es, he, hel, ?_⟩
      rw [rounds_go0, List.take_length, hF]
      simp [l_slices_Concat_int_int_0]
    | cons y r ih =>
      intro k ep es hd hk he hel
      have hlt : k < ls.length := by
        have := congrArg List.length hd
        simp at this; omega
      have hy : ls[k]? = some y := by
        have := congrArg (·[0]?) hd
        simpa using this
      have hr : ls.drop (k + 1) = r := by
        have := congrArg List.tail hd
        simpa [List.tail_drop] using this
      have hi : ((k : Int) < (ls.length : Int)) := by omega
      have hs1 := hsum r (k + 1) hr
      have hT : (ls.take (k + 1)).flatMap (·.l) = (ls.take k).flatMap (·.l) ++ y.l := by
        rw [List.take_add_one, hy]; simp
      have ih := fun ep es => ih (k + 1) ep es hr (by omega)
      rw [hT] at ih hs1
      generalize (ls.take k).flatMap (·.l) = s at *
      rw [List.length_append] at hs1
      by_cases hy0 : y.l = []
      · rw [hy0, List.append_nil] at ih
        obtain ⟨ep', es', q1, q2, q3⟩ := ih ep es he hel
        refine ⟨ep', es', q1, q2, ?_⟩
        rw [rounds_go0, ← q3]
        simp [l_slices_Concat_int_int_0, hi, hy, hy0, append, wrap_lt hlt hl, roundEnd_same]
      · obtain ⟨ep', es', q1, q2, q3⟩ := ih (ep + 1) (s.map enc ++ y.l.map enc) (by rw [← List.map_append]; exact List.take_of_length_le (by simp)) (by simp)
        refine ⟨ep', es', q1, q2, ?_⟩
        have hm : s.length + y.l.length ≤ most := by unfold most; omega
        have hall : ∀ x ∈ y.l, ncells (enc x) = 1 := fun x _ => Nc.nc x
        rw [List.length_append] at q3
        rw [rounds_go0, ← q3]
        simp [l_slices_Concat_int_int_0, hi, hy, hy0, append, hel, he, hm, wrap_lt hlt hl, roundEnd_same]
        rw [if_pos hall]
        simp [roundEnd_same, wrap_lt hlt hl]
  have hgrow : 0 < F.length → acall code I.slices_Grow_int_int [.nil0, .int .i64 (F.length : Nat)] [] = some (.sl 0 0 0 0, [.arr 1 0 (List.replicate F.length (.int .i64 0))]) := fun h0 => by
    rw [acall_keep c_slices_Grow_int_int rfl]
    generalize F.length = n at *
    have e1 : ¬ ((n : Int) < 0) := by omega
    have e2 : (0 : Int) < (n : Int) := by omega
    have e3 := w64 (n := (n : Int)) (by omega) (by omega)
    have e4 : IntKind.i64.wrap 0 = 0 := rfl
    simp [f_slices_Grow_int_int, b_slices_Grow_int_int, e1, e2, e3, e4, append, hn, h0, show ¬ n = 0 by omega, show (n : Int).toNat = n by omega]
  have hgrow0 : acall code I.slices_Grow_int_int [.nil0, .int .i64 0] [] = some (.nil0, []) := by
    rw [acall_keep c_slices_Grow_int_int rfl]
    have e4 : IntKind.i64.wrap 0 = 0 := rfl
    simp [f_slices_Grow_int_int, b_slices_Grow_int_int, e4]
  by_cases h0 : F.length = 0
  · have h3 : ∀ (r : List (SlX α)) (k : Nat), ls.drop k = r → k ≤ ls.length → rounds code 0 [5, 14] l_slices_Concat_int_int_0 ⟨[.imm b (ls.map (SlX.c enc)), .nil0, .int .i64 0, .any, .nil0, .any, .imm b (ls.map (SlX.c enc)), .int .i64 ls.length, .int .i64 ls.length, .bool false, .any, .imm b (ls.map (SlX.c enc)), .int .i64 ls.length, .int .i64 k, .any], []⟩ =
        some (.ext 2, ⟨[.imm b (ls.map (SlX.c enc)), .nil0, .int .i64 0, .any, .nil0, .any, .imm b (ls.map (SlX.c enc)), .int .i64 ls.length, .int .i64 ls.length, .bool false, .any, .imm b (ls.map (SlX.c enc)), .int .i64 ls.length, .int .i64 ls.length, .bool false], []⟩) := by
      intro r
      induction r with
      | nil =>
        intro k hd hk
        have : k = ls.length := by
          have := congrArg List.length hd
          simp at this; omega
        subst this
        rw [rounds_go0]
        simp [l_slices_Concat_int_int_0]
      | cons y r ih =>
        intro k hd hk
        have hlt : k < ls.length := by
          have := congrArg List.length hd
          simp at this; omega
        have hy : ls[k]? = some y := by
          have := congrArg (·[0]?) hd
          simpa using this
        have hr : ls.drop (k + 1) = r := by
          have := congrArg List.tail hd
          simpa [List.tail_drop] using this
        have hi : ((k : Int) < (ls.length : Int)) := by omega
        have hy0 : y.l = [] := by
          have h' := List.eq_nil_of_length_eq_zero h0
          rw [← hF, List.flatMap_eq_nil_iff] at h'
          exact h' y (List.mem_of_getElem? hy)
        rw [rounds_go0, ← ih (k + 1) hr (by omega)]
        simp [l_slices_Concat_int_int_0, hi, hy, hy0, append, wrap_lt hlt hl, roundEnd_same]
    have h3 := h3 ls 0 (by simp) (by simp)
    simp at h3
    have h0' := List.eq_nil_of_length_eq_zero h0
    subst h0'
    simp at h1
    simp [f_slices_Concat_int_int, b_slices_Concat_int_int, h1, h3, hgrow0]
  · obtain ⟨ep, es, q1, q2, q3⟩ := h2 ls 0 0 (List.replicate F.length (.int .i64 0)) (by simp) (by simp) (by simp) (by simp)
    have hg := hgrow (by omega)
    simp at q3
    simp [f_slices_Concat_int_int, b_slices_Concat_int_int, h1, hg, q3, q1, q2]
    exact fun y _ => by rw [Fx.fx]
theorem Concat_api_Row_api_Row {α : Type} {enc : α → AVal} [Nc enc 1 false] [Fx enc] (b : Bool) (ls : List (SlX α)) (hn : (ls.flatMap (·.l)).length ≤ most) (hl : ls.length ≤ most) :
    pcall I.slices_Concat_api_Row_api_Row [.imm b (ls.map (SlX.c enc))] = some (.imm false ((ls.flatMap (·.l)).map enc)) := by
  rw [pcall_eq c_slices_Concat_api_Row_api_Row rfl]
  have hsum0 : ∀ (r : List (SlX α)) (k : Nat), ls.drop k = r → (ls.flatMap (·.l)).length = ((ls.take k).flatMap (·.l)).length + (r.flatMap (·.l)).length := fun r k h => by
    have := congrArg (fun x => (x.flatMap (fun (s : SlX α) => s.l)).length) (List.take_append_drop k ls)
    simp only [List.flatMap_append, List.length_append, h] at this
    omega
  generalize hF : ls.flatMap (·.l) = F at *
  have hn' : F.length ≤ 68719476736 := hn
  have hsum := hsum0
  have h1 : ∀ (r : List (SlX α)) (k : Nat), ls.drop k = r → k ≤ ls.length → rounds code 0 [3, 9, 10] l_slices_Concat_api_Row_api_Row_1 ⟨[.imm b (ls.map (SlX.c enc)), .nil0, .int .i64 (((ls.take k).flatMap (·.l)).length : Nat), .any, .any, .any, .imm b (ls.map (SlX.c enc)), .int .i64 ls.length, .int .i64 k, .any, .any, .any, .any, .any, .any], []⟩ =
      some (.ext 0, ⟨[.imm b (ls.map (SlX.c enc)), .nil0, .int .i64 (F.length : Nat), .any, .any, .any, .imm b (ls.map (SlX.c enc)), .int .i64 ls.length, .int .i64 ls.length, .bool false, .any, .any, .any, .any, .any], []⟩) := by
    intro r
    induction r with
    | nil =>
      intro k hd hk
      have : k = ls.length := by
        have := congrArg List.length hd
        simp at this; omega
      subst this
      rw [rounds_go0, List.take_length, hF]
      simp [l_slices_Concat_api_Row_api_Row_1]
    | cons y r ih =>
      intro k hd hk
      have hlt : k < ls.length := by
        have := congrArg List.length hd
        simp at this; omega
      have hy : ls[k]? = some y := by
        have := congrArg (·[0]?) hd
        simpa using this
      have hr : ls.drop (k + 1) = r := by
        have := congrArg List.tail hd
        simpa [List.tail_drop] using this
      have hi : ((k : Int) < (ls.length : Int)) := by omega
      have hs1 := hsum r (k + 1) hr
      have ht : ((ls.take (k + 1)).flatMap (·.l)).length = ((ls.take k).flatMap (·.l)).length + y.l.length := by
        rw [List.take_add_one, hy]; simp
      have ih := ih (k + 1) hr (by omega)
      rw [ht] at ih hs1
      generalize ((ls.take k).flatMap (·.l)).length = s at *
      have w := w64 (n := (s : Int) + (y.l.length : Int)) (by omega) (by omega)
      have hneg : ¬ ((s : Int) + (y.l.length : Int) < 0) := by omega
      rw [rounds_go0, ← ih]
      simp [l_slices_Concat_api_Row_api_Row_1, hi, hy, w, hneg, wrap_lt hlt hl, roundEnd_same]
  have h1 := h1 ls 0 (by simp) (by simp)
  simp at h1
  have h2 : ∀ (r : List (SlX α)) (k ep : Nat) (es : List AVal), ls.drop k = r → k ≤ ls.length → es.take ((ls.take k).flatMap (·.l)).length = ((ls.take k).flatMap (·.l)).map enc → ((ls.take k).flatMap (·.l)).length ≤ es.length → ∃ ep' es', es'.take F.length = F.map enc ∧ F.length ≤ es'.length ∧
      rounds code 1 [5, 14] l_slices_Concat_api_Row_api_Row_0 ⟨[.imm b (ls.map (SlX.c enc)), .nil0, .int .i64 (F.length : Nat), .any, .sl 0 ep 0 ((ls.take k).flatMap (·.l)).length, .any, .imm b (ls.map (SlX.c enc)), .int .i64 ls.length, .int .i64 ls.length, .bool false, .any, .imm b (ls.map (SlX.c enc)), .int .i64 ls.length, .int .i64 k, .any], [.arr 1 ep es]⟩ =
      some (.ext 2, ⟨[.imm b (ls.map (SlX.c enc)), .nil0, .int .i64 (F.length : Nat), .any, .sl 0 ep' 0 F.length, .any, .imm b (ls.map (SlX.c enc)), .int .i64 ls.length, .int .i64 ls.length, .bool false, .any, .imm b (ls.map (SlX.c enc)), .int .i64 ls.length, .int .i64 ls.length, .bool false], [.arr 1 ep' es']⟩) := by
    intro r
    induction r with
    | nil =>
      intro k ep es hd hk he hel
      have : k = ls.length := by
        have := congrArg List.length hd
        simp at this; omega
      subst this
      rw [List.take_length, hF] at he hel
      refine ⟨ep, es, he, hel, ?_⟩
      rw [rounds_go0, List.take_length, hF]
      simp [l_slices_Concat_api_Row_api_Row_0]
    | cons y r ih =>
      intro k ep es hd hk he hel
      have hlt : k < ls.length := by
        have := congrArg List.length hd
        simp at this; omega
      have hy : ls[k]? = some y := by
        have := congrArg (·[0]?) hd
        simpa using this
      have hr : ls.drop (k + 1) = r := by
        have := congrArg List.tail hd
        simpa [List.tail_drop] using this
      have hi : ((k : Int) < (ls.length : Int)) := by omega
      have hs1 := hsum r (k + 1) hr
      have hT : (ls.take (k + 1)).flatMap (·.l) = (ls.take k).flatMap (·.l) ++ y.l := by
        rw [List.take_add_one, hy]; simp
      have ih := fun ep es => ih (k + 1) ep es hr (by omega)
      rw [hT] at ih hs1
      generalize (ls.take k).flatMap (·.l) = s at *
      rw [List.length_append] at hs1
      by_cases hy0 : y.l = []
      · rw [hy0, List.append_nil] at ih
        obtain ⟨ep', es', q1, q2, q3⟩ := ih ep es he hel
        refine ⟨ep', es', q1, q2, ?_⟩
        rw [rounds_go0, ← q3]
        simp [l_slices_Concat_api_Row_api_Row_0, hi, hy, hy0, append, wrap_lt hlt hl, roundEnd_same]
      · obtain ⟨ep', es', q1, q2, q3⟩ := ih (ep + 1) (s.map enc ++ y.l.map enc) (by rw [← List.map_append]; exact List.take_of_length_le (by simp)) (by simp)
        refine ⟨ep', es', q1, q2, ?_⟩
        have hm : s.length + y.l.length ≤ most := by unfold most; omega
        have hall : ∀ x ∈ y.l, ncells (enc x) = 1 := fun x _ => Nc.nc x
        rw [List.length_append] at q3
        rw [rounds_go0, ← q3]
        simp [l_slices_Concat_api_Row_api_Row_0, hi, hy, hy0, append, hel, he, hm, wrap_lt hlt hl, roundEnd_same]
        rw [if_pos hall]
        simp [roundEnd_same, wrap_lt hlt hl]
  have hgrow : 0 < F.length → acall code I.slices_Grow_api_Row_api_Row [.nil0, .int .i64 (F.length : Nat)] [] = some (.sl 0 0 0 0, [.arr 1 0 (List.replicate F.length (.nil0))]) := fun h0 => by
    rw [acall_keep c_slices_Grow_api_Row_api_Row rfl]
    generalize F.length = n at *
    have e1 : ¬ ((n : Int) < 0) := by omega
    have e2 : (0 : Int) < (n : Int) := by omega
    have e3 := w64 (n := (n : Int)) (by omega) (by omega)
    have e4 : IntKind.i64.wrap 0 = 0 := rfl
    simp [f_slices_Grow_api_Row_api_Row, b_slices_Grow_api_Row_api_Row, e1, e2, e3, e4, append, hn, h0, show ¬ n = 0 by omega, show (n : Int).toNat = n by omega]
  have hgrow0 : acall code I.slices_Grow_api_Row_api_Row [.nil0, .int .i64 0] [] = some (.nil0, []) := by
    rw [acall_keep c_slices_Grow_api_Row_api_Row rfl]
    have e4 : IntKind.i64.wrap 0 = 0 := rfl
    simp [f_slices_Grow_api_Row_api_Row, b_slices_Grow_api_Row_api_Row, e4]
  by_cases h0 : F.length = 0
  · have h3 : ∀ (r : List (SlX α)) (k : Nat), ls.drop k = r → k ≤ ls.length → rounds code 0 [5, 14] l_slices_Concat_api_Row_api_Row_0 ⟨[.imm b (ls.map (SlX.c enc)), .nil0, .int .i64 0, .any, .nil0, .any, .imm b (ls.map (SlX.c enc)), .int .i64 ls.length, .int .i64 ls.length, .bool false, .any, .imm b (ls.map (SlX.c enc)), .int .i64 ls.length, .int .i64 k, .any], []⟩ =
        some (.ext 2, ⟨[.imm b (ls.map (SlX.c enc)), .nil0, .int .i64 0, .any, .nil0, .any, .imm b (ls.map (SlX.c enc)), .int .i64 ls.length, .int .i64 ls.length, .bool false, .any, .imm b (ls.map (SlX.c enc)), .int .i64 ls.length, .int .i64 ls.length, .bool false], []⟩) := by
      intro r
      induction r with
      | nil =>
        intro k hd hk
        have : k = ls.length := by
          have := congrArg List.length hd
          simp at this; omega
        subst this
        rw [rounds_go0]
        simp [l_slices_Concat_api_Row_api_Row_0]
      | cons y r ih =>
        intro k hd hk
        have hlt : k < ls.length := by
          have := congrArg List.length hd
          simp at this; omega
        have hy : ls[k]? = some y := by
          have := congrArg (·[0]?) hd
          simpa using this
        have hr : ls.drop (k + 1) = r := by
          have := congrArg List.tail hd
          simpa [List.tail_drop] using this
        have hi : ((k : Int) < (ls.length : Int)) := by omega
        have hy0 : y.l = [] := by
          have h' := List.eq_nil_of_length_eq_zero h0
          rw [← hF, List.flatMap_eq_nil_iff] at h'
          exact h' y (List.mem_of_getElem? hy)
        rw [rounds_go0, ← ih (k + 1) hr (by omega)]
        simp [l_slices_Concat_api_Row_api_Row_0, hi, hy, hy0, append, wrap_lt hlt hl, roundEnd_same]
    have h3 := h3 ls 0 (by simp) (by simp)
    simp at h3
    have h0' := List.eq_nil_of_length_eq_zero h0
    subst h0'
    simp at h1
    simp [f_slices_Concat_api_Row_api_Row, b_slices_Concat_api_Row_api_Row, h1, h3, hgrow0]
  · obtain ⟨ep, es, q1, q2, q3⟩ := h2 ls 0 0 (List.replicate F.length (.nil0)) (by simp) (by simp) (by simp) (by simp)
    have hg := hgrow (by omega)
    simp at q3
    simp [f_slices_Concat_api_Row_api_Row, b_slices_Concat_api_Row_api_Row, h1, hg, q3, q1, q2]
    exact fun y _ => by rw [Fx.fx]
end Go.AM
end
section

namespace Go.AM
open P
set_option maxHeartbeats 2000000
set_option maxRecDepth 4000
@[simp] theorem rowsV_take (rs : List (List AVal)) : (rowsV rs).take rs.length = rowsV rs := List.take_of_length_le (by simp)
@[simp] theorem rowsV_drop (rs : List (List AVal)) : (rowsV rs).drop rs.length = [] := List.drop_of_length_le (by simp)
end Go.AM
end
section

namespace Go.AM
open P
set_option maxHeartbeats 8000000
set_option maxRecDepth 8000
attribute [local simp] condRun_if when_if
def rowX (r : List Val) : AVal := .imm false (r.map Val.a)
instance : Nc rowX 1 false := ⟨fun _ => rfl, fun _ => rfl⟩
instance : Fx rowX := ⟨fun fl top base σ n y => by simp [rowX]⟩
@[simp] theorem rowX_nc (r : List Val) : ncells (rowX r) = 1 := rfl
@[simp] theorem rowX_agg (r : List Val) : isAgg (rowX r) = false := rfl
@[simp] theorem rowX_fz (r : List Val) (fl top : Bool) (base : Nat) (σ : Store) (n : Nat) : fz fl top base σ (n + 3) (rowX r) = rowX r := Fx.fx fl top base σ n r
instance : Nc (SlX.c rowX) 1 false := ⟨fun _ => rfl, fun _ => rfl⟩
theorem rowsA_X (rs : List (List Val)) : rowsA false rs = rs.map rowX := rfl
theorem right_X (r : List Val) : pcall I.row_right [rowX r] = some (.bool (okR r)) := right_spec false r
theorem lists_inner (c : Bool) (Ls : List (SlX (List Val))) (m : Int) (j : Nat) (s : SlX (List Val)) (hn : s.l.length ≤ 8000) (hr : ∀ r ∈ s.l, okR r = true) :
    rounds code 0 [1, 4, 12, 13] l_row_lists_0 ⟨[.imm c (Ls.map (SlX.c rowX)), .any, .int .i64 m, .imm s.b (s.l.map rowX), .any, .imm c (Ls.map (SlX.c rowX)), .int .i64 Ls.length, .int .i64 j, .bool true, .imm s.b (s.l.map rowX), .int .i64 s.l.length, .int .i64 0, .any, .any, .any], []⟩ =
    some (.ext 2, ⟨[.imm c (Ls.map (SlX.c rowX)), .any, .int .i64 m, .imm s.b (s.l.map rowX), .any, .imm c (Ls.map (SlX.c rowX)), .int .i64 Ls.length, .int .i64 j, .bool true, .imm s.b (s.l.map rowX), .int .i64 s.l.length, .int .i64 s.l.length, .bool false, .any, .any], []⟩) := by
  have hm : s.l.length ≤ most := by unfold most; omega
  have h := rounds_fold (base := 0) (clr := [1, 4, 12, 13]) (b := l_row_lists_0) s.l (fun k (_ : Unit) => ⟨[.imm c (Ls.map (SlX.c rowX)), .any, .int .i64 m, .imm s.b (s.l.map rowX), .any, .imm c (Ls.map (SlX.c rowX)), .int .i64 Ls.length, .int .i64 j, .bool true, .imm s.b (s.l.map rowX), .int .i64 s.l.length, .int .i64 k, .any, .any, .any], []⟩)
    (fun _ _ => True) (fun _ _ => ()) (fun _ => (.ext 2, ⟨[.imm c (Ls.map (SlX.c rowX)), .any, .int .i64 m, .imm s.b (s.l.map rowX), .any, .imm c (Ls.map (SlX.c rowX)), .int .i64 Ls.length, .int .i64 j, .bool true, .imm s.b (s.l.map rowX), .int .i64 s.l.length, .int .i64 s.l.length, .bool false, .any, .any], []⟩))
    (fun k y _ hk hy _ => by
      have hlt : ((k : Int) < (s.l.length : Int)) := by omega
      have h2 := right_X y
      rw [hr y (List.mem_of_getElem? hy)] at h2
      simp [l_row_lists_0, hlt, hy, h2, wrap_lt hk hm, roundEnd_same])
    (fun _ _ => by simp [l_row_lists_0]) () trivial
  simpa using h.1
theorem lists_ok (c : Bool) (Ls : List (SlX (List Val))) (hl : Ls.length ≤ most) (hn : ∀ s ∈ Ls, s.l.length ≤ 8000) (hr : ∀ s ∈ Ls, ∀ r ∈ s.l, okR r = true) :
    pcall I.row_lists [.imm c (Ls.map (SlX.c rowX))] = some (.int .i64 0) := by
  rw [pcall_eq c_row_lists rfl]
  have h := rounds_fold (base := 0) (clr := [1, 3, 4, 8, 9, 10, 11, 12, 13]) (b := l_row_lists_1) Ls (fun k (m : Int) => ⟨[.imm c (Ls.map (SlX.c rowX)), .any, .int .i64 m, .any, .any, .imm c (Ls.map (SlX.c rowX)), .int .i64 Ls.length, .int .i64 k, .any, .any, .any, .any, .any, .any, .any], []⟩)
    (fun _ m => m ≤ 8000) (fun m s => if m < (s.l.length : Int) then (s.l.length : Int) else m) (fun m => (.ext 0, ⟨[.imm c (Ls.map (SlX.c rowX)), .any, .int .i64 m, .any, .any, .imm c (Ls.map (SlX.c rowX)), .int .i64 Ls.length, .int .i64 Ls.length, .bool false, .any, .any, .any, .any, .any, .any], []⟩))
    (fun k s m hk hy hm => by
      have hlt : ((k : Int) < (Ls.length : Int)) := by omega
      have hs := hn s (List.mem_of_getElem? hy)
      have hi := lists_inner c Ls m k s hs (hr s (List.mem_of_getElem? hy))
      refine ⟨?_, by split <;> omega⟩
      simp [l_row_lists_1, hlt, hy, hi, wrap_lt hk hl, roundEnd])
    (fun m _ => by simp [l_row_lists_1]) 0 (by omega)
  obtain ⟨h1, h2⟩ := h
  generalize Ls.foldl (fun m s => if m < (s.l.length : Int) then (s.l.length : Int) else m) 0 = m at h1 h2
  simp at h1
  have h3 : ¬ ((8000 : Int) < m) := by omega
  simp [f_row_lists, b_row_lists, h1, h3]
theorem rowA_ok {r : List Val} (h : okR r = true) : RowOk (rowA r) := by
  have hl : r.length ≤ 16 := by unfold okR at h; simp at h; exact h.1
  refine ⟨fun v hv => ?_, clone_spec false r (by unfold most; omega), ?_⟩
  · obtain ⟨x, _, rfl⟩ := List.mem_map.1 hv
    exact ⟨rfl, rfl, fun fl top base σ n => a_fz x fl top base σ n⟩
  · rw [right_spec, h]
theorem copies_X (b : Bool) (rs : List (List Val)) (hn : rs.length ≤ most) (hr : ∀ r ∈ rs, okR r = true) : pcall I.row_copies [.imm b (rs.map rowX)] = some (.frs 1 (rs.map rowX)) := by
  have h := copies_spec (b := b) (rs := rs.map rowA) (by simpa using hn) (fun r hr' => by
    obtain ⟨x, hx, rfl⟩ := List.mem_map.1 hr'
    exact rowA_ok (hr x hx))
  have e : rowsV (rs.map rowA) = rs.map rowX := by unfold rowsV; rw [List.map_map]; rfl
  rw [e] at h
  exact h
theorem order_acallX (r q : List Val) (hr : r.length ≤ most) : acall code 140 [.imm false (rowA r), .imm false (rowA q)] [] = some (.int .i64 (cmpR r q), []) := by
  have := acall_pure (f := I.row_order) c_row_order rfl [.imm false (rowA r), .imm false (rowA q)] []
  simp only [List.map_cons, List.map_nil, snap_eq, fz_immf] at this
  rw [order_spec false false r q hr] at this
  exact this
theorem sortR_spec {rs : List (List Val)} (hn : rs.length ≤ most) (hok : ∀ r ∈ rs, r.length ≤ most) {σ : Store} {id ep : Nat} (h : σ[id]? = some (.arr 1 ep (rs.map rowX))) :
    acall code 67 [.sl id ep 0 rs.length, .fn 140 [] []] σ = some (.any, σ.set id (.arr 1 ep ((sortC cmpR rs).map rowX))) := by
  rw [← rowsA_X] at h ⊢
  have hk : ∀ x ∈ rowsA false rs, ∃ r, r ∈ rs ∧ x = .imm false (rowA r) := fun x hx => by
    obtain ⟨r, h1, h2⟩ := List.mem_map.1 hx
    exact ⟨r, h1, h2.symm⟩
  obtain ⟨n, hf⟩ := all_fuel (F := fun n (x : AVal) => ∀ y ∈ rowsA false rs, callN code n 140 [x, y] [] = some (.int .i64 (cmpR (asRow x) (asRow y)), []))
    (fun n m x hnm h y hy => (callN_mono good _ _ _).le hnm (h y hy)) (rowsA false rs) (fun x hx => by
      obtain ⟨n, hn⟩ := all_fuel (F := fun n (y : AVal) => callN code n 140 [x, y] [] = some (.int .i64 (cmpR (asRow x) (asRow y)), []))
        (fun n m y hnm h => (callN_mono good _ _ _).le hnm h) (rowsA false rs) (fun y hy => by
          obtain ⟨r, hr, rfl⟩ := hk x hx
          obtain ⟨q, hq, rfl⟩ := hk y hy
          rw [asRow_a, asRow_a]
          exact (lim_eq (callN_mono good _ _ _) _).1 (order_acallX r q (hok r hr)))
      exact ⟨n, fun y hy => hn y hy⟩)
  have hc : ∀ r q, r ∈ rs → q ∈ rs → cmpOf (callN code n) (.fn 140 [] []) (.imm false (rowA r)) (.imm false (rowA q)) = some (cmpR r q) := fun r q hr hq => by
    have := hf (.imm false (rowA r)) (List.mem_map.2 ⟨r, hr, rfl⟩) (.imm false (rowA q)) (List.mem_map.2 ⟨q, hq, rfl⟩)
    unfold cmpOf callV
    simp at this
    simp [this]
  have hO : orderedB (cmpOf (callN code n) (.fn 140 [] [])) (rowsA false rs) = true := by
    rw [orderedB_iff]
    refine ⟨fun x hx y hy => ?_, fun x hx y hy a b e1 e2 => ?_, fun x hx y hy e => ?_, fun x hx => ?_, fun x hx y hy z hz a b c e1 e2 e3 h1 h2 => ?_⟩
    · obtain ⟨r, hr, rfl⟩ := hk x hx
      obtain ⟨q, hq, rfl⟩ := hk y hy
      have := cmpR_range r q
      exact ⟨_, hc r q hr hq, by omega, by omega⟩
    · obtain ⟨r, hr, rfl⟩ := hk x hx
      obtain ⟨q, hq, rfl⟩ := hk y hy
      rw [hc r q hr hq] at e1
      rw [hc q r hq hr] at e2
      cases e1; cases e2
      exact cmpR_ok.anti r q
    · obtain ⟨r, hr, rfl⟩ := hk x hx
      obtain ⟨q, hq, rfl⟩ := hk y hy
      rw [hc r q hr hq] at e
      rw [cmpR_zero (Option.some.inj e)]
    · obtain ⟨r, hr, rfl⟩ := hk x hx
      rw [hc r r hr hr, cmpR_ok.self]
    · obtain ⟨r, hr, rfl⟩ := hk x hx
      obtain ⟨q, hq, rfl⟩ := hk y hy
      obtain ⟨s, hs, rfl⟩ := hk z hz
      rw [hc r q hr hq] at e1
      rw [hc q s hq hs] at e2
      rw [hc r s hr hs] at e3
      cases e1; cases e2; cases e3
      exact cmpR_ok.lt_le h1 (Int.le_of_lt h2)
  refine acall_prim good (k := 1) (n := n) rfl ?_
  have hp : code.prims 1 (callN code n) = sortFunc (callN code n) := rfl
  rw [hp]
  have h9 : (rowsA false rs).take rs.length = rowsA false rs := List.take_of_length_le (by simp)
  have h10 : ((rowsA false rs).all fun x => same (snap (σ.set id .dead) x) x && ncells x == 1 && !isAgg x && !plainArg x) = true := by
    rw [List.all_eq_true]
    intro x hx
    obtain ⟨r, hr, rfl⟩ := hk x hx
    simp [plainArg]
  simp only [sortFunc, h, List.drop_zero, h9]
  have h11 : snap (σ.set id .dead) (.fn 140 [] []) = .fn 140 [] [] := by simp
  have h13 : sortBy (leOf (cmpOf (callN code n) (.fn 140 [] []))) (rowsA false rs) = rowsA false (sortC cmpR rs) := by
    unfold rowsA
    refine sortBy_map fun r hr q hq => ?_
    unfold leOf
    rw [hc r q hr hq]
  rw [if_pos ⟨by trivial, by simp, hn, h10, by rw [h11]; exact hO, by rw [h11]; rfl⟩, h11, h13]
  have h12 : (rowsA false rs).drop (0 + rs.length) = [] := List.drop_of_length_le (by simp)
  rw [h12, rowsA_X]
  simp
theorem sorted_X (b : Bool) (rs : List (List Val)) (hn : rs.length ≤ most) (hr : ∀ r ∈ rs, okR r = true) : pcall I.row_sorted [.imm b (rs.map rowX)] = some (.frs 1 ((sortC cmpR rs).map rowX)) := by
  rw [pcall_eq c_row_sorted rfl]
  have h1 := fun b => copies_X b rs hn hr
  have e3 := sortR_spec hn (fun r h => by have := hr r h; unfold okR at this; simp at this; unfold most; omega) (σ := [.arr 1 0 (rs.map rowX)]) (id := 0) (ep := 0) rfl
  simp at e3
  have hf := fun σ h => fresh_map (f := rowX) (m := 1) (sortC cmpR rs) 0 0 σ h
  rw [sortC_length] at hf
  simp [f_row_sorted, b_row_sorted, h1, e3, hf]
theorem Sorted_X (b : Bool) (rs : List (List Val)) (hn : rs.length ≤ 8000) (hr : ∀ r ∈ rs, okR r = true) : pcall I.row_Sorted [.imm b (rs.map rowX)] = some (.tup [.imm false ((sortC cmpR rs).map rowX), .int .i64 0]) := by
  rw [pcall_eq c_row_Sorted rfl]
  have hm : rs.length ≤ most := by unfold most; omega
  have h1 := fun c => lists_ok c [⟨b, rs⟩] (by simp [most]) (by simpa using hn) (by simpa using hr)
  have h2 := fun b => sorted_X b rs hm hr
  simp at h1
  simp [f_row_Sorted, b_row_Sorted, h1, h2]
theorem Merge_X (b : Bool) (Ls : List (SlX (List Val))) (hl : Ls.length ≤ 8000) (hn : (Ls.flatMap (·.l)).length ≤ 8000) (hr : ∀ s ∈ Ls, ∀ r ∈ s.l, okR r = true) :
    pcall I.row_Merge [.imm b (Ls.map (SlX.c rowX))] = some (.tup [.imm false ((sortC cmpR (Ls.flatMap (·.l))).map rowX), .int .i64 0]) := by
  rw [pcall_eq c_row_Merge rfl]
  have hlm : Ls.length ≤ most := by unfold most; omega
  have hle : ∀ s ∈ Ls, s.l.length ≤ 8000 := fun s hs => by
    have : s.l.length ≤ (Ls.flatMap (·.l)).length := by
      obtain ⟨a, c, e⟩ := List.append_of_mem hs
      rw [e]; simp; omega
    omega
  have h1 := fun c => lists_ok c Ls hlm hle hr
  have h2 := fun b => Concat_api_Row_api_Row (enc := rowX) b Ls (by unfold most; omega) hlm
  have h3 := fun b => Sorted_X b (Ls.flatMap (·.l)) hn (fun r h => by
    obtain ⟨s, hs, h⟩ := List.mem_flatMap.1 h
    exact hr s hs r h)
  simp [f_row_Merge, b_row_Merge, h1, h2, h3]
end Go.AM
end
section

namespace Go.AM
open P
set_option maxHeartbeats 8000000
set_option maxRecDepth 8000
attribute [local simp] condRun_if when_if
def fitV (v : Val) (k : Int) : Bool := okV v && (v.k == 0 || v.k == k)
def fitR (kinds : List Int) (r : List Val) : Bool := r.length == kinds.length && (r.zip kinds).all fun p => fitV p.1 p.2
theorem fit11_spec (v : Val) (k : Int) : pcall I.exec_fit_1_1 [v.a, .int .i64 k] = some (.bool (fitV v k)) := by
  rw [pcall_eq c_exec_fit_1_1 rfl]
  have h := Check_spec v
  obtain ⟨vk, vn, vu, vs⟩ := v
  unfold fitV
  cases hv : okV ⟨vk, vn, vu, vs⟩ <;> rw [hv] at h <;> simp [Val.a] at h <;> simp [f_exec_fit_1_1, b_exec_fit_1_1, Val.a, h]
  repeat' (split <;> (try simp_all))
theorem EqualFit (b bk : Bool) (r : List Val) (kinds : List Int) (hn : r.length ≤ most) :
    pcall I.slices_EqualFunc_api_Row_int_api_Value_int [.imm b (r.map Val.a), .imm bk (kinds.map (.int .i64)), .fn 254 [] []] = some (.bool (fitR kinds r)) := by
  rw [pcall_eq c_slices_EqualFunc_api_Row_int_api_Value_int rfl]
  unfold fitR
  by_cases hl : r.length = kinds.length
  · have hzl : (r.zip kinds).length = r.length := by simp [hl]
    have h := rounds_any (base := 0) (clr := [3, 4, 5, 6, 11, 12]) (b := l_slices_EqualFunc_api_Row_int_api_Value_int_0) (r.zip kinds) (fun k => ⟨[.imm b (r.map Val.a), .imm bk (kinds.map (.int .i64)), .fn 254 [] [], .any, .any, .any, .any, .bool false, .imm b (r.map Val.a), .int .i64 r.length, .int .i64 k, .any, .any], []⟩)
      (fun p => !fitV p.1 p.2)
      (.ext 0, ⟨[.imm b (r.map Val.a), .imm bk (kinds.map (.int .i64)), .fn 254 [] [], .any, .any, .any, .any, .bool false, .imm b (r.map Val.a), .int .i64 r.length, .int .i64 r.length, .bool false, .any], []⟩)
      (fun o => ∃ s, o = (.ret, s) ∧ thenLeave .pure [.env 3] (some (.ret, s)) = some (.bool false))
      (fun k p hk hy hp => by
        obtain ⟨v, kd⟩ := p
        rw [List.getElem?_zip_eq_some] at hy
        have hlt : ((k : Int) < (r.length : Int)) := by omega
        have hf := fit11_spec v kd
        simp only [Bool.not_eq_false'] at hp
        rw [hp] at hf
        simp [l_slices_EqualFunc_api_Row_int_api_Value_int_0, hlt, hy.1, hy.2, hf, wrap_lt (by omega : k < r.length) hn, roundEnd])
      (fun k p hk hy hp => by
        obtain ⟨v, kd⟩ := p
        rw [List.getElem?_zip_eq_some] at hy
        have hlt : ((k : Int) < (r.length : Int)) := by omega
        have hf := fit11_spec v kd
        simp only [Bool.not_eq_true'] at hp
        rw [hp] at hf
        exact ⟨_, by simp [l_slices_EqualFunc_api_Row_int_api_Value_int_0, hlt, hy.1, hy.2, hf]; rfl, _, rfl, by simp⟩)
      (by rw [hzl]; simp [l_slices_EqualFunc_api_Row_int_api_Value_int_0])
    have hne : ((r.length : Int) != (kinds.length : Int)) = false := by simp [hl]
    have hb : (r.length == kinds.length) = true := by simp [hl]
    have hall : ((r.zip kinds).all fun p => fitV p.1 p.2) = !((r.zip kinds).any fun p => !fitV p.1 p.2) := by
      rw [List.not_any_eq_all_not]; simp
    rw [hall]
    rcases h with ⟨h1, h2⟩ | ⟨h1, o, h2, s, rfl, h3⟩
    · rw [h1]
      simp at h2
      simp [f_slices_EqualFunc_api_Row_int_api_Value_int, b_slices_EqualFunc_api_Row_int_api_Value_int, hne, h2, hb]
    · rw [h1]
      simp at h2
      simp [f_slices_EqualFunc_api_Row_int_api_Value_int, b_slices_EqualFunc_api_Row_int_api_Value_int, hne, h2, hb, -thenLeave_ret]
      exact h3
  · have hne : ((r.length : Int) != (kinds.length : Int)) = true := by simp; omega
    simp [f_slices_EqualFunc_api_Row_int_api_Value_int, b_slices_EqualFunc_api_Row_int_api_Value_int, hne, hl]
theorem fit1X_spec (b bk t : Bool) (r : List Val) (kinds : List Int) (hn : r.length ≤ most) : pcall I.exec_fit_1 [.imm b (r.map Val.a), .cptr t (.imm bk (kinds.map (.int .i64))) 0] = some (.bool (!fitR kinds r)) := by
  rw [pcall_eq c_exec_fit_1 rfl]
  have h := fun b bk => EqualFit b bk r kinds hn
  cases hv : fitR kinds r <;> rw [hv] at h <;> cases t <;> simp [f_exec_fit_1, b_exec_fit_1, h]
def fitL (kinds : List Int) (rs : List (List Val)) : Bool := decide (rs.length ≤ 8000) && rs.all (fitR kinds)
theorem fitX_spec (b bk : Bool) (rs : List (List Val)) (kinds : List Int) (hn : ∀ r ∈ rs, r.length ≤ most) : pcall I.exec_fit [.imm b (rs.map rowX), .imm bk (kinds.map (.int .i64))] = some (.bool (fitL kinds rs)) := by
  rw [pcall_eq c_exec_fit rfl]
  unfold fitL
  by_cases hl : rs.length ≤ 8000
  · have hl' : ¬ ((8000 : Int) < (rs.length : Int)) := by omega
    have hm : rs.length ≤ most := by unfold most; omega
    have hC := Contains_api_Row_api_Row (enc := rowX) (b := b) (l := rs) (f := snap [.arr 1 0 [.imm bk (kinds.map (.int .i64))]] (.fn 161 [] [.ptr 0 0 0 0])) (p := fun r => !fitR kinds r) hm (fun _ => ⟨rfl, rfl⟩) (fun σ => snap_idem _ _ _) (fun r hr => by
      have := fit1X_spec false bk true r kinds (hn r hr)
      simp [rowX, this])
    simp at hC
    have hall : rs.all (fitR kinds) = !(rs.any fun r => !fitR kinds r) := by rw [List.not_any_eq_all_not]; simp
    rw [hall]
    cases hA : (rs.any fun r => !fitR kinds r) <;> rw [hA] at hC <;> simp [f_exec_fit, b_exec_fit, hl, hl', hC]
  · have hl' : ((8000 : Int) < (rs.length : Int)) := by omega
    simp [f_exec_fit, b_exec_fit, hl, hl']
end Go.AM
end
section

namespace Go.AM
open P
set_option maxRecDepth 20000
set_option maxHeartbeats 8000000
attribute [local simp] condRun_if when_if
theorem wrap_u8 (n : Int) : 0 ≤ IntKind.u8.wrap n ∧ IntKind.u8.wrap n < 256 := by
  have h1 := Int.emod_nonneg n (show (256 : Int) ≠ 0 by decide)
  have h2 := Int.emod_lt_of_pos n (show (0 : Int) < 256 by decide)
  simp [IntKind.wrap, IntKind.bits, IntKind.signed]
  exact ⟨h1, h2⟩
theorem wrap_u32 (n : Int) : 0 ≤ IntKind.u32.wrap n ∧ IntKind.u32.wrap n < 4294967296 := by
  have h1 := Int.emod_nonneg n (show (4294967296 : Int) ≠ 0 by decide)
  have h2 := Int.emod_lt_of_pos n (show (0 : Int) < 4294967296 by decide)
  simp [IntKind.wrap, IntKind.bits, IntKind.signed]
  exact ⟨h1, h2⟩
def xorF (k : IntKind) (x y : Int) : Int := k.wrap ((BitVec.ofInt k.bits x) ^^^ (BitVec.ofInt k.bits y)).toNat
theorem intBits_xor (k : IntKind) (x y : Int) : intBits .xor k x y = some (xorF k x y) := rfl
theorem xor_u8 (x y : Int) : 0 ≤ xorF .u8 x y ∧ xorF .u8 x y < 256 := wrap_u8 _
theorem xor_u32 (x y : Int) : 0 ≤ xorF .u32 x y ∧ xorF .u32 x y < 4294967296 := wrap_u32 _
theorem takes_step (T : List AVal) (hT : T.length = 256) (hx : ∀ x ∈ T, ∃ n : Int, x = .int .u32 n ∧ 0 ≤ n ∧ n < 4294967296) (c reg : Int) :
    ∃ (reg' : Int), acall code 261 [.int .u8 c, .ptr 1 0 0 0, .ptr 0 0 0 0] [.arr 256 0 [.agg T], .arr 1 0 [.int .u32 reg]] = some (.tup [], [.arr 256 0 [.agg T], .arr 1 0 [.int .u32 reg']]) := by
  rw [acall_keep c_sum_Sum32_1 rfl]
  obtain ⟨h0, h1⟩ := xor_u8 (IntKind.u8.wrap reg) c
  have hlt : (xorF .u8 (IntKind.u8.wrap reg) c).toNat < 256 := by omega
  obtain ⟨t, ht, _⟩ := hx _ (List.getElem_mem (show (xorF .u8 (IntKind.u8.wrap reg) c).toNat < T.length by omega))
  have hg : T[(xorF .u8 (IntKind.u8.wrap reg) c).toNat]? = some (.int .u32 t) := by rw [← ht]; exact List.getElem?_eq_getElem (by omega)
  exact ⟨_, by simp [f_sum_Sum32_1, b_sum_Sum32_1, shift, intBits_xor, hT, h0, hlt, ht]; rfl⟩
theorem sum32_spec (b : Bool) (bs : List Int) (hn : bs.length ≤ most) : ∃ h : Int, 0 ≤ h ∧ h < 4294967296 ∧ pcall I.sum_Sum32 [.imm b (bs.map (.int .u8))] = some (.int .u32 h) := by
  obtain ⟨T, h1, hT, hx⟩ := steps_spec
  have hs := fun c reg => takes_step T hT hx c reg
  have hl := rounds_fold (base := 2) (clr := [5, 9]) (b := l_sum_Sum32_0) bs (fun k (reg : Int) => ⟨[.imm b (bs.map (.int .u8)), .int .u32 0, .ptr 0 0 0 0, .ptr 1 0 0 0, .fn 261 [] [.ptr 1 0 0 0, .ptr 0 0 0 0], .any, .imm b (bs.map (.int .u8)), .int .i64 bs.length, .int .i64 k, .any], [.arr 256 0 [.agg T], .arr 1 0 [.int .u32 reg]]⟩)
    (fun _ _ => True) (fun reg c => Classical.choose (hs c reg)) (fun reg => (.ext 0, ⟨[.imm b (bs.map (.int .u8)), .int .u32 0, .ptr 0 0 0 0, .ptr 1 0 0 0, .fn 261 [] [.ptr 1 0 0 0, .ptr 0 0 0 0], .any, .imm b (bs.map (.int .u8)), .int .i64 bs.length, .int .i64 bs.length, .bool false], [.arr 256 0 [.agg T], .arr 1 0 [.int .u32 reg]]⟩))
    (fun k c reg hk hy _ => by
      have hlt : ((k : Int) < (bs.length : Int)) := by omega
      have hc := Classical.choose_spec (hs c reg)
      generalize Classical.choose (hs c reg) = reg' at hc ⊢
      simp [l_sum_Sum32_0, hlt, hy, hc, wrap_lt hk hn, roundEnd])
    (fun reg _ => by simp [l_sum_Sum32_0]) 4294967295 trivial
  generalize bs.foldl (fun reg c => Classical.choose (hs c reg)) 4294967295 = reg at hl
  have hl := hl.1
  have hr := xor_u32 4294967295 reg
  refine ⟨_, hr.1, hr.2, ?_⟩
  rw [pcall_eq c_sum_Sum32 rfl]
  simp at hl
  simp [f_sum_Sum32, b_sum_Sum32, h1, hT, hl, intBits_xor]
  rfl
instance : Nc (AVal.int .u8) 1 false := ⟨fun _ => rfl, fun _ => rfl⟩
instance : Fx (AVal.int .u8) := ⟨fun _ _ _ _ _ _ => rfl⟩
instance : Nc (fun (c : UInt8) => AVal.int .u8 (c.toNat : Int)) 1 false := ⟨fun _ => rfl, fun _ => rfl⟩
instance : Fx (fun (c : UInt8) => AVal.int .u8 (c.toNat : Int)) := ⟨fun _ _ _ _ _ _ => rfl⟩
def num8 (x : Int) : List Int := (List.range 8).map fun k => IntKind.u8.wrap (x.fdiv (2 ^ (min (56 - 8 * k) 64)))
theorem number_spec (x : Int) (ep : Nat) (bs : List Int) (τ : Store) (hn : bs.length + 8 ≤ most) :
    acall code I.row_number [.sl 0 ep 0 bs.length, .int .u64 x] (.arr 1 ep (bs.map (.int .u8)) :: τ) = some (.sl 0 (ep + 8) 0 (bs.length + 8), .arr 1 (ep + 8) ((bs ++ num8 x).map (.int .u8)) :: τ) := by
  rw [acall_keep c_row_number rfl]
  have h := rounds_fold (base := τ.length + 1) (clr := [4]) (b := l_row_number_0) (List.range 8) (fun k (s : List Int) => ⟨[.sl 0 (ep + k) 0 s.length, .int .u64 x, .nil0, .int .i64 (56 - 8 * (k : Int)), .any], .arr 1 (ep + k) (s.map (.int .u8)) :: τ⟩)
    (fun k s => s.length = bs.length + k) (fun s k => s ++ [IntKind.u8.wrap (x.fdiv (2 ^ (min (56 - 8 * k) 64)))])
    (fun s => (.ext 0, ⟨[.sl 0 (ep + 8) 0 s.length, .int .u64 x, .nil0, .int .i64 (-8), .bool false], .arr 1 (ep + 8) (s.map (.int .u8)) :: τ⟩))
    (fun k y s hk hy hs => by
      simp at hk
      obtain rfl : y = k := by
        rw [List.getElem?_range (by simpa using hk)] at hy
        cases hy; rfl
      have h1 : (0 : Int) ≤ 56 - 8 * (y : Int) := by omega
      have h1' : (8 * (y : Int) ≤ 56) := by omega
      have h2 : (56 - 8 * (y : Int)).toNat = 56 - 8 * y := by omega
      have h3 := w64 (n := 56 - 8 * (y : Int) - 8) (by omega) (by omega)
      have h4 : 56 - 8 * (y : Int) - 8 = 56 - 8 * ((y : Int) + 1) := by omega
      rw [h4] at h3
      have h5 : s.length + 1 ≤ most := by omega
      have h6 : ¬ (56 - 8 * (y : Int) < 0) := by omega
      refine ⟨?_, by simp; omega⟩
      simp [l_row_number_0, shift, h1, h1', h2, h3, h4, h5, h6, append, roundEnd, IntKind.bits, Nat.add_assoc])
    (fun s hs => by simp [l_row_number_0]) bs rfl
  obtain ⟨h1, h2⟩ := h
  have hf : ∀ (l : List Nat) (s : List Int), l.foldl (fun s k => s ++ [IntKind.u8.wrap (x.fdiv (2 ^ (min (56 - 8 * k) 64)))]) s = s ++ l.map fun k => IntKind.u8.wrap (x.fdiv (2 ^ (min (56 - 8 * k) 64))) := by
    intro l
    induction l with
    | nil => intro s; simp
    | cons a l ih => intro s; rw [List.foldl_cons, ih]; simp
  rw [hf] at h1 h2
  simp at h1
  simp [f_row_number, b_row_number, h1, num8]
def bytesV (v : Val) : List Int := IntKind.u8.wrap v.k :: (num8 (IntKind.u64.wrap v.n) ++ num8 v.u ++ [IntKind.u8.wrap (v.s.length : Int)] ++ v.s.map fun b => (b.toNat : Int))
theorem num8_len (x : Int) : (num8 x).length = 8 := by simp [num8]
theorem bytesV_len (v : Val) : (bytesV v).length = v.s.length + 18 := by simp [bytesV, num8_len]; omega
theorem hash_spec (b : Bool) (r : List Val) (hr : r.length ≤ 1000) (hs : ∀ v ∈ r, v.s.length ≤ 1000) : ∃ h : Int, 0 ≤ h ∧ h < 4294967296 ∧ pcall I.row_hash [.imm b (r.map Val.a)] = some (.int .u32 h) := by
  have hm : r.length ≤ most := by unfold most; omega
  obtain ⟨ep, hl⟩ := rounds_acc (base := 1) (clr := [3, 7]) (b := l_row_hash_0) r (fun k ep (acc : List Int) => ⟨[.imm b (r.map Val.a), .int .u32 0, .sl 0 ep 0 acc.length, .any, .imm b (r.map Val.a), .int .i64 r.length, .int .i64 k, .any], [.arr 1 ep (acc.map (.int .u8))]⟩)
    bytesV (fun ep acc => (.ext 0, ⟨[.imm b (r.map Val.a), .int .u32 0, .sl 0 ep 0 acc.length, .any, .imm b (r.map Val.a), .int .i64 r.length, .int .i64 r.length, .bool false], [.arr 1 ep (acc.map (.int .u8))]⟩)) 2000
    (fun v hv => by rw [bytesV_len]; have := hs v hv; omega)
    (fun k v ep acc hk hy ha => by
      have hlt : ((k : Int) < (r.length : Int)) := by omega
      have hsv := hs v (List.mem_of_getElem? hy)
      have hk2 : k * 2000 ≤ 2000000 := by omega
      have q0 : acc.length + 1 ≤ most := by unfold most; omega
      have q1 : acc.length + 1 + 8 ≤ most := by unfold most; omega
      have q2 : acc.length + 1 + 8 + 8 ≤ most := by unfold most; omega
      have q3 : acc.length + 1 + 8 + 8 + 1 ≤ most := by unfold most; omega
      have q4 : acc.length + 1 + 8 + 8 + 1 + v.s.length ≤ most := by unfold most; omega
      have n1 := number_spec (IntKind.u64.wrap v.n) (ep + 1) (acc ++ [IntKind.u8.wrap v.k]) [.arr 4 0 [v.a]] (by simpa using q1)
      have n2 := number_spec v.u (ep + 1 + 8) (acc ++ [IntKind.u8.wrap v.k] ++ num8 (IntKind.u64.wrap v.n)) [.arr 4 0 [v.a]] (by simp only [List.length_append, num8_len, List.length_cons, List.length_nil]; omega)
      simp [num8_len, Val.a] at n1 n2
      have t1 : List.take (acc.length + 9 + 8) (acc.map (AVal.int .u8) ++ AVal.int .u8 (IntKind.u8.wrap v.k) :: ((num8 (IntKind.u64.wrap v.n)).map (.int .u8) ++ (num8 v.u).map (.int .u8))) = acc.map (AVal.int .u8) ++ AVal.int .u8 (IntKind.u8.wrap v.k) :: ((num8 (IntKind.u64.wrap v.n)).map (.int .u8) ++ (num8 v.u).map (.int .u8)) :=
        List.take_of_length_le (by simp [num8_len])
      have t2 : ∀ x, List.take (acc.length + 9 + 8 + 1) (acc.map (AVal.int .u8) ++ AVal.int .u8 (IntKind.u8.wrap v.k) :: ((num8 (IntKind.u64.wrap v.n)).map (.int .u8) ++ ((num8 v.u).map (.int .u8) ++ [x]))) = acc.map (AVal.int .u8) ++ AVal.int .u8 (IntKind.u8.wrap v.k) :: ((num8 (IntKind.u64.wrap v.n)).map (.int .u8) ++ ((num8 v.u).map (.int .u8) ++ [x])) := fun x =>
        List.take_of_length_le (by simp [num8_len])
      have e1 : acc.length + 18 = acc.length + 9 + 8 + 1 := by omega
      have e2 : acc.length + (8 + (8 + (v.s.length + 1)) + 1) = acc.length + 9 + 8 + 1 + v.s.length := by omega
      obtain ⟨vk, vn, vu, vs⟩ := v
      cases vs with
      | nil =>
        refine ⟨ep + 1 + 8 + 8 + 1, ?_⟩
        simp at n1 n2 t1 t2 e2
        simp [l_row_hash_0, hlt, hy, Val.a, append, q0, q1, q2, q3, n1, n2, num8_len, wrap_lt hk hm, roundEnd, freezeObj, bytesV, t1, t2, e1]
      | cons c cs =>
        refine ⟨ep + 1 + 8 + 8 + 1 + 1, ?_⟩
        simp at n1 n2 t1 t2 q4 e2
        simp [l_row_hash_0, hlt, hy, Val.a, append, q0, q1, q2, q3, q4, n1, n2, num8_len, wrap_lt hk hm, roundEnd, freezeObj, bytesV, t1, t2, e2]
        rfl)
    (fun ep acc _ => by simp [l_row_hash_0]) 0
  obtain ⟨h, h1, h2, h3⟩ := sum32_spec true (r.flatMap bytesV) (by
    have : ∀ (l : List Val), (∀ v ∈ l, v.s.length ≤ 1000) → (l.flatMap bytesV).length ≤ l.length * 2000 := by
      intro l
      induction l with
      | nil => intro _; simp
      | cons a l ih =>
        intro hh
        have := ih fun v hv => hh v (List.mem_cons_of_mem _ hv)
        have h1 := hh a (List.mem_cons_self ..)
        simp only [List.flatMap_cons, List.length_append, bytesV_len, List.length_cons, Nat.succ_mul]
        omega
    have := this r hs
    unfold most
    omega)
  refine ⟨h, h1, h2, ?_⟩
  rw [pcall_eq c_row_hash rfl]
  simp only [List.map_nil, List.length_nil] at hl
  generalize r.flatMap bytesV = bs at hl h3
  simp at hl
  simp [f_row_hash, b_row_hash, hl, h3]
end Go.AM
end
section

namespace Go.AM
open P
set_option maxRecDepth 8000
set_option maxHeartbeats 8000000
attribute [local simp] condRun_if when_if
abbrev intC (l : List Int) : List AVal := l.map (.int .i64)
def inC (r : List Val) (c : Int) : Bool := decide (0 ≤ c) && decide (c < r.length)
def hasC (r : List Val) (cols : List Int) : Bool := decide (cols.length ≤ 16) && cols.all (inC r)
def takeR (r : List Val) (cols : List Int) : List Val := cols.map (colV r)
theorem rhas1_spec (t b : Bool) (c : Int) (r : List Val) : pcall I.row_has_1 [.int .i64 c, .cptr t (.imm b (r.map Val.a)) 0] = some (.bool (!inC r c)) := by
  rw [pcall_eq c_row_has_1 rfl]
  unfold inC
  by_cases h1 : c < 0
  · have h2 : ¬ (0 ≤ c) := by omega
    cases t <;> simp [f_row_has_1, b_row_has_1, h1, h2]
  · have h2 : 0 ≤ c := by omega
    by_cases h3 : c < r.length
    · have h4 : ¬ ((r.length : Int) ≤ c) := by omega
      cases t <;> simp [f_row_has_1, b_row_has_1, h1, h2, h3, h4]
    · have h4 : ((r.length : Int) ≤ c) := by omega
      cases t <;> simp [f_row_has_1, b_row_has_1, h1, h2, h3, h4]
theorem rhas_spec (bc : Bool) (r : List Val) (cols : List Int) : pcall I.row_has [rowX r, .imm bc (intC cols)] = some (.bool (hasC r cols)) := by
  rw [pcall_eq c_row_has rfl]
  unfold hasC
  by_cases hl : cols.length ≤ 16
  · have hl' : ((cols.length : Int) ≤ 16) := by omega
    have hC := Contains_int_int (enc := .int .i64) (b := bc) (l := cols) (f := snap [.arr 1 0 [rowX r]] (.fn 230 [] [.ptr 0 0 0 0])) (p := fun c => !inC r c) (by unfold most; omega) (fun _ => ⟨rfl, rfl⟩) (fun σ => snap_idem _ _ _) (fun c _ => by
      have := rhas1_spec true false c r
      simp [rowX, this])
    simp at hC
    have hall : cols.all (inC r) = !(cols.any fun c => !inC r c) := by rw [List.not_any_eq_all_not]; simp
    rw [hall]
    cases hA : (cols.any fun c => !inC r c) <;> rw [hA] at hC <;> simp [f_row_has, b_row_has, hl, hl', hC]
  · have hl' : ¬ ((cols.length : Int) ≤ 16) := by omega
    simp [f_row_has, b_row_has, hl, hl']
theorem asked1_spec (c : Int) : pcall I.row_asked_1 [.int .i64 c] = some (.bool (decide (c < 0))) := by
  rw [pcall_eq c_row_asked_1 rfl]
  simp [f_row_asked_1, b_row_asked_1]
theorem asked_ok (b bc : Bool) (rs : List (List Val)) (cols : List Int) (hn : rs.length ≤ 8000) (hr : ∀ r ∈ rs, okR r = true) (hc : cols.length ≤ 16) (h0 : ∀ c ∈ cols, 0 ≤ c) (hh : ∀ r ∈ rs, hasC r cols = true) :
    pcall I.row_asked [.imm b (rs.map rowX), .imm bc (intC cols)] = some (.int .i64 0) := by
  rw [pcall_eq c_row_asked rfl]
  have hm : rs.length ≤ most := by unfold most; omega
  have h1 := fun c => lists_ok c [⟨b, rs⟩] (by simp [most]) (by simpa using hn) (by simpa using hr)
  simp at h1
  have hC := fun bc => Contains_int_int (enc := .int .i64) (b := bc) (l := cols) (f := .fn 139 [] []) (p := fun c => decide (c < 0)) (by unfold most; omega) (fun _ => ⟨rfl, rfl⟩) (fun σ => by simp) (fun c _ => by simp [asked1_spec])
  rw [show (cols.any fun c => decide (c < 0)) = false by
    rw [List.any_eq_false]
    intro c hc'
    have := h0 c hc'
    simp; omega] at hC
  have hl' : ¬ ((16 : Int) < (cols.length : Int)) := by omega
  have hl := rounds_fold (base := 0) (clr := [2, 5, 11, 12]) (b := l_row_asked_0) rs (fun k (_ : Unit) => ⟨[.imm b (rs.map rowX), .imm bc (intC cols), .any, .int .i64 0, .fn 139 [] [], .any, .bool false, .bool false, .imm b (rs.map rowX), .int .i64 rs.length, .int .i64 k, .any, .any], []⟩)
    (fun _ _ => True) (fun _ _ => ()) (fun _ => (.ext 0, ⟨[.imm b (rs.map rowX), .imm bc (intC cols), .any, .int .i64 0, .fn 139 [] [], .any, .bool false, .bool false, .imm b (rs.map rowX), .int .i64 rs.length, .int .i64 rs.length, .bool false, .any], []⟩))
    (fun k y _ hk hy _ => by
      have hlt : ((k : Int) < (rs.length : Int)) := by omega
      have h2 := fun bc => rhas_spec bc y cols
      rw [hh y (List.mem_of_getElem? hy)] at h2
      simp [l_row_asked_0, hlt, hy, h2, wrap_lt hk hm, roundEnd])
    (fun _ _ => by simp [l_row_asked_0]) () trivial
  have hl := hl.1
  simp at hl
  simp [f_row_asked, b_row_asked, h1, hC, hl', hl]
theorem take_spec (bc : Bool) (r : List Val) (cols : List Int) (hc : cols.length ≤ 16) (hh : ∀ c ∈ cols, 0 ≤ c ∧ c < r.length) :
    pcall I.row_take [rowX r, .imm bc (intC cols)] = some (rowX (takeR r cols)) := by
  rw [pcall_eq c_row_take rfl]
  have hm : cols.length ≤ most := by unfold most; omega
  have hl := rounds_fold (base := 1) (clr := [4, 8]) (b := l_row_take_0) cols (fun k (s : List Val) => ⟨[rowX r, .imm bc (intC cols), .nil0, .sl 0 k 0 s.length, .any, .imm bc (intC cols), .int .i64 cols.length, .int .i64 k, .any], [.arr 4 k (s.map Val.a)]⟩)
    (fun k s => s.length = k) (fun s c => s ++ [colV r c]) (fun s => (.ext 0, ⟨[rowX r, .imm bc (intC cols), .nil0, .sl 0 cols.length 0 s.length, .any, .imm bc (intC cols), .int .i64 cols.length, .int .i64 cols.length, .bool false], [.arr 4 cols.length (s.map Val.a)]⟩))
    (fun k c s hk hy hs => by
      have hlt : ((k : Int) < (cols.length : Int)) := by omega
      obtain ⟨c0, c1⟩ := hh c (List.mem_of_getElem? hy)
      have hcv : (r.map Val.a)[c.toNat]? = some (colV r c).a := row_col ⟨c0, c1⟩
      have hct : c.toNat < r.length := by omega
      have hkm : k + 1 ≤ most := by omega
      subst hs
      refine ⟨?_, by simp⟩
      have hcv' : r[c.toNat] = colV r c := by simp [colV, List.getD_eq_getElem?_getD, hct]
      simp [l_row_take_0, hlt, hy, rowX, c0, hct, hcv', append, hkm, roundEnd, wrap_lt hk hm])
    (fun s _ => by simp [l_row_take_0]) [] rfl
  have hf : ∀ (l : List Int) (s : List Val), l.foldl (fun s c => s ++ [colV r c]) s = s ++ l.map (colV r) := by
    intro l
    induction l with
    | nil => intro s; simp
    | cons a l ih => intro s; rw [List.foldl_cons, ih]; simp
  rw [hf] at hl
  have hl := hl.1
  unfold takeR
  have hlen : (cols.map (colV r)).length = cols.length := by simp
  rw [List.nil_append] at hl
  generalize cols.map (colV r) = t at hl hlen ⊢
  simp at hl
  simp [f_row_take, b_row_take, hl]
  rfl
theorem hasC_in {r : List Val} {cols : List Int} (h : hasC r cols = true) : cols.length ≤ 16 ∧ ∀ c ∈ cols, 0 ≤ c ∧ c < r.length := by
  unfold hasC at h
  simp only [Bool.and_eq_true, decide_eq_true_eq] at h
  refine ⟨h.1, fun c hc => ?_⟩
  have := List.all_eq_true.1 h.2 c hc
  unfold inC at this
  simpa using this
theorem Take_ok (bc : Bool) (r : List Val) (cols : List Int) (hr : okR r = true) (hh : hasC r cols = true) : pcall I.row_Take [rowX r, .imm bc (intC cols)] = some (.tup [rowX (takeR r cols), .int .i64 0]) := by
  rw [pcall_eq c_row_Take rfl]
  obtain ⟨h1, h2⟩ := hasC_in hh
  have ha := fun b => asked_ok b bc [r] cols (by simp) (by simpa using hr) h1 (fun c hc => (h2 c hc).1) (by simpa using hh)
  have ht := take_spec bc r cols h1 h2
  simp at ha
  simp only [rowX] at ha ht ⊢
  simp [f_row_Take, b_row_Take, ha, ht]
noncomputable def hashN (t : List Val) : Int := match pcall I.row_hash [rowX t] with
  | some (.int _ n) => n
  | _ => 0
theorem okV_len {v : Val} (h : okV v = true) : v.s.length ≤ 1000 := by
  unfold okV at h
  simp only [beq_iff_eq] at h
  have hs := congrArg Val.s h
  unfold blankV at hs
  repeat' split at hs
  all_goals (simp at hs)
  all_goals (first | (rw [hs]; simp) | omega)
theorem okR_len {r : List Val} (h : okR r = true) : r.length ≤ 16 ∧ ∀ v ∈ r, v.s.length ≤ 1000 := by
  unfold okR at h
  simp only [Bool.and_eq_true, decide_eq_true_eq] at h
  exact ⟨h.1, fun v hv => okV_len (List.all_eq_true.1 h.2 v hv)⟩
theorem hashN_spec (t : List Val) (h1 : t.length ≤ 1000) (h2 : ∀ v ∈ t, v.s.length ≤ 1000) : pcall I.row_hash [rowX t] = some (.int .u32 (hashN t)) ∧ 0 ≤ hashN t ∧ hashN t < 4294967296 := by
  obtain ⟨h, g1, g2, g3⟩ := hash_spec false t h1 h2
  have g3 : pcall I.row_hash [rowX t] = some (.int .u32 h) := g3
  have e : hashN t = h := by unfold hashN; rw [g3]
  rw [e]
  exact ⟨g3, g1, g2⟩
theorem takeR_sub {r : List Val} {cols : List Int} (h : ∀ c ∈ cols, 0 ≤ c ∧ c < r.length) : ∀ v ∈ takeR r cols, v ∈ r := by
  intro v hv
  obtain ⟨c, hc, rfl⟩ := List.mem_map.1 hv
  have := h c hc
  have hlt : c.toNat < r.length := by omega
  unfold colV
  rw [List.getD_eq_getElem?_getD, List.getElem?_eq_getElem hlt]
  exact List.getElem_mem hlt
theorem Hash_ok (bc : Bool) (r : List Val) (cols : List Int) (hr : okR r = true) (hh : hasC r cols = true) :
    pcall I.row_Hash [rowX r, .imm bc (intC cols)] = some (.tup [.int .u32 (hashN (takeR r cols)), .int .i64 0]) ∧ 0 ≤ hashN (takeR r cols) ∧ hashN (takeR r cols) < 4294967296 := by
  obtain ⟨h1, h2⟩ := hasC_in hh
  obtain ⟨_, h3⟩ := okR_len hr
  obtain ⟨g1, g2⟩ := hashN_spec (takeR r cols) (by unfold takeR; simp; omega) (fun v hv => h3 v (takeR_sub h2 v hv))
  refine ⟨?_, g2⟩
  rw [pcall_eq c_row_Hash rfl]
  have ht := Take_ok bc r cols hr hh
  simp only [rowX] at ht g1 ⊢
  simp [f_row_Hash, b_row_Hash, ht, g1]
end Go.AM
end
section

namespace Go.AM
open P
set_option maxHeartbeats 4000000
set_option maxRecDepth 8000
abbrev intsA (l : List Int) : List AVal := l.map (.int .i64)
def compactL (l : List Int) : List Int := l.foldl (fun acc x => if acc.getLast? = some x then acc else acc ++ [x]) []
theorem compactL_snoc (l : List Int) (x : Int) : compactL (l ++ [x]) = if (compactL l).getLast? = some x then compactL l else compactL l ++ [x] := by
  unfold compactL; simp [List.foldl_append]
theorem snoc_ind {α : Type} {p : List α → Prop} (l : List α) (h0 : p []) (h1 : ∀ l x, p l → p (l ++ [x])) : p l := by
  have : ∀ m : List α, p m.reverse := fun m => by
    induction m with
    | nil => simpa using h0
    | cons a m ih => rw [List.reverse_cons]; exact h1 _ _ ih
  simpa using this l.reverse
theorem compactL_last (l : List Int) : (compactL l).getLast? = l.getLast? := by
  refine snoc_ind (p := fun l => (compactL l).getLast? = l.getLast?) l rfl fun l x ih => ?_
  rw [compactL_snoc]
  split
  · rename_i h; rw [h]; simp
  · simp
theorem compactL_mem (l : List Int) (x : Int) : x ∈ compactL l ↔ x ∈ l := by
  refine snoc_ind (p := fun l => x ∈ compactL l ↔ x ∈ l) l (by simp [compactL]) fun l y ih => ?_
  rw [compactL_snoc]
  split
  · rename_i h
    rw [ih]
    constructor
    · intro h'; simp [h']
    · intro h'
      rcases List.mem_append.1 h' with h' | h'
      · exact h'
      · simp at h'; subst h'
        rw [compactL_last] at h
        exact List.mem_of_getLast? h
  · simp [ih]
theorem compactL_le (l : List Int) : (compactL l).length ≤ l.length := by
  refine snoc_ind (p := fun l => (compactL l).length ≤ l.length) l (Nat.le_refl _) fun l y ih => ?_
  rw [compactL_snoc]
  split <;> simp <;> omega
theorem compactL_take {l : List Int} {j : Nat} (hj : j < l.length) (h0 : 0 < j) : compactL (l.take (j + 1)) = if l[j - 1] = l[j] then compactL (l.take j) else compactL (l.take j) ++ [l[j]] := by
  rw [List.take_succ_eq_append_getElem hj, compactL_snoc, compactL_last]
  have : (l.take j).getLast? = some l[j - 1] := by
    rw [List.getLast?_eq_getElem?]
    simp [List.getElem?_take]
    have : min j l.length = j := by omega
    rw [this]
    simp [show j - 1 < j by omega, show j - 1 < l.length by omega]
  rw [this]
  simp
theorem setG {σ : Store} {id : Nat} {o o' : Obj} (h : σ[id]? = some o) : (σ.set id o')[id]? = some o' := by
  have := (List.getElem?_eq_some_iff.1 h).1
  simp [this]
def stepA (l : List Int) (k0 : Nat) : Nat → List Int × Nat
  | 0 => (l, k0)
  | m + 1 => let p := stepA l k0 m
    if l.getD (k0 + m + 1) 0 = l.getD (k0 + m) 0 then p else (p.1.set p.2 (l.getD (k0 + m + 1) 0), p.2 + 1)
theorem stepA_ok {l : List Int} {k0 : Nat} (h0 : 0 < k0) (hk : k0 < l.length) (hd : l[k0 - 1] = l[k0]) (hp : compactL (l.take k0) = l.take k0) : ∀ m, k0 + m < l.length →
    (stepA l k0 m).1.length = l.length ∧ (stepA l k0 m).2 ≤ k0 + m ∧ (stepA l k0 m).1.take (stepA l k0 m).2 = compactL (l.take (k0 + m + 1)) ∧ (stepA l k0 m).1.drop (k0 + m) = l.drop (k0 + m)
  | 0, _ => by
    have := compactL_take (l := l) hk h0
    rw [if_pos hd, hp] at this
    simp [stepA, this]
  | m + 1, hm => by
    obtain ⟨i1, i2, i3, i4⟩ := stepA_ok h0 hk hd hp m (by omega)
    have g1 : l.getD (k0 + m + 1) 0 = l[k0 + m + 1] := by simp [List.getD_eq_getElem?_getD, show k0 + m + 1 < l.length by omega]
    have g2 : l.getD (k0 + m) 0 = l[k0 + m] := by simp [List.getD_eq_getElem?_getD, show k0 + m < l.length by omega]
    have hc := compactL_take (l := l) (j := k0 + m + 1) (by omega) (by omega)
    have e1 : (stepA l k0 m).1.drop (k0 + (m + 1)) = l.drop (k0 + (m + 1)) := by
      have := congrArg (List.drop 1) i4
      simpa [List.drop_drop, Nat.add_assoc, Nat.add_comm, Nat.add_left_comm] using this
    unfold stepA
    simp only [g1, g2]
    by_cases hq : l[k0 + m + 1] = l[k0 + m]
    · rw [if_pos hq]
      rw [if_pos (by simpa using hq.symm)] at hc
      exact ⟨i1, by omega, by rw [i3]; simpa [Nat.add_assoc] using hc.symm, e1⟩
    · rw [if_neg hq]
      rw [if_neg (by simpa using fun e => hq e.symm)] at hc
      refine ⟨by simp [i1], by simp; omega, ?_, ?_⟩
      · have h2 : (stepA l k0 m).2 < (stepA l k0 m).1.length := by omega
        simp only
        rw [List.take_succ_eq_append_getElem (by simpa using h2), List.take_set_of_le (by omega), i3]
        simp only [List.getElem_set_self]
        simpa [Nat.add_assoc] using hc.symm
      · simp only
        rw [List.drop_set_of_lt (by omega)]
        exact e1
theorem ints_get {l : List Int} {k : Nat} (h : k < l.length) : (intsA l)[k]? = some (.int .i64 l[k]) := by simp [intsA, h]
abbrev innS (σ : Store) (id ep n k0 : Nat) (l : List Int) (m : Nat) : St :=
  ⟨[.sl id ep 0 n, .any, .int .i64 ((stepA l k0 m).2 : Nat), .sl id ep k0 (n - k0), .int .i64 ((m + 1 : Nat) : Int), .bool false, .bool true, .bool true, .any, .any], σ.set id (.arr 1 ep (intsA (stepA l k0 m).1))⟩
theorem compact_inn {σ : Store} {id ep k0 : Nat} {l : List Int} (hσ : σ[id]? = some (.arr 1 ep (intsA l))) (hn : l.length ≤ most) (h0 : 0 < k0) (hk : k0 < l.length) (hd : l[k0 - 1] = l[k0]) (hp : compactL (l.take k0) = l.take k0) :
    rounds code σ.length [8, 9] l_slices_Compact_int_int_0 (innS σ id ep l.length k0 l 0) = some (.ext 2, ⟨[.sl id ep 0 l.length, .any, .int .i64 ((compactL l).length : Nat), .sl id ep k0 (l.length - k0), .int .i64 ((l.length - k0 : Nat) : Int), .bool false, .bool true, .bool true, .bool false, .any], σ.set id (.arr 1 ep (intsA (stepA l k0 (l.length - k0 - 1)).1))⟩) := by
  refine rounds_iter (innS σ id ep l.length k0 l) (l.length - k0 - 1) _ (fun m hm => ?_) ?_
  · obtain ⟨i1, i2, i3, i4⟩ := stepA_ok h0 hk hd hp m (by omega)
    have hs : stepA l k0 (m + 1) = if l.getD (k0 + m + 1) 0 = l.getD (k0 + m) 0 then stepA l k0 m else ((stepA l k0 m).1.set (stepA l k0 m).2 (l.getD (k0 + m + 1) 0), (stepA l k0 m).2 + 1) := rfl
    have g1 : l.getD (k0 + m + 1) 0 = l[k0 + m + 1] := by simp [List.getD_eq_getElem?_getD, show k0 + m + 1 < l.length by omega]
    have g2 : l.getD (k0 + m) 0 = l[k0 + m] := by simp [List.getD_eq_getElem?_getD, show k0 + m < l.length by omega]
    rw [g1, g2] at hs
    clear g1 g2
    unfold innS
    rcases hA : stepA l k0 m with ⟨A, k⟩
    rw [hA] at i1 i2 i3 i4 hs
    rw [hs]
    clear hs hA
    simp only at i1 i2 i3 i4
    have hg := setG (o' := .arr 1 ep (intsA A)) hσ
    have a1 : (intsA A)[k0 + (m + 1)]? = some (.int .i64 l[k0 + m + 1]) := by
      have : A[k0 + (m + 1)] = l[k0 + m + 1] := by
        have := congrArg (fun x => x[1]?) i4
        simp only [List.getElem?_drop] at this
        rw [List.getElem?_eq_getElem (by omega), List.getElem?_eq_getElem (by omega)] at this
        simpa [Nat.add_assoc] using this
      rw [ints_get (by omega), this]
    have a2 : (intsA A)[k0 + m]? = some (.int .i64 l[k0 + m]) := by
      have : A[k0 + m] = l[k0 + m] := by
        have := congrArg (fun x => x[0]?) i4
        simp only [List.getElem?_drop] at this
        rw [List.getElem?_eq_getElem (by omega), List.getElem?_eq_getElem (by omega)] at this
        simpa [Nat.add_assoc] using this
      rw [ints_get (by omega), this]
    have hlt : ((m : Int) + 1 < ((l.length - k0 : Nat) : Int)) := by omega
    have hn' : l.length ≤ 68719476736 := hn
    have w1 := w64 (n := (m : Int)) (by omega) (by omega)
    have w2 := w64 (n := (m : Int) + 1 + 1) (by omega) (by omega)
    have w3 := w64 (n := (k : Int) + 1) (by omega) (by omega)
    have c1 : m + 1 < l.length - k0 := by omega
    have c2 : m < l.length - k0 := by omega
    have c3 : k < l.length := by omega
    have cst : ((m : Int) + 1).toNat = m + 1 := by omega
    have nn : (0 : Int) ≤ (m : Int) + 1 := by omega
    have c4 : k < A.length := by omega
    have hset : (intsA A)[k]? = some (.int .i64 A[k]) := ints_get c4
    by_cases hq : l[k0 + m + 1] = l[k0 + m]
    · rw [if_pos hq]
      simp [l_slices_Compact_int_int_0, hlt, hg, a1, a2, c1, c2, w1, w2, w3, cst, nn, hq, roundEnd_same, -List.getElem?_map]
    · rw [if_neg hq]
      simp [l_slices_Compact_int_int_0, hlt, hg, a1, a2, c1, c2, c3, w1, w2, w3, cst, nn, hq, roundEnd_same, hset, bne_t hq, -List.getElem?_map]
  · obtain ⟨i1, i2, i3, i4⟩ := stepA_ok h0 hk hd hp (l.length - k0 - 1) (by omega)
    have hlen : (compactL l).length = (stepA l k0 (l.length - k0 - 1)).2 := by
      rw [show k0 + (l.length - k0 - 1) + 1 = l.length by omega, List.take_length] at i3
      rw [← i3, List.length_take]; omega
    rw [hlen]
    unfold innS
    rcases hA : stepA l k0 (l.length - k0 - 1) with ⟨A, k⟩
    have hg := setG (o' := .arr 1 ep (intsA A)) hσ
    have e1 : l.length - k0 - 1 + 1 = l.length - k0 := by omega
    rw [e1]
    simp [l_slices_Compact_int_int_0, hg]
theorem set_sameX {σ : Store} {id : Nat} {o : Obj} (h : σ[id]? = some o) : σ.set id o = σ := by
  refine List.ext_getElem? fun i => ?_
  by_cases hi : id = i
  · subst hi; rw [setG h, h]
  · rw [List.getElem?_set_ne hi]
theorem compact_id {l : List Int} (h : ∀ k (_ : 0 < k) (hk : k < l.length), l[k - 1] ≠ l[k]) : ∀ j, j ≤ l.length → compactL (l.take j) = l.take j
  | 0, _ => by simp [compactL]
  | 1, hj => by
    match l, hj with
    | a :: r, _ => simp [compactL]
  | j + 2, hj => by
    rw [compactL_take (j := j + 1) (by omega) (by omega), if_neg (h (j + 1) (by omega) (by omega)), compact_id h (j + 1) (by omega), ← List.take_succ_eq_append_getElem]
abbrev outS (σ : Store) (id ep n : Nat) (m : Nat) : St := ⟨[.sl id ep 0 n, .any, .int .i64 ((m + 1 : Nat) : Int), .any, .any, .bool false, .any, .any, .any, .any], σ⟩
theorem compact_outStep {σ : Store} {id ep : Nat} {l : List Int} (hσ : σ[id]? = some (.arr 1 ep (intsA l))) (hn : l.length ≤ most) (m : Nat) (hm : m + 1 < l.length) (hd : l[m] ≠ l[m + 1]) :
    thenLoop σ.length [1, 3, 4, 6, 7, 8, 9] l_slices_Compact_int_int_1 (run code l_slices_Compact_int_int_1 (outS σ id ep l.length m)) = rounds code σ.length [1, 3, 4, 6, 7, 8, 9] l_slices_Compact_int_int_1 (outS σ id ep l.length (m + 1)) := by
  have hn' : l.length ≤ 68719476736 := hn
  have w1 := w64 (n := (m : Int)) (by omega) (by omega)
  have w2 := w64 (n := (m : Int) + 1 + 1) (by omega) (by omega)
  have hlt : ((m : Int) + 1 < (l.length : Int)) := by omega
  have a1 := ints_get (l := l) (k := m + 1) hm
  have a2 := ints_get (l := l) (k := m) (by omega)
  have cst : ((m : Int) + 1).toNat = m + 1 := by omega
  have nn : (0 : Int) ≤ (m : Int) + 1 := by omega
  have c2 : m < l.length := by omega
  have hb : (l[m + 1] == l[m]) = false := beq_f (Ne.symm hd)
  simp [l_slices_Compact_int_int_1, outS, hlt, hσ, a1, a2, w1, w2, cst, nn, hm, c2, hb, roundEnd_same, -List.getElem?_map]
theorem first_dup (l : List Int) : (∀ k (_ : 0 < k) (hk : k < l.length), l[k - 1] ≠ l[k]) ∨ ∃ k0, ∃ (_ : 0 < k0) (hk : k0 < l.length), l[k0 - 1] = l[k0] ∧ ∀ k (_ : 0 < k) (hk' : k < k0), l[k - 1] ≠ l[k] := by
  have key : ∀ n, n ≤ l.length → (∀ k (_ : 0 < k) (hk : k < n) (hk' : k < l.length), l[k - 1] ≠ l[k]) ∨ ∃ k0, ∃ (_ : 0 < k0) (hk : k0 < l.length), l[k0 - 1] = l[k0] ∧ ∀ k (_ : 0 < k) (hk' : k < k0), l[k - 1] ≠ l[k] := by
    intro n
    induction n with
    | zero => intro _; exact .inl fun k _ hk => absurd hk (Nat.not_lt_zero _)
    | succ n ih =>
      intro hn
      rcases ih (by omega) with h | h
      · by_cases h0 : 0 < n
        · by_cases hd : l[n - 1] = l[n]
          · exact .inr ⟨n, h0, by omega, hd, fun k hk hk' => h k hk hk' (by omega)⟩
          · exact .inl fun k hk hkn hk' => by
              by_cases he : k = n
              · subst he; exact hd
              · exact h k hk (by omega) hk'
        · exact .inl fun k hk hkn hk' => by omega
      · exact .inr h
  rcases key l.length (Nat.le_refl _) with h | h
  · exact .inl fun k h0 hk => h k h0 hk hk
  · exact .inr h
theorem compact_spec {σ : Store} {id ep : Nat} {l : List Int} (hσ : σ[id]? = some (.arr 1 ep (intsA l))) (hn : l.length ≤ most) :
    ∃ A : List Int, acall code I.slices_Compact_int_int [.sl id ep 0 l.length] σ = some (.sl id ep 0 (compactL l).length, σ.set id (.arr 1 ep (intsA A))) ∧ A.length = l.length ∧ A.take (compactL l).length = compactL l := by
  rw [acall_keep c_slices_Compact_int_int rfl]
  by_cases h2 : l.length < 2
  · have hc := compact_id (l := l) (fun k h0 hk => by omega) l.length (Nat.le_refl _)
    rw [List.take_length] at hc
    refine ⟨l, ?_, rfl, by rw [hc, List.take_length]⟩
    have hi : ((l.length : Int) < 2) := by omega
    rw [hc, set_sameX hσ]
    simp [f_slices_Compact_int_int, b_slices_Compact_int_int, hσ, hi]
  · have hi : ¬ ((l.length : Int) < 2) := by omega
    rcases first_dup l with h | ⟨k0, h0, hk, hd, hb⟩
    · have hc := compact_id h l.length (Nat.le_refl _)
      rw [List.take_length] at hc
      refine ⟨l, ?_, rfl, by rw [hc, List.take_length]⟩
      have hloop := rounds_iter (base := σ.length) (clr := [1, 3, 4, 6, 7, 8, 9]) (b := l_slices_Compact_int_int_1) (outS σ id ep l.length) (l.length - 1)
        (.ext 0, ⟨[.sl id ep 0 l.length, .any, .int .i64 l.length, .any, .any, .bool false, .bool false, .any, .any, .any], σ⟩)
        (fun m hm => compact_outStep hσ hn m (by omega) (h (m + 1) (by omega) (by omega))) (by
          unfold outS
          rw [show l.length - 1 + 1 = l.length by omega]
          simp [l_slices_Compact_int_int_1, hσ])
      unfold outS at hloop
      simp at hloop
      rw [hc, set_sameX hσ]
      simp [f_slices_Compact_int_int, b_slices_Compact_int_int, hσ, hi, hloop]
    · have hp : compactL (l.take k0) = l.take k0 := by
        have := compact_id (l := l.take k0) (fun k hk0 hkk => by
          simp at hkk
          simpa using hb k hk0 (by omega)) k0 (by simp; omega)
        rwa [List.take_take, Nat.min_self] at this
      have hin := compact_inn (ep := ep) hσ hn h0 hk hd hp
      obtain ⟨i1, i2, i3, i4⟩ := stepA_ok h0 hk hd hp (l.length - k0 - 1) (by omega)
      rw [show k0 + (l.length - k0 - 1) + 1 = l.length by omega, List.take_length] at i3
      have hle : (stepA l k0 (l.length - k0 - 1)).2 = (compactL l).length := by rw [← i3, List.length_take]; omega
      rw [hle] at i3
      generalize (stepA l k0 (l.length - k0 - 1)).1 = A at *
      have hcl := compactL_le l
      generalize hC : (compactL l).length = c at *
      have hg := fun o' => setG (o' := o') hσ
      refine ⟨A.take c ++ List.replicate (l.length - c) 0 ++ A.drop (c + (l.length - c)), ?_, by simp; omega, by
        rw [List.append_assoc, List.take_left' (by simp; omega)]; exact i3⟩
      have hloop := rounds_iter (base := σ.length) (clr := [1, 3, 4, 6, 7, 8, 9]) (b := l_slices_Compact_int_int_1) (outS σ id ep l.length) (k0 - 1)
        (.ret, ⟨[.sl id ep 0 l.length, .sl id ep 0 c, .int .i64 c, .sl id ep k0 (l.length - k0), .int .i64 ((l.length - k0 : Nat) : Int), .bool false, .bool true, .bool true, .bool false, .any], σ.set id (.arr 1 ep (intsA (A.take c ++ List.replicate (l.length - c) 0 ++ A.drop (c + (l.length - c)))))⟩)
        (fun m hm => compact_outStep hσ hn m (by omega) (hb (m + 1) (by omega) (by omega))) (by
          unfold outS
          rw [show k0 - 1 + 1 = k0 by omega]
          have hn' : l.length ≤ 68719476736 := hn
          have w1 := w64 (n := (k0 : Int) - 1) (by omega) (by omega)
          have w2 : ((k0 : Int) - 1).toNat = k0 - 1 := by omega
          have w3 : (0 : Int) ≤ (k0 : Int) - 1 := by omega
          have w4 : (1 : Int) ≤ (k0 : Int) := by omega
          have hlt : ((k0 : Int) < (l.length : Int)) := by omega
          have a1 := ints_get (l := l) (k := k0) hk
          have a2 := ints_get (l := l) (k := k0 - 1) (by omega)
          have c3 : k0 - 1 < l.length := by omega
          have c4 : k0 ≤ l.length := by omega
          have c5 : c + (l.length - c) = l.length := by omega
          unfold innS at hin
          simp [stepA] at hin
          rw [set_sameX hσ] at hin
          simp [l_slices_Compact_int_int_1, hlt, hσ, a1, a2, w1, w2, w3, w4, c3, c4, hd, hin, hk, hg, hcl, i1, c5, -List.getElem?_map])
      unfold outS at hloop
      simp at hloop
      simp [f_slices_Compact_int_int, b_slices_Compact_int_int, hσ, hi, hloop]
end Go.AM
end

namespace Go.AM
structure EN where
  tag : Int
  l : Int
  r : Int
  col : Int
  v : Val
  deriving DecidableEq, Inhabited
def EN.a (n : EN) : AVal := .agg [.int .i64 n.tag, .int .i64 n.l, .int .i64 n.r, .int .i64 n.col, .int .i64 n.v.k, .int .i64 n.v.n, .int .u64 n.v.u, .str n.v.s]
end Go.AM
section

namespace Go.AM
open P
set_option maxHeartbeats 4000000
set_option maxRecDepth 4000
@[simp] theorem en_ncells (n : EN) : ncells n.a = 8 := rfl
@[simp] theorem en_isAgg (n : EN) : isAgg n.a = true := rfl
@[simp] theorem en_fz (n : EN) (fl top : Bool) (base : Nat) (σ : Store) (m : Nat) : fz fl top base σ (m + 2) n.a = n.a := by simp [EN.a]
def ensA (e : List EN) : List AVal := e.map EN.a
@[simp] theorem ensA_length (e : List EN) : (ensA e).length = e.length := by simp [ensA]
theorem ensA_get {e : List EN} {k : Nat} (h : k < e.length) : (ensA e)[k]? = some e[k].a := by simp [ensA, h]
def exprA (b : Bool) (e : List EN) : AVal := .agg [.imm b (ensA e)]
def eparts (t : Int) : Int := if t = 1 ∨ t = 2 then 0 else if 4 ≤ t ∧ t ≤ 7 then 1 else if 12 ≤ t ∧ t ≤ 23 then 2 else -1
theorem parts_spec (t : Int) : pcall I.expr_parts [.int .i64 t] = some (.int .i64 (eparts t)) := by
  rw [pcall_eq c_expr_parts rfl]
  unfold eparts
  by_cases h1 : t = 1
  · subst h1; simp [f_expr_parts, b_expr_parts]
  · by_cases h2 : t = 2
    · subst h2; simp [f_expr_parts, b_expr_parts]
    · have e12 : ¬ (t = 1 ∨ t = 2) := by omega
      rw [if_neg e12]
      by_cases h3 : 4 ≤ t
      · by_cases h4 : t ≤ 7
        · simp [f_expr_parts, b_expr_parts, beq_f h1, beq_f h2, h3, h4]
        · by_cases h5 : 12 ≤ t
          · by_cases h6 : t ≤ 23
            · simp [f_expr_parts, b_expr_parts, beq_f h1, beq_f h2, h3, h4, h5, h6]
            · simp [f_expr_parts, b_expr_parts, beq_f h1, beq_f h2, h3, h4, h5, h6]
          · simp [f_expr_parts, b_expr_parts, beq_f h1, beq_f h2, h3, h4, h5]
      · have h5 : ¬ (12 ≤ t) := by omega
        simp [f_expr_parts, b_expr_parts, beq_f h1, beq_f h2, h3, h5]
def plainV (v : Val) : Bool := okV v && v.k != 4
theorem Plain_spec (v : Val) : pcall I.value_Plain [v.a] = some (.bool (plainV v)) := by
  rw [pcall_eq c_value_Plain rfl]
  have h := Check_spec v
  unfold plainV
  obtain ⟨k, n, u, s⟩ := v
  simp only [a_mk] at *
  cases hv : okV ⟨k, n, u, s⟩ <;> rw [hv] at h <;> simp [f_value_Plain, b_value_Plain, h]
def zeroV : Val := ⟨0, 0, 0, []⟩
def countsE (n : EN) : Bool := if n.tag = 1 then plainV n.v && n.col == 0 else if n.tag = 2 then n.v == zeroV && decide (0 ≤ n.col) && decide (n.col < 16) else n.v == zeroV && n.col == 0
theorem zero_eq (v : Val) : eqCells [0, 0, 0, 2] [.int .i64 v.k, .int .i64 v.n, .int .u64 v.u, .str v.s] [.int .i64 0, .int .i64 0, .int .u64 0, .str []] = some (v == zeroV) := by
  obtain ⟨k, n, u, s⟩ := v
  unfold zeroV
  by_cases hk : k = 0
  · by_cases hn : n = 0
    · by_cases hu : u = 0
      · by_cases hs : s = []
        · subst hk hn hu hs; simp
        · have hs' : (s == []) = false := by simp [hs]
          have e : ((⟨k, n, u, s⟩ : Val) == ⟨0, 0, 0, []⟩) = false := by simp [hs]
          rw [e]; simp [hk, hn, hu, hs']
      · have e : ((⟨k, n, u, s⟩ : Val) == ⟨0, 0, 0, []⟩) = false := by simp [hu]
        rw [e]; simp [hk, hn, beq_f hu]
    · have e : ((⟨k, n, u, s⟩ : Val) == ⟨0, 0, 0, []⟩) = false := by simp [hn]
      rw [e]; simp [hk, beq_f hn]
  · have e : ((⟨k, n, u, s⟩ : Val) == ⟨0, 0, 0, []⟩) = false := by simp [hk]
    rw [e]; simp [beq_f hk]
theorem counts_spec (n : EN) : pcall I.expr_counts [n.a] = some (.bool (countsE n)) := by
  rw [pcall_eq c_expr_counts rfl]
  have hp := Plain_spec n.v
  have hz := zero_eq n.v
  unfold countsE EN.a
  unfold Val.a at hp
  by_cases h1 : n.tag = 1
  · cases hv : plainV n.v <;> rw [hv] at hp <;> simp [f_expr_counts, b_expr_counts, h1, hp]
  · by_cases h2 : n.tag = 2
    · cases hv : (n.v == zeroV) <;> rw [hv] at hz <;> simp [f_expr_counts, b_expr_counts, h2, hz, -eqCells]
      by_cases h3 : 0 ≤ n.col <;> simp [h3]
    · cases hv : (n.v == zeroV) <;> rw [hv] at hz <;> simp [f_expr_counts, b_expr_counts, h1, h2, beq_f h1, beq_f h2, hz, -eqCells]
end Go.AM
end

namespace Go.AM
instance : Nc EN.a 8 true := ⟨fun _ => rfl, fun _ => rfl⟩
instance : Fx EN.a := ⟨fun fl top base σ n y => en_fz y fl top base σ (n + 1)⟩
structure AggX where
  tag : Int
  b : Bool
  arg : List EN
def AggX.a (a : AggX) : AVal := .agg [.int .i64 a.tag, .imm a.b (a.arg.map EN.a)]
structure ExX where
  b : Bool
  l : List EN
def ExX.a (e : ExX) : AVal := .agg [.imm e.b (e.l.map EN.a)]
structure LNX where
  op : Int
  l : Int
  r : Int
  tab : Int
  bk : Bool
  kinds : List Int
  left : Bool
  bc : Bool
  cond : List EN
  by' : Bool
  keys : List Int
  bg : Bool
  aggs : List AggX
  bi : Bool
  items : List ExX
  bo : Bool
  ords : List (Int × Bool)
  limit : Int
def LNX.a (n : LNX) : AVal := .agg [.int .i64 n.op, .int .i64 n.l, .int .i64 n.r, .int .i64 n.tab, .imm n.bk (n.kinds.map (.int .i64)), .bool n.left, .imm n.bc (n.cond.map EN.a), .imm n.by' (n.keys.map (.int .i64)), .imm n.bg (n.aggs.map AggX.a), .imm n.bi (n.items.map ExX.a), .imm n.bo (n.ords.map ordA), .int .i64 n.limit]
instance : Nc AggX.a 2 true := ⟨fun _ => rfl, fun _ => rfl⟩
instance : Ft AggX.a := ⟨fun fl top base σ n y h => by cases fl <;> cases top <;> simp [AggX.a] at h ⊢⟩
instance : Nc ExX.a 1 true := ⟨fun _ => rfl, fun _ => rfl⟩
instance : Ft ExX.a := ⟨fun fl top base σ n y h => by cases fl <;> cases top <;> simp [ExX.a] at h ⊢⟩
instance : Nc ordA 2 true := ⟨fun _ => rfl, fun _ => rfl⟩
instance : Fx ordA := ⟨fun fl top base σ n y => by simp [ordA]⟩
instance : Nc LNX.a 12 true := ⟨fun _ => rfl, fun _ => rfl⟩
instance : Ft LNX.a := ⟨fun fl top base σ n y h => by cases fl <;> cases top <;> simp [LNX.a] at h ⊢⟩
instance : Nc (SlX.c (AVal.int .i64)) 1 false := ⟨fun _ => rfl, fun _ => rfl⟩
instance : Ft (SlX.c (AVal.int .i64)) := ⟨fun fl top base σ n y h => by cases fl <;> cases top <;> simp at h ⊢⟩
end Go.AM
section
namespace Go.AM
open P
set_option maxHeartbeats 4000000
set_option maxRecDepth 8000
attribute [local simp] condRun_if when_if
def partsF (op : Int) : Int := if op = 1 ∨ op = 9 then 0 else if op = 2 ∨ op = 7 then 2 else if op = 3 ∨ op = 4 ∨ op = 5 ∨ op = 6 ∨ op = 8 ∨ op = 10 ∨ op = 11 then 1 else -1
theorem parts18_spec (op : Int) : pcall I.prop_parts [.int .i64 op] = some (.int .i64 (partsF op)) := by
  rw [pcall_eq c_prop_parts rfl]
  unfold partsF
  simp [f_prop_parts, b_prop_parts]
  repeat' (split <;> (try simp_all))
def blankF (n : LNX) : Bool :=
  (n.op == 1 || n.op == 9 || n.tab == 0 && n.kinds.length == 0) && (n.op == 2 || !n.left) && (n.op == 2 || n.op == 3 || n.cond.length == 0) &&
  (n.op == 4 || n.op == 10 || n.op == 11 || (n.keys.length : Int) + n.aggs.length == 0) && (n.op == 5 || n.items.length == 0) && (n.op == 8 || n.ords.length == 0 && n.limit == 0)
theorem blank18_spec (n : LNX) (h1 : n.keys.length ≤ most) (h2 : n.aggs.length ≤ most) : pcall I.prop_blank [n.a] = some (.bool (blankF n)) := by
  rw [pcall_eq c_prop_blank rfl]
  have hw : IntKind.i64.wrap ((n.keys.length : Int) + (n.aggs.length : Int)) = (n.keys.length : Int) + n.aggs.length := wrap64_id (by unfold most at *; omega)
  unfold blankF
  simp [f_prop_blank, b_prop_blank, LNX.a, hw]
  repeat' (split <;> (try simp_all))
end Go.AM
end
