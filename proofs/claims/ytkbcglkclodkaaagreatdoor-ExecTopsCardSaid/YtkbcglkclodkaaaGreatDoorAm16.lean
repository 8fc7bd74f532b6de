/- Orders by comparing, sorting by inserting, cutting: plain Lean. -/
import Derived.Test.YtkbcglkclodkaaaGreatDoorAm05
import Derived.Test.YtkbcglkclodkaaaGreatDoorAm15
set_option linter.unusedVariables false
set_option linter.unusedSimpArgs false
namespace Go.AM
structure WOk {α : Type} (c : α → α → Int) : Prop where
  anti : ∀ x y, c x y < 0 ↔ 0 < c y x
  tr : ∀ x y z, c x y ≤ 0 → c y z ≤ 0 → c x z ≤ 0
namespace WOk
variable {α : Type} {c d : α → α → Int}
theorem self (h : WOk c) (x : α) : c x x = 0 := by have := h.anti x x; omega
theorem lt_le (h : WOk c) {x y z : α} (h1 : c x y < 0) (h2 : c y z ≤ 0) : c x z < 0 := by
  have a1 := h.anti x z
  have a2 := h.anti x y
  have a3 := h.tr y z x h2
  omega
theorem le_lt (h : WOk c) {x y z : α} (h1 : c x y ≤ 0) (h2 : c y z < 0) : c x z < 0 := by
  have a1 := h.anti x z
  have a2 := h.anti y z
  have a3 := h.tr z x y
  omega
theorem zero (h : WOk c) {x y : α} : c x y = 0 ↔ c y x = 0 := by
  have := h.anti x y; have := h.anti y x; omega
end WOk
def lex (a b : Int) : Int := if a ≠ 0 then a else b
theorem WOk.lex {α : Type} {c d : α → α → Int} (hc : WOk c) (hd : WOk d) : WOk fun x y => lex (c x y) (d x y) where
  anti x y := by
    have h1 := hc.anti x y; have h2 := hc.anti y x; have h3 := hd.anti x y
    unfold Go.AM.lex
    split <;> split <;> omega
  tr x y z h1 h2 := by
    unfold Go.AM.lex at *
    have a1 := fun h => hc.lt_le (x := x) (y := y) (z := z) h
    have a2 := fun h h' => hc.le_lt (x := x) (y := y) (z := z) h h'
    have a3 := hc.tr x y z
    have a4 := hd.tr x y z
    have a5 := hc.anti x z
    have a6 := hc.tr z y x
    have a7 := hc.anti x y; have a8 := hc.anti y z; have a9 := hc.anti y x; have b1 := hc.anti z y; have b2 := hc.anti z x
    split at h1 <;> split at h2 <;> split <;> omega
theorem WOk.on {α β : Type} {c : α → α → Int} (h : WOk c) (f : β → α) : WOk fun x y => c (f x) (f y) := ⟨fun x y => h.anti _ _, fun x y z => h.tr _ _ _⟩
theorem WOk.neg {α : Type} {c : α → α → Int} (h : WOk c) : WOk fun x y => -c x y where
  anti x y := by have := h.anti y x; have := h.anti x y; omega
  tr x y z h1 h2 := by
    have a1 := h.tr z y x; have a2 := h.anti x y; have a3 := h.anti y z; have a4 := h.anti x z
    have a5 := h.anti y x; have a6 := h.anti z y; have a7 := h.anti z x
    omega
def icmp (n m : Int) : Int := if n < m then -1 else if m < n then 1 else 0
theorem icmp_ok : WOk icmp where
  anti x y := by unfold icmp; repeat' split
                 all_goals omega
  tr x y z h1 h2 := by
    unfold icmp at *
    repeat' split at h1
    all_goals repeat' split at h2
    all_goals repeat' split
    all_goals omega
theorem icmp_eq {n m : Int} (h : icmp n m = 0) : n = m := by unfold icmp at h; repeat' split at h
                                                             all_goals omega
def scmp (a b : List UInt8) : Int := if Op.bytesLess a b then -1 else if !(Op.bytesLess a b || a == b) then 1 else 0
def scmpR : List UInt8 → List UInt8 → Int
  | [], [] => 0
  | [], _ :: _ => -1
  | _ :: _, [] => 1
  | a :: x, b :: y => lex (icmp a.toNat b.toNat) (scmpR x y)
theorem scmp_eq : ∀ a b, scmp a b = scmpR a b
  | [], [] => rfl
  | [], _ :: _ => rfl
  | _ :: _, [] => rfl
  | a :: x, b :: y => by
    have ih := scmp_eq x y
    unfold scmp at ih ⊢
    simp only [scmpR]
    unfold Go.AM.lex icmp
    have h1 : (a < b) ↔ a.toNat < b.toNat := UInt8.lt_iff_toNat_lt
    have h2 : (a == b) = decide (a.toNat = b.toNat) := by
      by_cases h : a = b
      · subst h; simp
      · have : a.toNat ≠ b.toNat := fun e => h (UInt8.toNat_inj.1 e)
        simp [h, this]
    simp only [Op.bytesLess]
    by_cases c1 : a.toNat < b.toNat
    · simp [h1, c1]
    · by_cases c2 : b.toNat < a.toNat
      · have c3 : ¬ a.toNat = b.toNat := by omega
        have c4 : ¬ a = b := fun e => c3 (by rw [e])
        simp [h1, h2, c1, c2, c3, c4]
      · have c3 : a.toNat = b.toNat := by omega
        have c4 : a = b := UInt8.toNat_inj.1 c3
        subst c4
        simp [h1]
        rw [← ih]
        simp
theorem scmpR_ok : WOk scmpR where
  anti := by
    intro x
    induction x with
    | nil => intro y; cases y <;> simp [scmpR]
    | cons a x ih =>
      intro y
      cases y with
      | nil => simp [scmpR]
      | cons b y =>
        have h1 := ih y
        have h2 := icmp_ok.anti a.toNat b.toNat
        have h3 := icmp_ok.anti b.toNat a.toNat
        simp only [scmpR]
        unfold Go.AM.lex
        split <;> split <;> omega
  tr := by
    intro x
    induction x with
    | nil => intro y z _ _; cases z <;> simp [scmpR]
    | cons a x ih =>
      intro y z h1 h2
      cases y with
      | nil => simp [scmpR] at h1
      | cons b y =>
        cases z with
        | nil => simp [scmpR] at h2
        | cons e z =>
          have a1 := ih y z
          simp only [scmpR] at *
          unfold Go.AM.lex icmp at *
          repeat' split at h1
          all_goals repeat' split at h2
          all_goals repeat' split
          all_goals first | omega | (exact a1 h1 h2) | skip
theorem scmp_ok : WOk scmp := by
  have : scmp = scmpR := funext fun a => funext fun b => scmp_eq a b
  rw [this]
  exact scmpR_ok
theorem scmpR_zero : ∀ {a b : List UInt8}, scmpR a b = 0 → a = b
  | [], [], _ => rfl
  | [], _ :: _, h => by simp [scmpR] at h
  | _ :: _, [], h => by simp [scmpR] at h
  | a :: x, b :: y, h => by
    simp only [scmpR] at h
    unfold Go.AM.lex at h
    split at h
    · exact absurd h (by assumption)
    · rename_i h0
      have h1 := icmp_eq (Decidable.not_not.1 h0)
      rw [UInt8.toNat_inj.1 (by omega : a.toNat = b.toNat), scmpR_zero h]
structure Val where
  k : Int
  n : Int
  u : Int
  s : List UInt8
  deriving DecidableEq, Inhabited
def cmpV (a b : Val) : Int := lex (icmp a.k b.k) (lex (icmp a.n b.n) (lex (icmp a.u b.u) (scmp a.s b.s)))
theorem cmpV_ok : WOk cmpV := (icmp_ok.on Val.k).lex ((icmp_ok.on Val.n).lex ((icmp_ok.on Val.u).lex (scmp_ok.on Val.s)))
theorem lex_zero {a b : Int} (h : lex a b = 0) : a = 0 ∧ b = 0 := by unfold lex at h; split at h <;> omega
theorem cmpV_zero {a b : Val} (h : cmpV a b = 0) : a = b := by
  obtain ⟨h1, h⟩ := lex_zero h
  obtain ⟨h2, h⟩ := lex_zero h
  obtain ⟨h3, h4⟩ := lex_zero h
  cases a; cases b
  rw [scmp_eq] at h4
  rw [Val.mk.injEq]
  exact ⟨icmp_eq h1, icmp_eq h2, icmp_eq h3, scmpR_zero h4⟩
theorem icmp_range (a b : Int) : -1 ≤ icmp a b ∧ icmp a b ≤ 1 := by unfold icmp; repeat' split
                                                                    all_goals omega
theorem scmp_range (a b : List UInt8) : -1 ≤ scmp a b ∧ scmp a b ≤ 1 := by unfold scmp; repeat' split
                                                                           all_goals omega
theorem lex_range {a b : Int} (h : -1 ≤ a ∧ a ≤ 1) (h' : -1 ≤ b ∧ b ≤ 1) : -1 ≤ lex a b ∧ lex a b ≤ 1 := by unfold lex; split <;> omega
theorem cmpV_range (a b : Val) : -1 ≤ cmpV a b ∧ cmpV a b ≤ 1 := lex_range (icmp_range _ _) (lex_range (icmp_range _ _) (lex_range (icmp_range _ _) (scmp_range _ _)))
def cmpR : List Val → List Val → Int
  | [], [] => 0
  | [], _ :: _ => -1
  | _ :: _, [] => 1
  | a :: x, b :: y => lex (cmpV a b) (cmpR x y)
theorem cmpR_range : ∀ a b, -1 ≤ cmpR a b ∧ cmpR a b ≤ 1
  | [], [] => by simp [cmpR]
  | [], _ :: _ => by simp [cmpR]
  | _ :: _, [] => by simp [cmpR]
  | a :: x, b :: y => lex_range (cmpV_range a b) (cmpR_range x y)
theorem cmpR_zero : ∀ {a b : List Val}, cmpR a b = 0 → a = b
  | [], [], _ => rfl
  | [], _ :: _, h => by simp [cmpR] at h
  | _ :: _, [], h => by simp [cmpR] at h
  | a :: x, b :: y, h => by
    obtain ⟨h1, h2⟩ := lex_zero h
    rw [cmpV_zero h1, cmpR_zero h2]
theorem cmpR_ok : WOk cmpR where
  anti := by
    intro x
    induction x with
    | nil => intro y; cases y <;> simp [cmpR]
    | cons a x ih =>
      intro y
      cases y with
      | nil => simp [cmpR]
      | cons b y =>
        have h1 := ih y
        have h2 := cmpV_ok.anti a b
        have h3 := cmpV_ok.anti b a
        simp only [cmpR]
        unfold Go.AM.lex
        split <;> split <;> omega
  tr := by
    intro x
    induction x with
    | nil => intro y z _ _; cases z <;> simp [cmpR]
    | cons a x ih =>
      intro y z h1 h2
      cases y with
      | nil => simp [cmpR] at h1
      | cons b y =>
        cases z with
        | nil => simp [cmpR] at h2
        | cons e z =>
          have a1 := ih y z
          have b1 := cmpV_ok.tr a b e
          have b2 := fun h => cmpV_ok.lt_le (x := a) (y := b) (z := e) h
          have b3 := fun h h' => cmpV_ok.le_lt (x := a) (y := b) (z := e) h h'
          have b4 := cmpV_ok.tr e b a
          have b5 := cmpV_ok.anti a b; have b6 := cmpV_ok.anti b e; have b7 := cmpV_ok.anti a e
          have c5 := cmpV_ok.anti b a; have c6 := cmpV_ok.anti e b; have c7 := cmpV_ok.anti e a
          simp only [cmpR] at *
          unfold Go.AM.lex at *
          split at h1 <;> split at h2 <;> split <;> first | omega | (exact a1 h1 h2)
section
variable {α : Type} (c : α → α → Int)
def insC (x : α) : List α → List α
  | [] => [x]
  | y :: r => if c x y ≤ 0 then x :: y :: r else y :: insC x r
def sortC : List α → List α
  | [] => []
  | x :: r => insC c x (sortC r)
variable {c}
theorem insC_perm (x : α) : ∀ l, (insC c x l).Perm (x :: l)
  | [] => List.Perm.refl _
  | y :: r => by
    unfold insC
    split
    · exact List.Perm.refl _
    · exact ((insC_perm x r).cons y).trans (List.Perm.swap x y r)
theorem sortC_perm : ∀ l : List α, (sortC c l).Perm l
  | [] => List.Perm.refl _
  | x :: r => (insC_perm x _).trans ((sortC_perm r).cons x)
theorem insC_sorted (h : WOk c) (x : α) : ∀ l, l.Pairwise (fun a b => c a b ≤ 0) → (insC c x l).Pairwise fun a b => c a b ≤ 0
  | [], _ => by simp [insC]
  | y :: r, hl => by
    have hp := List.pairwise_cons.1 hl
    unfold insC
    split
    · rename_i hle
      exact List.pairwise_cons.2 ⟨fun z hz => by
        rcases List.mem_cons.1 hz with rfl | hz
        · exact hle
        · exact h.tr _ _ _ hle (hp.1 z hz), hl⟩
    · rename_i hle
      refine List.pairwise_cons.2 ⟨fun z hz => ?_, insC_sorted h x r hp.2⟩
      rcases List.mem_cons.1 ((insC_perm x r).mem_iff.1 hz) with rfl | hz
      · have := h.anti y z; have := h.anti z y; omega
      · exact hp.1 z hz
theorem sortC_sorted (h : WOk c) : ∀ l : List α, (sortC c l).Pairwise fun a b => c a b ≤ 0
  | [] => by simp [sortC]
  | x :: r => insC_sorted h x _ (sortC_sorted h r)
theorem sorted_unique (hz : ∀ a b, c a b = 0 → a = b) (h : WOk c) : ∀ {l m : List α}, l.Pairwise (fun a b => c a b ≤ 0) → m.Pairwise (fun a b => c a b ≤ 0) → l.Perm m → l = m
  | [], m, _, _, hp => (List.nil_perm.1 hp).symm
  | x :: l, [], _, _, hp => absurd (List.perm_nil.1 hp) (by simp)
  | x :: l, y :: m, h1, h2, hp => by
    have p1 := List.pairwise_cons.1 h1
    have p2 := List.pairwise_cons.1 h2
    have hxy : x = y := by
      have hx : x ∈ y :: m := hp.mem_iff.1 (List.mem_cons_self ..)
      have hy : y ∈ x :: l := hp.mem_iff.2 (List.mem_cons_self ..)
      rcases List.mem_cons.1 hx with e | hx
      · exact e
      · rcases List.mem_cons.1 hy with e | hy
        · exact e.symm
        · have a1 := p2.1 x hx
          have a2 := p1.1 y hy
          have := h.anti x y; have := h.anti y x
          exact hz x y (by omega)
    subst hxy
    rw [sorted_unique hz h p1.2 p2.2 (List.Perm.cons_inv hp)]
theorem sortC_congr (hz : ∀ a b, c a b = 0 → a = b) (h : WOk c) {l m : List α} (hp : l.Perm m) : sortC c l = sortC c m :=
  sorted_unique hz h (sortC_sorted h l) (sortC_sorted h m) ((sortC_perm l).trans (hp.trans (sortC_perm m).symm))
theorem insC_take (hz : ∀ a b, c a b = 0 → a = b) (h : WOk c) (t : α) : ∀ (l : List α) (k : Nat), l.Pairwise (fun a b => c a b ≤ 0) → k ≤ (l.filter fun y => decide (c y t ≤ 0)).length → (insC c t l).take k = l.take k
  | l, 0, _, _ => by simp
  | [], k + 1, _, hk => by simp at hk
  | y :: r, k + 1, hl, hk => by
    have hp := List.pairwise_cons.1 hl
    have hcount : ∀ (hy : c y t ≤ 0), k ≤ (r.filter fun y => decide (c y t ≤ 0)).length := fun hy => by
      rw [List.filter_cons_of_pos (by simpa using hy)] at hk
      simpa using hk
    unfold insC
    split
    · rename_i hle
      have hy : y = t := by
        have : ∃ z ∈ y :: r, c z t ≤ 0 := by
          have hne : ((y :: r).filter fun y => decide (c y t ≤ 0)) ≠ [] := fun e => by rw [e] at hk; simp at hk
          obtain ⟨z, hz⟩ := List.exists_mem_of_ne_nil _ hne
          have := List.mem_filter.1 hz
          exact ⟨z, this.1, by simpa using this.2⟩
        obtain ⟨z, hzm, hzt⟩ := this
        have hyz : c y z ≤ 0 := by
          rcases List.mem_cons.1 hzm with rfl | hzm
          · rw [h.self]; exact Int.le_refl _
          · exact hp.1 z hzm
        have := h.tr y z t hyz hzt
        have := h.anti y t; have := h.anti t y
        exact hz y t (by omega)
      subst hy
      have hins : insC c y r = y :: r := by
        cases r with
        | nil => rfl
        | cons z r => unfold insC; rw [if_pos (hp.1 z (List.mem_cons_self ..))]
      have ih := insC_take hz h y r k hp.2 (hcount (by rw [h.self]; exact Int.le_refl _))
      rw [hins] at ih
      simp only [List.take_succ_cons]
      rw [ih]
    · rename_i hle
      have hy : c y t ≤ 0 := by have := h.anti y t; have := h.anti t y; omega
      simp only [List.take_succ_cons]
      rw [insC_take hz h t r k hp.2 (hcount hy)]
theorem sortC_drop (hz : ∀ a b, c a b = 0 → a = b) (h : WOk c) (k : Nat) (X : List α) : ∀ T : List α, (∀ t ∈ T, k ≤ (X.filter fun y => decide (c y t ≤ 0)).length) → (sortC c (T ++ X)).take k = (sortC c X).take k
  | [], _ => rfl
  | t :: T, ht => by
    have ih := sortC_drop hz h k X T fun t' h' => ht t' (List.mem_cons_of_mem _ h')
    show (insC c t (sortC c (T ++ X))).take k = _
    rw [insC_take hz h t _ k (sortC_sorted h _), ih]
    have h1 := ht t (List.mem_cons_self ..)
    have h2 : ((sortC c (T ++ X)).filter fun y => decide (c y t ≤ 0)).Perm ((T ++ X).filter fun y => decide (c y t ≤ 0)) := (sortC_perm _).filter _
    rw [h2.length_eq, List.filter_append, List.length_append]
    omega
theorem sortC_cut (hz : ∀ a b, c a b = 0 → a = b) (h : WOk c) (k : Nat) (A B : List α) : (sortC c (A ++ B)).take k = (sortC c ((sortC c A).take k ++ B)).take k := by
  have hs := sortC_sorted h A
  have hp : (A ++ B).Perm ((sortC c A).drop k ++ ((sortC c A).take k ++ B)) := by
    have h1 : A.Perm ((sortC c A).take k ++ (sortC c A).drop k) := by rw [List.take_append_drop]; exact (sortC_perm A).symm
    refine (h1.append_right B).trans ?_
    rw [List.append_assoc]
    refine List.perm_append_comm.trans ?_
    rw [List.append_assoc]
    exact (List.Perm.refl _).append List.perm_append_comm
  rw [sortC_congr hz h hp]
  refine sortC_drop hz h k _ _ fun t ht => ?_
  have hlen : ((sortC c A).take k).length = k := by
    rw [List.length_take]
    have : ¬ (sortC c A).length ≤ k := fun hle => by
      rw [List.drop_of_length_le hle] at ht; cases ht
    omega
  rw [← List.take_append_drop k (sortC c A), List.pairwise_append] at hs
  have hall : ((sortC c A).take k).filter (fun y => decide (c y t ≤ 0)) = (sortC c A).take k := List.filter_eq_self.2 fun y hy => by simpa using hs.2.2 y hy t ht
  rw [List.filter_append, List.length_append, hall, hlen]
  omega
def cutC (limit : Int) (l : List α) : List α := if 0 ≤ limit then l.take limit.toNat else l
theorem sortC_parts (hz : ∀ a b, c a b = 0 → a = b) (h : WOk c) (limit : Int) : ∀ (ps : List (List α)) (B : List α), cutC limit (sortC c (ps.flatten ++ B)) = cutC limit (sortC c ((ps.map fun p => cutC limit (sortC c p)).flatten ++ B))
  | [], B => rfl
  | p :: ps, B => by
    have ih := fun B => sortC_parts hz h limit ps B
    unfold cutC at *
    by_cases hl : 0 ≤ limit
    · simp only [hl, if_true] at *
      simp only [List.flatten_cons, List.map_cons, List.append_assoc]
      rw [sortC_cut hz h _ p]
      have e1 : ∀ X Y Z : List α, sortC c (X ++ (Y ++ Z)) = sortC c (Y ++ (X ++ Z)) := fun X Y Z => sortC_congr hz h (by
        rw [← List.append_assoc, ← List.append_assoc]
        exact List.perm_append_comm.append_right Z)
      rw [e1, ih, e1]
    · simp only [hl, if_false] at *
      simp only [List.flatten_cons, List.map_cons, List.append_assoc]
      have e1 : ∀ X Y Z : List α, sortC c (X ++ (Y ++ Z)) = sortC c (Y ++ (X ++ Z)) := fun X Y Z => sortC_congr hz h (by
        rw [← List.append_assoc, ← List.append_assoc]
        exact List.perm_append_comm.append_right Z)
      rw [e1, ih, e1]
      exact sortC_congr hz h ((sortC_perm p).symm.append_right _)
end
end Go.AM
section

namespace Go.AM
open P
set_option maxHeartbeats 2000000
set_option maxRecDepth 4000
def Val.a (v : Val) : AVal := .agg [.int .i64 v.k, .int .i64 v.n, .int .u64 v.u, .str v.s]
def rowA (r : List Val) : List AVal := r.map Val.a
def rowsA (b : Bool) (rs : List (List Val)) : List AVal := rs.map fun r => .imm b (rowA r)
@[simp] theorem rowA_length (r : List Val) : (rowA r).length = r.length := by simp [rowA]
@[simp] theorem rowsA_length (b : Bool) (rs : List (List Val)) : (rowsA b rs).length = rs.length := by simp [rowsA]
theorem rowA_get {r : List Val} {k : Nat} (h : k < r.length) : (rowA r)[k]? = some r[k].a := by simp [rowA, h]
theorem rowsA_get {b : Bool} {rs : List (List Val)} {k : Nat} (h : k < rs.length) : (rowsA b rs)[k]? = some (.imm b (rowA rs[k])) := by simp [rowsA, h]
@[simp] theorem a_ncells (v : Val) : ncells v.a = 4 := rfl
@[simp] theorem a_isAgg (v : Val) : isAgg v.a = true := rfl
@[simp] theorem a_fz (v : Val) (fl top : Bool) (base : Nat) (σ : Store) (n : Nat) : fz fl top base σ (n + 2) v.a = v.a := by simp [Val.a]
theorem a_inj {v w : Val} (h : v.a = w.a) : v = w := by
  cases v; cases w
  simpa [Val.a] using h
def blankV (v : Val) : Val :=
  if v.k = 1 then (if v.n ≠ 0 ∧ v.n ≠ 1 then v else { v with k := 0, n := 0 })
  else if v.k = 2 then { v with k := 0, n := 0 }
  else if v.k = 0 then v
  else if v.k = 3 then (if v.s.length ≤ 40 then { v with k := 0, s := [] } else v)
  else if v.k = 4 then { v with k := 0, n := 0, u := 0 }
  else v
def okV (v : Val) : Bool := blankV v == ⟨0, 0, 0, []⟩
theorem bne_t {a b : Int} (h : ¬ a = b) : (a != b) = true := by simp [h]
theorem beq_f {a b : Int} (h : ¬ a = b) : (a == b) = false := by simp [h]
theorem blank_spec (v : Val) : pcall I.value_blank [v.a] = some (blankV v).a := by
  rw [pcall_eq c_value_blank rfl]
  obtain ⟨k, n, u, s⟩ := v
  unfold blankV Val.a
  by_cases h1 : k = 1
  · subst h1
    by_cases hn : n = 0
    · subst hn; simp [f_value_blank, b_value_blank]
    · by_cases hn' : n = 1
      · subst hn'; simp [f_value_blank, b_value_blank]
      · simp [f_value_blank, b_value_blank, bne_t hn, bne_t hn', hn, hn']
  · by_cases h2 : k = 2
    · subst h2; simp [f_value_blank, b_value_blank]
    · by_cases h0 : k = 0
      · subst h0; simp [f_value_blank, b_value_blank]
      · by_cases h3 : k = 3
        · subst h3
          by_cases hs : s.length ≤ 40
          · have hs' : ((s.length : Int) ≤ 40) := by omega
            simp [f_value_blank, b_value_blank, hs, hs']
          · have hs' : ¬ ((s.length : Int) ≤ 40) := by omega
            simp [f_value_blank, b_value_blank, hs, hs']
        · by_cases h4 : k = 4
          · subst h4; simp [f_value_blank, b_value_blank]
          · simp [f_value_blank, b_value_blank, beq_f h1, beq_f h2, beq_f h0, beq_f h3, beq_f h4, h1, h2, h0, h3, h4]
theorem a_mk (k n u : Int) (s : List UInt8) : (Val.mk k n u s).a = .agg [.int .i64 k, .int .i64 n, .int .u64 u, .str s] := rfl
theorem Check_spec (v : Val) : pcall I.value_Check [v.a] = some (.int .i64 (if okV v then 0 else 120)) := by
  rw [pcall_eq c_value_Check rfl]
  have h := blank_spec v
  unfold okV
  generalize hb : blankV v = w at h
  obtain ⟨k, n, u, s⟩ := w
  by_cases hk : k = 0
  · by_cases hn : n = 0
    · by_cases hu : u = 0
      · by_cases hs : s = []
        · subst hk hn hu hs; simp [f_value_Check, b_value_Check, h, a_mk]
        · have hs' : (s == []) = false := by simp [hs]
          subst hk hn hu; simp [f_value_Check, b_value_Check, h, a_mk, hs, hs']
      · subst hk hn; simp [f_value_Check, b_value_Check, h, a_mk, hu, beq_f hu]
    · subst hk; simp [f_value_Check, b_value_Check, h, a_mk, hn, beq_f hn]
  · simp [f_value_Check, b_value_Check, h, a_mk, hk, beq_f hk]
theorem bad_spec (v : Val) : pcall I.row_right_1 [v.a] = some (.bool (!okV v)) := by
  rw [pcall_eq c_row_right_1 rfl]
  have h := Check_spec v
  cases hv : okV v <;> rw [hv] at h <;> simp [f_row_right_1, b_row_right_1, h]
def ixOf (p : AVal → Bool) (xs : List AVal) : Int := if xs.any p then (xs.findIdx p : Int) else -1
theorem findIdx_before {p : AVal → Bool} {xs : List AVal} {k : Nat} (h : k < xs.findIdx p) (hk : k < xs.length) : p xs[k] = false := by
  simpa using List.not_of_lt_findIdx h
theorem IndexVal {b : Bool} {xs : List AVal} {f : AVal} {p : AVal → Bool} (hn : xs.length ≤ most) (hx : ∀ x ∈ xs, ncells x = 4 ∧ isAgg x = true) (hfs : fz true false 0 [] 20 f = f)
    (hf : ∀ x ∈ xs, acallV code f [x] [] = some (.bool (p x), [])) : pcall I.slices_IndexFunc_api_Row_api_Value [.imm b xs, f] = some (.int .i64 (ixOf p xs)) := by
  rw [pcall_eq c_slices_IndexFunc_api_Row_api_Value rfl]
  have hstep : ∀ k, k < xs.length → p xs[k]! = false → thenLoop 0 [2, 3, 6, 7] l_slices_IndexFunc_api_Row_api_Value_0 (run code l_slices_IndexFunc_api_Row_api_Value_0 ⟨[.imm b xs, f, .any, .any, .int .i64 xs.length, .int .i64 k, .any, .any], []⟩) =
      rounds code 0 [2, 3, 6, 7] l_slices_IndexFunc_api_Row_api_Value_0 ⟨[.imm b xs, f, .any, .any, .int .i64 xs.length, .int .i64 (k + 1 : Nat), .any, .any], []⟩ := fun k hk hp => by
    have h1 : xs[k]? = some xs[k] := by simp [hk]
    have h2 := hx xs[k] (List.getElem_mem hk)
    have h3 := hf xs[k] (List.getElem_mem hk)
    rw [show p xs[k] = false by simpa [hk] using hp] at h3
    have hlt : ((k : Int) < (xs.length : Int)) := by omega
    simp [l_slices_IndexFunc_api_Row_api_Value_0, h1, h2, h3, hlt, wrap_lt hk hn, roundEnd_same]
  by_cases ha : xs.any p = true
  · have hlt := List.findIdx_lt_length_of_exists (List.any_eq_true.1 ha)
    have hp : p xs[xs.findIdx p] = true := List.findIdx_getElem (w := hlt)
    have hloop := rounds_iter (base := 0) (clr := [2, 3, 6, 7]) (b := l_slices_IndexFunc_api_Row_api_Value_0) (fun k => ⟨[.imm b xs, f, .any, .any, .int .i64 xs.length, .int .i64 k, .any, .any], []⟩) (xs.findIdx p)
      (.ret, ⟨[.imm b xs, f, .int .i64 (xs.findIdx p), .int .i64 (xs.findIdx p), .int .i64 xs.length, .int .i64 (xs.findIdx p), .bool true, .bool true], []⟩)
      (fun k hk => hstep k (by omega) (by rw [getElem!_pos xs k (by omega)]; exact findIdx_before hk (by omega)))
      (by
        have h1 : xs[xs.findIdx p]? = some xs[xs.findIdx p] := List.getElem?_eq_getElem hlt
        have h2 := hx _ (List.getElem_mem hlt)
        have h3 := hf _ (List.getElem_mem hlt)
        rw [hp] at h3
        have hlt' : ((xs.findIdx p : Int) < (xs.length : Int)) := by omega
        simp [l_slices_IndexFunc_api_Row_api_Value_0, h1, h2, h3, hlt'])
    simp [f_slices_IndexFunc_api_Row_api_Value, b_slices_IndexFunc_api_Row_api_Value, hfs]
    simp at hloop
    rw [hloop]
    simp [ixOf, ha]
  · have hall : ∀ k (hk : k < xs.length), p xs[k] = false := fun k hk => by
      have := List.any_eq_false.1 (Bool.not_eq_true _ ▸ ha) xs[k] (List.getElem_mem hk)
      simpa using this
    have hloop := rounds_iter (base := 0) (clr := [2, 3, 6, 7]) (b := l_slices_IndexFunc_api_Row_api_Value_0) (fun k => ⟨[.imm b xs, f, .any, .any, .int .i64 xs.length, .int .i64 k, .any, .any], []⟩) xs.length
      (.ext 0, ⟨[.imm b xs, f, .any, .any, .int .i64 xs.length, .int .i64 xs.length, .bool false, .any], []⟩)
      (fun k hk => hstep k hk (by rw [getElem!_pos xs k hk]; exact hall k hk))
      (by simp [l_slices_IndexFunc_api_Row_api_Value_0])
    simp [f_slices_IndexFunc_api_Row_api_Value, b_slices_IndexFunc_api_Row_api_Value, hfs]
    simp at hloop
    rw [hloop]
    simp [ixOf, ha]
end Go.AM
end
section

namespace Go.AM
open P
set_option maxHeartbeats 2000000
set_option maxRecDepth 4000
theorem IndexOrd {b : Bool} {xs : List AVal} {f : AVal} {p : AVal → Bool} (hn : xs.length ≤ most) (hx : ∀ x ∈ xs, ncells x = 2 ∧ isAgg x = true) (hfs : fz true false 0 [] 20 f = f)
    (hf : ∀ x ∈ xs, acallV code f [x] [] = some (.bool (p x), [])) : pcall I.slices_IndexFunc_api_Ord_api_Ord [.imm b xs, f] = some (.int .i64 (ixOf p xs)) := by
  rw [pcall_eq c_slices_IndexFunc_api_Ord_api_Ord rfl]
  have hstep : ∀ k, k < xs.length → p xs[k]! = false → thenLoop 0 [2, 3, 6, 7] l_slices_IndexFunc_api_Ord_api_Ord_0 (run code l_slices_IndexFunc_api_Ord_api_Ord_0 ⟨[.imm b xs, f, .any, .any, .int .i64 xs.length, .int .i64 k, .any, .any], []⟩) =
      rounds code 0 [2, 3, 6, 7] l_slices_IndexFunc_api_Ord_api_Ord_0 ⟨[.imm b xs, f, .any, .any, .int .i64 xs.length, .int .i64 (k + 1 : Nat), .any, .any], []⟩ := fun k hk hp => by
    have h1 : xs[k]? = some xs[k] := by simp [hk]
    have h2 := hx xs[k] (List.getElem_mem hk)
    have h3 := hf xs[k] (List.getElem_mem hk)
    rw [show p xs[k] = false by simpa [hk] using hp] at h3
    have hlt : ((k : Int) < (xs.length : Int)) := by omega
    simp [l_slices_IndexFunc_api_Ord_api_Ord_0, h1, h2, h3, hlt, wrap_lt hk hn, roundEnd_same]
  by_cases ha : xs.any p = true
  · have hlt := List.findIdx_lt_length_of_exists (List.any_eq_true.1 ha)
    have hp : p xs[xs.findIdx p] = true := List.findIdx_getElem (w := hlt)
    have hloop := rounds_iter (base := 0) (clr := [2, 3, 6, 7]) (b := l_slices_IndexFunc_api_Ord_api_Ord_0) (fun k => ⟨[.imm b xs, f, .any, .any, .int .i64 xs.length, .int .i64 k, .any, .any], []⟩) (xs.findIdx p)
      (.ret, ⟨[.imm b xs, f, .int .i64 (xs.findIdx p), .int .i64 (xs.findIdx p), .int .i64 xs.length, .int .i64 (xs.findIdx p), .bool true, .bool true], []⟩)
      (fun k hk => hstep k (by omega) (by rw [getElem!_pos xs k (by omega)]; exact findIdx_before hk (by omega)))
      (by
        have h1 : xs[xs.findIdx p]? = some xs[xs.findIdx p] := List.getElem?_eq_getElem hlt
        have h2 := hx _ (List.getElem_mem hlt)
        have h3 := hf _ (List.getElem_mem hlt)
        rw [hp] at h3
        have hlt' : ((xs.findIdx p : Int) < (xs.length : Int)) := by omega
        simp [l_slices_IndexFunc_api_Ord_api_Ord_0, h1, h2, h3, hlt'])
    simp [f_slices_IndexFunc_api_Ord_api_Ord, b_slices_IndexFunc_api_Ord_api_Ord, hfs]
    simp at hloop
    rw [hloop]
    simp [ixOf, ha]
  · have hall : ∀ k (hk : k < xs.length), p xs[k] = false := fun k hk => by
      have := List.any_eq_false.1 (Bool.not_eq_true _ ▸ ha) xs[k] (List.getElem_mem hk)
      simpa using this
    have hloop := rounds_iter (base := 0) (clr := [2, 3, 6, 7]) (b := l_slices_IndexFunc_api_Ord_api_Ord_0) (fun k => ⟨[.imm b xs, f, .any, .any, .int .i64 xs.length, .int .i64 k, .any, .any], []⟩) xs.length
      (.ext 0, ⟨[.imm b xs, f, .any, .any, .int .i64 xs.length, .int .i64 xs.length, .bool false, .any], []⟩)
      (fun k hk => hstep k hk (by rw [getElem!_pos xs k hk]; exact hall k hk))
      (by simp [l_slices_IndexFunc_api_Ord_api_Ord_0])
    simp [f_slices_IndexFunc_api_Ord_api_Ord, b_slices_IndexFunc_api_Ord_api_Ord, hfs]
    simp at hloop
    rw [hloop]
    simp [ixOf, ha]
theorem IndexRow {b : Bool} {xs : List AVal} {f : AVal} {p : AVal → Bool} (hn : xs.length ≤ most) (hx : ∀ x ∈ xs, ncells x = 1 ∧ isAgg x = false) (hfs : fz true false 0 [] 20 f = f)
    (hf : ∀ x ∈ xs, acallV code f [x] [] = some (.bool (p x), [])) : pcall I.slices_IndexFunc_api_Row_api_Row [.imm b xs, f] = some (.int .i64 (ixOf p xs)) := by
  rw [pcall_eq c_slices_IndexFunc_api_Row_api_Row rfl]
  have hstep : ∀ k, k < xs.length → p xs[k]! = false → thenLoop 0 [2, 3, 6, 7] l_slices_IndexFunc_api_Row_api_Row_0 (run code l_slices_IndexFunc_api_Row_api_Row_0 ⟨[.imm b xs, f, .any, .any, .int .i64 xs.length, .int .i64 k, .any, .any], []⟩) =
      rounds code 0 [2, 3, 6, 7] l_slices_IndexFunc_api_Row_api_Row_0 ⟨[.imm b xs, f, .any, .any, .int .i64 xs.length, .int .i64 (k + 1 : Nat), .any, .any], []⟩ := fun k hk hp => by
    have h1 : xs[k]? = some xs[k] := by simp [hk]
    have h2 := hx xs[k] (List.getElem_mem hk)
    have h3 := hf xs[k] (List.getElem_mem hk)
    rw [show p xs[k] = false by simpa [hk] using hp] at h3
    have hlt : ((k : Int) < (xs.length : Int)) := by omega
    simp [l_slices_IndexFunc_api_Row_api_Row_0, h1, h2, h3, hlt, wrap_lt hk hn, roundEnd_same]
  by_cases ha : xs.any p = true
  · have hlt := List.findIdx_lt_length_of_exists (List.any_eq_true.1 ha)
    have hp : p xs[xs.findIdx p] = true := List.findIdx_getElem (w := hlt)
    have hloop := rounds_iter (base := 0) (clr := [2, 3, 6, 7]) (b := l_slices_IndexFunc_api_Row_api_Row_0) (fun k => ⟨[.imm b xs, f, .any, .any, .int .i64 xs.length, .int .i64 k, .any, .any], []⟩) (xs.findIdx p)
      (.ret, ⟨[.imm b xs, f, .int .i64 (xs.findIdx p), .int .i64 (xs.findIdx p), .int .i64 xs.length, .int .i64 (xs.findIdx p), .bool true, .bool true], []⟩)
      (fun k hk => hstep k (by omega) (by rw [getElem!_pos xs k (by omega)]; exact findIdx_before hk (by omega)))
      (by
        have h1 : xs[xs.findIdx p]? = some xs[xs.findIdx p] := List.getElem?_eq_getElem hlt
        have h2 := hx _ (List.getElem_mem hlt)
        have h3 := hf _ (List.getElem_mem hlt)
        rw [hp] at h3
        have hlt' : ((xs.findIdx p : Int) < (xs.length : Int)) := by omega
        simp [l_slices_IndexFunc_api_Row_api_Row_0, h1, h2, h3, hlt'])
    simp [f_slices_IndexFunc_api_Row_api_Row, b_slices_IndexFunc_api_Row_api_Row, hfs]
    simp at hloop
    rw [hloop]
    simp [ixOf, ha]
  · have hall : ∀ k (hk : k < xs.length), p xs[k] = false := fun k hk => by
      have := List.any_eq_false.1 (Bool.not_eq_true _ ▸ ha) xs[k] (List.getElem_mem hk)
      simpa using this
    have hloop := rounds_iter (base := 0) (clr := [2, 3, 6, 7]) (b := l_slices_IndexFunc_api_Row_api_Row_0) (fun k => ⟨[.imm b xs, f, .any, .any, .int .i64 xs.length, .int .i64 k, .any, .any], []⟩) xs.length
      (.ext 0, ⟨[.imm b xs, f, .any, .any, .int .i64 xs.length, .int .i64 xs.length, .bool false, .any], []⟩)
      (fun k hk => hstep k hk (by rw [getElem!_pos xs k hk]; exact hall k hk))
      (by simp [l_slices_IndexFunc_api_Row_api_Row_0])
    simp [f_slices_IndexFunc_api_Row_api_Row, b_slices_IndexFunc_api_Row_api_Row, hfs]
    simp at hloop
    rw [hloop]
    simp [ixOf, ha]
theorem ContainsVal {b : Bool} {xs : List AVal} {f : AVal} {p : AVal → Bool} (hn : xs.length ≤ most) (hx : ∀ x ∈ xs, ncells x = 4 ∧ isAgg x = true) (hfs : fz true false 0 [] 20 f = f)
    (hf : ∀ x ∈ xs, acallV code f [x] [] = some (.bool (p x), [])) : pcall I.slices_ContainsFunc_api_Row_api_Value [.imm b xs, f] = some (.bool (xs.any p)) := by
  rw [pcall_eq c_slices_ContainsFunc_api_Row_api_Value rfl]
  have h := IndexVal (b := b) hn hx hfs hf
  simp [f_slices_ContainsFunc_api_Row_api_Value, b_slices_ContainsFunc_api_Row_api_Value, h, hfs]
  unfold ixOf
  cases xs.any p
  · simp
  · simp
theorem ContainsOrd {b : Bool} {xs : List AVal} {f : AVal} {p : AVal → Bool} (hn : xs.length ≤ most) (hx : ∀ x ∈ xs, ncells x = 2 ∧ isAgg x = true) (hfs : fz true false 0 [] 20 f = f)
    (hf : ∀ x ∈ xs, acallV code f [x] [] = some (.bool (p x), [])) : pcall I.slices_ContainsFunc_api_Ord_api_Ord [.imm b xs, f] = some (.bool (xs.any p)) := by
  rw [pcall_eq c_slices_ContainsFunc_api_Ord_api_Ord rfl]
  have h := IndexOrd (b := b) hn hx hfs hf
  simp [f_slices_ContainsFunc_api_Ord_api_Ord, b_slices_ContainsFunc_api_Ord_api_Ord, h, hfs]
  unfold ixOf
  cases xs.any p
  · simp
  · simp
theorem ContainsRow {b : Bool} {xs : List AVal} {f : AVal} {p : AVal → Bool} (hn : xs.length ≤ most) (hx : ∀ x ∈ xs, ncells x = 1 ∧ isAgg x = false) (hfs : fz true false 0 [] 20 f = f)
    (hf : ∀ x ∈ xs, acallV code f [x] [] = some (.bool (p x), [])) : pcall I.slices_ContainsFunc_api_Row_api_Row [.imm b xs, f] = some (.bool (xs.any p)) := by
  rw [pcall_eq c_slices_ContainsFunc_api_Row_api_Row rfl]
  have h := IndexRow (b := b) hn hx hfs hf
  simp [f_slices_ContainsFunc_api_Row_api_Row, b_slices_ContainsFunc_api_Row_api_Row, h, hfs]
  unfold ixOf
  cases xs.any p
  · simp
  · simp
def okR (r : List Val) : Bool := decide (r.length ≤ 16) && r.all okV
def asVal : AVal → Val
  | .agg [.int _ k, .int _ n, .int _ u, .str s] => ⟨k, n, u, s⟩
  | _ => default
def asRow : AVal → List Val
  | .imm _ xs => xs.map asVal
  | _ => []
@[simp] theorem asVal_a (v : Val) : asVal v.a = v := rfl
@[simp] theorem asRow_a (b : Bool) (r : List Val) : asRow (.imm b (rowA r)) = r := by simp [asRow, rowA, Function.comp_def]
theorem acallV_fn {f : Nat} {args cap : List AVal} {v : AVal} (h : acall code f (args ++ cap) [] = some (v, [])) : acallV code (.fn f [] cap) args [] = some (v, []) := by simpa using h
theorem not_any_not {α : Type} (p : α → Bool) (l : List α) : (!l.any fun x => !p x) = l.all p := by
  induction l with
  | nil => rfl
  | cons a l ih => simp [List.any_cons, List.all_cons, ← ih]
theorem right_spec (b : Bool) (r : List Val) : pcall I.row_right [.imm b (rowA r)] = some (.bool (okR r)) := by
  rw [pcall_eq c_row_right rfl]
  unfold okR
  by_cases h : r.length ≤ 16
  · have hi : ((r.length : Int) ≤ 16) := by omega
    have hc := fun b => ContainsVal (b := b) (xs := rowA r) (f := .fn 260 [] []) (p := fun x => !okV (asVal x)) (by simp; unfold most; omega) (fun x hx => by
        obtain ⟨v, _, rfl⟩ := List.mem_map.1 hx
        exact ⟨rfl, rfl⟩) (by simp) (fun x hx => by
        obtain ⟨v, hv, rfl⟩ := List.mem_map.1 hx
        have := bad_spec v
        simp [this])
    have e : (!(rowA r).any fun x => !okV (asVal x)) = r.all okV := by
      rw [← not_any_not, rowA, List.any_map]
      simp [Function.comp_def]
    simp [f_row_right, b_row_right, hi, hc, h, e]
  · have hi : ¬ ((r.length : Int) ≤ 16) := by omega
    simp [f_row_right, b_row_right, h, hi]
theorem rowCheck_spec (b : Bool) (r : List Val) : pcall I.row_Check [.imm b (rowA r)] = some (.int .i64 (if okR r then 0 else 150)) := by
  rw [pcall_eq c_row_Check rfl]
  have h := fun b => right_spec b r
  cases hr : okR r <;> rw [hr] at h <;> simp [f_row_Check, b_row_Check, h]
theorem right1_spec (b : Bool) (r : List Val) : pcall I.denote_right_1 [.imm b (rowA r)] = some (.bool (!okR r)) := by
  rw [pcall_eq c_denote_right_1 rfl]
  have h := fun b => rowCheck_spec b r
  cases hr : okR r <;> rw [hr] at h <;> simp [f_denote_right_1, b_denote_right_1, h]
theorem rights_spec (b c : Bool) (rs : List (List Val)) (hn : rs.length ≤ 8000) : pcall I.denote_right [.imm b (rowsA c rs)] = some (.bool (rs.all okR)) := by
  rw [pcall_eq c_denote_right rfl]
  have hi : ((rs.length : Int) ≤ 8000) := by omega
  have hc := fun b => ContainsRow (b := b) (xs := rowsA c rs) (f := .fn 111 [] []) (p := fun x => !okR (asRow x)) (by simp; unfold most; omega) (fun x hx => by
      obtain ⟨r, _, rfl⟩ := List.mem_map.1 hx
      exact ⟨rfl, rfl⟩) (by simp) (fun x hx => by
      obtain ⟨r, hr, rfl⟩ := List.mem_map.1 hx
      have := fun b => right1_spec b r
      simp [this])
  have e : (!(rowsA c rs).any fun x => !okR (asRow x)) = rs.all okR := by
    rw [← not_any_not, rowsA, List.any_map]
    simp [Function.comp_def]
  simp [f_denote_right, b_denote_right, hi, hc, e]
theorem isNaNk (n : Int) : pcall I.cmp_isNaN_int [.int .i64 n] = some (.bool false) := by
  rw [pcall_eq c_cmp_isNaN_int rfl]
  simp [f_cmp_isNaN_int, b_cmp_isNaN_int]
theorem isNaNu (n : Int) : pcall I.cmp_isNaN_uint64 [.int .u64 n] = some (.bool false) := by
  rw [pcall_eq c_cmp_isNaN_uint64 rfl]
  simp [f_cmp_isNaN_uint64, b_cmp_isNaN_uint64]
theorem isNaNs (s : List UInt8) : pcall I.cmp_isNaN_string [.str s] = some (.bool false) := by
  rw [pcall_eq c_cmp_isNaN_string rfl]
  simp [f_cmp_isNaN_string, b_cmp_isNaN_string, binStr]
theorem Compare_k (n m : Int) : pcall I.cmp_Compare_int [.int .i64 n, .int .i64 m] = some (.int .i64 (icmp n m)) := by
  rw [pcall_eq c_cmp_Compare_int rfl]
  unfold icmp
  by_cases h1 : n < m
  · simp [f_cmp_Compare_int, b_cmp_Compare_int, isNaNk, h1]
  · by_cases h2 : m < n
    · simp [f_cmp_Compare_int, b_cmp_Compare_int, isNaNk, h1, h2]
    · simp [f_cmp_Compare_int, b_cmp_Compare_int, isNaNk, h1, h2]
theorem Compare_n (n m : Int) : pcall I.cmp_Compare_int64 [.int .i64 n, .int .i64 m] = some (.int .i64 (icmp n m)) := Compare64 n m
theorem Compare_uu (n m : Int) : pcall I.cmp_Compare_uint64 [.int .u64 n, .int .u64 m] = some (.int .i64 (icmp n m)) := by
  rw [pcall_eq c_cmp_Compare_uint64 rfl]
  unfold icmp
  by_cases h1 : n < m
  · simp [f_cmp_Compare_uint64, b_cmp_Compare_uint64, isNaNu, h1]
  · by_cases h2 : m < n
    · simp [f_cmp_Compare_uint64, b_cmp_Compare_uint64, isNaNu, h1, h2]
    · simp [f_cmp_Compare_uint64, b_cmp_Compare_uint64, isNaNu, h1, h2]
theorem Compare_ss (a b : List UInt8) : pcall I.cmp_Compare_string [.str a, .str b] = some (.int .i64 (scmp a b)) := by
  rw [pcall_eq c_cmp_Compare_string rfl]
  unfold scmp
  by_cases h1 : Op.bytesLess a b = true
  · simp [f_cmp_Compare_string, b_cmp_Compare_string, isNaNs, binStr, h1]
  · by_cases h2 : a = b
    · subst h2
      have h4 : Op.bytesLess a a = false := by simpa using h1
      simp [f_cmp_Compare_string, b_cmp_Compare_string, isNaNs, binStr, h4]
    · have h3 : (a == b) = false := by simp [h2]
      simp [f_cmp_Compare_string, b_cmp_Compare_string, isNaNs, binStr, h1, h3, h2]
theorem Or4 (b : Bool) (a c d e : Int) : pcall I.cmp_Or_int [.imm b [.int .i64 a, .int .i64 c, .int .i64 d, .int .i64 e]] = some (.int .i64 (lex a (lex c (lex d e)))) := by
  rw [pcall_eq c_cmp_Or_int rfl]
  unfold lex
  by_cases ha : a = 0
  · by_cases hc : c = 0
    · by_cases hd : d = 0
      · by_cases he : e = 0
        · subst ha hc hd he
          simp [f_cmp_Or_int, b_cmp_Or_int, l_cmp_Or_int_0, rounds_go, roundEnd, IntKind.wrap, IntKind.bits, IntKind.signed]
        · subst ha hc hd
          simp [f_cmp_Or_int, b_cmp_Or_int, l_cmp_Or_int_0, rounds_go, roundEnd, IntKind.wrap, IntKind.bits, IntKind.signed, bne_t he]
      · subst ha hc
        simp [f_cmp_Or_int, b_cmp_Or_int, l_cmp_Or_int_0, rounds_go, roundEnd, IntKind.wrap, IntKind.bits, IntKind.signed, bne_t hd, hd]
    · subst ha
      simp [f_cmp_Or_int, b_cmp_Or_int, l_cmp_Or_int_0, rounds_go, roundEnd, IntKind.wrap, IntKind.bits, IntKind.signed, bne_t hc, hc]
  · simp [f_cmp_Or_int, b_cmp_Or_int, l_cmp_Or_int_0, rounds_go, roundEnd, IntKind.wrap, IntKind.bits, IntKind.signed, bne_t ha, ha]
theorem values_spec (v w : Val) : pcall I.row_values [v.a, w.a] = some (.int .i64 (cmpV v w)) := by
  rw [pcall_eq c_row_values rfl]
  simp [f_row_values, b_row_values, Val.a, Compare_k, Compare_n, Compare_uu, Compare_ss, Or4, cmpV]
end Go.AM
end
section

namespace Go.AM
open P
set_option maxHeartbeats 4000000
set_option maxRecDepth 4000
theorem cmpR_diff : ∀ a b : List Val, ∃ d, d ≤ a.length ∧ d ≤ b.length ∧ (∀ k (_ : k < d) (ha : k < a.length) (hb : k < b.length), cmpV a[k] b[k] = 0) ∧
    ((d = a.length ∧ cmpR a b = if a.length < b.length then -1 else 0) ∨ (d < a.length ∧ d = b.length ∧ cmpR a b = 1) ∨ (∃ (ha : d < a.length) (hb : d < b.length), cmpV a[d] b[d] ≠ 0 ∧ cmpR a b = cmpV a[d] b[d]))
  | [], b => ⟨0, Nat.le_refl _, Nat.zero_le _, fun k h => absurd h (Nat.not_lt_zero _), .inl ⟨rfl, by cases b <;> simp [cmpR]⟩⟩
  | a :: x, [] => ⟨0, Nat.zero_le _, Nat.le_refl _, fun k h => absurd h (Nat.not_lt_zero _), .inr (.inl ⟨by simp, rfl, rfl⟩)⟩
  | a :: x, b :: y => by
    by_cases h : cmpV a b = 0
    · obtain ⟨d, h1, h2, h3, h4⟩ := cmpR_diff x y
      refine ⟨d + 1, by simpa using h1, by simpa using h2, fun k hk ha hb => ?_, ?_⟩
      · cases k with
        | zero => exact h
        | succ k => exact h3 k (by omega) (by simpa using ha) (by simpa using hb)
      · have e : cmpR (a :: x) (b :: y) = cmpR x y := by simp [cmpR, lex, h]
        rw [e]
        rcases h4 with ⟨e1, e2⟩ | ⟨e1, e2, e3⟩ | ⟨ha, hb, e1, e2⟩
        · exact .inl ⟨by simp [e1], by simpa using e2⟩
        · exact .inr (.inl ⟨by simpa using e1, by simp [e2], e3⟩)
        · exact .inr (.inr ⟨by simpa using ha, by simpa using hb, by simpa using e1, by simpa using e2⟩)
    · exact ⟨0, Nat.zero_le _, Nat.zero_le _, fun k h => absurd h (Nat.not_lt_zero _), .inr (.inr ⟨by simp, by simp, h, by simp [cmpR, lex, h]⟩)⟩
theorem CompareRows (b b' : Bool) (r q : List Val) (hr : r.length ≤ most) : pcall I.slices_CompareFunc_api_Row_api_Row_api_Value_api_Value [.imm b (rowA r), .imm b' (rowA q), .fn I.row_values [] []] = some (.int .i64 (cmpR r q)) := by
  rw [pcall_eq c_slices_CompareFunc_api_Row_api_Row_api_Value_api_Value rfl]
  obtain ⟨d, h1, h2, h3, h4⟩ := cmpR_diff r q
  have hstep : ∀ k, k < d → thenLoop 0 [3, 4, 5, 6, 7, 11, 12, 13] l_slices_CompareFunc_api_Row_api_Row_api_Value_api_Value_0 (run code l_slices_CompareFunc_api_Row_api_Row_api_Value_api_Value_0 ⟨[.imm b (rowA r), .imm b' (rowA q), .fn 143 [] [], .any, .any, .any, .any, .any, .imm b (rowA r), .int .i64 r.length, .int .i64 k, .any, .any, .any, .any], []⟩) =
      rounds code 0 [3, 4, 5, 6, 7, 11, 12, 13] l_slices_CompareFunc_api_Row_api_Row_api_Value_api_Value_0 ⟨[.imm b (rowA r), .imm b' (rowA q), .fn 143 [] [], .any, .any, .any, .any, .any, .imm b (rowA r), .int .i64 r.length, .int .i64 (k + 1 : Nat), .any, .any, .any, .any], []⟩ := fun k hk => by
    have ha : k < r.length := by omega
    have hb : k < q.length := by omega
    have e1 := rowA_get ha
    have e2 := rowA_get hb
    have e3 := values_spec r[k] q[k]
    rw [h3 k hk ha hb] at e3
    have i1 : ((k : Int) < (r.length : Int)) := by omega
    have i2 : ¬ ((q.length : Int) ≤ (k : Int)) := by omega
    simp [l_slices_CompareFunc_api_Row_api_Row_api_Value_api_Value_0, e1, e2, e3, i1, i2, wrap_lt ha hr, roundEnd]
  rcases h4 with ⟨e1, e2⟩ | ⟨e1, e2, e3⟩ | ⟨ha, hb, e1, e2⟩
  · have hloop := rounds_iter (base := 0) (clr := [3, 4, 5, 6, 7, 11, 12, 13]) (b := l_slices_CompareFunc_api_Row_api_Row_api_Value_api_Value_0) (fun k => ⟨[.imm b (rowA r), .imm b' (rowA q), .fn 143 [] [], .any, .any, .any, .any, .any, .imm b (rowA r), .int .i64 r.length, .int .i64 k, .any, .any, .any, .any], []⟩) d _ hstep (by
      subst e1
      simp [l_slices_CompareFunc_api_Row_api_Row_api_Value_api_Value_0]; rfl)
    simp [f_slices_CompareFunc_api_Row_api_Row_api_Value_api_Value, b_slices_CompareFunc_api_Row_api_Row_api_Value_api_Value]
    simp at hloop
    rw [hloop, e2]
    by_cases hlt : r.length < q.length
    · have i1 : ((r.length : Int) < (q.length : Int)) := by omega
      simp [hlt, i1]
    · have i1 : ¬ ((r.length : Int) < (q.length : Int)) := by omega
      simp [hlt, i1]
  · have hloop := rounds_iter (base := 0) (clr := [3, 4, 5, 6, 7, 11, 12, 13]) (b := l_slices_CompareFunc_api_Row_api_Row_api_Value_api_Value_0) (fun k => ⟨[.imm b (rowA r), .imm b' (rowA q), .fn 143 [] [], .any, .any, .any, .any, .any, .imm b (rowA r), .int .i64 r.length, .int .i64 k, .any, .any, .any, .any], []⟩) d _ hstep (by
      have a1 := rowA_get e1
      have i1 : ((d : Int) < (r.length : Int)) := by omega
      have i2 : ((q.length : Int) ≤ (d : Int)) := by omega
      simp [l_slices_CompareFunc_api_Row_api_Row_api_Value_api_Value_0, a1, i1, i2]; rfl)
    simp [f_slices_CompareFunc_api_Row_api_Row_api_Value_api_Value, b_slices_CompareFunc_api_Row_api_Row_api_Value_api_Value]
    simp at hloop
    rw [hloop, e3]
    simp
  · have hloop := rounds_iter (base := 0) (clr := [3, 4, 5, 6, 7, 11, 12, 13]) (b := l_slices_CompareFunc_api_Row_api_Row_api_Value_api_Value_0) (fun k => ⟨[.imm b (rowA r), .imm b' (rowA q), .fn 143 [] [], .any, .any, .any, .any, .any, .imm b (rowA r), .int .i64 r.length, .int .i64 k, .any, .any, .any, .any], []⟩) d _ hstep (by
      have a1 := rowA_get ha
      have a2 := rowA_get hb
      have a3 := values_spec r[d] q[d]
      have i1 : ((d : Int) < (r.length : Int)) := by omega
      have i2 : ¬ ((q.length : Int) ≤ (d : Int)) := by omega
      simp [l_slices_CompareFunc_api_Row_api_Row_api_Value_api_Value_0, a1, a2, a3, i1, i2, bne_t e1]; rfl)
    simp [f_slices_CompareFunc_api_Row_api_Row_api_Value_api_Value, b_slices_CompareFunc_api_Row_api_Row_api_Value_api_Value]
    simp at hloop
    rw [hloop, e2]
    simp
theorem order_spec (b b' : Bool) (r q : List Val) (hr : r.length ≤ most) : pcall I.row_order [.imm b (rowA r), .imm b' (rowA q)] = some (.int .i64 (cmpR r q)) := by
  rw [pcall_eq c_row_order rfl]
  have := fun b b' => CompareRows b b' r q hr
  simp [f_row_order, b_row_order, this]
theorem Compare_spec (b b' : Bool) (r q : List Val) (hr : okR r = true) (hq : okR q = true) : pcall I.row_Compare [.imm b (rowA r), .imm b' (rowA q)] = some (.int .i64 (cmpR r q)) := by
  rw [pcall_eq c_row_Compare rfl]
  have hl : r.length ≤ most := by
    unfold okR at hr; simp at hr; unfold most; omega
  have h1 := fun b b' => order_spec b b' r q hl
  have h2 := fun b => right_spec b r
  have h3 := fun b => right_spec b q
  rw [hr] at h2
  rw [hq] at h3
  simp [f_row_Compare, b_row_Compare, h1, h2, h3]
theorem dvalues_spec (v w : Val) (hv : okV v = true) (hw : okV w = true) : pcall I.denote_values [v.a, w.a] = some (.int .i64 (cmpV v w)) := by
  rw [pcall_eq c_denote_values rfl]
  have h := fun b b' => Compare_spec b b' [v] [w] (by simp [okR, hv]) (by simp [okR, hw])
  have e : cmpR [v] [w] = cmpV v w := by
    simp only [cmpR]
    unfold lex
    split
    · rfl
    · omega
  rw [e] at h
  simp only [rowA, List.map_cons, List.map_nil] at h
  simp [f_denote_values, b_denote_values, h]
end Go.AM
end
section

namespace Go.AM
open P
set_option maxHeartbeats 4000000
set_option maxRecDepth 4000
def ordA (o : Int × Bool) : AVal := .agg [.int .i64 o.1, .bool o.2]
def ordsA (os : List (Int × Bool)) : List AVal := os.map ordA
@[simp] theorem ordsA_length (os : List (Int × Bool)) : (ordsA os).length = os.length := by simp [ordsA]
theorem ordsA_get {os : List (Int × Bool)} {k : Nat} (h : k < os.length) : (ordsA os)[k]? = some (.agg [.int .i64 os[k].1, .bool os[k].2]) := by simp [ordsA, h, ordA]
def colV (r : List Val) (i : Int) : Val := r.getD i.toNat default
def colC (o : Int × Bool) (a b : List Val) : Int := if o.2 then -cmpV (colV a o.1) (colV b o.1) else cmpV (colV a o.1) (colV b o.1)
def byC : List (Int × Bool) → List Val → List Val → Int
  | [], a, b => cmpR a b
  | o :: os, a, b => lex (colC o a b) (byC os a b)
theorem colC_ok (o : Int × Bool) : WOk (colC o) := by
  have h := cmpV_ok.on (fun a : List Val => colV a o.1)
  unfold colC
  cases o.2
  · exact h
  · exact h.neg
theorem byC_ok : ∀ os, WOk (byC os)
  | [] => cmpR_ok
  | o :: os => (colC_ok o).lex (byC_ok os)
theorem byC_zero : ∀ {os : List (Int × Bool)} {a b : List Val}, byC os a b = 0 → a = b
  | [], _, _, h => cmpR_zero h
  | _ :: _, _, _, h => byC_zero (lex_zero h).2
theorem colC_range (o : Int × Bool) (a b : List Val) : -1 ≤ colC o a b ∧ colC o a b ≤ 1 := by
  unfold colC
  have := cmpV_range (colV a o.1) (colV b o.1)
  split <;> omega
theorem byC_range : ∀ os a b, -1 ≤ byC os a b ∧ byC os a b ≤ 1
  | [], a, b => cmpR_range a b
  | o :: os, a, b => lex_range (colC_range o a b) (byC_range os a b)
theorem byC_diff (a b : List Val) : ∀ os : List (Int × Bool), ∃ d, d ≤ os.length ∧ (∀ k (_ : k < d) (hk : k < os.length), colC os[k] a b = 0) ∧
    ((d = os.length ∧ byC os a b = cmpR a b) ∨ (∃ h : d < os.length, colC os[d] a b ≠ 0 ∧ byC os a b = colC os[d] a b))
  | [] => ⟨0, Nat.le_refl _, fun k h => absurd h (Nat.not_lt_zero _), .inl ⟨rfl, rfl⟩⟩
  | o :: os => by
    by_cases h : colC o a b = 0
    · obtain ⟨d, h1, h2, h3⟩ := byC_diff a b os
      refine ⟨d + 1, by simpa using h1, fun k hk hk' => ?_, ?_⟩
      · cases k with
        | zero => exact h
        | succ k => exact h2 k (by omega) (by simpa using hk')
      · have e : byC (o :: os) a b = byC os a b := by simp [byC, lex, h]
        rw [e]
        rcases h3 with ⟨e1, e2⟩ | ⟨ha, e1, e2⟩
        · exact .inl ⟨by simp [e1], e2⟩
        · exact .inr ⟨by simpa using ha, by simpa using e1, by simpa using e2⟩
    · exact ⟨0, Nat.zero_le _, fun k h => absurd h (Nat.not_lt_zero _), .inr ⟨by simp, h, by simp [byC, lex, h]⟩⟩
def hasO (os : List (Int × Bool)) (r : List Val) : Bool := os.all fun o => decide (0 ≤ o.1) && decide (o.1 < r.length)
theorem hasO_get {os : List (Int × Bool)} {r : List Val} (h : hasO os r = true) {k : Nat} (hk : k < os.length) : 0 ≤ os[k].1 ∧ os[k].1 < r.length := by
  have := List.all_eq_true.1 h os[k] (List.getElem_mem hk)
  simpa using this
theorem row_col {r : List Val} {i : Int} (h : 0 ≤ i ∧ i < r.length) : (rowA r)[i.toNat]? = some (colV r i).a := by
  have hl : i.toNat < r.length := by omega
  rw [rowA_get hl]
  simp [colV, List.getD, hl]
theorem okV_col {r : List Val} (h : okR r = true) {i : Int} (hi : 0 ≤ i ∧ i < r.length) : okV (colV r i) = true := by
  have hl : i.toNat < r.length := by omega
  unfold okR at h
  simp only [Bool.and_eq_true, List.all_eq_true] at h
  have : colV r i = r[i.toNat] := by simp [colV, List.getD, hl]
  rw [this]
  exact h.2 _ (List.getElem_mem hl)
theorem wrap0 : IntKind.i64.wrap 0 = 0 := rfl
theorem by_spec (b b' bo : Bool) (os : List (Int × Bool)) (r q : List Val) (hn : os.length ≤ most) (hr : okR r = true) (hq : okR q = true) (hor : hasO os r = true) (hoq : hasO os q = true) :
    pcall I.denote_by_1 [.imm b (rowA r), .imm b' (rowA q), .cptr false (.imm bo (ordsA os)) 0] = some (.int .i64 (byC os r q)) := by
  rw [pcall_eq c_denote_by_1 rfl]
  obtain ⟨d, h1, h3, h4⟩ := byC_diff r q os
  have hC := fun b b' => Compare_spec b b' r q hr hq
  have hstep : ∀ k, k < d → thenLoop 0 [3, 4, 5, 9, 10, 11] l_denote_by_1_0 (run code l_denote_by_1_0 ⟨[.imm b (rowA r), .imm b' (rowA q), .cptr false (.imm bo (ordsA os)) 0, .any, .any, .any, .imm bo (ordsA os), .int .i64 os.length, .int .i64 k, .any, .any, .any], []⟩) =
      rounds code 0 [3, 4, 5, 9, 10, 11] l_denote_by_1_0 ⟨[.imm b (rowA r), .imm b' (rowA q), .cptr false (.imm bo (ordsA os)) 0, .any, .any, .any, .imm bo (ordsA os), .int .i64 os.length, .int .i64 (k + 1 : Nat), .any, .any, .any], []⟩ := fun k hk => by
    have ha : k < os.length := by omega
    have e1 := ordsA_get ha
    have c1 := hasO_get hor ha
    have c2 := hasO_get hoq ha
    have e2 := row_col c1
    have e3 := row_col c2
    have e4 := dvalues_spec _ _ (okV_col hr c1) (okV_col hq c2)
    have e5 := h3 k hk ha
    unfold colC at e5
    have i1 : ((k : Int) < (os.length : Int)) := by omega
    have i2 : ¬ (os[k].1 < 0) := by omega
    have i3 : cmpV (colV r os[k].1) (colV q os[k].1) = 0 := by split at e5 <;> omega
    rw [i3] at e4
    have i4 := c1.1
    cases hd : os[k].2 <;> simp [l_denote_by_1_0, e1, hd, e2, e3, e4, i1, i2, i4, wrap_lt ha hn, roundEnd, wrap0]
  rcases h4 with ⟨e1, e2⟩ | ⟨ha, e1, e2⟩
  · have hloop := rounds_iter (base := 0) (clr := [3, 4, 5, 9, 10, 11]) (b := l_denote_by_1_0) (fun k => ⟨[.imm b (rowA r), .imm b' (rowA q), .cptr false (.imm bo (ordsA os)) 0, .any, .any, .any, .imm bo (ordsA os), .int .i64 os.length, .int .i64 k, .any, .any, .any], []⟩) d _ hstep (by
      subst e1
      simp [l_denote_by_1_0]; rfl)
    simp [f_denote_by_1, b_denote_by_1]
    simp at hloop
    rw [hloop, e2]
    simp [hC]
  · have c1 := hasO_get hor ha
    have c2 := hasO_get hoq ha
    have a1 := ordsA_get ha
    have a2 := row_col c1
    have a3 := row_col c2
    have a4 := dvalues_spec _ _ (okV_col hr c1) (okV_col hq c2)
    have i1 : ((d : Int) < (os.length : Int)) := by omega
    have i4 := c1.1
    have i5 := cmpV_range (colV r os[d].1) (colV q os[d].1)
    have e3 := e1
    unfold colC at e3
    cases hd : os[d].2 with
    | false =>
      rw [hd] at e3
      have e3 : ¬ cmpV (colV r os[d].1) (colV q os[d].1) = 0 := by simpa using e3
      have hloop := rounds_iter (base := 0) (clr := [3, 4, 5, 9, 10, 11]) (b := l_denote_by_1_0) (fun k => ⟨[.imm b (rowA r), .imm b' (rowA q), .cptr false (.imm bo (ordsA os)) 0, .any, .any, .any, .imm bo (ordsA os), .int .i64 os.length, .int .i64 k, .any, .any, .any], []⟩) d _ hstep (by
        simp [l_denote_by_1_0, a1, hd, a2, a3, a4, i1, i4, bne_t e3]; rfl)
      simp [f_denote_by_1, b_denote_by_1]
      simp at hloop
      rw [hloop, e2]
      simp [colC, hd]
    | true =>
      rw [hd] at e3
      have e3 : ¬ -cmpV (colV r os[d].1) (colV q os[d].1) = 0 := by simpa using e3
      have hw : IntKind.i64.wrap (-cmpV (colV r os[d].1) (colV q os[d].1)) = -cmpV (colV r os[d].1) (colV q os[d].1) := wrap64_id (by omega)
      have hw' : IntKind.i64.wrap (0 - cmpV (colV r os[d].1) (colV q os[d].1)) = -cmpV (colV r os[d].1) (colV q os[d].1) := by rw [Int.zero_sub]; exact hw
      have hloop := rounds_iter (base := 0) (clr := [3, 4, 5, 9, 10, 11]) (b := l_denote_by_1_0) (fun k => ⟨[.imm b (rowA r), .imm b' (rowA q), .cptr false (.imm bo (ordsA os)) 0, .any, .any, .any, .imm bo (ordsA os), .int .i64 os.length, .int .i64 k, .any, .any, .any], []⟩) d _ hstep (by
        simp [l_denote_by_1_0, a1, hd, a2, a3, a4, i1, i4, hw, hw', bne_t e3]; rfl)
      simp [f_denote_by_1, b_denote_by_1]
      simp at hloop
      rw [hloop, e2]
      simp [colC, hd]
end Go.AM
end
section

namespace Go.AM
open P
set_option maxHeartbeats 4000000
set_option maxRecDepth 4000
def ordOf : AVal → Int × Bool
  | .agg [.int _ c, .bool d] => (c, d)
  | _ => (0, false)
@[simp] theorem ordOf_a (o : Int × Bool) : ordOf (ordA o) = o := rfl
def inR (r : List Val) (c : Int) : Bool := decide (0 ≤ c) && decide (c < r.length)
theorem has1_spec (t b : Bool) (o : Int × Bool) (r : List Val) : pcall I.denote_has_1 [ordA o, .cptr t (.imm b (rowA r)) 0] = some (.bool (!inR r o.1)) := by
  rw [pcall_eq c_denote_has_1 rfl]
  unfold inR ordA
  obtain ⟨c, d⟩ := o
  by_cases h1 : c < 0
  · have h2 : ¬ (0 ≤ c) := by omega
    cases t <;> simp [f_denote_has_1, b_denote_has_1, h1, h2]
  · have h2 : 0 ≤ c := by omega
    by_cases h3 : c < r.length
    · have h4 : ¬ ((r.length : Int) ≤ c) := by omega
      cases t <;> simp [f_denote_has_1, b_denote_has_1, h1, h2, h3, h4]
    · have h4 : ((r.length : Int) ≤ c) := by omega
      cases t <;> simp [f_denote_has_1, b_denote_has_1, h1, h2, h3, h4]
theorem has_spec (b bo : Bool) (os : List (Int × Bool)) (r : List Val) (hn : os.length ≤ most) : pcall I.denote_has [.imm b (rowA r), .imm bo (ordsA os)] = some (.bool (hasO os r)) := by
  rw [pcall_eq c_denote_has rfl]
  have hc := fun bo => ContainsOrd (b := bo) (xs := ordsA os) (f := .fn 109 [] [.cptr true (.imm b (rowA r)) 0]) (p := fun x => !inR r (ordOf x).1) (by simpa using hn) (fun x hx => by
      obtain ⟨o, _, rfl⟩ := List.mem_map.1 hx
      exact ⟨rfl, rfl⟩) (by simp) (fun x hx => by
      obtain ⟨o, _, rfl⟩ := List.mem_map.1 hx
      have := has1_spec true b o r
      have e : fz true false 0 [] 20 (ordA o) = ordA o := by simp [ordA]
      simp [this, e])
  have e : (!(ordsA os).any fun x => !inR r (ordOf x).1) = hasO os r := by
    show _ = os.all fun o => inR r o.1
    rw [← not_any_not, ordsA, List.any_map]
    rfl
  simp [f_denote_has, b_denote_has, hc, e]
theorem Sort1_spec (t b bo : Bool) (os : List (Int × Bool)) (r : List Val) (hn : os.length ≤ most) : pcall I.denote_Sort_1 [.imm b (rowA r), .cptr t (.imm bo (ordsA os)) 0] = some (.bool (!hasO os r)) := by
  rw [pcall_eq c_denote_Sort_1 rfl]
  have h := fun b bo => has_spec b bo os r hn
  cases hr : hasO os r <;> rw [hr] at h <;> cases t <;> simp [f_denote_Sort_1, b_denote_Sort_1, h]
@[simp] theorem rowA_fz (r : List Val) (fl top : Bool) (base : Nat) (σ : Store) (n : Nat) : (rowA r).map (fz fl top base σ (n + 2)) = rowA r := by
  unfold rowA
  rw [List.map_map]
  exact List.map_congr_left fun v _ => a_fz v fl top base σ n
@[simp] theorem rowA_ncells (r : List Val) : (rowA r).map ncells = List.replicate r.length 4 := by
  unfold rowA
  rw [List.map_map, List.eq_replicate_iff]
  exact ⟨by simp, fun x hx => by simp at hx; exact hx.2.symm ▸ rfl⟩
theorem rowA_all (r : List Val) : ((rowA r).all fun y => ncells y == 4) = true := by
  rw [List.all_eq_true]
  intro x hx
  obtain ⟨v, _, rfl⟩ := List.mem_map.1 hx
  rfl
theorem fresh_row (r : List Val) (id ep : Nat) (σ : Store) (h : σ[id]? = some (.arr 4 ep (rowA r))) : freshOf 4 σ (.sl id ep 0 r.length) = .frs 4 (rowA r) := by
  have h9 : (rowA r).take r.length = rowA r := List.take_of_length_le (by simp)
  have h10 : ∀ σ', (rowA r).map (frozen σ') = rowA r := fun σ' => rowA_fz r false false 0 σ' 18
  simp only [freshOf, h, h9, h10, frsAt]
  simp
theorem clone_empty : ∀ b, pcall I.slices_Clone_api_Row_api_Value [.imm b []] = some (.frs 4 [])
  | true => pcall_from (n := 20) (σ := []) (by kernel_rfl)
  | false => pcall_from (n := 20) (σ := []) (by kernel_rfl)
theorem clone_spec (b : Bool) (r : List Val) (hn : r.length ≤ most) : pcall I.slices_Clone_api_Row_api_Value [.imm b (rowA r)] = some (.frs 4 (rowA r)) := by
  cases r with
  | nil => exact clone_empty b
  | cons v r =>
    have hall := rowA_all (v :: r)
    have hl : (rowA (v :: r)).length = r.length + 1 := by simp
    have hne : emptyS [] (.imm b (rowA (v :: r))) = false := rfl
    unfold pcall
    rw [acall_nilfn good c_slices_Clone_api_Row_api_Value, hne]
    simp only [Bool.false_eq_true, if_false]
    unfold acallG
    have hn' : r.length + 1 ≤ most := by simpa using hn
    have hnil : nilsV false [] (.imm b (rowA (v :: r))) = some (.bool false) := rfl
    have hf := fresh_row (v :: r) 0 0 [.arr 4 0 (rowA (v :: r))] rfl
    have hx : rowA (v :: r) ≠ [] := by simp [rowA]
    have hy : ∀ x, x ∈ rowA (v :: r) → ncells x = 4 := fun x hx => by simpa using List.all_eq_true.1 hall x hx
    have ht : (rowA (v :: r)).take (r.length + 1) = rowA (v :: r) := List.take_of_length_le (by simp)
    simp only [List.length_cons] at hf
    generalize rowA (v :: r) = xs at *
    simp [f_slices_Clone_api_Row_api_Value, b_slices_Clone_api_Row_api_Value, enter, leave, append, hall, hl, hn', -nilsV, hnil, hx]
    rw [if_pos hy]
    simp [leave]
    exact hf
end Go.AM
end
section

namespace Go.AM
open P
set_option maxHeartbeats 2000000
set_option maxRecDepth 4000
def rowP (two : Bool) (p : Int × Int) : List AVal := if two then [intV p.1, intV p.2] else [intV p.1]
def IsRow (two : Bool) (r : List AVal) : Prop := ∃ p : Int × Int, (two = false → p.2 = 0) ∧ r = rowP two p
theorem IsRow.ok {two : Bool} {r : List AVal} (h : IsRow two r) : RowOk r := by
  obtain ⟨p, _, rfl⟩ := h
  cases two
  · exact row1_ok p.1
  · exact row2_ok p.1 p.2
theorem order_row {two : Bool} {p q : Int × Int} (hp : two = false → p.2 = 0) (hq : two = false → q.2 = 0) : pcall I.row_order [.imm false (rowP two p), .imm false (rowP two q)] = some (.int .i64 (cmp2 p.1 p.2 q.1 q.2)) := by
  cases two
  · have h := order1 (b := false) (b' := false) p.1 q.1
    rw [hp rfl, hq rfl]
    simp only [rowP]
    rw [show (if false = true then ([intV p.1, intV p.2] : List AVal) else [intV p.1]) = [intV p.1] from rfl, show (if false = true then ([intV q.1, intV q.2] : List AVal) else [intV q.1]) = [intV q.1] from rfl, h]
    unfold cmp2
    split
    · rename_i h0
      rw [h0]; rfl
    · rfl
  · exact order2 (b := false) (b' := false) p.1 p.2 q.1 q.2
theorem order_acall {two : Bool} {p q : Int × Int} (hp : two = false → p.2 = 0) (hq : two = false → q.2 = 0) :
    acall code 140 [.imm false (rowP two p), .imm false (rowP two q)] [] = some (.int .i64 (cmp2 p.1 p.2 q.1 q.2), []) := by
  have := acall_pure (f := I.row_order) c_row_order rfl [.imm false (rowP two p), .imm false (rowP two q)] []
  simp only [List.map_cons, List.map_nil, snap_eq, fz_immf] at this
  rw [order_row hp hq] at this
  exact this
theorem all_fuel {α : Type} {F : Nat → α → Prop} (hm : ∀ n m x, n ≤ m → F n x → F m x) : ∀ l : List α, (∀ x ∈ l, ∃ n, F n x) → ∃ n, ∀ x ∈ l, F n x
  | [], _ => ⟨0, fun _ h => by cases h⟩
  | x :: l, h => by
    obtain ⟨n, hn⟩ := h x (List.mem_cons_self ..)
    obtain ⟨m, hm'⟩ := all_fuel hm l fun y hy => h y (List.mem_cons_of_mem _ hy)
    refine ⟨max n m, fun y hy => ?_⟩
    rcases List.mem_cons.1 hy with rfl | hy
    · exact hm _ _ _ (Nat.le_max_left ..) hn
    · exact hm _ _ _ (Nat.le_max_right ..) (hm' y hy)
theorem length_insertBy (le : AVal → AVal → Bool) (x : AVal) : ∀ l : List AVal, (insertBy le x l).length = l.length + 1
  | [] => rfl
  | y :: r => by
    unfold insertBy
    split
    · rfl
    · simp [length_insertBy le x r]
theorem length_sortBy (le : AVal → AVal → Bool) : ∀ l : List AVal, (sortBy le l).length = l.length
  | [] => rfl
  | x :: r => by simp [sortBy, length_insertBy, length_sortBy le r]
theorem cmp2_range (a b c d : Int) : -9223372036854775808 ≤ cmp2 a b c d ∧ cmp2 a b c d < 9223372036854775808 := by
  unfold cmp2 cmp3; repeat' split
  all_goals omega
theorem cmp2_anti (a b c d : Int) : cmp2 a b c d < 0 ↔ 0 < cmp2 c d a b := by
  unfold cmp2 cmp3; repeat' split
  all_goals omega
theorem cmp2_zero {a b c d : Int} (h : cmp2 a b c d = 0) : a = c ∧ b = d := by
  unfold cmp2 cmp3 at h; repeat' split at h
  all_goals omega
theorem cmp2_self (a b : Int) : cmp2 a b a b = 0 := by
  unfold cmp2 cmp3; repeat' split
  all_goals omega
theorem cmp2_neg {a b c d : Int} : cmp2 a b c d < 0 ↔ a < c ∨ a = c ∧ b < d := by
  unfold cmp2 cmp3; repeat' split
  all_goals omega
theorem cmp2_trans {a b c d e f : Int} (h : cmp2 a b c d < 0) (h' : cmp2 c d e f < 0) : cmp2 a b e f < 0 := by
  rw [cmp2_neg] at *
  omega
theorem rows_unmap {two : Bool} {rs : List (List AVal)} : ∀ {l : List AVal}, (∀ x ∈ l, x ∈ rowsV rs) → ∃ rs' : List (List AVal), l = rowsV rs' ∧ ∀ r ∈ rs', r ∈ rs
  | [], _ => ⟨[], rfl, fun _ h => by cases h⟩
  | x :: l, h => by
    obtain ⟨rs', h1, h2⟩ := rows_unmap (two := two) fun y hy => h y (List.mem_cons_of_mem _ hy)
    obtain ⟨r, hr, e⟩ := List.mem_map.1 (h x (List.mem_cons_self ..))
    refine ⟨r :: rs', by rw [h1, ← e]; rfl, fun s hs => ?_⟩
    rcases List.mem_cons.1 hs with rfl | hs
    · exact hr
    · exact h2 s hs
theorem sort_rows {two : Bool} {rs : List (List AVal)} (hn : rs.length ≤ most) (hr : ∀ r ∈ rs, IsRow two r) {σ : Store} {id ep k : Nat} (h : σ[id]? = some (.arr k ep (rowsV rs))) :
    ∃ rs' : List (List AVal), rs'.length = rs.length ∧ (∀ r ∈ rs', r ∈ rs) ∧ acall code 67 [.sl id ep 0 rs.length, .fn 140 [] []] σ = some (.any, σ.set id (.arr k ep (rowsV rs'))) := by
  have hk : ∀ x ∈ rowsV rs, ∃ p : Int × Int, (two = false → p.2 = 0) ∧ x = .imm false (rowP two p) := fun x hx => by
    obtain ⟨r, h1, h2⟩ := List.mem_map.1 hx
    obtain ⟨p, h3, h4⟩ := hr r h1
    exact ⟨p, h3, by rw [← h2, h4]⟩
  obtain ⟨n, hf⟩ := all_fuel (F := fun n (x : AVal) => ∀ y ∈ rowsV rs, ∀ p q : Int × Int, (two = false → p.2 = 0) → (two = false → q.2 = 0) → x = .imm false (rowP two p) → y = .imm false (rowP two q) →
      callN code n 140 [x, y] [] = some (.int .i64 (cmp2 p.1 p.2 q.1 q.2), []))
    (fun n m x hnm h y hy p q hp hq e1 e2 => (callN_mono good _ _ _).le hnm (h y hy p q hp hq e1 e2)) (rowsV rs) (fun x hx => by
      obtain ⟨n, hn⟩ := all_fuel (F := fun n (y : AVal) => ∀ p q : Int × Int, (two = false → p.2 = 0) → (two = false → q.2 = 0) → x = .imm false (rowP two p) → y = .imm false (rowP two q) →
          callN code n 140 [x, y] [] = some (.int .i64 (cmp2 p.1 p.2 q.1 q.2), []))
        (fun n m y hnm h p q hp hq e1 e2 => (callN_mono good _ _ _).le hnm (h p q hp hq e1 e2)) (rowsV rs) (fun y hy => by
          obtain ⟨p, hp, e1⟩ := hk x hx
          obtain ⟨q, hq, e2⟩ := hk y hy
          obtain ⟨n, hn⟩ := (lim_eq (callN_mono good _ _ _) _).1 (order_acall hp hq)
          have hinj : ∀ p p' : Int × Int, (two = false → p.2 = 0) → (two = false → p'.2 = 0) → rowP two p = rowP two p' → p = p' := fun p p' h1 h2 h3 => by
            obtain ⟨a, b⟩ := p
            obtain ⟨c, d⟩ := p'
            cases two
            · have h1 := h1 rfl
              have h2 := h2 rfl
              simp [rowP, intV] at h3 h1 h2
              rw [h3, h1, h2]
            · simp [rowP, intV] at h3
              rw [h3.1, h3.2]
          refine ⟨n, fun p' q' hp' hq' e1' e2' => ?_⟩
          have a1 : p = p' := hinj p p' hp hp' (by have := e1.symm.trans e1'; simpa using this)
          have a2 : q = q' := hinj q q' hq hq' (by have := e2.symm.trans e2'; simpa using this)
          rw [← a1, ← a2, e1, e2]
          exact hn)
      exact ⟨n, fun y hy => hn y hy⟩)
  have hc : ∀ (p q : Int × Int), (two = false → p.2 = 0) → (two = false → q.2 = 0) → .imm false (rowP two p) ∈ rowsV rs → .imm false (rowP two q) ∈ rowsV rs →
      cmpOf (callN code n) (.fn 140 [] []) (.imm false (rowP two p)) (.imm false (rowP two q)) = some (cmp2 p.1 p.2 q.1 q.2) := fun p q hp hq m1 m2 => by
    have := hf _ m1 _ m2 p q hp hq rfl rfl
    unfold cmpOf callV
    simp [this]
  have hO : orderedB (cmpOf (callN code n) (.fn 140 [] [])) (rowsV rs) = true := by
    rw [orderedB_iff]
    refine ⟨fun x hx y hy => ?_, fun x hx y hy a b e1 e2 => ?_, fun x hx y hy e => ?_, fun x hx => ?_, fun x hx y hy z hz a b c e1 e2 e3 h1 h2 => ?_⟩
    · obtain ⟨p, hp, rfl⟩ := hk x hx
      obtain ⟨q, hq, rfl⟩ := hk y hy
      exact ⟨_, hc p q hp hq hx hy, cmp2_range ..⟩
    · obtain ⟨p, hp, rfl⟩ := hk x hx
      obtain ⟨q, hq, rfl⟩ := hk y hy
      rw [hc p q hp hq hx hy] at e1
      rw [hc q p hq hp hy hx] at e2
      cases e1; cases e2
      exact cmp2_anti ..
    · obtain ⟨p, hp, rfl⟩ := hk x hx
      obtain ⟨q, hq, rfl⟩ := hk y hy
      rw [hc p q hp hq hx hy] at e
      have := cmp2_zero (Option.some.inj e)
      rw [show p = q from Prod.ext this.1 this.2]
    · obtain ⟨p, hp, rfl⟩ := hk x hx
      rw [hc p p hp hp hx hx, cmp2_self]
    · obtain ⟨p, hp, rfl⟩ := hk x hx
      obtain ⟨q, hq, rfl⟩ := hk y hy
      obtain ⟨s, hs, rfl⟩ := hk z hz
      rw [hc p q hp hq hx hy] at e1
      rw [hc q s hq hs hy hz] at e2
      rw [hc p s hp hs hx hz] at e3
      cases e1; cases e2; cases e3
      exact cmp2_trans h1 h2
  obtain ⟨rs', e1, e2⟩ := rows_unmap (two := two) (rs := rs) (l := sortBy (leOf (cmpOf (callN code n) (.fn 140 [] []))) (rowsV rs)) (fun x hx => mem_sortBy.1 hx)
  refine ⟨rs', ?_, e2, acall_prim good (k := 1) (n := n) rfl ?_⟩
  · have := congrArg List.length e1
    rw [length_sortBy, rowsV_length, rowsV_length] at this
    exact this.symm
  · have hp : code.prims 1 (callN code n) = sortFunc (callN code n) := rfl
    rw [hp]
    have h9 : (rowsV rs).take rs.length = rowsV rs := List.take_of_length_le (by simp)
    have h10 : ((rowsV rs).all fun x => same (snap (σ.set id .dead) x) x && ncells x == 1 && !isAgg x && !plainArg x) = true := by
      rw [List.all_eq_true]
      intro x hx
      obtain ⟨p, hp, rfl⟩ := hk x hx
      simp [plainArg]
    simp only [sortFunc, h, List.drop_zero, h9]
    have h11 : snap (σ.set id .dead) (.fn 140 [] []) = .fn 140 [] [] := by simp
    rw [if_pos ⟨by trivial, by simp, hn, h10, by rw [h11]; exact hO, by rw [h11]; rfl⟩, h11, e1]
    have h12 : (rowsV rs).drop (0 + rs.length) = [] := List.drop_of_length_le (by simp)
    rw [h12]
    simp
theorem sorted_spec {b two : Bool} {rs : List (List AVal)} (hn : rs.length ≤ most) (hr : ∀ r ∈ rs, IsRow two r) :
    ∃ rs' : List (List AVal), rs'.length = rs.length ∧ (∀ r ∈ rs', r ∈ rs) ∧ pcall I.row_sorted [.imm b (rowsV rs)] = some (.frs 1 (rowsV rs')) := by
  obtain ⟨rs', e1, e2, e3⟩ := sort_rows hn hr (σ := [.arr 1 0 (rowsV rs)]) (id := 0) (ep := 0) (k := 1) rfl
  refine ⟨rs', e1, e2, ?_⟩
  rw [pcall_eq c_row_sorted rfl]
  have h1 := copies_spec (b := b) hn fun r h => (hr r h).ok
  simp [f_row_sorted, b_row_sorted, h1, e3]
  rw [← e1]
  exact fresh_rows rs' 0 0 _ rfl
end Go.AM
end
section

namespace Go.AM
open P
set_option maxHeartbeats 4000000
set_option maxRecDepth 4000
theorem insertBy_map {α : Type} {le : AVal → AVal → Bool} {c : α → α → Int} {f : α → AVal} {a : α} : ∀ {l : List α}, (∀ b ∈ l, le (f a) (f b) = decide (c a b ≤ 0)) → insertBy le (f a) (l.map f) = (insC c a l).map f
  | [], _ => rfl
  | b :: r, h => by
    have h1 := h b (List.mem_cons_self ..)
    simp only [List.map_cons, insertBy, insC, h1]
    by_cases hc : c a b ≤ 0
    · simp [hc]
    · simp [hc, insertBy_map fun x hx => h x (List.mem_cons_of_mem _ hx)]
theorem sortBy_map {α : Type} {le : AVal → AVal → Bool} {c : α → α → Int} {f : α → AVal} : ∀ {l : List α}, (∀ a ∈ l, ∀ b ∈ l, le (f a) (f b) = decide (c a b ≤ 0)) → sortBy le (l.map f) = (sortC c l).map f
  | [], _ => rfl
  | a :: r, h => by
    simp only [List.map_cons, sortBy, sortC]
    rw [sortBy_map fun x hx y hy => h x (List.mem_cons_of_mem _ hx) y (List.mem_cons_of_mem _ hy)]
    exact insertBy_map fun b hb => h a (List.mem_cons_self ..) b (List.mem_cons_of_mem _ ((sortC_perm r).mem_iff.1 hb))
abbrev byF (os : List (Int × Bool)) : AVal := .fn 198 [] [.cptr false (.imm false (ordsA os)) 0]
theorem by_fn (os : List (Int × Bool)) : pcall I.denote_by [.imm false (ordsA os)] = some (byF os) := by
  rw [pcall_eq c_denote_by rfl]
  simp [f_denote_by, b_denote_by]
theorem by_acall (os : List (Int × Bool)) (r q : List Val) (hn : os.length ≤ most) (hr : okR r = true) (hq : okR q = true) (hor : hasO os r = true) (hoq : hasO os q = true) :
    acall code 198 [.imm false (rowA r), .imm false (rowA q), .cptr false (.imm false (ordsA os)) 0] [] = some (.int .i64 (byC os r q), []) := by
  have := acall_pure (f := I.denote_by_1) c_denote_by_1 rfl [.imm false (rowA r), .imm false (rowA q), .cptr false (.imm false (ordsA os)) 0] []
  simp only [List.map_cons, List.map_nil, snap_eq, fz_immf, fz_cptrf] at this
  rw [by_spec false false false os r q hn hr hq hor hoq] at this
  exact this
theorem sort_spec {os : List (Int × Bool)} {rs : List (List Val)} (hn : rs.length ≤ most) (ho : os.length ≤ most) (hok : ∀ r ∈ rs, okR r = true ∧ hasO os r = true) {σ : Store} {id ep : Nat} (h : σ[id]? = some (.arr 1 ep (rowsA false rs))) :
    acall code 67 [.sl id ep 0 rs.length, byF os] σ = some (.any, σ.set id (.arr 1 ep (rowsA false (sortC (byC os) rs)))) := by
  have hk : ∀ x ∈ rowsA false rs, ∃ r, r ∈ rs ∧ x = .imm false (rowA r) := fun x hx => by
    obtain ⟨r, h1, h2⟩ := List.mem_map.1 hx
    exact ⟨r, h1, h2.symm⟩
  obtain ⟨n, hf⟩ := all_fuel (F := fun n (x : AVal) => ∀ y ∈ rowsA false rs, callN code n 198 [x, y, .cptr false (.imm false (ordsA os)) 0] [] = some (.int .i64 (byC os (asRow x) (asRow y)), []))
    (fun n m x hnm h y hy => (callN_mono good _ _ _).le hnm (h y hy)) (rowsA false rs) (fun x hx => by
      obtain ⟨n, hn⟩ := all_fuel (F := fun n (y : AVal) => callN code n 198 [x, y, .cptr false (.imm false (ordsA os)) 0] [] = some (.int .i64 (byC os (asRow x) (asRow y)), []))
        (fun n m y hnm h => (callN_mono good _ _ _).le hnm h) (rowsA false rs) (fun y hy => by
          obtain ⟨r, hr, rfl⟩ := hk x hx
          obtain ⟨q, hq, rfl⟩ := hk y hy
          rw [asRow_a, asRow_a]
          exact (lim_eq (callN_mono good _ _ _) _).1 (by_acall os r q ho (hok r hr).1 (hok q hq).1 (hok r hr).2 (hok q hq).2))
      exact ⟨n, fun y hy => hn y hy⟩)
  have hc : ∀ r q, r ∈ rs → q ∈ rs → cmpOf (callN code n) (byF os) (.imm false (rowA r)) (.imm false (rowA q)) = some (byC os r q) := fun r q hr hq => by
    have := hf (.imm false (rowA r)) (List.mem_map.2 ⟨r, hr, rfl⟩) (.imm false (rowA q)) (List.mem_map.2 ⟨q, hq, rfl⟩)
    unfold cmpOf callV
    simp at this
    simp [this]
  have hW := byC_ok os
  have hO : orderedB (cmpOf (callN code n) (byF os)) (rowsA false rs) = true := by
    rw [orderedB_iff]
    refine ⟨fun x hx y hy => ?_, fun x hx y hy a b e1 e2 => ?_, fun x hx y hy e => ?_, fun x hx => ?_, fun x hx y hy z hz a b c e1 e2 e3 h1 h2 => ?_⟩
    · obtain ⟨r, hr, rfl⟩ := hk x hx
      obtain ⟨q, hq, rfl⟩ := hk y hy
      have := byC_range os r q
      exact ⟨_, hc r q hr hq, by omega, by omega⟩
    · obtain ⟨r, hr, rfl⟩ := hk x hx
      obtain ⟨q, hq, rfl⟩ := hk y hy
      rw [hc r q hr hq] at e1
      rw [hc q r hq hr] at e2
      cases e1; cases e2
      exact hW.anti r q
    · obtain ⟨r, hr, rfl⟩ := hk x hx
      obtain ⟨q, hq, rfl⟩ := hk y hy
      rw [hc r q hr hq] at e
      rw [byC_zero (Option.some.inj e)]
    · obtain ⟨r, hr, rfl⟩ := hk x hx
      rw [hc r r hr hr, hW.self]
    · obtain ⟨r, hr, rfl⟩ := hk x hx
      obtain ⟨q, hq, rfl⟩ := hk y hy
      obtain ⟨s, hs, rfl⟩ := hk z hz
      rw [hc r q hr hq] at e1
      rw [hc q s hq hs] at e2
      rw [hc r s hr hs] at e3
      cases e1; cases e2; cases e3
      exact hW.lt_le h1 (Int.le_of_lt h2)
  refine acall_prim good (k := 1) (n := n) rfl ?_
  have hp : code.prims 1 (callN code n) = sortFunc (callN code n) := rfl
  rw [hp]
  have h9 : (rowsA false rs).take rs.length = rowsA false rs := List.take_of_length_le (by simp)
  have h10 : ((rowsA false rs).all fun x => same (snap (σ.set id .dead) x) x && ncells x == 1 && !isAgg x && !plainArg x) = true := by
    rw [List.all_eq_true]
    intro x hx
    obtain ⟨r, hr, rfl⟩ := hk x hx
    simp [plainArg]
  simp only [sortFunc, h, List.drop_zero, h9]
  have h11 : snap (σ.set id .dead) (byF os) = byF os := by simp
  have h13 : sortBy (leOf (cmpOf (callN code n) (byF os))) (rowsA false rs) = rowsA false (sortC (byC os) rs) := by
    unfold rowsA
    refine sortBy_map fun r hr q hq => ?_
    unfold leOf
    rw [hc r q hr hq]
  rw [if_pos ⟨by trivial, by simp, hn, h10, by rw [h11]; exact hO, by rw [h11]; rfl⟩, h11, h13]
  have h12 : (rowsA false rs).drop (0 + rs.length) = [] := List.drop_of_length_le (by simp)
  rw [h12]
  simp
theorem rowsA_V (rs : List (List Val)) : rowsA false rs = rowsV (rs.map rowA) := by simp [rowsA, rowsV, Function.comp_def]
theorem rowsA_succ {rs : List (List Val)} {k : Nat} (h : k < rs.length) : rowsA false (rs.take (k + 1)) = rowsA false (rs.take k) ++ [.imm false (rowA rs[k])] := by
  unfold rowsA
  rw [List.take_succ_eq_append_getElem h, List.map_append]
  rfl
theorem rowsA_fz (rs : List (List Val)) (top : Bool) (base : Nat) (σ : Store) (n : Nat) : (rowsA false rs).map (fz false top base σ (n + 1)) = rowsA false rs := by
  rw [rowsA_V]; exact rows_freeze _ top base σ n
theorem rowsA_freeze (rs : List (List Val)) (base : Nat) (σ : Store) : (rowsA false rs).map (freeze base σ) = rowsA false rs := by
  rw [rowsA_V]; exact rows_freeze' _ base σ
theorem rowsA_nc (rs : List (List Val)) (base : Nat) (σ : Store) : (rowsA false rs).map (ncells ∘ freeze base σ) = List.replicate rs.length 1 := by
  rw [rowsA_V, rows_nc]; simp
theorem rowsA_nc' (rs : List (List Val)) (fl top : Bool) (base : Nat) (σ : Store) (n : Nat) : (∀ a, a ∈ rowsA false rs → ncells (fz fl top base σ (n + 1) a) = ncells a) ↔ True :=
  ⟨fun _ => trivial, fun _ a ha => by
    obtain ⟨r, _, rfl⟩ := List.mem_map.1 ha
    simp⟩
@[simp] theorem rowsA_ncells (rs : List (List Val)) : (rowsA false rs).map ncells = List.replicate rs.length 1 := by
  rw [rowsA_V, rowsV_ncells]; simp
theorem rowA_nc (r : List Val) (fl top : Bool) (base : Nat) (σ : Store) (n : Nat) : (∀ a, a ∈ rowA r → ncells (fz fl top base σ (n + 2) a) = ncells a) ↔ True :=
  ⟨fun _ => trivial, fun _ a ha => by
    obtain ⟨v, _, rfl⟩ := List.mem_map.1 ha
    simp⟩
theorem sortedLoop (b c : Bool) (os : List (Int × Bool)) (lim : Int) (rs : List (List Val)) (hn : rs.length ≤ most) (hr : ∀ r ∈ rs, r.length ≤ most) :
    rounds code 1 [5, 9] l_denote_sorted_0 ⟨[.imm b (rowsA c rs), .imm false (ordsA os), .int .i64 lim, .nil0, .sl 0 0 0 0, .any, .imm b (rowsA c rs), .int .i64 rs.length, .int .i64 0, .any, .any], [.arr 1 0 []]⟩ =
      some (.ext 0, ⟨[.imm b (rowsA c rs), .imm false (ordsA os), .int .i64 lim, .nil0, .sl 0 rs.length 0 rs.length, .any, .imm b (rowsA c rs), .int .i64 rs.length, .int .i64 rs.length, .bool false, .any], [.arr 1 rs.length (rowsA false rs)]⟩) := by
  have := rounds_iter (base := 1) (clr := [5, 9]) (b := l_denote_sorted_0) (fun k => ⟨[.imm b (rowsA c rs), .imm false (ordsA os), .int .i64 lim, .nil0, .sl 0 k 0 k, .any, .imm b (rowsA c rs), .int .i64 rs.length, .int .i64 k, .any, .any], [.arr 1 k (rowsA false (rs.take k))]⟩) rs.length
    (.ext 0, ⟨[.imm b (rowsA c rs), .imm false (ordsA os), .int .i64 lim, .nil0, .sl 0 rs.length 0 rs.length, .any, .imm b (rowsA c rs), .int .i64 rs.length, .int .i64 rs.length, .bool false, .any], [.arr 1 rs.length (rowsA false rs)]⟩)
    (fun k hk => by
      have h1 := rowsA_get (b := c) hk
      have hlt : ((k : Int) < (rs.length : Int)) := by omega
      have h3 := acall_nil c_slices_Clone_api_Row_api_Value rfl c (rowA rs[k]) [.arr 1 k (rowsA false (rs.take k))]
      rw [clone_spec c rs[k] (hr _ (List.getElem_mem hk))] at h3
      have h4 : min k rs.length = k := by omega
      have h5 : k + 1 ≤ most := by omega
      have h6 := rowsA_succ hk
      have h9 : (rowsA false (rs.take k)).take k = rowsA false (rs.take k) := List.take_of_length_le (by simp; omega)
      have h8 := fun top base σ n => rowsA_fz (rs.take k) top base σ n
      have h10 := rowsA_freeze (rs.take k) 1
      have h11 := rowsA_nc (rs.take k) 1
      have h12 : (rowA rs[k]).take rs[k].length = rowA rs[k] := List.take_of_length_le (by simp)
      have h13 := rowA_nc rs[k]
      simp [l_denote_sorted_0, h1, hlt, h3, h4, h5, h6, h8, h9, h10, h11, h12, h13, append, wrap_lt hk hn, roundEnd, freezeObj])
    (by simp [l_denote_sorted_0])
  simpa [show rowsA false [] = [] from rfl] using this
end Go.AM
end
section

namespace Go.AM
open P
set_option maxHeartbeats 4000000
set_option maxRecDepth 4000
theorem sortC_length {α : Type} (c : α → α → Int) (l : List α) : (sortC c l).length = l.length := (sortC_perm l).length_eq
theorem rowsA_take (b : Bool) (rs : List (List Val)) (k : Nat) : (rowsA b rs).take k = rowsA b (rs.take k) := by simp [rowsA, List.map_take]
theorem dsorted_spec (b c : Bool) (os : List (Int × Bool)) (lim : Int) (rs : List (List Val)) (hn : rs.length ≤ most) (ho : os.length ≤ most) (hok : ∀ r ∈ rs, okR r = true ∧ hasO os r = true) :
    pcall I.denote_sorted [.imm b (rowsA c rs), .imm false (ordsA os), .int .i64 lim] = some (.imm false (rowsA false (cutC lim (sortC (byC os) rs)))) := by
  rw [pcall_eq c_denote_sorted rfl]
  have h1 := sortedLoop b c os lim rs hn fun r hr => by
    have := (hok r hr).1
    unfold okR at this
    simp at this
    unfold most; omega
  have h2 := by_fn os
  have h3 := sort_spec hn ho hok (σ := [.arr 1 rs.length (rowsA false rs)]) (id := 0) (ep := rs.length) rfl
  have h7 := sortC_length (byC os) rs
  have h8 := fun rs top base σ n => rowsA_fz rs top base σ n
  have h9 : (rowsA false (sortC (byC os) rs)).take rs.length = rowsA false (sortC (byC os) rs) := List.take_of_length_le (by simp [h7])
  unfold byF at h2 h3
  unfold cutC
  by_cases hl : 0 ≤ lim
  · by_cases hk : lim < rs.length
    · have i1 : lim.toNat ≤ rs.length := by omega
      simp [f_denote_sorted, b_denote_sorted, h1, h2, h3, hl, hk, h7, h8, i1, rowsA_take, rowsA_nc']
    · have h6 : (sortC (byC os) rs).take lim.toNat = sortC (byC os) rs := List.take_of_length_le (by omega)
      simp [f_denote_sorted, b_denote_sorted, h1, h2, h3, hl, hk, h7, h8, h9, h6, rowsA_nc']
  · simp [f_denote_sorted, b_denote_sorted, h1, h2, h3, hl, h7, h8, h9, rowsA_nc']
def goodS (os : List (Int × Bool)) (lim : Int) (rs : List (List Val)) : Bool := rs.all okR && decide (os.length ≤ 3) && decide (-1 ≤ lim) && rs.all (hasO os)
theorem Sort_spec (b c : Bool) (os : List (Int × Bool)) (lim : Int) (rs : List (List Val)) (hn : rs.length ≤ 8000) :
    pcall I.denote_Sort [.imm b (rowsA c rs), .imm false (ordsA os), .int .i64 lim] = some (.tup (if goodS os lim rs then [.imm false (rowsA false (cutC lim (sortC (byC os) rs))), .int .i64 0] else [.imm false [], .int .i64 2])) := by
  rw [pcall_eq c_denote_Sort rfl]
  have hm : rs.length ≤ most := by unfold most; omega
  have h1 := fun b => rights_spec b c rs hn
  unfold goodS
  cases hr : rs.all okR with
  | false =>
    rw [hr] at h1
    simp [f_denote_Sort, b_denote_Sort, h1]
  | true =>
    rw [hr] at h1
    by_cases ho : os.length ≤ 3
    · have io : ¬ ((3 : Int) < os.length) := by omega
      have hom : os.length ≤ most := by unfold most; omega
      by_cases hl : -1 ≤ lim
      · have il : ¬ (lim < -1) := by omega
        have hc := fun b => ContainsRow (b := b) (xs := rowsA c rs) (f := .fn 43 [] [.cptr true (.imm false (ordsA os)) 0]) (p := fun x => !hasO os (asRow x)) (by simpa using hm) (fun x hx => by
            obtain ⟨r, _, rfl⟩ := List.mem_map.1 hx
            exact ⟨rfl, rfl⟩) (by simp) (fun x hx => by
            obtain ⟨r, _, rfl⟩ := List.mem_map.1 hx
            have := Sort1_spec true c false os r hom
            cases c <;> simp [this])
        have e : ((rowsA c rs).any fun x => !hasO os (asRow x)) = !rs.all (hasO os) := by
          rw [← not_any_not, Bool.not_not, rowsA, List.any_map]
          simp [Function.comp_def]
        rw [e] at hc
        cases hh : rs.all (hasO os) with
        | false =>
          rw [hh] at hc
          simp [f_denote_Sort, b_denote_Sort, h1, io, il, hc, ho, hl]
        | true =>
          rw [hh] at hc
          have hs := fun b => dsorted_spec b c os lim rs hm hom fun r hx => ⟨List.all_eq_true.1 hr r hx, List.all_eq_true.1 hh r hx⟩
          simp [f_denote_Sort, b_denote_Sort, h1, io, il, hc, ho, hl, hs]
      · have il : lim < -1 := by omega
        simp [f_denote_Sort, b_denote_Sort, h1, io, il, ho, hl]
    · have io : ((3 : Int) < os.length) := by omega
      simp [f_denote_Sort, b_denote_Sort, h1, io, ho]
theorem eqa_self (v : Val) : eqa true [0, 0, 0, 2] v.a v.a = some (.bool false) := by simp [Val.a]
theorem Equal_self (b b' : Bool) (r : List Val) (hn : r.length ≤ most) : pcall I.slices_Equal_api_Row_api_Value [.imm b (rowA r), .imm b' (rowA r)] = some (.bool true) := by
  rw [pcall_eq c_slices_Equal_api_Row_api_Value rfl]
  have hloop := rounds_iter (base := 0) (clr := [2, 3, 7, 8]) (b := l_slices_Equal_api_Row_api_Value_0) (fun k => ⟨[.imm b (rowA r), .imm b' (rowA r), .any, .any, .bool false, .int .i64 r.length, .int .i64 k, .any, .any], []⟩) r.length
    (.ext 0, ⟨[.imm b (rowA r), .imm b' (rowA r), .any, .any, .bool false, .int .i64 r.length, .int .i64 r.length, .bool false, .any], []⟩)
    (fun k hk => by
      have h1 := rowA_get hk
      have hlt : ((k : Int) < (r.length : Int)) := by omega
      have h2 := eqa_self r[k]
      simp [l_slices_Equal_api_Row_api_Value_0, h1, hlt, -eqa, h2, wrap_lt hk hn, roundEnd_same])
    (by simp [l_slices_Equal_api_Row_api_Value_0])
  simp at hloop
  simp [f_slices_Equal_api_Row_api_Value, b_slices_Equal_api_Row_api_Value, hloop]
theorem equal_self (b b' : Bool) (r : List Val) (hn : r.length ≤ most) : pcall I.row_equal [.imm b (rowA r), .imm b' (rowA r)] = some (.bool true) := by
  rw [pcall_eq c_row_equal rfl]
  have := fun b b' => Equal_self b b' r hn
  simp [f_row_equal, b_row_equal, this]
theorem Same_self (b b' c c' : Bool) (rs : List (List Val)) (hn : rs.length ≤ most) (hr : ∀ r ∈ rs, r.length ≤ most) : pcall I.row_Same [.imm b (rowsA c rs), .imm b' (rowsA c' rs)] = some (.bool true) := by
  rw [pcall_eq c_row_Same rfl]
  have h : ∀ b b', pcall I.slices_EqualFunc_api_Row_api_Row_api_Row_api_Row [.imm b (rowsA c rs), .imm b' (rowsA c' rs), .fn 116 [] []] = some (.bool true) := fun b b' => by
    rw [pcall_eq c_slices_EqualFunc_api_Row_api_Row_api_Row_api_Row rfl]
    have hloop := rounds_iter (base := 0) (clr := [3, 4, 5, 6, 11, 12]) (b := l_slices_EqualFunc_api_Row_api_Row_api_Row_api_Row_0) (fun k => ⟨[.imm b (rowsA c rs), .imm b' (rowsA c' rs), .fn 116 [] [], .any, .any, .any, .any, .bool false, .imm b (rowsA c rs), .int .i64 rs.length, .int .i64 k, .any, .any], []⟩) rs.length
      (.ext 0, ⟨[.imm b (rowsA c rs), .imm b' (rowsA c' rs), .fn 116 [] [], .any, .any, .any, .any, .bool false, .imm b (rowsA c rs), .int .i64 rs.length, .int .i64 rs.length, .bool false, .any], []⟩)
      (fun k hk => by
        have h1 := rowsA_get (b := c) hk
        have h2 := rowsA_get (b := c') hk
        have h3 := fun b b' => equal_self b b' rs[k] (hr _ (List.getElem_mem hk))
        have hlt : ((k : Int) < (rs.length : Int)) := by omega
        simp [l_slices_EqualFunc_api_Row_api_Row_api_Row_api_Row_0, h1, h2, h3, hlt, wrap_lt hk hn, roundEnd_same])
      (by simp [l_slices_EqualFunc_api_Row_api_Row_api_Row_api_Row_0])
    simp at hloop
    simp [f_slices_EqualFunc_api_Row_api_Row_api_Row_api_Row, b_slices_EqualFunc_api_Row_api_Row_api_Row_api_Row, hloop]
  simp [f_row_Same, b_row_Same, h]
theorem alike_self (b b' c c' : Bool) (rs : List (List Val)) (hn : rs.length ≤ most) (hr : ∀ r ∈ rs, r.length ≤ most) : pcall I.blaw20_alike [.imm b (rowsA c rs), .imm b' (rowsA c' rs)] = some (.bool true) := by
  rw [pcall_eq c_blaw20_alike rfl]
  have := fun b b' => Same_self b b' c c' rs hn hr
  simp [f_blaw20_alike, b_blaw20_alike, this]
end Go.AM
end
section

namespace Go.AM
open P
set_option maxHeartbeats 4000000
set_option maxRecDepth 4000
def thenKeep (res : List Res) (r : Option (Ex × St)) : Option (AVal × Store) := r.bind fun r => match r.1 with
  | .ext _ => none
  | _ => (results r.2 res).map fun v => (v, r.2.st)
@[simp] theorem thenKeep_ret (res : List Res) (s : St) : thenKeep res (some (.ret, s)) = (results s res).map fun v => (v, s.st) := rfl
@[simp] theorem thenKeep_nrm (res : List Res) (s : St) : thenKeep res (some (.nrm, s)) = (results s res).map fun v => (v, s.st) := rfl
theorem acall_keep {f : Nat} {g : AFunc} (h : code.fns f = .fn g) (hm : g.mode = .keep) (args : List AVal) (σ : Store) :
    acall code f args σ = thenKeep g.res (run code g.body ⟨args.take g.np ++ List.replicate (g.nenv - g.np) .any, σ⟩) := by
  rw [acall_fn good h]
  have he : enter g args σ = ⟨args.take g.np ++ List.replicate (g.nenv - g.np) .any, σ⟩ := by unfold enter; rw [hm]
  rw [he]
  unfold thenKeep
  congr 1
  funext r
  obtain ⟨e, s⟩ := r
  unfold leave finish
  rw [hm]
  cases e <;> rfl
theorem min_take {α : Type} (l : List α) (n : Nat) : l.take (if n < l.length then n else l.length) = l.take n := by
  split
  · rfl
  · rw [List.take_length, List.take_of_length_le (by omega)]
theorem ordsA_fz (os : List (Int × Bool)) (fl top : Bool) (base : Nat) (σ : Store) (n : Nat) : (ordsA os).map (fz fl top base σ (n + 2)) = ordsA os := by
  unfold ordsA
  rw [List.map_map]
  exact List.map_congr_left fun o _ => by simp [ordA]
theorem ordsA_take (os : List (Int × Bool)) (k : Nat) : (ordsA os).take k = ordsA (os.take k) := by simp [ordsA, List.map_take]
theorem ordsA_nc (os : List (Int × Bool)) : ∀ a, a ∈ ordsA os → ncells a = 2 := fun a ha => by
  obtain ⟨o, _, rfl⟩ := List.mem_map.1 ha
  rfl
theorem ordsA_nc' (os : List (Int × Bool)) (fl top : Bool) (base : Nat) (σ : Store) (n : Nat) : (∀ a, a ∈ ordsA os → ncells (fz fl top base σ (n + 2) a) = ncells a) ↔ True :=
  ⟨fun _ => trivial, fun _ a ha => by
    obtain ⟨o, _, rfl⟩ := List.mem_map.1 ha
    simp [ordA]⟩
theorem cutOrd_spec (b : Bool) (os : List (Int × Bool)) : pcall I.blaw20_cut_api_Ord [.imm b (ordsA os), .int .i64 3] = some (.imm false (ordsA (os.take 3))) := by
  rw [pcall_eq c_blaw20_cut_api_Ord rfl]
  have hall := fun l => ordsA_nc l
  by_cases h : 3 < os.length
  · have hi : ((3 : Int) < os.length) := by omega
    have h1 : min 3 os.length = 3 := by omega
    have h2 : os.take 3 ≠ [] := List.ne_nil_of_length_pos (by simp; omega)
    have h3 : ordsA (os.take 3) ≠ [] := List.ne_nil_of_length_pos (by simp; omega)
    have h4 : (3 : Nat) ≤ os.length := by omega
    have h5 : (ordsA (os.take 3)).take 3 = ordsA (os.take 3) := List.take_of_length_le (by simp; omega)
    have h7 := fun a ha => hall os a ha
    have h8 := fun a ha => hall (os.take 3) a ha
    simp [f_blaw20_cut_api_Ord, b_blaw20_cut_api_Ord, hi, append, ordsA_take, h1, h2, h3, h4, h5, ordsA_fz, ordsA_nc', if_pos h7, if_pos h8, most]
  · have hi : ¬ ((3 : Int) < os.length) := by omega
    have h0 : os.take 3 = os := List.take_of_length_le (by omega)
    have h6 : os.take os.length = os := List.take_of_length_le (by omega)
    have h7 := fun a ha => hall os a ha
    rw [h0]
    by_cases he : os = []
    · subst he
      simp [f_blaw20_cut_api_Ord, b_blaw20_cut_api_Ord, append, ordsA]
    · have h3 : ordsA os ≠ [] := by simpa [ordsA] using he
      have h5 : (ordsA os).take os.length = ordsA os := List.take_of_length_le (by simp)
      have h9 : os.length ≤ most := by unfold most; omega
      simp [f_blaw20_cut_api_Ord, b_blaw20_cut_api_Ord, hi, append, ordsA_take, he, h3, h5, h6, ordsA_fz, ordsA_nc', if_pos h7, h9]
theorem rowA_take (r : List Val) (k : Nat) : (rowA r).take k = rowA (r.take k) := by simp [rowA, List.map_take]
theorem rowA_nc4 (r : List Val) : ∀ a, a ∈ rowA r → ncells a = 4 := fun a ha => by
  obtain ⟨o, _, rfl⟩ := List.mem_map.1 ha
  rfl
theorem cutVal_spec (b : Bool) (r : List Val) : pcall I.blaw20_cut_api_Value [.imm b (rowA r), .int .i64 17] = some (.frs 4 (rowA (r.take 17))) := by
  rw [pcall_eq c_blaw20_cut_api_Value rfl]
  by_cases h : 17 < r.length
  · have hi : ((17 : Int) < r.length) := by omega
    have h1 : min 17 r.length = 17 := by omega
    have h2 : r.take 17 ≠ [] := List.ne_nil_of_length_pos (by simp; omega)
    have h3 : rowA (r.take 17) ≠ [] := List.ne_nil_of_length_pos (by simp; omega)
    have h4 : (17 : Nat) ≤ r.length := by omega
    have h5 : (rowA (r.take 17)).take 17 = rowA (r.take 17) := List.take_of_length_le (by simp; omega)
    have h7 := fun a ha => rowA_nc4 r a ha
    have h8 := fun a ha => rowA_nc4 (r.take 17) a ha
    have hf := fresh_row (r.take 17) 0 1 [.arr 4 1 (rowA (r.take 17))] rfl
    rw [show (r.take 17).length = 17 by simp; omega] at hf
    simp [f_blaw20_cut_api_Value, b_blaw20_cut_api_Value, hi, append, rowA_take, h1, h2, h3, h4, h5, if_pos h7, if_pos h8, most, hf]
  · have hi : ¬ ((17 : Int) < r.length) := by omega
    have h0 : r.take 17 = r := List.take_of_length_le (by omega)
    have h6 : r.take r.length = r := List.take_of_length_le (by omega)
    have h7 := fun a ha => rowA_nc4 r a ha
    rw [h0]
    by_cases he : r = []
    · subst he
      simp [f_blaw20_cut_api_Value, b_blaw20_cut_api_Value, append, rowA, freshOf]
    · have h3 : rowA r ≠ [] := by simpa [rowA] using he
      have h5 : (rowA r).take r.length = rowA r := List.take_of_length_le (by simp)
      have h9 : r.length ≤ most := by unfold most; omega
      have hf := fresh_row r 0 1 [.arr 4 1 (rowA r)] rfl
      simp [f_blaw20_cut_api_Value, b_blaw20_cut_api_Value, hi, append, rowA_take, he, h3, h5, h6, if_pos h7, h9, hf]
theorem rowsA_nc1 (b : Bool) (rs : List (List Val)) : ∀ a, a ∈ rowsA b rs → ncells a = 1 := fun a ha => by
  obtain ⟨r, _, rfl⟩ := List.mem_map.1 ha
  rfl
theorem cutRow_spec (b c : Bool) (rs : List (List Val)) (σ : Store) : ∃ ep, acall code I.blaw20_cut_api_Row [.imm b (rowsA c rs), .int .i64 30] σ = some (.sl σ.length ep 0 (rs.take 30).length, σ ++ [.arr 1 ep (rowsA c (rs.take 30))]) := by
  rw [acall_keep c_blaw20_cut_api_Row rfl]
  by_cases h : 30 < rs.length
  · have hi : ((30 : Int) < rs.length) := by omega
    have h1 : min 30 rs.length = 30 := by omega
    have h2 : rs.take 30 ≠ [] := List.ne_nil_of_length_pos (by simp; omega)
    have h3 : rowsA c (rs.take 30) ≠ [] := List.ne_nil_of_length_pos (by simp; omega)
    have h4 : (30 : Nat) ≤ rs.length := by omega
    have h7 := fun a ha => rowsA_nc1 c rs a ha
    have h8 := fun a ha => rowsA_nc1 c (rs.take 30) a ha
    refine ⟨1, ?_⟩
    simp [f_blaw20_cut_api_Row, b_blaw20_cut_api_Row, hi, append, rowsA_take, h1, h2, h3, h4, if_pos h7, if_pos h8, most]
  · have hi : ¬ ((30 : Int) < rs.length) := by omega
    have h0 : rs.take 30 = rs := List.take_of_length_le (by omega)
    have h6 : rs.take rs.length = rs := List.take_of_length_le (by omega)
    have h7 := fun a ha => rowsA_nc1 c rs a ha
    rw [h0]
    by_cases he : rs = []
    · subst he
      refine ⟨0, ?_⟩
      simp [f_blaw20_cut_api_Row, b_blaw20_cut_api_Row, append, rowsA]
    · have h3 : rowsA c rs ≠ [] := by simpa [rowsA] using he
      have h9 : rs.length ≤ most := by unfold most; omega
      refine ⟨1, ?_⟩
      simp [f_blaw20_cut_api_Row, b_blaw20_cut_api_Row, hi, append, rowsA_take, he, h3, h6, if_pos h7, h9]
end Go.AM
end
section

namespace Go.AM
open P
set_option maxHeartbeats 4000000
set_option maxRecDepth 4000
def cutV (v : Val) : Val := { v with s := v.s.take 41 }
def ownR (r : List Val) : List Val := (r.take 17).map cutV
def midR (R : List Val) (i : Nat) : List Val := (R.take i).map cutV ++ R.drop i
theorem midR_zero (R : List Val) : midR R 0 = R := by simp [midR]
theorem midR_all (R : List Val) : midR R R.length = R.map cutV := by simp [midR]
theorem midR_length (R : List Val) (i : Nat) : (midR R i).length = R.length := by simp [midR]; omega
theorem midR_get {R : List Val} {i : Nat} (h : i < R.length) : (rowA (midR R i))[i]? = some R[i].a := by
  unfold midR rowA
  rw [List.map_append, List.getElem?_append_right (by simp; omega)]
  simp [show i - min i R.length = 0 by omega, h]
theorem midR_set {R : List Val} {i : Nat} (h : i < R.length) : (rowA (midR R i)).set i (cutV R[i]).a = rowA (midR R (i + 1)) := by
  have e1 : R.drop i = R[i] :: R.drop (i + 1) := List.drop_eq_getElem_cons h
  have e2 : R.take (i + 1) = R.take i ++ [R[i]] := List.take_succ_eq_append_getElem h
  unfold midR rowA
  rw [e1, e2]
  simp only [List.map_append, List.map_cons, List.map_nil]
  rw [List.set_append_right _ _ (by simp; omega)]
  simp [show i - min i R.length = 0 by omega]
theorem rows0 (e0 e1 e2 e3 e4 e7 e8 e9 e10 : AVal) (A B : Obj) (R : List Val) (hn : R.length ≤ most) :
    rounds code 3 [6, 13] l_blaw20_rows_0 ⟨[e0, e1, e2, e3, e4, .sl 2 0 0 R.length, .any, e7, e8, e9, e10, .int .i64 R.length, .int .i64 0, .any], [A, B, .arr 4 0 (rowA R)]⟩ =
      some (.ext 2, ⟨[e0, e1, e2, e3, e4, .sl 2 0 0 R.length, .any, e7, e8, e9, e10, .int .i64 R.length, .int .i64 R.length, .bool false], [A, B, .arr 4 0 (rowA (R.map cutV))]⟩) := by
  have := rounds_iter (base := 3) (clr := [6, 13]) (b := l_blaw20_rows_0) (fun i => ⟨[e0, e1, e2, e3, e4, .sl 2 0 0 R.length, .any, e7, e8, e9, e10, .int .i64 R.length, .int .i64 i, .any], [A, B, .arr 4 0 (rowA (midR R i))]⟩) R.length
    (.ext 2, ⟨[e0, e1, e2, e3, e4, .sl 2 0 0 R.length, .any, e7, e8, e9, e10, .int .i64 R.length, .int .i64 R.length, .bool false], [A, B, .arr 4 0 (rowA (R.map cutV))]⟩)
    (fun i hi => by
      have hlt : ((i : Int) < (R.length : Int)) := by omega
      have h1 := midR_get hi
      have h2 := midR_set hi
      unfold cutV Val.a at h2
      unfold Val.a at h1
      have h3 := midR_length R i
      simp only at h2
      by_cases hs : 41 < R[i].s.length
      · have is : ((41 : Int) < R[i].s.length) := by omega
        have is' : (41 : Nat) ≤ R[i].s.length := by omega
        simp [l_blaw20_rows_0, hlt, h1, h2, hi, is, is', wrap_lt hi hn, roundEnd_same]
      · have is : ¬ ((41 : Int) < R[i].s.length) := by omega
        rw [List.take_of_length_le (by omega)] at h2
        simp [l_blaw20_rows_0, hlt, h1, h2, hi, is, wrap_lt hi hn, roundEnd_same])
    (by simp [l_blaw20_rows_0, midR_all])
  simpa [midR_zero] using this
theorem rowsA_getE {b : Bool} {rs : List (List Val)} {k : Nat} (h : k < (rowsA b rs).length) : (rowsA b rs)[k] = .imm b (rowA (rs[k]'(by simpa using h))) := by simp [rowsA]
theorem rows1 (b c : Bool) (L : List AVal) (ep : Nat) (rs : List (List Val)) (hn : rs.length ≤ most) :
    rounds code 2 [4, 5, 6, 10, 11, 12, 13] l_blaw20_rows_1 ⟨[.imm b L, .int .i64 30, .nil0, .sl 0 0 0 0, .any, .any, .any, .sl 1 ep 0 rs.length, .int .i64 rs.length, .int .i64 0, .any, .any, .any, .any], [.arr 1 0 [], .arr 1 ep (rowsA true rs)]⟩ =
      some (.ext 0, ⟨[.imm b L, .int .i64 30, .nil0, .sl 0 rs.length 0 rs.length, .any, .any, .any, .sl 1 ep 0 rs.length, .int .i64 rs.length, .int .i64 rs.length, .bool false, .any, .any, .any], [.arr 1 rs.length (rowsA false (rs.map ownR)), .arr 1 ep (rowsA true rs)]⟩) := by
  have := rounds_iter (base := 2) (clr := [4, 5, 6, 10, 11, 12, 13]) (b := l_blaw20_rows_1) (fun k => ⟨[.imm b L, .int .i64 30, .nil0, .sl 0 k 0 k, .any, .any, .any, .sl 1 ep 0 rs.length, .int .i64 rs.length, .int .i64 k, .any, .any, .any, .any], [.arr 1 k (rowsA false ((rs.map ownR).take k)), .arr 1 ep (rowsA true rs)]⟩) rs.length
    (.ext 0, ⟨[.imm b L, .int .i64 30, .nil0, .sl 0 rs.length 0 rs.length, .any, .any, .any, .sl 1 ep 0 rs.length, .int .i64 rs.length, .int .i64 rs.length, .bool false, .any, .any, .any], [.arr 1 rs.length (rowsA false (rs.map ownR)), .arr 1 ep (rowsA true rs)]⟩)
    (fun k hk => by
      have h1 := rowsA_get (b := true) hk
      have hlt : ((k : Int) < (rs.length : Int)) := by omega
      have h3 := cutVal_spec true rs[k]
      have hk' : k < (rs.map ownR).length := by simpa using hk
      have h4 : min k rs.length = k := by omega
      have h5 : k + 1 ≤ most := by omega
      have h6 := rowsA_succ hk'
      have h6' : (rs.map ownR)[k] = ownR rs[k] := by simp
      rw [h6'] at h6
      have h9 : (rowsA false ((rs.map ownR).take k)).take k = rowsA false ((rs.map ownR).take k) := List.take_of_length_le (by simp; omega)
      have h8 := fun top base σ n => rowsA_fz ((rs.map ownR).take k) top base σ n
      have h10 := rowsA_freeze ((rs.map ownR).take k) 2
      have h11 := rowsA_nc ((rs.map ownR).take k) 2
      have h0 := fun e0 e1 e2 e3 e4 e7 e8 e9 e10 A B => rows0 e0 e1 e2 e3 e4 e7 e8 e9 e10 A B (rs[k].take 17) (by simp; unfold most; omega)
      have h12 : (rowA (ownR rs[k])).take (ownR rs[k]).length = rowA (ownR rs[k]) := List.take_of_length_le (by simp)
      have h13 := rowA_nc (ownR rs[k])
      have h14 : (rs[k].take 17).length = (ownR rs[k]).length := by simp [ownR]
      have h15 : ((rs[k].take 17).map cutV) = ownR rs[k] := rfl
      have h16 : ∀ base σ n, (rowsA true rs).map (fz false true base σ (n + 1)) = rowsA true rs := fun base σ n => by
        unfold rowsA
        rw [List.map_map]
        exact List.map_congr_left fun r _ => by simp
      have h17 : ∀ σ, (rowsA true rs).map (freeze 2 σ) = rowsA true rs := fun σ => h16 2 σ 19
      have h18 : ∀ (base : Nat) (σ : Store) (n : Nat), (∀ a, a ∈ rowsA true rs → ncells (fz false true base σ (n + 1) a) = ncells a) ↔ True := fun base σ n => ⟨fun _ => trivial, fun _ a ha => by
        obtain ⟨r, _, rfl⟩ := List.mem_map.1 ha
        simp⟩
      rw [h15] at h0
      generalize hR : rs[k].take 17 = R at *
      rw [h14] at h0
      simp [l_blaw20_rows_1, h1, rowsA_getE, hlt, hk, h3, h4, h5, h0, h6, h8, h9, h10, h11, h12, h13, h14, h16, h17, h18, append, wrap_lt hk hn, roundEnd, freezeObj])
    (by simp [l_blaw20_rows_1]; exact congrArg (rowsA false) (List.take_of_length_le (by simp)))
  simpa [show rowsA false [] = [] from rfl] using this
end Go.AM
end
section

namespace Go.AM
open P
set_option maxHeartbeats 8000000
set_option maxRecDepth 8000
def ownRs (rs : List (List Val)) : List (List Val) := (rs.take 30).map ownR
theorem rows_spec (b : Bool) (rs : List (List Val)) : pcall I.blaw20_rows [.imm b (rowsA true rs), .int .i64 30] = some (.imm false (rowsA false (ownRs rs))) := by
  rw [pcall_eq c_blaw20_rows rfl]
  obtain ⟨ep, hc⟩ := cutRow_spec b true rs [.arr 1 0 []]
  have hl := rows1 b true (rowsA true rs) ep (rs.take 30) (by simp; unfold most; omega)
  have h8 := fun rs top base σ n => rowsA_fz rs top base σ n
  have h9 : (rowsA false ((rs.take 30).map ownR)).take (rs.take 30).length = rowsA false ((rs.take 30).map ownR) := List.take_of_length_le (by simp)
  unfold ownRs
  generalize rs.take 30 = R at *
  simp at hc
  simp [f_blaw20_rows, b_blaw20_rows, hc, hl, h8, h9, rowsA_nc']
def partAt (rs : List (List Val)) (j : Nat) : Nat → List (List Val)
  | 0 => []
  | n + 1 => if n % 4 = j then partAt rs j n ++ (rs[n]?).toList else partAt rs j n
def splitS (rs : List (List Val)) (n : Nat) : Store :=
  [.arr 1 0 [.sl 2 (partAt rs 0 n).length 0 (partAt rs 0 n).length, .sl 3 (partAt rs 1 n).length 0 (partAt rs 1 n).length, .sl 4 (partAt rs 2 n).length 0 (partAt rs 2 n).length, .sl 5 (partAt rs 3 n).length 0 (partAt rs 3 n).length],
   .arr 1 (partAt rs 0 n).length (rowsA false (partAt rs 0 n)), .arr 1 (partAt rs 1 n).length (rowsA false (partAt rs 1 n)), .arr 1 (partAt rs 2 n).length (rowsA false (partAt rs 2 n)), .arr 1 (partAt rs 3 n).length (rowsA false (partAt rs 3 n))]
theorem partAt_same {rs : List (List Val)} {j n : Nat} (h : n % 4 ≠ j) : partAt rs j (n + 1) = partAt rs j n := by simp [partAt, h]
theorem partAt_next {rs : List (List Val)} {j n : Nat} (h : n % 4 = j) (hn : n < rs.length) : partAt rs j (n + 1) = partAt rs j n ++ [rs[n]] := by simp [partAt, h, hn]
theorem partAt_le (rs : List (List Val)) (j : Nat) : ∀ n, (partAt rs j n).length ≤ n
  | 0 => Nat.le_refl _
  | n + 1 => by
    have := partAt_le rs j n
    unfold partAt
    split
    · rw [List.length_append]
      have : (rs[n]?).toList.length ≤ 1 := by cases rs[n]? <;> simp
      omega
    · omega
theorem rowsA_snoc (b : Bool) (rs : List (List Val)) (r : List Val) : rowsA b (rs ++ [r]) = rowsA b rs ++ [.imm b (rowA r)] := by simp [rowsA]
theorem rowsA_takeAll (b : Bool) (rs : List (List Val)) : (rowsA b rs).take rs.length = rowsA b rs := List.take_of_length_le (by simp)
theorem splitStep (b : Bool) (rs : List (List Val)) (hn : rs.length ≤ 8000) (n : Nat) (hk : n < rs.length) :
    thenLoop 6 [4, 5, 6, 10, 11] l_blaw20_split_0 (run code l_blaw20_split_0 ⟨[.imm b (rowsA false rs), .nil0, .nil0, .sl 1 0 0 4, .any, .any, .any, .imm b (rowsA false rs), .int .i64 rs.length, .int .i64 n, .any, .any], .arr 1 0 [] :: splitS rs n⟩) =
      rounds code 6 [4, 5, 6, 10, 11] l_blaw20_split_0 ⟨[.imm b (rowsA false rs), .nil0, .nil0, .sl 1 0 0 4, .any, .any, .any, .imm b (rowsA false rs), .int .i64 rs.length, .int .i64 (n + 1 : Nat), .any, .any], .arr 1 0 [] :: splitS rs (n + 1)⟩ := by
  have hm : rs.length ≤ most := by unfold most; omega
  have h1 := rowsA_get (b := false) hk
  have hlt : ((n : Int) < (rs.length : Int)) := by omega
  have hw : IntKind.u64.wrap (n : Int) = n := by simp [IntKind.wrap, IntKind.bits, IntKind.signed]; omega
  have hb := fun j => Nat.le_trans (partAt_le rs j n) (Nat.le_of_lt hk)
  have hb' : ∀ j, (partAt rs j n).length + 1 ≤ most := fun j => by have := hb j; unfold most; omega
  have hT := fun rs => rowsA_takeAll false rs
  have hcase : n % 4 = 0 ∨ n % 4 = 1 ∨ n % 4 = 2 ∨ n % 4 = 3 := by omega
  unfold splitS
  rcases hcase with h | h | h | h
  · have hr : (n : Int).tmod 4 = 0 := by rw [Int.tmod_eq_emod_of_nonneg (by omega)]; omega
    rw [partAt_next h hk, partAt_same (j := 1) (by omega), partAt_same (j := 2) (by omega), partAt_same (j := 3) (by omega)]
    simp [l_blaw20_split_0, h1, rowsA_getE, hlt, hk, hw, hr, append, hb', hT, rowsA_snoc, wrap_lt hk hm, roundEnd_same]
  · have hr : (n : Int).tmod 4 = 1 := by rw [Int.tmod_eq_emod_of_nonneg (by omega)]; omega
    rw [partAt_next h hk, partAt_same (j := 0) (by omega), partAt_same (j := 2) (by omega), partAt_same (j := 3) (by omega)]
    simp [l_blaw20_split_0, h1, rowsA_getE, hlt, hk, hw, hr, append, hb', hT, rowsA_snoc, wrap_lt hk hm, roundEnd_same]
  · have hr : (n : Int).tmod 4 = 2 := by rw [Int.tmod_eq_emod_of_nonneg (by omega)]; omega
    rw [partAt_next h hk, partAt_same (j := 0) (by omega), partAt_same (j := 1) (by omega), partAt_same (j := 3) (by omega)]
    simp [l_blaw20_split_0, h1, rowsA_getE, hlt, hk, hw, hr, append, hb', hT, rowsA_snoc, wrap_lt hk hm, roundEnd_same]
  · have hr : (n : Int).tmod 4 = 3 := by rw [Int.tmod_eq_emod_of_nonneg (by omega)]; omega
    rw [partAt_next h hk, partAt_same (j := 0) (by omega), partAt_same (j := 1) (by omega), partAt_same (j := 2) (by omega)]
    simp [l_blaw20_split_0, h1, rowsA_getE, hlt, hk, hw, hr, append, hb', hT, rowsA_snoc, wrap_lt hk hm, roundEnd_same]
theorem splitLoop (b : Bool) (rs : List (List Val)) (hn : rs.length ≤ 8000) :
    rounds code 6 [4, 5, 6, 10, 11] l_blaw20_split_0 ⟨[.imm b (rowsA false rs), .nil0, .nil0, .sl 1 0 0 4, .any, .any, .any, .imm b (rowsA false rs), .int .i64 rs.length, .int .i64 0, .any, .any], .arr 1 0 [] :: splitS rs 0⟩ =
      some (.ext 0, ⟨[.imm b (rowsA false rs), .nil0, .nil0, .sl 1 0 0 4, .any, .any, .any, .imm b (rowsA false rs), .int .i64 rs.length, .int .i64 rs.length, .bool false, .any], .arr 1 0 [] :: splitS rs rs.length⟩) :=
  rounds_iter (base := 6) (clr := [4, 5, 6, 10, 11]) (b := l_blaw20_split_0) (fun n => ⟨[.imm b (rowsA false rs), .nil0, .nil0, .sl 1 0 0 4, .any, .any, .any, .imm b (rowsA false rs), .int .i64 rs.length, .int .i64 n, .any, .any], .arr 1 0 [] :: splitS rs n⟩) rs.length _
    (fun n hk => splitStep b rs hn n hk) (by simp [l_blaw20_split_0])
theorem split_spec (b : Bool) (rs : List (List Val)) (hn : rs.length ≤ 8000) :
    acall code I.blaw20_split [.imm b (rowsA false rs), .nil0] [.arr 1 0 []] = some (.sl 1 0 0 4, .arr 1 0 [] :: splitS rs rs.length) := by
  rw [acall_keep c_blaw20_split rfl]
  have h := splitLoop b rs hn
  have h0 : splitS rs 0 = [.arr 1 0 [.sl 2 0 0 0, .sl 3 0 0 0, .sl 4 0 0 0, .sl 5 0 0 0], .arr 1 0 [], .arr 1 0 [], .arr 1 0 [], .arr 1 0 []] := rfl
  rw [h0] at h
  generalize splitS rs rs.length = S at *
  have h4 : 4 ≤ most := by unfold most; omega
  simp [f_blaw20_split, b_blaw20_split, h, h4]
end Go.AM
end
