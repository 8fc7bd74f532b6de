/- exec.Goes: by the hash, whole. -/
import Derived.Test.YtkbcglkclodkaaaGreatDoorAm21
import Derived.Test.YtkbcglkclodkaaaGreatDoorAm19
set_option linter.unusedVariables false
set_option linter.unusedSimpArgs false
section
namespace Go.AM
open P
set_option maxRecDepth 8000
set_option maxHeartbeats 8000000
attribute [local simp] condRun_if when_if
def listX (p : List (List Val)) : AVal := .imm false (p.map rowX)
noncomputable def shufF (cols : List Int) (n : Nat) (rs : List (List Val)) : List (List (List Val)) := rs.foldl (shufG cols n) (List.replicate n [])
theorem fitR_ok {root : List Int} {r : List Val} (hl : root.length ≤ 16) (h : fitR root r = true) : okR r = true ∧ r.length = root.length := by
  unfold fitR at h
  simp only [Bool.and_eq_true, beq_iff_eq] at h
  obtain ⟨h1, h2⟩ := h
  refine ⟨?_, h1⟩
  unfold okR
  simp only [Bool.and_eq_true, decide_eq_true_eq]
  refine ⟨by omega, ?_⟩
  rw [List.all_eq_true]
  intro v hv
  obtain ⟨i, hi, rfl⟩ := List.mem_iff_getElem.1 hv
  have hz : (r[i], root[i]'(by omega)) ∈ r.zip root := by
    rw [List.mem_iff_getElem]
    exact ⟨i, by simp; omega, by simp⟩
  have := List.all_eq_true.1 h2 _ hz
  unfold fitV at this
  simp only [Bool.and_eq_true] at this
  exact this.1
theorem wrongC_in {root cols : List Int} (h : wrongC root cols = false) : ∀ c ∈ cols, 0 ≤ c ∧ c < root.length := by
  intro c hc
  unfold wrongC at h
  have := List.any_eq_false.1 h c hc
  simp at this
  omega
theorem goes_shuf (bn : Bool) (nodes : List LNX) (at' way : Int) (bc : Bool) (cols : List Int) (bl : Bool) (rs : List (List Val)) (n : Int) (hF : ∀ n ∈ nodes, NFit n) (hN : nodes.length ≤ m32) (K : List (List Int)) (hk : kindsF nodes = .inl K) (root : List Int) (hroot : K[K.length - 1]? = some root) (hcl : cols.length ≤ m32) (hw : GoesOk root cols way) (hrl : ∀ r ∈ rs, r.length ≤ most) (hn1 : ¬ n < 1) (hn8 : ¬ 8 < n) (hfl : fitL root rs = true) (hw1 : way = 1) (hbl : bl = false) :
    pcall I.exec_Goes [fragA bn nodes at' way bc cols, .imm bl (rs.map rowX), .int .i64 n] = some (.tup [.imm false ((shufF cols n.toNat rs).map listX), .int .i64 0]) := by
  rw [pcall_eq c_exec_Goes rfl]
  have h := fun bn => kinds18_spec bn nodes hF hN
  rw [hk] at h
  simp only [kindsA] at h
  obtain ⟨k1, k2, k3, k4⟩ := kindsF_le hk
  have w1 := w64 (n := (K.length : Int) - 1) (by omega) (by omega)
  have w2 : ((K.length : Int) - 1).toNat = K.length - 1 := by omega
  have w3 : (1 : Int) ≤ (K.length : Int) := by omega
  have w4 : K.length - 1 < K.length := by omega
  obtain ⟨hlt, hg⟩ := List.getElem?_eq_some_iff.1 hroot
  have hC := goes_wrong root cols bc (by exact Nat.le_trans hcl (by decide)) [.arr 4 0 [fragA bn nodes at' way bc cols], .arr 1 0 [immF root]] rfl
  simp [immF] at hC
  simp only [fragA] at *
  have hfit := fun bk => fitX_spec bl bk rs root hrl
  obtain ⟨a0, a1, a2, a3, a4⟩ := hw
  rw [a0] at hC
  rw [hfl] at hfit
  subst hbl
  obtain ⟨m, rfl⟩ : ∃ m : Nat, n = m := ⟨n.toNat, by omega⟩
  rcases a4 with ⟨a4, a5⟩ | ⟨a4, a5⟩
  · have hfl' := hfl
    unfold fitL at hfl'
    simp only [Bool.and_eq_true, decide_eq_true_eq] at hfl'
    have hrl16 : root.length ≤ 16 := k4 root (List.mem_of_getElem? hroot)
    have hwc := wrongC_in a0
    have hr : ∀ r ∈ rs, okR r = true ∧ hasC r cols = true := fun r hr => by
      obtain ⟨o1, o2⟩ := fitR_ok hrl16 (List.all_eq_true.1 hfl'.2 r hr)
      refine ⟨o1, ?_⟩
      unfold hasC
      simp only [Bool.and_eq_true, decide_eq_true_eq]
      refine ⟨by omega, ?_⟩
      rw [List.all_eq_true]
      intro c hc
      have := hwc c hc
      unfold inC
      simp; omega
    obtain ⟨hloop, hlen⟩ := goes_loop (.agg [.imm bn (nodes.map LNX.a), .int .i64 at', .int .i64 way, .imm bc (intC cols)]) (.imm bn (nodes.map LNX.a)) at' way bc cols (.arr 1 0 [immF root]) rs m (by omega) (by omega) K hr hfl'.1
    have hlift := lift_all (.arr 4 0 [.agg [.imm bn (nodes.map LNX.a), .int .i64 at', .int .i64 way, .imm bc (intC cols)]]) (.arr 1 0 [immF root]) m (by omega)
    have hmm : m ≤ most := by unfold most; omega
    show _ = some (AVal.tup [.imm false ((rs.foldl (shufG cols m) (List.replicate m [])).map listX), .int .i64 0])
    generalize rs.foldl (shufG cols m) (List.replicate m []) = Pt at hloop hlen ⊢
    have hb1 : ¬ ((m : Int) < 1) := hn1
    have hb8 : ¬ (8 < (m : Int)) := hn8
    have hfz := cellsP_fz (.arr 4 0 [.agg [.imm bn (nodes.map LNX.a), .int .i64 at', .int .i64 way, .imm bc (intC cols)]] :: .arr 1 0 [immF root] :: .arr 1 0 (cellsP 3 Pt) :: objsP Pt) 14 Pt 3 (fun i p hp => by
      have := objsP_get hp
      simpa using this)
    have htk : (cellsP 3 Pt).take m = cellsP 3 Pt := List.take_of_length_le (by simp [hlen])
    rw [Nat.add_comm 3 m] at hloop
    simp only [immF] at hlift hfz
    subst a4
    simp [gEnv, immF] at hloop
    simp [f_exec_Goes, b_exec_Goes, h, w1, w2, w3, w4, hg, hC, immF, a1, a5, hb1, hb8, hfit, hmm, liftV, -liftAll, hlift, hloop, hlen, htk]
    simp only [Nat.reduceAdd] at hfz
    rw [if_pos (fun a ha => by
      have h1 := List.mem_map_of_mem (f := fz false false 0 (.arr 4 0 [.agg [.imm bn (nodes.map LNX.a), .int .i64 at', .int .i64 1, .imm bc (intC cols)]] :: .arr 1 0 [.imm false (root.map (.int .i64))] :: .arr 1 0 (cellsP 3 Pt) :: objsP Pt) 18) ha
      rw [hfz] at h1
      obtain ⟨p, _, hp⟩ := List.mem_map.1 h1
      rw [← hp, cellsP_nc Pt 3 a ha]
      rfl), hfz]
    rfl
  · exact absurd hw1 a4
end Go.AM
end
section

namespace Go.AM
open P
set_option maxHeartbeats 4000000
set_option maxRecDepth 8000
theorem take_nil_len {α : Type} {l : List α} {n : Nat} (h : n < l.length) (h0 : n ≠ 0) : l.take n ≠ [] := List.ne_nil_of_length_pos (by simp; omega)
theorem cutLNode {α : Type} {enc : α → AVal} [Nc enc 12 true] (b : Bool) (l : List α) (n : Nat) (h0 : n ≠ 0) (hn : n ≤ 1000) (σ : Store) :
    ∃ ep, acall code I.blaw20_cut_api_LNode [.imm b (l.map enc), .int .i64 (n : Int)] σ = some (.sl σ.length ep 0 (l.take n).length, σ ++ [.arr 12 ep ((l.take n).map enc)]) := by
  rw [acall_keep c_blaw20_cut_api_LNode rfl]
  have hnc : ∀ (k : List α), ∀ a ∈ k.map enc, ncells a = 12 := fun k a ha => by
    obtain ⟨y, _, rfl⟩ := List.mem_map.1 ha
    exact Nc.nc y
  have hnx : ∀ x : α, ncells (enc x) = 12 := fun x => Nc.nc x
  have hng : ¬ ((n : Int) < 0) := by omega
  by_cases h : n < l.length
  · have hi : ((n : Int) < l.length) := by omega
    have h1 : min n l.length = n := by omega
    have h2 : l.take n ≠ [] := take_nil_len h h0
    have h4 : n ≤ l.length := by omega
    have h7 := hnc l
    have h8 := hnc (l.take n)
    have h9 : n ≤ most := by unfold most; omega
    have h10 : l ≠ [] := by intro e; simp [e] at h
    refine ⟨1, ?_⟩
    simp only [List.map_take] at h8
    simp [f_blaw20_cut_api_LNode, b_blaw20_cut_api_LNode, hi, hnx, hng, append, h0, h1, h2, h4, h9, h10, if_pos h7, if_pos h8]
  · have hi : ¬ ((n : Int) < l.length) := by omega
    have e0 : l.take n = l := List.take_of_length_le (by omega)
    have h7 := hnc l
    rw [e0]
    by_cases he : l = []
    · subst he
      refine ⟨0, ?_⟩
      simp [f_blaw20_cut_api_LNode, b_blaw20_cut_api_LNode, append, hnx, hng]
    · have h9 : l.length ≤ most := by unfold most; omega
      refine ⟨1, ?_⟩
      simp [f_blaw20_cut_api_LNode, b_blaw20_cut_api_LNode, hi, hnx, hng, append, he, if_pos h7, h9]
theorem cutAgg {α : Type} {enc : α → AVal} [Nc enc 2 true] (b : Bool) (l : List α) (n : Nat) (h0 : n ≠ 0) (hn : n ≤ 1000) (σ : Store) :
    ∃ ep, acall code I.blaw20_cut_api_Agg [.imm b (l.map enc), .int .i64 (n : Int)] σ = some (.sl σ.length ep 0 (l.take n).length, σ ++ [.arr 2 ep ((l.take n).map enc)]) := by
  rw [acall_keep c_blaw20_cut_api_Agg rfl]
  have hnc : ∀ (k : List α), ∀ a ∈ k.map enc, ncells a = 2 := fun k a ha => by
    obtain ⟨y, _, rfl⟩ := List.mem_map.1 ha
    exact Nc.nc y
  have hnx : ∀ x : α, ncells (enc x) = 2 := fun x => Nc.nc x
  have hng : ¬ ((n : Int) < 0) := by omega
  by_cases h : n < l.length
  · have hi : ((n : Int) < l.length) := by omega
    have h1 : min n l.length = n := by omega
    have h2 : l.take n ≠ [] := take_nil_len h h0
    have h4 : n ≤ l.length := by omega
    have h7 := hnc l
    have h8 := hnc (l.take n)
    have h9 : n ≤ most := by unfold most; omega
    have h10 : l ≠ [] := by intro e; simp [e] at h
    refine ⟨1, ?_⟩
    simp only [List.map_take] at h8
    simp [f_blaw20_cut_api_Agg, b_blaw20_cut_api_Agg, hi, hnx, hng, append, h0, h1, h2, h4, h9, h10, if_pos h7, if_pos h8]
  · have hi : ¬ ((n : Int) < l.length) := by omega
    have e0 : l.take n = l := List.take_of_length_le (by omega)
    have h7 := hnc l
    rw [e0]
    by_cases he : l = []
    · subst he
      refine ⟨0, ?_⟩
      simp [f_blaw20_cut_api_Agg, b_blaw20_cut_api_Agg, append, hnx, hng]
    · have h9 : l.length ≤ most := by unfold most; omega
      refine ⟨1, ?_⟩
      simp [f_blaw20_cut_api_Agg, b_blaw20_cut_api_Agg, hi, hnx, hng, append, he, if_pos h7, h9]
theorem cutExpr {α : Type} {enc : α → AVal} [Nc enc 1 true] (b : Bool) (l : List α) (n : Nat) (h0 : n ≠ 0) (hn : n ≤ 1000) (σ : Store) :
    ∃ ep, acall code I.blaw20_cut_api_Expr [.imm b (l.map enc), .int .i64 (n : Int)] σ = some (.sl σ.length ep 0 (l.take n).length, σ ++ [.arr 1 ep ((l.take n).map enc)]) := by
  rw [acall_keep c_blaw20_cut_api_Expr rfl]
  have hnc : ∀ (k : List α), ∀ a ∈ k.map enc, ncells a = 1 := fun k a ha => by
    obtain ⟨y, _, rfl⟩ := List.mem_map.1 ha
    exact Nc.nc y
  have hnx : ∀ x : α, ncells (enc x) = 1 := fun x => Nc.nc x
  have hng : ¬ ((n : Int) < 0) := by omega
  by_cases h : n < l.length
  · have hi : ((n : Int) < l.length) := by omega
    have h1 : min n l.length = n := by omega
    have h2 : l.take n ≠ [] := take_nil_len h h0
    have h4 : n ≤ l.length := by omega
    have h7 := hnc l
    have h8 := hnc (l.take n)
    have h9 : n ≤ most := by unfold most; omega
    have h10 : l ≠ [] := by intro e; simp [e] at h
    refine ⟨1, ?_⟩
    simp only [List.map_take] at h8
    simp [f_blaw20_cut_api_Expr, b_blaw20_cut_api_Expr, hi, hnx, hng, append, h0, h1, h2, h4, h9, h10, if_pos h7, if_pos h8]
  · have hi : ¬ ((n : Int) < l.length) := by omega
    have e0 : l.take n = l := List.take_of_length_le (by omega)
    have h7 := hnc l
    rw [e0]
    by_cases he : l = []
    · subst he
      refine ⟨0, ?_⟩
      simp [f_blaw20_cut_api_Expr, b_blaw20_cut_api_Expr, append, hnx, hng]
    · have h9 : l.length ≤ most := by unfold most; omega
      refine ⟨1, ?_⟩
      simp [f_blaw20_cut_api_Expr, b_blaw20_cut_api_Expr, hi, hnx, hng, append, he, if_pos h7, h9]
theorem cutRowN {α : Type} {enc : α → AVal} [Nc enc 1 false] (b : Bool) (l : List α) (n : Nat) (h0 : n ≠ 0) (hn : n ≤ 1000) (σ : Store) :
    ∃ ep, acall code I.blaw20_cut_api_Row [.imm b (l.map enc), .int .i64 (n : Int)] σ = some (.sl σ.length ep 0 (l.take n).length, σ ++ [.arr 1 ep ((l.take n).map enc)]) := by
  rw [acall_keep c_blaw20_cut_api_Row rfl]
  have hnc : ∀ (k : List α), ∀ a ∈ k.map enc, ncells a = 1 := fun k a ha => by
    obtain ⟨y, _, rfl⟩ := List.mem_map.1 ha
    exact Nc.nc y
  have hnx : ∀ x : α, ncells (enc x) = 1 := fun x => Nc.nc x
  have hng : ¬ ((n : Int) < 0) := by omega
  by_cases h : n < l.length
  · have hi : ((n : Int) < l.length) := by omega
    have h1 : min n l.length = n := by omega
    have h2 : l.take n ≠ [] := take_nil_len h h0
    have h4 : n ≤ l.length := by omega
    have h7 := hnc l
    have h8 := hnc (l.take n)
    have h9 : n ≤ most := by unfold most; omega
    have h10 : l ≠ [] := by intro e; simp [e] at h
    refine ⟨1, ?_⟩
    simp only [List.map_take] at h8
    simp [f_blaw20_cut_api_Row, b_blaw20_cut_api_Row, hi, hnx, hng, append, h0, h1, h2, h4, h9, h10, if_pos h7, if_pos h8]
  · have hi : ¬ ((n : Int) < l.length) := by omega
    have e0 : l.take n = l := List.take_of_length_le (by omega)
    have h7 := hnc l
    rw [e0]
    by_cases he : l = []
    · subst he
      refine ⟨0, ?_⟩
      simp [f_blaw20_cut_api_Row, b_blaw20_cut_api_Row, append, hnx, hng]
    · have h9 : l.length ≤ most := by unfold most; omega
      refine ⟨1, ?_⟩
      simp [f_blaw20_cut_api_Row, b_blaw20_cut_api_Row, hi, hnx, hng, append, he, if_pos h7, h9]
theorem cutInt {α : Type} {enc : α → AVal} [Nc enc 1 false] [Fx enc] (b : Bool) (l : List α) (n : Nat) (h0 : n ≠ 0) (hn : n ≤ 1000) :
    pcall I.blaw20_cut_int [.imm b (l.map enc), .int .i64 (n : Int)] = some (.imm false ((l.take n).map enc)) := by
  rw [pcall_eq c_blaw20_cut_int rfl]
  have hnc : ∀ (k : List α), ∀ a ∈ k.map enc, ncells a = 1 := fun k a ha => by
    obtain ⟨y, _, rfl⟩ := List.mem_map.1 ha
    exact Nc.nc y
  have hfx : ∀ (k : List α) fl top base σ m, ∀ a ∈ k.map enc, fz fl top base σ (m + 3) a = a := fun k fl top base σ m a ha => by
    obtain ⟨y, _, rfl⟩ := List.mem_map.1 ha
    exact Fx.fx fl top base σ m y
  have hfr := fun (k : List α) (σ : Store) (ep : Nat) (h : σ[0]? = some (.arr 1 ep (k.map enc))) => fresh_map (f := enc) (m := 1) k 0 ep σ h
  have hnx : ∀ x : α, ncells (enc x) = 1 := fun x => Nc.nc x
  have hng : ¬ ((n : Int) < 0) := by omega
  by_cases h : n < l.length
  · have hi : ((n : Int) < l.length) := by omega
    have h1 : min n l.length = n := by omega
    have h2 : l.take n ≠ [] := take_nil_len h h0
    have h4 : n ≤ l.length := by omega
    have h7 := hnc l
    have h8 := hnc (l.take n)
    have h9 : n ≤ most := by unfold most; omega
    have h10 : l ≠ [] := by intro e; simp [e] at h
    have h11 := hfr (l.take n) [.arr 1 1 ((l.take n).map enc)] 1 rfl
    have h12 := hfx (l.take n)
    have h13 : ((l.take n).map enc).take n = (l.take n).map enc := List.take_of_length_le (by simp; omega)
    rw [show (l.take n).length = n by simp; omega] at h11
    simp only [List.map_take] at h8 h11 h12 h13
    have h14 : ∀ top base σ m, List.map (fz false top base σ (m + 3)) (List.take n (List.map enc l)) = List.take n (List.map enc l) := fun top base σ m => by
      conv => rhs; rw [← List.map_id (List.take n (List.map enc l))]
      exact List.map_congr_left fun a ha => h12 false top base σ m a ha
    simp [f_blaw20_cut_int, b_blaw20_cut_int, hi, hnx, hng, append, h0, h1, h2, h4, h9, h10, if_pos h7, if_pos h8, h11, h13, h14]
    exact fun a ha => by rw [h12 _ _ _ _ 16 a ha]
  · have hi : ¬ ((n : Int) < l.length) := by omega
    have e0 : l.take n = l := List.take_of_length_le (by omega)
    have h7 := hnc l
    rw [e0]
    by_cases he : l = []
    · subst he
      have h11 := hfr [] [.arr 1 0 []] 0 rfl
      simp at h11
      simp [f_blaw20_cut_int, b_blaw20_cut_int, append, hnx, hng, h11]
    · have h9 : l.length ≤ most := by unfold most; omega
      have h11 := hfr l [.arr 1 1 (l.map enc)] 1 rfl
      simp [f_blaw20_cut_int, b_blaw20_cut_int, hi, hnx, hng, append, he, if_pos h7, h9, h11]
      exact fun a ha => by rw [hfx l _ _ _ _ 16 (enc a) (List.mem_map_of_mem ha), hnx]
theorem cutOrdN {α : Type} {enc : α → AVal} [Nc enc 2 true] [Fx enc] (b : Bool) (l : List α) (n : Nat) (h0 : n ≠ 0) (hn : n ≤ 1000) :
    pcall I.blaw20_cut_api_Ord [.imm b (l.map enc), .int .i64 (n : Int)] = some (.imm false ((l.take n).map enc)) := by
  rw [pcall_eq c_blaw20_cut_api_Ord rfl]
  have hnc : ∀ (k : List α), ∀ a ∈ k.map enc, ncells a = 2 := fun k a ha => by
    obtain ⟨y, _, rfl⟩ := List.mem_map.1 ha
    exact Nc.nc y
  have hfx : ∀ (k : List α) fl top base σ m, ∀ a ∈ k.map enc, fz fl top base σ (m + 3) a = a := fun k fl top base σ m a ha => by
    obtain ⟨y, _, rfl⟩ := List.mem_map.1 ha
    exact Fx.fx fl top base σ m y
  have hfr := fun (k : List α) (σ : Store) (ep : Nat) (h : σ[0]? = some (.arr 2 ep (k.map enc))) => fresh_map (f := enc) (m := 2) k 0 ep σ h
  have hnx : ∀ x : α, ncells (enc x) = 2 := fun x => Nc.nc x
  have hng : ¬ ((n : Int) < 0) := by omega
  by_cases h : n < l.length
  · have hi : ((n : Int) < l.length) := by omega
    have h1 : min n l.length = n := by omega
    have h2 : l.take n ≠ [] := take_nil_len h h0
    have h4 : n ≤ l.length := by omega
    have h7 := hnc l
    have h8 := hnc (l.take n)
    have h9 : n ≤ most := by unfold most; omega
    have h10 : l ≠ [] := by intro e; simp [e] at h
    have h11 := hfr (l.take n) [.arr 2 1 ((l.take n).map enc)] 1 rfl
    have h12 := hfx (l.take n)
    have h13 : ((l.take n).map enc).take n = (l.take n).map enc := List.take_of_length_le (by simp; omega)
    rw [show (l.take n).length = n by simp; omega] at h11
    simp only [List.map_take] at h8 h11 h12 h13
    have h14 : ∀ top base σ m, List.map (fz false top base σ (m + 3)) (List.take n (List.map enc l)) = List.take n (List.map enc l) := fun top base σ m => by
      conv => rhs; rw [← List.map_id (List.take n (List.map enc l))]
      exact List.map_congr_left fun a ha => h12 false top base σ m a ha
    simp [f_blaw20_cut_api_Ord, b_blaw20_cut_api_Ord, hi, hnx, hng, append, h0, h1, h2, h4, h9, h10, if_pos h7, if_pos h8, h11, h13, h14]
    exact fun a ha => by rw [h12 _ _ _ _ 16 a ha]
  · have hi : ¬ ((n : Int) < l.length) := by omega
    have e0 : l.take n = l := List.take_of_length_le (by omega)
    have h7 := hnc l
    rw [e0]
    by_cases he : l = []
    · subst he
      have h11 := hfr [] [.arr 2 0 []] 0 rfl
      simp at h11
      simp [f_blaw20_cut_api_Ord, b_blaw20_cut_api_Ord, append, hnx, hng, h11]
    · have h9 : l.length ≤ most := by unfold most; omega
      have h11 := hfr l [.arr 2 1 (l.map enc)] 1 rfl
      simp [f_blaw20_cut_api_Ord, b_blaw20_cut_api_Ord, hi, hnx, hng, append, he, if_pos h7, h9, h11]
      exact fun a ha => by rw [hfx l _ _ _ _ 16 (enc a) (List.mem_map_of_mem ha), hnx]
theorem cutENode {α : Type} {enc : α → AVal} [Nc enc 8 true] [Fx enc] (b : Bool) (l : List α) (n : Nat) (h0 : n ≠ 0) (hn : n ≤ 1000) :
    pcall I.blaw20_cut_api_ENode [.imm b (l.map enc), .int .i64 (n : Int)] = some (.frs 8 ((l.take n).map enc)) := by
  rw [pcall_eq c_blaw20_cut_api_ENode rfl]
  have hnc : ∀ (k : List α), ∀ a ∈ k.map enc, ncells a = 8 := fun k a ha => by
    obtain ⟨y, _, rfl⟩ := List.mem_map.1 ha
    exact Nc.nc y
  have hfx : ∀ (k : List α) fl top base σ m, ∀ a ∈ k.map enc, fz fl top base σ (m + 3) a = a := fun k fl top base σ m a ha => by
    obtain ⟨y, _, rfl⟩ := List.mem_map.1 ha
    exact Fx.fx fl top base σ m y
  have hfr := fun (k : List α) (σ : Store) (ep : Nat) (h : σ[0]? = some (.arr 8 ep (k.map enc))) => fresh_map (f := enc) (m := 8) k 0 ep σ h
  have hnx : ∀ x : α, ncells (enc x) = 8 := fun x => Nc.nc x
  have hng : ¬ ((n : Int) < 0) := by omega
  by_cases h : n < l.length
  · have hi : ((n : Int) < l.length) := by omega
    have h1 : min n l.length = n := by omega
    have h2 : l.take n ≠ [] := take_nil_len h h0
    have h4 : n ≤ l.length := by omega
    have h7 := hnc l
    have h8 := hnc (l.take n)
    have h9 : n ≤ most := by unfold most; omega
    have h10 : l ≠ [] := by intro e; simp [e] at h
    have h11 := hfr (l.take n) [.arr 8 1 ((l.take n).map enc)] 1 rfl
    have h12 := hfx (l.take n)
    have h13 : ((l.take n).map enc).take n = (l.take n).map enc := List.take_of_length_le (by simp; omega)
    rw [show (l.take n).length = n by simp; omega] at h11
    simp only [List.map_take] at h8 h11 h12 h13
    have h14 : ∀ top base σ m, List.map (fz false top base σ (m + 3)) (List.take n (List.map enc l)) = List.take n (List.map enc l) := fun top base σ m => by
      conv => rhs; rw [← List.map_id (List.take n (List.map enc l))]
      exact List.map_congr_left fun a ha => h12 false top base σ m a ha
    simp [f_blaw20_cut_api_ENode, b_blaw20_cut_api_ENode, hi, hnx, hng, append, h0, h1, h2, h4, h9, h10, if_pos h7, if_pos h8, h11, h13, h14]
  · have hi : ¬ ((n : Int) < l.length) := by omega
    have e0 : l.take n = l := List.take_of_length_le (by omega)
    have h7 := hnc l
    rw [e0]
    by_cases he : l = []
    · subst he
      have h11 := hfr [] [.arr 8 0 []] 0 rfl
      simp at h11
      simp [f_blaw20_cut_api_ENode, b_blaw20_cut_api_ENode, append, hnx, hng, h11]
    · have h9 : l.length ≤ most := by unfold most; omega
      have h11 := hfr l [.arr 8 1 (l.map enc)] 1 rfl
      simp [f_blaw20_cut_api_ENode, b_blaw20_cut_api_ENode, hi, hnx, hng, append, he, if_pos h7, h9, h11]
end Go.AM
end
section

namespace Go.AM
open P
set_option maxHeartbeats 4000000
set_option maxRecDepth 4000
def cutV (v : Val) : Val := { v with s := v.s.take 41 }
def ownR (r : List Val) : List Val := (r.take 17).map cutV
def midR (R : List Val) (i : Nat) : List Val := (R.take i).map cutV ++ R.drop i
theorem midR_zero (R : List Val) : midR R 0 = R := by simp [midR]
theorem midR_all (R : List Val) : midR R R.length = R.map cutV := by simp [midR]
theorem midR_length (R : List Val) (i : Nat) : (midR R i).length = R.length := by simp [midR]; omega
theorem midR_get {R : List Val} {i : Nat} (h : i < R.length) : (rowA (midR R i))[i]? = some R[i].a := by
  unfold midR rowA
  rw [List.map_append, List.getElem?_append_right (by simp; omega)]
  simp [show i - min i R.length = 0 by omega, h]
theorem midR_set {R : List Val} {i : Nat} (h : i < R.length) : (rowA (midR R i)).set i (cutV R[i]).a = rowA (midR R (i + 1)) := by
  have e1 : R.drop i = R[i] :: R.drop (i + 1) := List.drop_eq_getElem_cons h
  have e2 : R.take (i + 1) = R.take i ++ [R[i]] := List.take_succ_eq_append_getElem h
  unfold midR rowA
  rw [e1, e2]
  simp only [List.map_append, List.map_cons, List.map_nil]
  rw [List.set_append_right _ _ (by simp; omega)]
  simp [show i - min i R.length = 0 by omega]
theorem rows0 (e0 e1 e2 e3 e4 e7 e8 e9 e10 : AVal) (A B : Obj) (R : List Val) (hn : R.length ≤ most) :
    rounds code 3 [6, 13] l_blaw20_rows_0 ⟨[e0, e1, e2, e3, e4, .sl 2 0 0 R.length, .any, e7, e8, e9, e10, .int .i64 R.length, .int .i64 0, .any], [A, B, .arr 4 0 (rowA R)]⟩ =
      some (.ext 2, ⟨[e0, e1, e2, e3, e4, .sl 2 0 0 R.length, .any, e7, e8, e9, e10, .int .i64 R.length, .int .i64 R.length, .bool false], [A, B, .arr 4 0 (rowA (R.map cutV))]⟩) := by
  have := rounds_iter (base := 3) (clr := [6, 13]) (b := l_blaw20_rows_0) (fun i => ⟨[e0, e1, e2, e3, e4, .sl 2 0 0 R.length, .any, e7, e8, e9, e10, .int .i64 R.length, .int .i64 i, .any], [A, B, .arr 4 0 (rowA (midR R i))]⟩) R.length
    (.ext 2, ⟨[e0, e1, e2, e3, e4, .sl 2 0 0 R.length, .any, e7, e8, e9, e10, .int .i64 R.length, .int .i64 R.length, .bool false], [A, B, .arr 4 0 (rowA (R.map cutV))]⟩)
    (fun i hi => by
      have hlt : ((i : Int) < (R.length : Int)) := by omega
      have h1 := midR_get hi
      have h2 := midR_set hi
      unfold cutV Val.a at h2
      unfold Val.a at h1
      have h3 := midR_length R i
      simp only at h2
      by_cases hs : 41 < R[i].s.length
      · have is : ((41 : Int) < R[i].s.length) := by omega
        have is' : (41 : Nat) ≤ R[i].s.length := by omega
        simp [l_blaw20_rows_0, hlt, h1, h2, hi, is, is', wrap_lt hi hn, roundEnd_same]
      · have is : ¬ ((41 : Int) < R[i].s.length) := by omega
        rw [List.take_of_length_le (by omega)] at h2
        simp [l_blaw20_rows_0, hlt, h1, h2, hi, is, wrap_lt hi hn, roundEnd_same])
    (by simp [l_blaw20_rows_0, midR_all])
  simpa [midR_zero] using this
theorem rowsA_getE {b : Bool} {rs : List (List Val)} {k : Nat} (h : k < (rowsA b rs).length) : (rowsA b rs)[k] = .imm b (rowA (rs[k]'(by simpa using h))) := by simp [rowsA]
end Go.AM
end
section

namespace Go.AM
open P
set_option maxHeartbeats 8000000
set_option maxRecDepth 8000
attribute [local simp] condRun_if when_if
def mid {α : Type} (f : α → α) (l : List α) (i : Nat) : List α := (l.take i).map f ++ l.drop i
section
variable {α : Type} (f : α → α)
theorem mid_zero (l : List α) : mid f l 0 = l := by simp [mid]
theorem mid_all (l : List α) : mid f l l.length = l.map f := by simp [mid]
@[simp] theorem mid_length (l : List α) (i : Nat) : (mid f l i).length = l.length := by simp [mid]; omega
theorem mid_get {l : List α} {i : Nat} {y : α} (enc : α → AVal) (h : l[i]? = some y) : ((mid f l i).map enc)[i]? = some (enc y) := by
  obtain ⟨hl, hy⟩ := List.getElem?_eq_some_iff.1 h
  unfold mid
  rw [List.map_append, List.getElem?_append_right (by simp; omega)]
  simp [show i - min i l.length = 0 by omega, hl, hy]
theorem mid_set {l : List α} {i : Nat} {y : α} (enc : α → AVal) (h : l[i]? = some y) : ((mid f l i).map enc).set i (enc (f y)) = (mid f l (i + 1)).map enc := by
  obtain ⟨hl, hy⟩ := List.getElem?_eq_some_iff.1 h
  have e1 : l.drop i = y :: l.drop (i + 1) := by rw [← hy]; exact List.drop_eq_getElem_cons hl
  have e2 : l.take (i + 1) = l.take i ++ [y] := by rw [← hy]; exact List.take_succ_eq_append_getElem hl
  unfold mid
  rw [e1, e2]
  simp only [List.map_append, List.map_cons, List.map_nil]
  rw [List.set_append_right _ _ (by simp; omega)]
  simp [show i - min i l.length = 0 by omega]
end
def cutE (e : EN) : EN := { e with v := cutV e.v }
def shortE (l : List EN) : List EN := (l.take 60).map cutE
theorem short_loop (e0 : AVal) (A B : Obj) (R : List EN) (hn : R.length ≤ most) :
    rounds code 4 [4, 5, 8] l_blaw20_short_0 ⟨[e0, .ptr 0 0 0 0, .ptr 1 0 0 0, .ptr 3 0 0 0, .any, .any, .int .i64 R.length, .int .i64 0, .any], [A, B, .arr 8 0 (R.map EN.a), .arr 1 0 [.agg [.sl 2 0 0 R.length]]]⟩ =
      some (.ext 0, ⟨[e0, .ptr 0 0 0 0, .ptr 1 0 0 0, .ptr 3 0 0 0, .any, .any, .int .i64 R.length, .int .i64 R.length, .bool false], [A, B, .arr 8 0 ((R.map cutE).map EN.a), .arr 1 0 [.agg [.sl 2 0 0 R.length]]]⟩) := by
  have h := rounds_fold (base := 4) (clr := [4, 5, 8]) (b := l_blaw20_short_0) R (fun i (_ : Unit) => ⟨[e0, .ptr 0 0 0 0, .ptr 1 0 0 0, .ptr 3 0 0 0, .any, .any, .int .i64 R.length, .int .i64 i, .any], [A, B, .arr 8 0 ((mid cutE R i).map EN.a), .arr 1 0 [.agg [.sl 2 0 0 R.length]]]⟩)
    (fun _ _ => True) (fun _ _ => ()) (fun _ => (.ext 0, ⟨[e0, .ptr 0 0 0 0, .ptr 1 0 0 0, .ptr 3 0 0 0, .any, .any, .int .i64 R.length, .int .i64 R.length, .bool false], [A, B, .arr 8 0 ((R.map cutE).map EN.a), .arr 1 0 [.agg [.sl 2 0 0 R.length]]]⟩))
    (fun i y _ hi hy _ => by
      have hlt : ((i : Int) < (R.length : Int)) := by omega
      have h1 := mid_get cutE EN.a hy
      have h2 := mid_set cutE EN.a hy
      rw [← h2]
      obtain ⟨hlm, h1⟩ := List.getElem?_eq_some_iff.1 h1
      have hlm' : i < R.length := hi
      obtain ⟨t, l, r, c, ⟨k, n, u, s⟩⟩ := y
      generalize (mid cutE R i).map EN.a = M at *
      simp only [EN.a, cutE, cutV] at h1 ⊢
      refine ⟨?_, trivial⟩
      by_cases hs : 41 < s.length
      · have is : ((41 : Int) < (s.length : Int)) := by omega
        have is' : (41 : Nat) ≤ s.length := by omega
        simp [l_blaw20_short_0, hlt, h1, hlm, hlm', is, is', wrap_lt hi hn, roundEnd]
      · have is : ¬ ((41 : Int) < (s.length : Int)) := by omega
        have e3 : s.take 41 = s := List.take_of_length_le (by omega)
        simp [l_blaw20_short_0, hlt, h1, hlm, hlm', is, e3, wrap_lt hi hn, roundEnd])
    (fun _ _ => by simp [l_blaw20_short_0, mid_all]) () trivial
  have h := h.1
  rw [mid_zero] at h
  simpa using h
theorem short_spec (b : Bool) (l : List EN) : pcall I.blaw20_short [.agg [.imm b (l.map EN.a)]] = some (.agg [.imm false ((shortE l).map EN.a)]) := by
  rw [pcall_eq c_blaw20_short rfl]
  have hc := cutENode (enc := EN.a) b l 60 (by decide) (by decide)
  have hn : (l.take 60).length ≤ most := by simp; unfold most; omega
  unfold shortE
  generalize l.take 60 = R at hc hn ⊢
  have hl := fun A B e0 => short_loop e0 A B R hn
  have hlen : (R.map cutE).length = R.length := by simp
  generalize R.map cutE = R' at hl hlen ⊢
  have htk : List.take R.length (R'.map EN.a) = R'.map EN.a := by rw [← hlen]; exact take_map_all R' EN.a
  simp at hc hl
  simp [f_blaw20_short, b_blaw20_short, hc, hl, hlen, htk]
end Go.AM
end
section

namespace Go.AM
open P
set_option maxHeartbeats 16000000
set_option maxRecDepth 8000
attribute [local simp] condRun_if when_if
def agO (g : AggX) : AggX := ⟨g.tag, false, shortE g.arg⟩
def exO (e : ExX) : ExX := ⟨false, shortE e.l⟩
def ownN (n : LNX) : LNX := { n with bk := false, kinds := n.kinds.take 17, bc := false, cond := shortE n.cond, by' := false, keys := n.keys.take 6, bg := false, aggs := (n.aggs.take 14).map agO, bi := false, items := (n.items.take 17).map exO, bo := false, ords := n.ords.take 5 }
abbrev boxN (n : LNX) (ep2 m2 ep3 m3 : Nat) : Obj := .arr 12 0 [.agg [.int .i64 n.op, .int .i64 n.l, .int .i64 n.r, .int .i64 n.tab, .imm false ((n.kinds.take 17).map (.int .i64)), .bool n.left, .imm n.bc (n.cond.map EN.a), .imm false ((n.keys.take 6).map (.int .i64)), .sl 2 ep2 0 m2, .sl 3 ep3 0 m3, .imm false ((n.ords.take 5).map ordA), .int .i64 n.limit]]
theorem nodes_aggs (e0 e1 e2 e3 e4 e10 e11 e12 e13 e18 e19 e20 e21 : AVal) (h : ∀ x ∈ [e0, e1, e2, e3, e4, e10, e11, e12, e13, e18, e19, e20, e21], ∀ σ, fz false true 4 σ 20 x = x) (L : List LNX) (ep : Nat) (n : LNX) (ep2 ep3 : Nat) (G : List AggX) (I : List ExX) (hn : G.length ≤ most) :
    rounds code 4 [6, 7, 17] l_blaw20_nodes_1 ⟨[e0, e1, e2, e3, e4, .ptr 1 0 0 0, .any, .any, .any, .any, e10, e11, e12, e13, .sl 2 ep2 0 G.length, .int .i64 G.length, .int .i64 0, .any, e18, e19, e20, e21], [.arr 12 ep (L.map LNX.a), boxN n ep2 G.length ep3 I.length, .arr 2 ep2 (G.map AggX.a), .arr 1 ep3 (I.map ExX.a)]⟩ =
      some (.ext 2, ⟨[e0, e1, e2, e3, e4, .ptr 1 0 0 0, .any, .any, .any, .any, e10, e11, e12, e13, .sl 2 ep2 0 G.length, .int .i64 G.length, .int .i64 G.length, .bool false, e18, e19, e20, e21], [.arr 12 ep (L.map LNX.a), boxN n ep2 G.length ep3 I.length, .arr 2 ep2 ((G.map agO).map AggX.a), .arr 1 ep3 (I.map ExX.a)]⟩) := by
  have hk := rounds_fold (base := 4) (clr := [6, 7, 17]) (b := l_blaw20_nodes_1) G (fun i (_ : Unit) => ⟨[e0, e1, e2, e3, e4, .ptr 1 0 0 0, .any, .any, .any, .any, e10, e11, e12, e13, .sl 2 ep2 0 G.length, .int .i64 G.length, .int .i64 i, .any, e18, e19, e20, e21], [.arr 12 ep (L.map LNX.a), boxN n ep2 G.length ep3 I.length, .arr 2 ep2 ((mid agO G i).map AggX.a), .arr 1 ep3 (I.map ExX.a)]⟩)
    (fun _ _ => True) (fun _ _ => ()) (fun _ => (.ext 2, ⟨[e0, e1, e2, e3, e4, .ptr 1 0 0 0, .any, .any, .any, .any, e10, e11, e12, e13, .sl 2 ep2 0 G.length, .int .i64 G.length, .int .i64 G.length, .bool false, e18, e19, e20, e21], [.arr 12 ep (L.map LNX.a), boxN n ep2 G.length ep3 I.length, .arr 2 ep2 ((G.map agO).map AggX.a), .arr 1 ep3 (I.map ExX.a)]⟩))
    (fun i y _ hi hy _ => by
      have hlt : ((i : Int) < (G.length : Int)) := by omega
      have h1 := mid_get agO AggX.a hy
      have h2 := mid_set agO AggX.a hy
      obtain ⟨hlm, h1⟩ := List.getElem?_eq_some_iff.1 h1
      obtain ⟨t, bb, arg⟩ := y
      have hs := fun b => short_spec b arg
      simp at h
      refine ⟨?_, trivial⟩
      have hlm' : i < G.length := hi
      have hset : ∀ x, List.map (freeze 4 x) (List.map AggX.a (mid agO G (i + 1))) = List.map AggX.a (mid agO G (i + 1)) := fun x => by simp
      rw [← h2] at hset
      rw [← h2]
      generalize (mid agO G i).map AggX.a = M at *
      simp only [AggX.a, agO] at h1 hset ⊢
      simp [l_blaw20_nodes_1, hlt, h1, hlm, hlm', hs, wrap_lt hi hn, roundEnd, freezeObj, h, hset, boxN])
    (fun _ _ => by simp [l_blaw20_nodes_1, mid_all]) () trivial
  have hk := hk.1
  rw [mid_zero] at hk
  simpa using hk
theorem nodes_items (e0 e1 e2 e3 e4 e10 e11 e12 e13 e14 e15 e16 e17 : AVal) (h : ∀ x ∈ [e0, e1, e2, e3, e4, e10, e11, e12, e13, e14, e15, e16, e17], ∀ σ, fz false true 4 σ 20 x = x) (L : List LNX) (ep : Nat) (n : LNX) (ep2 ep3 : Nat) (G : List AggX) (I : List ExX) (hn : I.length ≤ most) :
    rounds code 4 [8, 9, 21] l_blaw20_nodes_0 ⟨[e0, e1, e2, e3, e4, .ptr 1 0 0 0, .any, .any, .any, .any, e10, e11, e12, e13, e14, e15, e16, e17, .sl 3 ep3 0 I.length, .int .i64 I.length, .int .i64 0, .any], [.arr 12 ep (L.map LNX.a), boxN n ep2 G.length ep3 I.length, .arr 2 ep2 (G.map AggX.a), .arr 1 ep3 (I.map ExX.a)]⟩ =
      some (.ext 4, ⟨[e0, e1, e2, e3, e4, .ptr 1 0 0 0, .any, .any, .any, .any, e10, e11, e12, e13, e14, e15, e16, e17, .sl 3 ep3 0 I.length, .int .i64 I.length, .int .i64 I.length, .bool false], [.arr 12 ep (L.map LNX.a), boxN n ep2 G.length ep3 I.length, .arr 2 ep2 (G.map AggX.a), .arr 1 ep3 ((I.map exO).map ExX.a)]⟩) := by
  have hk := rounds_fold (base := 4) (clr := [8, 9, 21]) (b := l_blaw20_nodes_0) I (fun i (_ : Unit) => ⟨[e0, e1, e2, e3, e4, .ptr 1 0 0 0, .any, .any, .any, .any, e10, e11, e12, e13, e14, e15, e16, e17, .sl 3 ep3 0 I.length, .int .i64 I.length, .int .i64 i, .any], [.arr 12 ep (L.map LNX.a), boxN n ep2 G.length ep3 I.length, .arr 2 ep2 (G.map AggX.a), .arr 1 ep3 ((mid exO I i).map ExX.a)]⟩)
    (fun _ _ => True) (fun _ _ => ()) (fun _ => (.ext 4, ⟨[e0, e1, e2, e3, e4, .ptr 1 0 0 0, .any, .any, .any, .any, e10, e11, e12, e13, e14, e15, e16, e17, .sl 3 ep3 0 I.length, .int .i64 I.length, .int .i64 I.length, .bool false], [.arr 12 ep (L.map LNX.a), boxN n ep2 G.length ep3 I.length, .arr 2 ep2 (G.map AggX.a), .arr 1 ep3 ((I.map exO).map ExX.a)]⟩))
    (fun i y _ hi hy _ => by
      have hlt : ((i : Int) < (I.length : Int)) := by omega
      have h1 := mid_get exO ExX.a hy
      have h2 := mid_set exO ExX.a hy
      obtain ⟨hlm, h1⟩ := List.getElem?_eq_some_iff.1 h1
      obtain ⟨bb, arg⟩ := y
      have hs := fun b => short_spec b arg
      simp at h
      refine ⟨?_, trivial⟩
      have hlm' : i < I.length := hi
      have hset : ∀ x, List.map (freeze 4 x) (List.map ExX.a (mid exO I (i + 1))) = List.map ExX.a (mid exO I (i + 1)) := fun x => by simp
      rw [← h2] at hset
      rw [← h2]
      generalize (mid exO I i).map ExX.a = M at *
      simp only [ExX.a, exO] at h1 hset ⊢
      simp [l_blaw20_nodes_0, hlt, h1, hlm, hlm', hs, wrap_lt hi hn, roundEnd, freezeObj, h, hset, boxN])
    (fun _ _ => by simp [l_blaw20_nodes_0, mid_all]) () trivial
  have hk := hk.1
  rw [mid_zero] at hk
  simpa using hk
theorem agO_fz (l : List AggX) (top : Bool) (base : Nat) (σ : Store) (m : Nat) : List.map (fz false top base σ (m + 3)) ((l.map agO).map AggX.a) = (l.map agO).map AggX.a := by
  rw [List.map_map, List.map_map, List.map_map]
  exact List.map_congr_left fun y _ => by simp [AggX.a, agO]
theorem exO_fz (l : List ExX) (top : Bool) (base : Nat) (σ : Store) (m : Nat) : List.map (fz false top base σ (m + 3)) ((l.map exO).map ExX.a) = (l.map exO).map ExX.a := by
  rw [List.map_map, List.map_map, List.map_map]
  exact List.map_congr_left fun y _ => by simp [ExX.a, exO]
theorem aggX_nc (g : AggX) (fl top : Bool) (base : Nat) (σ : Store) (m : Nat) : ncells (fz fl top base σ (m + 1) (AggX.a g)) = ncells (AggX.a g) := by simp [AggX.a]
theorem exX_nc (g : ExX) (fl top : Bool) (base : Nat) (σ : Store) (m : Nat) : ncells (fz fl top base σ (m + 1) (ExX.a g)) = ncells (ExX.a g) := by simp [ExX.a]
theorem nodes_round (b : Bool) (l : List LNX) (mo : Nat) (L : List LNX) (ep : Nat) (hL : L.length ≤ most) (i : Nat) (n : LNX) (hi : i < L.length) (hy : L[i]? = some n) :
    thenLoop 1 [4, 5, 6, 7, 8, 9, 13, 14, 15, 16, 17, 18, 19, 20, 21] l_blaw20_nodes_2 (run code l_blaw20_nodes_2 ⟨[.imm b (l.map LNX.a), .int .i64 (mo : Int), .nil0, .sl 0 ep 0 L.length, .any, .any, .any, .any, .any, .any, .sl 0 ep 0 L.length, .int .i64 L.length, .int .i64 i, .any, .any, .any, .any, .any, .any, .any, .any, .any], [.arr 12 ep ((mid ownN L i).map LNX.a)]⟩) =
    rounds code 1 [4, 5, 6, 7, 8, 9, 13, 14, 15, 16, 17, 18, 19, 20, 21] l_blaw20_nodes_2 ⟨[.imm b (l.map LNX.a), .int .i64 (mo : Int), .nil0, .sl 0 ep 0 L.length, .any, .any, .any, .any, .any, .any, .sl 0 ep 0 L.length, .int .i64 L.length, .int .i64 (i + 1 : Nat), .any, .any, .any, .any, .any, .any, .any, .any, .any], [.arr 12 ep ((mid ownN L (i + 1)).map LNX.a)]⟩ := by
  have hlt : ((i : Int) < (L.length : Int)) := by omega
  have h1 := mid_get ownN LNX.a hy
  have h2 := mid_set ownN LNX.a hy
  obtain ⟨hlm, h1⟩ := List.getElem?_eq_some_iff.1 h1
  have hck := cutInt (enc := .int .i64) n.bk n.kinds 17 (by decide) (by decide)
  have hcy := cutInt (enc := .int .i64) n.by' n.keys 6 (by decide) (by decide)
  have hco := cutOrdN (enc := ordA) n.bo n.ords 5 (by decide) (by decide)
  obtain ⟨ep2, hca⟩ := cutAgg (enc := AggX.a) n.bg n.aggs 14 (by decide) (by decide) [.arr 12 ep ((mid ownN L i).map LNX.a), .arr 12 0 [n.a]]
  obtain ⟨ep3, hci⟩ := cutExpr (enc := ExX.a) n.bi n.items 17 (by decide) (by decide) [.arr 12 ep ((mid ownN L i).map LNX.a), .arr 12 0 [n.a], .arr 2 ep2 ((n.aggs.take 14).map AggX.a)]
  have hl1 := nodes_aggs (.imm b (l.map LNX.a)) (.int .i64 (mo : Int)) .nil0 (.sl 0 ep 0 L.length) (.int .i64 i) (.sl 0 ep 0 L.length) (.int .i64 L.length) (.int .i64 i) (.bool true) .any .any .any .any (by simp) (mid ownN L i) ep n ep2 ep3 (n.aggs.take 14) (n.items.take 17) (by simp; unfold most; omega)
  have hl2 := nodes_items (.imm b (l.map LNX.a)) (.int .i64 (mo : Int)) .nil0 (.sl 0 ep 0 L.length) (.int .i64 i) (.sl 0 ep 0 L.length) (.int .i64 L.length) (.int .i64 i) (.bool true) (.sl 2 ep2 0 (n.aggs.take 14).length) (.int .i64 (n.aggs.take 14).length) (.int .i64 (n.aggs.take 14).length) (.bool false) (by simp) (mid ownN L i) ep n ep2 ep3 ((n.aggs.take 14).map agO) (n.items.take 17) (by simp; unfold most; omega)
  have hs := short_spec n.bc n.cond
  have hfa := agO_fz (n.aggs.take 14)
  have hfi := exO_fz (n.items.take 17)
  have hla : ((n.aggs.take 14).map agO).length = (n.aggs.take 14).length := by simp
  have hli : ((n.items.take 17).map exO).length = (n.items.take 17).length := by simp
  have hM : ∀ σ, List.map (freeze 1 σ) ((mid ownN L i).map LNX.a) = (mid ownN L i).map LNX.a := fun σ => by simp
  rw [← h2]
  have hown : (ownN n).a = .agg [.int .i64 n.op, .int .i64 n.l, .int .i64 n.r, .int .i64 n.tab, .imm false ((n.kinds.take 17).map (.int .i64)), .bool n.left, .imm false ((shortE n.cond).map EN.a), .imm false ((n.keys.take 6).map (.int .i64)), .imm false (((n.aggs.take 14).map agO).map AggX.a), .imm false (((n.items.take 17).map exO).map ExX.a), .imm false ((n.ords.take 5).map ordA), .int .i64 n.limit] := rfl
  rw [hown]
  generalize (n.aggs.take 14).map agO = G' at *
  generalize (n.items.take 17).map exO = I' at *
  generalize (mid ownN L i).map LNX.a = M at *
  have htG : List.take (n.aggs.take 14).length (G'.map AggX.a) = G'.map AggX.a := by rw [← hla]; exact take_map_all G' AggX.a
  have htI : List.take (n.items.take 17).length (I'.map ExX.a) = I'.map ExX.a := by rw [← hli]; exact take_map_all I' ExX.a
  rw [hla] at hl2
  simp only [LNX.a] at h1 hca hci
  simp [boxN, -List.length_take] at hck hcy hco hca hci hl1 hl2
  simp [l_blaw20_nodes_2, hlt, h1, hlm, hi, hck, hcy, hco, hca, hci, hl1, hl2, hs, wrap_lt hi hL, roundEnd, freezeObj, hM, hfa, hfi, hla, hli, htG, htI, aggX_nc, exX_nc, -List.length_take]
end Go.AM
end
section

namespace Go.AM
open P
set_option maxHeartbeats 8000000
set_option maxRecDepth 8000
attribute [local simp] condRun_if when_if
theorem ownN_fz (l : List LNX) (fl top : Bool) (base : Nat) (σ : Store) (m : Nat) : List.map (fz fl top base σ (m + 3)) ((l.map ownN).map LNX.a) = (l.map ownN).map LNX.a := by
  rw [List.map_map, List.map_map, List.map_map]
  exact List.map_congr_left fun y _ => by simp [LNX.a, ownN]
theorem lnx_nc (g : LNX) (fl top : Bool) (base : Nat) (σ : Store) (m : Nat) : ncells (fz fl top base σ (m + 1) (LNX.a g)) = ncells (LNX.a g) := by simp [LNX.a]
theorem nodes_spec (b : Bool) (l : List LNX) (mo : Nat) (h0 : mo ≠ 0) (hm : mo ≤ 1000) : pcall I.blaw20_nodes [.imm b (l.map LNX.a), .int .i64 (mo : Int)] = some (.imm false (((l.take mo).map ownN).map LNX.a)) := by
  rw [pcall_eq c_blaw20_nodes rfl]
  obtain ⟨ep, hc⟩ := cutLNode (enc := LNX.a) b l mo h0 hm []
  have hL : (l.take mo).length ≤ most := by simp; unfold most; omega
  generalize l.take mo = L at hc hL ⊢
  have h := rounds_fold (base := 1) (clr := [4, 5, 6, 7, 8, 9, 13, 14, 15, 16, 17, 18, 19, 20, 21]) (b := l_blaw20_nodes_2) L (fun i (_ : Unit) => ⟨[.imm b (l.map LNX.a), .int .i64 (mo : Int), .nil0, .sl 0 ep 0 L.length, .any, .any, .any, .any, .any, .any, .sl 0 ep 0 L.length, .int .i64 L.length, .int .i64 i, .any, .any, .any, .any, .any, .any, .any, .any, .any], [.arr 12 ep ((mid ownN L i).map LNX.a)]⟩)
    (fun _ _ => True) (fun _ _ => ()) (fun _ => (.ext 0, ⟨[.imm b (l.map LNX.a), .int .i64 (mo : Int), .nil0, .sl 0 ep 0 L.length, .any, .any, .any, .any, .any, .any, .sl 0 ep 0 L.length, .int .i64 L.length, .int .i64 L.length, .bool false, .any, .any, .any, .any, .any, .any, .any, .any], [.arr 12 ep ((L.map ownN).map LNX.a)]⟩))
    (fun i n _ hi hy _ => ⟨nodes_round b l mo L ep hL i n hi hy, trivial⟩)
    (fun _ _ => by simp [l_blaw20_nodes_2, mid_all]) () trivial
  have h := h.1
  rw [mid_zero] at h
  have hfz := ownN_fz L
  have hlen : (L.map ownN).length = L.length := by simp
  generalize L.map ownN = L' at *
  have htk : List.take L.length (L'.map LNX.a) = L'.map LNX.a := by rw [← hlen]; exact take_map_all L' LNX.a
  simp at hc h
  simp [f_blaw20_nodes, b_blaw20_nodes, hc, h, hlen, htk, hfz, lnx_nc]
theorem frag_spec (bn : Bool) (nodes : List LNX) (at' way : Int) (bc : Bool) (cols : List Int) : pcall I.blaw20_frag [fragA bn nodes at' way bc cols, .int .i64 12] = some (fragA false ((nodes.take 12).map ownN) at' way false (cols.take 17)) := by
  rw [pcall_eq c_blaw20_frag rfl]
  have h1 := nodes_spec bn nodes 12 (by decide) (by decide)
  have h2 := cutInt (enc := .int .i64) bc cols 17 (by decide) (by decide)
  have hfz := ownN_fz (nodes.take 12)
  generalize (nodes.take 12).map ownN = L at *
  simp at h1 h2
  simp [f_blaw20_frag, b_blaw20_frag, fragA, h1, h2, hfz, lnx_nc]
end Go.AM
end
section

namespace Go.AM
open P
set_option maxHeartbeats 8000000
set_option maxRecDepth 8000
instance : Nc (fun r => AVal.imm true (rowA r)) 1 false := ⟨fun _ => rfl, fun _ => rfl⟩
theorem rows1N (mo : Int) (b c : Bool) (L : List AVal) (ep : Nat) (rs : List (List Val)) (hn : rs.length ≤ most) :
    rounds code 2 [4, 5, 6, 10, 11, 12, 13] l_blaw20_rows_1 ⟨[.imm b L, .int .i64 mo, .nil0, .sl 0 0 0 0, .any, .any, .any, .sl 1 ep 0 rs.length, .int .i64 rs.length, .int .i64 0, .any, .any, .any, .any], [.arr 1 0 [], .arr 1 ep (rowsA true rs)]⟩ =
      some (.ext 0, ⟨[.imm b L, .int .i64 mo, .nil0, .sl 0 rs.length 0 rs.length, .any, .any, .any, .sl 1 ep 0 rs.length, .int .i64 rs.length, .int .i64 rs.length, .bool false, .any, .any, .any], [.arr 1 rs.length (rowsA false (rs.map ownR)), .arr 1 ep (rowsA true rs)]⟩) := by
  have := rounds_iter (base := 2) (clr := [4, 5, 6, 10, 11, 12, 13]) (b := l_blaw20_rows_1) (fun k => ⟨[.imm b L, .int .i64 mo, .nil0, .sl 0 k 0 k, .any, .any, .any, .sl 1 ep 0 rs.length, .int .i64 rs.length, .int .i64 k, .any, .any, .any, .any], [.arr 1 k (rowsA false ((rs.map ownR).take k)), .arr 1 ep (rowsA true rs)]⟩) rs.length
    (.ext 0, ⟨[.imm b L, .int .i64 mo, .nil0, .sl 0 rs.length 0 rs.length, .any, .any, .any, .sl 1 ep 0 rs.length, .int .i64 rs.length, .int .i64 rs.length, .bool false, .any, .any, .any], [.arr 1 rs.length (rowsA false (rs.map ownR)), .arr 1 ep (rowsA true rs)]⟩)
    (fun k hk => by
      have h1 := rowsA_get (b := true) hk
      have hlt : ((k : Int) < (rs.length : Int)) := by omega
      have h3 := cutVal_spec true rs[k]
      have hk' : k < (rs.map ownR).length := by simpa using hk
      have h4 : min k rs.length = k := by omega
      have h5 : k + 1 ≤ most := by omega
      have h6 := rowsA_succ hk'
      have h6' : (rs.map ownR)[k] = ownR rs[k] := by simp
      rw [h6'] at h6
      have h9 : (rowsA false ((rs.map ownR).take k)).take k = rowsA false ((rs.map ownR).take k) := List.take_of_length_le (by simp; omega)
      have h8 := fun top base σ n => rowsA_fz ((rs.map ownR).take k) top base σ n
      have h10 := rowsA_freeze ((rs.map ownR).take k) 2
      have h11 := rowsA_nc ((rs.map ownR).take k) 2
      have h0 := fun e0 e1 e2 e3 e4 e7 e8 e9 e10 A B => rows0 e0 e1 e2 e3 e4 e7 e8 e9 e10 A B (rs[k].take 17) (by simp; unfold most; omega)
      have h12 : (rowA (ownR rs[k])).take (ownR rs[k]).length = rowA (ownR rs[k]) := List.take_of_length_le (by simp)
      have h13 := rowA_nc (ownR rs[k])
      have h14 : (rs[k].take 17).length = (ownR rs[k]).length := by simp [ownR]
      have h15 : ((rs[k].take 17).map cutV) = ownR rs[k] := rfl
      have h16 : ∀ base σ n, (rowsA true rs).map (fz false true base σ (n + 1)) = rowsA true rs := fun base σ n => by
        unfold rowsA
        rw [List.map_map]
        exact List.map_congr_left fun r _ => by simp
      have h17 : ∀ σ, (rowsA true rs).map (freeze 2 σ) = rowsA true rs := fun σ => h16 2 σ 19
      have h18 : ∀ (base : Nat) (σ : Store) (n : Nat), (∀ a, a ∈ rowsA true rs → ncells (fz false true base σ (n + 1) a) = ncells a) ↔ True := fun base σ n => ⟨fun _ => trivial, fun _ a ha => by
        obtain ⟨r, _, rfl⟩ := List.mem_map.1 ha
        simp⟩
      rw [h15] at h0
      generalize hR : rs[k].take 17 = R at *
      rw [h14] at h0
      simp [l_blaw20_rows_1, h1, rowsA_getE, hlt, hk, h3, h4, h5, h0, h6, h8, h9, h10, h11, h12, h13, h14, h16, h17, h18, append, wrap_lt hk hn, roundEnd, freezeObj])
    (by simp [l_blaw20_rows_1]; exact congrArg (rowsA false) (List.take_of_length_le (by simp)))
  simpa [show rowsA false [] = [] from rfl] using this
theorem rowsN_spec (mo : Nat) (h0 : mo ≠ 0) (hm : mo ≤ 1000) (b : Bool) (rs : List (List Val)) : pcall I.blaw20_rows [.imm b (rowsA true rs), .int .i64 (mo : Int)] = some (.imm false (rowsA false (((rs.take mo).map ownR)))) := by
  rw [pcall_eq c_blaw20_rows rfl]
  obtain ⟨ep, hc⟩ := cutRowN (enc := fun r => .imm true (rowA r)) b rs mo h0 hm [.arr 1 0 []]
  change acall code I.blaw20_cut_api_Row [.imm b (rowsA true rs), .int .i64 (mo : Int)] _ = some (_, [.arr 1 0 []] ++ [.arr 1 ep (rowsA true (rs.take mo))]) at hc
  have hl := rows1N mo b true (rowsA true rs) ep (rs.take mo) (by simp; unfold most; omega)
  have h8 := fun rs top base σ n => rowsA_fz rs top base σ n
  have h9 : (rowsA false ((rs.take mo).map ownR)).take (rs.take mo).length = rowsA false ((rs.take mo).map ownR) := List.take_of_length_le (by simp)
  skip
  generalize rs.take mo = R at *
  simp at hc
  simp [f_blaw20_rows, b_blaw20_rows, hc, hl, h8, h9, rowsA_nc']
theorem rowsX_spec (mo : Nat) (h0 : mo ≠ 0) (hm : mo ≤ 1000) (b : Bool) (rs : List (List Val)) : pcall I.blaw20_rows [.imm b (rowsA true rs), .int .i64 (mo : Int)] = some (.imm false (((rs.take mo).map ownR).map rowX)) := rowsN_spec mo h0 hm b rs
end Go.AM
end

namespace Go.AM
theorem set_flat {α : Type} : ∀ (P : List (List α)) (j : Nat) (p : List α) (x : α), P[j]? = some p → ((P.set j (p ++ [x])).flatten).Perm (P.flatten ++ [x])
  | [], j, p, x, h => by simp at h
  | q :: r, 0, p, x, h => by
    simp at h
    subst h
    simp only [List.set_cons_zero, List.flatten_cons]
    rw [List.append_assoc, List.append_assoc]
    exact (List.Perm.refl q).append List.perm_append_comm
  | q :: r, j + 1, p, x, h => by
    simp only [List.set_cons_succ, List.flatten_cons, List.append_assoc]
    exact (List.Perm.refl q).append (set_flat r j p x (by simpa using h))
theorem shuf_inv (cols : List Int) (n : Nat) (hn : 1 ≤ n) : ∀ (rs : List (List Val)) (P : List (List (List Val))), P.length = n → (∀ i p, P[i]? = some p → ∀ r ∈ p, atH cols n r = i) →
    (rs.foldl (shufG cols n) P).length = n ∧ (∀ i p, (rs.foldl (shufG cols n) P)[i]? = some p → ∀ r ∈ p, atH cols n r = i) ∧ ((rs.foldl (shufG cols n) P).flatten).Perm (P.flatten ++ rs)
  | [], P, h1, h2 => ⟨h1, h2, by simp⟩
  | r :: rs, P, h1, h2 => by
    have hj : atH cols n r < P.length := by rw [h1]; exact Nat.mod_lt _ hn
    have hp : P[atH cols n r]? = some (P.getD (atH cols n r) []) := by rw [List.getD_eq_getElem?_getD, List.getElem?_eq_getElem hj]; rfl
    have ih := shuf_inv cols n hn rs (shufG cols n P r) (by simpa [shufG] using h1) (fun i p hi q hq => by
      unfold shufG at hi
      rw [List.getElem?_set] at hi
      split at hi
      · rename_i he
        cases hi
        rcases List.mem_append.1 hq with h | h
        · rw [← he]; exact h2 _ _ hp q h
        · rw [List.mem_singleton.1 h, he]
      · exact h2 i p hi q hq)
    refine ⟨ih.1, ih.2.1, ih.2.2.trans ?_⟩
    have := set_flat P (atH cols n r) _ r hp
    rw [show P.flatten ++ r :: rs = (P.flatten ++ [r]) ++ rs by simp]
    exact this.append_right rs
theorem shufF_spec (cols : List Int) (n : Nat) (hn : 1 ≤ n) (rs : List (List Val)) : (shufF cols n rs).length = n ∧ (∀ i p, (shufF cols n rs)[i]? = some p → ∀ r ∈ p, atH cols n r = i) ∧ ((shufF cols n rs).flatten).Perm rs := by
  have h := shuf_inv cols n hn rs (List.replicate n []) (by simp) (fun i p hi r hr => by
    rw [List.getElem?_replicate] at hi
    split at hi
    · cases hi; cases hr
    · cases hi)
  refine ⟨h.1, h.2.1, h.2.2.trans ?_⟩
  rw [show (List.replicate n ([] : List (List Val))).flatten = [] by simp]
  simp
def seenA (n : Nat) (hs : List Int) : List (AVal × AVal) := hs.map fun h => (.int .u32 h, .int .i64 ((h.toNat % n : Nat) : Int))
theorem seen_look (n : Nat) (h : Int) : ∀ hs : List Int, lookup (.int .u32 h) (seenA n hs) = some (if h ∈ hs then some (.int .i64 ((h.toNat % n : Nat) : Int)) else none)
  | [] => rfl
  | x :: r => by
    have ih := seen_look n h r
    unfold seenA at ih ⊢
    simp only [List.map_cons, lookup, keyIs, if_true]
    by_cases e : x = h
    · subst e; simp
    · rw [beq_f e]
      simp only
      rw [ih]
      simp [Ne.symm e]
theorem seen_put (n : Nat) (h : Int) : ∀ hs : List Int, mput (.int .u32 h) (.int .i64 ((h.toNat % n : Nat) : Int)) (seenA n hs) = some (seenA n (if h ∈ hs then hs else hs ++ [h]))
  | [] => rfl
  | x :: r => by
    have ih := seen_put n h r
    unfold seenA at ih ⊢
    simp only [List.map_cons, mput, keyIs, if_true]
    by_cases e : x = h
    · subst e; simp
    · rw [beq_f e]
      simp only
      rw [ih]
      by_cases e2 : h ∈ r
      · simp [e2]
      · simp [e2, Ne.symm e]
end Go.AM
section

namespace Go.AM
open P
set_option maxHeartbeats 8000000
set_option maxRecDepth 8000
attribute [local simp] condRun_if when_if
abbrev sEnv (x l : AVal) (n : Nat) (own parts tog srt : AVal) (e13 e14 : AVal) (np : Nat) (i : Nat) (e34 e35 e36 e37 e38 e39 : AVal) : List AVal :=
  [x, l, .int .i64 n, .ptr 0 0 0 0, .any, .ptr 1 0 0 0, own, parts, .int .i64 0, tog, srt, .any, .mp 2, e13, e14, .any, .any, .any, .any, .any, .bool false, .bool false, .bool false, .bool false, .bool false, .any, .any, .any, .any, .any, .bool false, parts, .int .i64 np, .int .i64 i, e34, e35, e36, e37, e38, e39]
noncomputable def seenF (cols : List Int) (hs : List Int) (r : List Val) : List Int := if hashN (takeR r cols) ∈ hs then hs else hs ++ [hashN (takeR r cols)]
abbrev sStore (X0 : Obj) (nd : AVal) (at' way : Int) (cols : List Int) (n : Nat) (hs : List Int) : Store := [X0, .arr 4 0 [.agg [nd, .int .i64 at', .int .i64 way, .imm false (intC cols)]], .map (seenA n hs)]
theorem splits_rows (x l : AVal) (n : Nat) (own parts tog srt : AVal) (np : Nat) (X0 : Obj) (nd : AVal) (at' way : Int) (cols : List Int) (i : Nat) (p : List (List Val)) (hp : p.length ≤ 8000) (h1 : 1 ≤ n) (h8 : n ≤ 8)
    (hr : ∀ r ∈ p, okR r = true ∧ hasC r cols = true ∧ atH cols n r = i) (hs : List Int) :
    rounds code 3 [4, 15, 16, 17, 18, 19, 38, 39] l_blaw20_ExecSplits_0 ⟨sEnv x l n own parts tog srt (.int .i64 i) (listX p) np i (.bool true) (listX p) (.int .i64 p.length) (.int .i64 0) .any .any, sStore X0 nd at' way cols n hs⟩ =
      some (.ext 4, ⟨sEnv x l n own parts tog srt (.int .i64 i) (listX p) np i (.bool true) (listX p) (.int .i64 p.length) (.int .i64 p.length) (.bool false) .any, sStore X0 nd at' way cols n (p.foldl (seenF cols) hs)⟩) := by
  have hm : p.length ≤ most := by unfold most; omega
  have h := rounds_fold (base := 3) (clr := [4, 15, 16, 17, 18, 19, 38, 39]) (b := l_blaw20_ExecSplits_0) p
    (fun k (hs : List Int) => ⟨sEnv x l n own parts tog srt (.int .i64 i) (listX p) np i (.bool true) (listX p) (.int .i64 p.length) (.int .i64 k) .any .any, sStore X0 nd at' way cols n hs⟩)
    (fun _ _ => True) (seenF cols)
    (fun hs => (.ext 4, ⟨sEnv x l n own parts tog srt (.int .i64 i) (listX p) np i (.bool true) (listX p) (.int .i64 p.length) (.int .i64 p.length) (.bool false) .any, sStore X0 nd at' way cols n hs⟩))
    (fun k r hs hk hy _ => by
      have hlt : ((k : Int) < (p.length : Int)) := by omega
      obtain ⟨r1, r2, r3⟩ := hr r (List.mem_of_getElem? hy)
      obtain ⟨hh, h0, h32⟩ := Hash_ok false r cols r1 r2
      unfold seenF
      unfold atH at r3
      generalize hashN (takeR r cols) = h at *
      have hw : IntKind.u32.wrap (n : Int) = n := by
        have : (n : Int) % 4294967296 = n := Int.emod_eq_of_lt (by omega) (by omega)
        simpa [IntKind.wrap, IntKind.bits, IntKind.signed] using this
      have hne' : ¬ (n = 0) := by omega
      have ht : h.tmod (n : Int) = ((h.toNat % n : Nat) : Int) := by
        rw [Int.tmod_eq_emod_of_nonneg h0, Int.natCast_emod, Int.toNat_of_nonneg h0]
      have hl := seen_look n h hs
      have hpu := seen_put n h hs
      subst r3
      have hlt2 : h.toNat % n < n := Nat.mod_lt _ h1
      have hwi := w64 (n := ((h.toNat % n : Nat) : Int)) (by omega) (by omega)
      generalize h.toNat % n = j at *
      refine ⟨?_, trivial⟩
      by_cases hmem : h ∈ hs
      · rw [if_pos hmem] at hl hpu ⊢
        simp [l_blaw20_ExecSplits_0, sEnv, sStore, listX, hlt, hy, hh, hl, hpu, isKey, hw, hne', ht, hwi, wrap_lt hk hm, roundEnd]
      · rw [if_neg hmem] at hl hpu ⊢
        simp [l_blaw20_ExecSplits_0, sEnv, sStore, listX, hlt, hy, hh, hl, hpu, isKey, hw, hne', ht, hwi, wrap_lt hk hm, roundEnd])
    (fun hs _ => by simp [l_blaw20_ExecSplits_0, sEnv, sStore]) hs trivial
  simpa using h.1
instance : Nc listX 1 false := ⟨fun _ => rfl, fun _ => rfl⟩
instance : Fx listX := ⟨fun fl top base σ n y => by simp [listX]⟩
theorem splits_parts (x l : AVal) (n : Nat) (own tog srt : AVal) (X0 : Obj) (nd : AVal) (at' way : Int) (cols : List Int) (P : List (List (List Val))) (hP : P.length ≤ 8) (h1 : 1 ≤ n) (h8 : n ≤ 8)
    (hr : ∀ i p, P[i]? = some p → p.length ≤ 8000 ∧ ∀ r ∈ p, okR r = true ∧ hasC r cols = true ∧ atH cols n r = i) :
    ∃ hs, rounds code 3 [4, 13, 14, 15, 16, 17, 18, 19, 34, 35, 36, 37, 38, 39] l_blaw20_ExecSplits_1 ⟨sEnv x l n own (.imm false (P.map listX)) tog srt .any .any P.length 0 .any .any .any .any .any .any, sStore X0 nd at' way cols n []⟩ =
      some (.ext 2, ⟨sEnv x l n own (.imm false (P.map listX)) tog srt .any .any P.length P.length (.bool false) .any .any .any .any .any, sStore X0 nd at' way cols n hs⟩) := by
  have hm : P.length ≤ most := by unfold most; omega
  have h := rounds_fold (base := 3) (clr := [4, 13, 14, 15, 16, 17, 18, 19, 34, 35, 36, 37, 38, 39]) (b := l_blaw20_ExecSplits_1) P
    (fun k (hs : List Int) => ⟨sEnv x l n own (.imm false (P.map listX)) tog srt .any .any P.length k .any .any .any .any .any .any, sStore X0 nd at' way cols n hs⟩)
    (fun _ _ => True) (fun hs p => p.foldl (seenF cols) hs)
    (fun hs => (.ext 2, ⟨sEnv x l n own (.imm false (P.map listX)) tog srt .any .any P.length P.length (.bool false) .any .any .any .any .any, sStore X0 nd at' way cols n hs⟩))
    (fun k p hs hk hy _ => by
      have hlt : ((k : Int) < (P.length : Int)) := by omega
      obtain ⟨p1, p2⟩ := hr k p hy
      have hl := splits_rows x l n own (.imm false (P.map listX)) tog srt P.length X0 nd at' way cols k p p1 h1 h8 p2 hs
      refine ⟨?_, trivial⟩
      have hlx : alen [X0, .arr 4 0 [.agg [nd, .int .i64 at', .int .i64 way, .imm false (intC cols)]], .map (seenA n hs)] (listX p) = some p.length := by simp [listX]
      simp [sEnv, sStore, listX] at hl
      simp [l_blaw20_ExecSplits_1, sEnv, sStore, hlt, hy, listX, hl, wrap_lt hk hm, roundEnd])
    (fun hs _ => by simp [l_blaw20_ExecSplits_1, sEnv, sStore]) [] trivial
  exact ⟨_, by simpa using h.1⟩
end Go.AM
end
