/- A program that sees whether the code is this one. -/
import Derived.Test.YtmkkmacbmlcfaaaGreatDoorAm06
import Derived.Lib.Case
import Derived.Lib.Bytealg
import Derived.Laws.Externs
import Derived.Shelf.Strings.BuilderK
import Derived.Test.YtmkkmacbmlcfaaaGreatDoorAm00
import Derived.WalkKit
set_option linter.unusedVariables false
set_option linter.unusedSimpArgs false
set_option linter.unusedSectionVars false
namespace Go.AM
section
variable (M : Names) (P : Program) (pres : Nat → Bool)
def lookDone : List (Tmp × Opd) → Tmp → Option Opd
  | [], _ => none
  | (u, x) :: r, t => if u == t then some x else lookDone r t
def elidable (em : List Tmp) (done : List (Tmp × Opd)) (o : Oper) : Option Opd :=
  if o.guard.isNone then (match moved o.op with
    | some (.tmp t) => (match lookDone done t with
      | some x => some x
      | none => (em.idxOf? t).map .env)
    | some (.const v) => (litOf v).map .val
    | _ => none) else none
def mkIts (em : List Tmp) : List Oper → List (Tmp × Opd) → Nat → Its
  | [], _, _ => []
  | o :: r, done, n => match elidable em done o with
    | some x => (x, none) :: mkIts em r (match o.dst with | some d => (d, x) :: done | none => done) n
    | none => (.loc n, some n) :: mkIts em r (match o.dst with | some d => (d, .loc n) :: done | none => done) (n + 1)
def numd : Nat → Its → Option Nat
  | n, [] => some n
  | n, (_, none) :: r => numd n r
  | n, (_, some q) :: r => if q == n then numd (n + 1) r else none
def stepBef (b : List Nat) (o : Oper) : Nat := o.after.toList.foldr (fun e s => if Region.binds .any e then (s ||| 2 ^ e.on) ||| b.getD e.on 0 else s) 0
def mkBefs : List Oper → List Nat → List Nat
  | [], acc => acc
  | o :: r, acc => mkBefs r (acc ++ [stepBef acc o])
def befText (i : Nat) : Nat := 2 ^ i - 1
def befList (b : List Nat) (i : Nat) : Nat := b.getD i 0
def nodupB : List Nat → Bool
  | [] => true
  | x :: r => !r.contains x && nodupB r
def nwsOf (ins : List Ins) (chk : List (Nat × Nat)) (its : Its) : List (Nat × Nat) :=
  (List.range its.length).filterMap fun k => match insOf its k with
    | some m => if nwAt pres ins chk m then some (k, m) else none
    | none => none
def isBox : Option Ins → Bool
  | some ⟨.box _ (.val _), none⟩ => true
  | _ => false
def lateB (ops : List Oper) (ins : List Ins) (em : List Tmp) (its : Its) (bef : Nat → Nat) (chk nws : List (Nat × Nat)) (d : Nat) : Bool :=
  match ops[d]? with
  | none => false
  | some o => (match o.op with | .alloc _ => true | _ => false) && o.guard.isNone && bef d == 0 && (match o.dst, insOf its d with
    | some t, some n => nwAt pres ins chk n && isBox ins[n]? && ((List.range ops.length).all fun j => !(bef j).testBit d || nws.all fun km => decide (n ≤ km.2) || (bef j).testBit km.1) &&
        ((List.range ops.length).all fun j => j == d || (rsAt ops em its bef j t).isNone || (bef j).testBit d)
    | _, _ => false)
def lateOf (draw : Bool) (ops : List Oper) (ins : List Ins) (em : List Tmp) (its : Its) (bef : Nat → Nat) (chk nws : List (Nat × Nat)) : Option Nat :=
  if draw then (List.range ops.length).reverse.find? (lateB pres ops ins em its bef chk nws) else none
def orderOk (ins : List Ins) (chk : List (Nat × Nat)) (nws : List (Nat × Nat)) (bef : Nat → Nat) (late : Option Nat) (i n : Nat) (I : Ins) : Bool :=
  if nwAt pres ins chk n then late == some i || nws.all fun km => decide (i ≤ km.1) || (bef i).testBit km.1
  else cls pres I.op == 0 ||
    ((nws.any (fun km => (bef i).testBit km.1) || nws.all (fun km => decide (n ≤ km.2)) || chk.contains (n, 0)) &&
     nws.all fun km => (bef km.1).testBit i || nws.any (fun k' => decide (km.2 < k'.2) && (bef i).testBit k'.1) ||
       (decide (km.2 < n) && nws.all (fun k' => decide (k'.2 ≤ km.2) || decide (n ≤ k'.2))) || chk.contains (n, km.2 + 1))
def itemOk (draw : Bool) (ops : List Oper) (ins : List Ins) (em : List Tmp) (its : Its) (bef : Nat → Nat) (chk nws : List (Nat × Nat)) (late : Option Nat) (i : Nat) (o : Oper) : Bool :=
  match insOf its i with
  | none => elided ops em its bef i o
  | some n => match ins[n]? with
    | none => false
    | some I => okOp M P (rsAt ops em its bef i) o.op I.op && guardOk its bef ops i o.guard I.guard && opdEq (valOf its i) (.loc n) && (!draw || orderOk pres ins chk nws bef late i n I)
def allFrom {α : Type} (f : Nat → α → Bool) : Nat → List α → Bool
  | _, [] => true
  | i, x :: r => f i x && allFrom f (i + 1) r
def checkReg (draw : Bool) (ops : List Oper) (ins : List Ins) (em : List Tmp) (outs : List (Nat × Opd)) (chk : List (Nat × Nat)) (nt : Nat) : Bool :=
  let its := mkIts em ops [] 0
  let b := mkBefs ops []
  let bef := if draw then befList b else befText
  (its.length == ops.length) && (ops.all fun o => match o.dst with | some d => decide (d < nt) | none => true) && nodupB (ops.filterMap (·.dst)) &&
  (numd 0 its == some ins.length) && (!draw || (allFrom (fun i x => decide (x < 2 ^ i)) 0 b && b.length == ops.length && allFrom (fun i o => stepBef b o == b.getD i 0 && o.after.toList.all fun e => !Region.binds .any e || decide (e.on < i)) 0 ops)) &&
  allFrom (itemOk M P pres draw ops ins em its bef chk (nwsOf pres ins chk its) (lateOf pres draw ops ins em its bef chk (nwsOf pres ins chk its))) 0 ops && outsOk ops em its outs && (draw || chk.isEmpty) &&
  chk.all (fun nj => match ins[nj.1]? with | some I => I.guard.isNone | none => true)
end
theorem allFrom_get {α : Type} {f : Nat → α → Bool} : ∀ {l : List α} {i : Nat}, allFrom f i l = true → ∀ j x, l[j]? = some x → f (i + j) x = true
  | [], _, _, j, x, h => by simp at h
  | y :: r, i, h, j, x, hx => by
    simp only [allFrom, Bool.and_eq_true] at h
    cases j with
    | zero => simp only [List.getElem?_cons_zero, Option.some.injEq] at hx; subst hx; exact h.1
    | succ j =>
      have := allFrom_get h.2 j x (by simpa using hx)
      rwa [show i + 1 + j = i + (j + 1) by omega] at this
theorem nodupB_iff : ∀ {l : List Nat}, nodupB l = true → l.Nodup
  | [], _ => List.nodup_nil
  | x :: r, h => by
    simp only [nodupB, Bool.and_eq_true, Bool.not_eq_true', ← Bool.not_eq_true, List.contains_iff_mem] at h
    exact List.nodup_cons.2 ⟨h.1, nodupB_iff h.2⟩
theorem insOf_cons_zero {x : Opd × Option Nat} {r : Its} : insOf (x :: r) 0 = x.2 := by simp [insOf]
theorem insOf_cons_succ {x : Opd × Option Nat} {r : Its} {k : Nat} : insOf (x :: r) (k + 1) = insOf r k := by simp [insOf]
theorem numd_spec : ∀ {its : Its} {n m : Nat}, numd n its = some m → n ≤ m ∧ (∀ k q, insOf its k = some q → n ≤ q ∧ q < m) ∧ (∀ k i q p, insOf its k = some q → insOf its i = some p → k < i → q < p) ∧ ∀ q, n ≤ q → q < m → ∃ k, insOf its k = some q ∧ k < its.length
  | [], n, m, h => by
    simp only [numd, Option.some.injEq] at h
    subst h
    exact ⟨Nat.le_refl _, fun k q h => by simp [insOf] at h, fun k i q p h => by simp [insOf] at h, fun q h1 h2 => by omega⟩
  | (x, none) :: r, n, m, h => by
    simp only [numd] at h
    obtain ⟨h1, h2, h3, h4⟩ := numd_spec h
    refine ⟨h1, fun k q hk => ?_, fun k i q p hk hi hlt => ?_, fun q hq hm => ?_⟩
    · cases k with
      | zero => rw [insOf_cons_zero] at hk; cases hk
      | succ k => rw [insOf_cons_succ] at hk; exact h2 k q hk
    · cases k with
      | zero => rw [insOf_cons_zero] at hk; cases hk
      | succ k => cases i with
        | zero => omega
        | succ i => rw [insOf_cons_succ] at hk hi; exact h3 k i q p hk hi (by omega)
    · obtain ⟨k, k1, k2⟩ := h4 q hq hm
      exact ⟨k + 1, by rw [insOf_cons_succ]; exact k1, by simpa using k2⟩
  | (x, some y) :: r, n, m, h => by
    simp only [numd] at h
    split at h
    · rename_i hy
      have hy' : y = n := by simpa using hy
      subst hy'
      obtain ⟨h1, h2, h3, h4⟩ := numd_spec h
      refine ⟨by omega, fun k q hk => ?_, fun k i q p hk hi hlt => ?_, fun q hq hm => ?_⟩
      · cases k with
        | zero => rw [insOf_cons_zero] at hk; cases hk; omega
        | succ k => rw [insOf_cons_succ] at hk; have := h2 k q hk; omega
      · cases i with
        | zero => omega
        | succ i =>
          rw [insOf_cons_succ] at hi
          cases k with
          | zero => rw [insOf_cons_zero] at hk; cases hk; have := h2 i p hi; omega
          | succ k => rw [insOf_cons_succ] at hk; exact h3 k i q p hk hi (by omega)
      · by_cases e : q = y
        · exact ⟨0, by rw [insOf_cons_zero, e], by simp⟩
        · obtain ⟨k, k1, k2⟩ := h4 q (by omega) hm
          exact ⟨k + 1, by rw [insOf_cons_succ]; exact k1, by simpa using k2⟩
    · cases h
theorem mem_nws {pres : Nat → Bool} {ins : List Ins} {chk : List (Nat × Nat)} {its : Its} {k m : Nat} (h : insOf its k = some m) (hn : nwAt pres ins chk m = true) : (k, m) ∈ nwsOf pres ins chk its := by
  unfold nwsOf
  rw [List.mem_filterMap]
  refine ⟨k, List.mem_range.2 ?_, ?_⟩
  · unfold insOf at h
    cases hq : its[k]? with
    | none => rw [hq] at h; cases h
    | some _ => exact (List.getElem?_eq_some_iff.1 hq).1
  · rw [h]; simp [hn]
theorem of_nws {pres : Nat → Bool} {ins : List Ins} {chk : List (Nat × Nat)} {its : Its} {km : Nat × Nat} (h : km ∈ nwsOf pres ins chk its) : insOf its km.1 = some km.2 ∧ nwAt pres ins chk km.2 = true := by
  unfold nwsOf at h
  rw [List.mem_filterMap] at h
  obtain ⟨k, _, h⟩ := h
  split at h
  · rename_i m hm
    split at h
    · rename_i hn
      cases h
      exact ⟨hm, hn⟩
    · cases h
  · cases h
theorem stepBef_bit {b : List Nat} {o : Oper} {k : Nat} (h : (stepBef b o).testBit k = true) : ∃ e ∈ o.after, Region.binds .any e = true ∧ (k = e.on ∨ (befList b e.on).testBit k = true) := by
  unfold stepBef at h
  have key : ∀ l : List Edge, (l.foldr (fun e s => if Region.binds .any e then (s ||| 2 ^ e.on) ||| b.getD e.on 0 else s) 0).testBit k = true → ∃ e ∈ l, Region.binds .any e = true ∧ (k = e.on ∨ (befList b e.on).testBit k = true) := by
    intro l
    induction l with
    | nil => intro h; simp at h
    | cons e l ih =>
      intro h
      simp only [List.foldr_cons] at h
      split at h
      · rename_i hb
        simp only [Nat.testBit_or, Bool.or_eq_true, Nat.testBit_two_pow, decide_eq_true_eq] at h
        rcases h with (h | h) | h
        · obtain ⟨e', h1, h2⟩ := ih h
          exact ⟨e', List.mem_cons_of_mem _ h1, h2⟩
        · exact ⟨e, List.mem_cons_self, hb, .inl h.symm⟩
        · exact ⟨e, List.mem_cons_self, hb, .inr h⟩
      · obtain ⟨e', h1, h2⟩ := ih h
        exact ⟨e', List.mem_cons_of_mem _ h1, h2⟩
  obtain ⟨e, h1, h2⟩ := key _ h
  exact ⟨e, by simpa using h1, h2⟩
theorem testBit_lt {x i k : Nat} (h : x < 2 ^ i) (hk : x.testBit k = true) : k < i := by
  by_cases hlt : k < i
  · exact hlt
  · have : x < 2 ^ k := Nat.lt_of_lt_of_le h (Nat.pow_le_pow_right (by omega) (by omega))
    rw [Nat.testBit_lt_two_pow this] at hk
    cases hk
theorem checkReg_ok {M : Names} {P : Program} {pres : Nat → Bool} {draw : Bool} {ops : Array Oper} {ins : List Ins} {em : List Tmp} {outs : List (Nat × Opd)} {chk : List (Nat × Nat)} {nt : Nat} (h : checkReg M P pres draw ops.toList ins em outs chk nt = true) :
    RegOk M P pres ops ins em (mkIts em ops.toList [] 0) (if draw then befList (mkBefs ops.toList []) else befText) chk (lateOf pres draw ops.toList ins em (mkIts em ops.toList [] 0) (if draw then befList (mkBefs ops.toList []) else befText) chk (nwsOf pres ins chk (mkIts em ops.toList [] 0))) nt ∧ outsOk ops.toList em (mkIts em ops.toList [] 0) outs = true ∧ (draw = true → Edges ops (befList (mkBefs ops.toList []))) ∧ (draw = false → chk = []) := by
  unfold checkReg at h
  dsimp only at h
  simp only [Bool.and_eq_true, beq_iff_eq] at h
  obtain ⟨⟨⟨⟨⟨⟨⟨⟨h1, h2⟩, h3⟩, h4⟩, h5⟩, h6⟩, h7⟩, h8⟩, h9⟩ := h
  generalize hits : mkIts em ops.toList [] 0 = its at *
  obtain ⟨n1, n2, n3, n4⟩ := numd_spec h4
  have hge : ∀ (i : Nat) (o : Oper), ops[i]? = some o → ops.toList[i]? = some o := fun i o ho => by simpa using ho
  have h5' : draw = true → allFrom (fun i x => decide (x < 2 ^ i)) 0 (mkBefs ops.toList []) = true ∧ (mkBefs ops.toList []).length = ops.size ∧ allFrom (fun i o => stepBef (mkBefs ops.toList []) o == (mkBefs ops.toList []).getD i 0 && o.after.toList.all fun e => !Region.binds .any e || decide (e.on < i)) 0 ops.toList = true := fun hd => by
    subst hd
    simp only [Bool.not_true, Bool.false_or, Bool.and_eq_true, beq_iff_eq] at h5
    exact ⟨h5.1.1, by simpa using h5.1.2, h5.2⟩
  have low : ∀ i k, ((if draw then befList (mkBefs ops.toList []) else befText) i).testBit k = true → k < i := fun i k hk => by
    cases draw with
    | false =>
      have hk' : (2 ^ i - 1).testBit k = true := hk
      rw [Nat.testBit_two_pow_sub_one] at hk'
      simpa using hk'
    | true =>
      have hk' : ((mkBefs ops.toList []).getD i 0).testBit k = true := hk
      obtain ⟨a1, a2, _⟩ := h5' rfl
      by_cases hi : i < (mkBefs ops.toList []).length
      · have := allFrom_get a1 i ((mkBefs ops.toList [])[i]) (by simp)
        simp only [Nat.zero_add, decide_eq_true_eq] at this
        rw [List.getD_eq_getElem?_getD, List.getElem?_eq_getElem hi] at hk'
        exact testBit_lt this hk'
      · rw [List.getD_eq_getElem?_getD, List.getElem?_eq_none (by omega)] at hk'
        simp at hk'
  refine ⟨⟨by rw [h1]; simp, fun i o d ho hd => ?_, fun i k oi ok d hi hk hdi hdk => ?_, low, fun k i n m hk hi hlt => n3 k i n m hk hi hlt, fun n hn => ?_, fun k n hk => (n2 k n hk).2, fun i o ho => ?_, fun d hd => ?_, fun n j I hm hI => ?_⟩, h7, fun hd => ?_, fun hd => ?_⟩
  · have := List.all_eq_true.1 h2 o (by rw [List.mem_iff_getElem?]; exact ⟨i, hge i o ho⟩)
    rw [hd] at this
    simpa using this
  · have hnd := nodupB_iff h3
    have hp := List.pairwise_filterMap.1 hnd
    have hp' := List.pairwise_iff_getElem.1 hp
    have key : ∀ (i k : Nat) (oi ok : Oper), ops[i]? = some oi → ops[k]? = some ok → oi.dst = some d → ok.dst = some d → ¬ i < k := fun i k oi ok hi hk hdi hdk hlt => by
      obtain ⟨i1, i2⟩ := List.getElem?_eq_some_iff.1 (hge i oi hi)
      obtain ⟨k1, k2⟩ := List.getElem?_eq_some_iff.1 (hge k ok hk)
      have := hp' i k i1 k1 hlt d (by rw [i2]; exact hdi) d (by rw [k2]; exact hdk)
      exact this rfl
    have a := key i k oi ok hi hk hdi hdk
    have b := key k i ok oi hk hi hdk hdi
    omega
  · obtain ⟨k, k1, k2⟩ := n4 n (Nat.zero_le _) hn
    exact ⟨k, k1, by rw [h1] at k2; simpa using k2⟩
  · have hit := allFrom_get h6 i o (hge i o ho)
    simp only [Nat.zero_add] at hit
    unfold itemOk at hit
    split at hit
    · rename_i hn
      exact .inl ⟨hn, hit⟩
    · rename_i n hn
      split at hit
      · cases hit
      · rename_i I hI
        simp only [Bool.and_eq_true, Bool.or_eq_true, Bool.not_eq_true'] at hit
        obtain ⟨⟨⟨i1, i2⟩, i3⟩, i4⟩ := hit
        refine .inr ⟨n, I, hn, hI, opdEq_eq i3, i1, i2, ?_, ?_⟩
        · intro hnw hlate k m hk hm hw
          cases draw with
          | false =>
            show (2 ^ i - 1).testBit k = true
            rw [Nat.testBit_two_pow_sub_one]
            simpa using hk
          | true =>
            have i5 : orderOk pres ins chk (nwsOf pres ins chk its) (befList (mkBefs ops.toList [])) (lateOf pres true ops.toList ins em its (befList (mkBefs ops.toList [])) chk (nwsOf pres ins chk its)) i n I = true := by simpa using i4
            unfold orderOk at i5
            rw [if_pos hnw] at i5
            simp only [Bool.or_eq_true, beq_iff_eq] at i5
            have := List.all_eq_true.1 (i5.resolve_left hlate) (k, m) (mem_nws hm hw)
            simp only [Bool.or_eq_true, decide_eq_true_eq] at this
            rcases this with h | h
            · omega
            · exact h
        · intro hnw
          cases draw with
          | false =>
            right
            refine ⟨?_, fun k m hk hw => ?_⟩
            · by_cases hex : ∃ k m, insOf its k = some m ∧ nwAt pres ins chk m = true ∧ m < n
              · obtain ⟨k, m, e1, e2, e3⟩ := hex
                refine .inl ⟨k, m, e1, e2, ?_⟩
                have hlt : k < i := by
                  rcases Nat.lt_trichotomy k i with h | h | h
                  · exact h
                  · subst h; rw [e1] at hn; cases hn; omega
                  · have := n3 i k n m hn e1 h; omega
                show (2 ^ i - 1).testBit k = true
                rw [Nat.testBit_two_pow_sub_one]
                simpa using hlt
              · exact .inr (.inl fun k m e1 e2 e3 => hex ⟨k, m, e1, e2, e3⟩)
            · rcases Nat.lt_trichotomy k i with h | h | h
              · 
                have hmn := n3 k i m n hk hn h
                by_cases hex : ∃ k' m', insOf its k' = some m' ∧ nwAt pres ins chk m' = true ∧ m < m' ∧ m' < n
                · obtain ⟨k', m', e1, e2, e3, e4⟩ := hex
                  refine .inr (.inl ⟨k', m', e1, e2, e3, ?_⟩)
                  have hlt : k' < i := by
                    rcases Nat.lt_trichotomy k' i with h | h | h
                    · exact h
                    · subst h; rw [e1] at hn; cases hn; omega
                    · have := n3 i k' n m' hn e1 h; omega
                  show (2 ^ i - 1).testBit k' = true
                  rw [Nat.testBit_two_pow_sub_one]
                  simpa using hlt
                · exact .inr (.inr (.inl ⟨hmn, fun k' m' e1 e2 e3 e4 => hex ⟨k', m', e1, e2, e3, e4⟩⟩))
              · subst h
                rw [hk] at hn; cases hn
                rw [hw] at hnw; cases hnw
              · left
                show (2 ^ k - 1).testBit i = true
                rw [Nat.testBit_two_pow_sub_one]
                simpa using h
          | true =>
            have i5 : orderOk pres ins chk (nwsOf pres ins chk its) (befList (mkBefs ops.toList [])) (lateOf pres true ops.toList ins em its (befList (mkBefs ops.toList [])) chk (nwsOf pres ins chk its)) i n I = true := by simpa using i4
            unfold orderOk at i5
            rw [if_neg (by rw [hnw]; simp)] at i5
            simp only [Bool.or_eq_true, Bool.and_eq_true, beq_iff_eq] at i5
            rcases i5 with h | ⟨ha, hb⟩
            · exact .inl h
            · right
              refine ⟨?_, fun k m hk hw => ?_⟩
              · rcases ha with (ha | ha) | ha
                · obtain ⟨km, b1, b2⟩ := List.any_eq_true.1 ha
                  obtain ⟨c1, c2⟩ := of_nws b1
                  exact .inl ⟨km.1, km.2, c1, c2, b2⟩
                · refine .inr (.inl fun k m e1 e2 e3 => ?_)
                  have := List.all_eq_true.1 ha (k, m) (mem_nws e1 e2)
                  simp only [decide_eq_true_eq] at this
                  omega
                · exact .inr (.inr (List.contains_iff_mem.1 ha))
              · have := List.all_eq_true.1 hb (k, m) (mem_nws hk hw)
                simp only [Bool.or_eq_true, Bool.and_eq_true, decide_eq_true_eq] at this
                rcases this with ((h | h) | h) | h
                · exact .inl h
                · obtain ⟨km, b1, b2⟩ := List.any_eq_true.1 h
                  simp only [Bool.and_eq_true, decide_eq_true_eq] at b2
                  obtain ⟨c1, c2⟩ := of_nws b1
                  exact .inr (.inl ⟨km.1, km.2, c1, c2, b2.1, b2.2⟩)
                · refine .inr (.inr (.inl ⟨h.1, fun k' m' e1 e2 e3 e4 => ?_⟩))
                  have := List.all_eq_true.1 h.2 (k', m') (mem_nws e1 e2)
                  simp only [Bool.or_eq_true, decide_eq_true_eq] at this
                  omega
                · exact .inr (.inr (.inr (List.contains_iff_mem.1 h)))
  · 
    cases draw with
    | false => simp [lateOf] at hd
    | true =>
      simp only [lateOf, if_true] at hd
      have hb := List.find?_some hd
      unfold lateB at hb
      split at hb
      · cases hb
      · rename_i o ho
        have ho' : ops[d]? = some o := by simpa using ho
        simp only [Bool.and_eq_true, Option.isNone_iff_eq_none, beq_iff_eq] at hb
        obtain ⟨⟨⟨b1, b2⟩, b3⟩, b4⟩ := hb
        refine ⟨b3, ?_⟩
        split at b4
        · rename_i t n ht hn
          simp only [Bool.and_eq_true] at b4
          obtain ⟨⟨⟨c1, c2⟩, c3⟩, c4⟩ := b4
          split at b1
          · rename_i T hT
            have hbox : ∃ kk z, ins[n]? = some ⟨.box kk (.val z), none⟩ := by
              unfold isBox at c2
              split at c2
              · rename_i kk z hk
                exact ⟨kk, z, hk⟩
              · cases c2
            obtain ⟨kk, z, hk⟩ := hbox
            have hlen : (mkBefs ops.toList []).length = ops.size := (h5' rfl).2.1
            refine ⟨o, T, t, n, kk, z, ho', hT, b2, ht, hn, hk, c1, fun j hj k m hkm hm hlt => ?_, fun j hjs hjd hne => ?_⟩
            · have hjl : j < ops.size := by
                rcases Nat.lt_or_ge j ops.size with h | h
                · exact h
                · have hj' : ((mkBefs ops.toList []).getD j 0).testBit d = true := hj
                  rw [List.getD_eq_getElem?_getD, List.getElem?_eq_none (by omega)] at hj'
                  simp at hj'
              have := List.all_eq_true.1 c3 j (List.mem_range.2 (by simpa using hjl))
              have hj' : (befList (mkBefs ops.toList []) j).testBit d = true := hj
              simp only [hj', Bool.not_true, Bool.false_or] at this
              have := List.all_eq_true.1 this (k, m) (mem_nws hkm hm)
              simp only [Bool.or_eq_true, decide_eq_true_eq] at this
              rcases this with h | h
              · omega
              · exact h
            · have := List.all_eq_true.1 c4 j (List.mem_range.2 (by simpa using hjs))
              simp only [Bool.or_eq_true, beq_iff_eq, Option.isNone_iff_eq_none] at this
              rcases this with (h | h) | h
              · exact absurd h hjd
              · exact absurd h hne
              · exact h
          · cases b1
        · cases b4
  · have := List.all_eq_true.1 h9 (n, j) hm
    simp only [hI] at this
    simpa using this
  · obtain ⟨_, a2, a3⟩ := h5' hd
    refine ⟨fun i o ho e he hb => ?_, fun i o ho k hk => ?_⟩
    · have := allFrom_get a3 i o (hge i o ho)
      simp only [Nat.zero_add, Bool.and_eq_true] at this
      have := List.all_eq_true.1 this.2 e (by simpa using he)
      simpa [hb] using this
    · have := allFrom_get a3 i o (hge i o ho)
      simp only [Nat.zero_add, Bool.and_eq_true, beq_iff_eq] at this
      have hk' : ((mkBefs ops.toList []).getD i 0).testBit k = true := hk
      rw [← this.1] at hk'
      exact stepBef_bit hk'
  · subst hd
    simpa using h8
end Go.AM

namespace Go.AM
def kids : Go.Code → List Go.Code
  | .seq a b => [a, b]
  | .cond _ a b => [a, b]
  | .block _ a => [a]
  | .loop a => [a]
  | .scope a => [a]
  | .rangeFunc _ _ a b => [a, b]
  | _ => []
def atPath : List Nat → Go.Code → Option Go.Code
  | [], c => some c
  | i :: r, c => ((kids c)[i]?).bind (atPath r)
theorem atPath_snoc {i : Nat} : ∀ {p : List Nat} {c : Go.Code}, atPath (p ++ [i]) c = (atPath p c).bind fun d => (kids d)[i]?
  | [], c => by
    simp only [List.nil_append, atPath, Option.bind_some]
    cases (kids c)[i]? <;> rfl
  | j :: p, c => by
    simp only [List.cons_append, atPath]
    cases (kids c)[j]? with
    | none => rfl
    | some d => exact atPath_snoc
def strip : ACode → ACode
  | .lift _ _ _ x => strip x
  | x => x
structure SiteAt where
  f : Nat
  path : List Nat
  em : List Tmp
def Names.of (P : Program) (fm : Nat → FuncId) (glob : Nat → Option AVal) (sites : Nat → Option SiteAt) : Names where
  fm := fm
  glob := glob
  site := fun s rec em => ∃ d fn code g, sites s = some d ∧ P.funcs[fm d.f]? = some fn ∧ fn.body = some code ∧ atPath d.path code = some (.rangeFunc g rec.params rec.assign rec.body) ∧ em = d.em ∧ fn.ntmps ≤ rec.tmps.size
def mheadOk (em : List Tmp) (nt it ok : Nat) : Go.Code → Bool
  | .region _ ops false => (match ops.toList with
    | [o1, o2] => (match o1.op, o1.dst, o2.op, o2.dst with
      | .next (.tmp t) false, some t1, .extract (.tmp t1') 0, some t2 => o1.guard.isNone && o2.guard.isNone && (t1 : Nat) == t1' && (match em[it]? with
        | some t' => (t' : Nat) == t
        | none => false) && (match em[ok]? with
        | some t' => (t' : Nat) == t2
        | none => false) && nodupB em && em.all (fun t' => !((t' : Nat) == t1)) && decide ((t1 : Nat) < nt) && decide ((t2 : Nat) < nt)
      | _, _, _, _ => false)
    | _ => false)
  | _ => false
theorem mheadOk_ok {em : List Tmp} {nt it ok : Nat} {c : Go.Code} (h : mheadOk em nt it ok c = true) : ∃ rid o1 o2 t t1 t2, c = .region rid #[o1, o2] false ∧ o1.op = .next (.tmp t) false ∧ o1.dst = some t1 ∧ o1.guard = none ∧ o2.op = .extract (.tmp t1) 0 ∧ o2.dst = some t2 ∧ o2.guard = none ∧
    em[it]? = some t ∧ em[ok]? = some t2 ∧ em.Nodup ∧ t1 ∉ em ∧ t1 < nt ∧ t2 < nt := by
  unfold mheadOk at h
  split at h
  · rename_i rid ops
    split at h
    · rename_i o1 o2 hl
      have hl : ops = #[o1, o2] := by
        apply Array.toList_inj.1; simpa using hl
      subst hl
      split at h
      · rename_i t t1 t1' t2 e1 d1 e2 d2
        simp only [Bool.and_eq_true, decide_eq_true_eq, beq_iff_eq] at h
        obtain ⟨⟨⟨⟨⟨⟨⟨⟨g1, g2⟩, e3⟩, h1⟩, h2⟩, h3⟩, h4⟩, h5⟩, h6⟩ := h
        subst e3
        refine ⟨rid, o1, o2, t, t1, t2, rfl, e1, d1, by simpa using g1, e2, d2, by simpa using g2, ?_, ?_, nodupB_iff h3, fun hm => ?_, h5, h6⟩
        · split at h1
          · rename_i t' ht; rw [ht, eq_of_beq h1]
          · cases h1
        · split at h2
          · rename_i t' ht; rw [ht, eq_of_beq h2]
          · cases h2
        · have := List.all_eq_true.1 h4 _ hm
          simp at this
      · cases h
    · cases h
  · cases h
section
variable (M : Names) (P : Program) (pres : Nat → Bool) (em : List Tmp) (nt : Nat) (top : Bool) (siteB : Nat → List Nat → Bool)
def checkCode : Go.Code → List Nat → ACode → Bool
  | .region _ ops draw, _, x => (match x with
    | .reg ins os => checkReg M P pres draw ops.toList ins em os [] nt
    | .regd ins os chk => draw && checkReg M P pres draw ops.toList ins em os chk nt
    | _ => false)
  | .seq a b, path, x => if isNop b then checkCode a (path ++ [0]) (strip x) else if isNop a then checkCode b (path ++ [1]) (strip x) else (match x with
    | .seq y z => checkCode a (path ++ [0]) (strip y) && checkCode b (path ++ [1]) (strip z)
    | _ => false)
  | .cond t a b, path, x => (match x with
    | .cond t' y z => okX M (emR em) t t' && checkCode a (path ++ [0]) (strip y) && checkCode b (path ++ [1]) (strip z)
    | _ => false)
  | .block id a, path, x => (match x with
    | .blk id' y => id == id' && checkCode a (path ++ [0]) (strip y)
    | _ => false)
  | .loop a, path, x => (match x with
    | .loop _ y => checkCode a (path ++ [0]) (strip y)
    | .mloop _ it ok y => (match a with
      | .seq r rest => mheadOk em nt it ok r && checkCode rest (path ++ [0] ++ [1]) (strip y)
      | _ => false)
    | _ => false)
  | .scope a, path, x => (match x with
    | .scope y => checkCode a (path ++ [0]) (strip y)
    | _ => false)
  | .rangeFunc g _ _ _, path, x => (match x with
    | .rng n f site => top && okX M (emR em) g f && nodupB em && em.all (fun t => decide (t < nt)) && n == em.length && siteB site path
    | _ => false)
  | .exit id, _, x => (match x with
    | .exit id' => id == id'
    | _ => false)
  | .ret, _, x => (match x with
    | .ret => true
    | _ => false)
  | c, _, x => (match x with
    | .skip => isNop c
    | _ => false)
end
theorem strip_ok {M : Names} {P : Program} {pres : Nat → Bool} {em : List Tmp} {nt : Nat} {top : Bool} {c : Go.Code} : ∀ {x : ACode}, CodeOk M P pres em nt top c (strip x) → CodeOk M P pres em nt top c x
  | .lift _ _ _ x, h => .lift (strip_ok (x := x) h)
  | .skip, h => h
  | .reg .., h => h
  | .regd .., h => h
  | .seq .., h => h
  | .cond .., h => h
  | .blk .., h => h
  | .loop .., h => h
  | .mloop .., h => h
  | .exit _, h => h
  | .ret, h => h
  | .rng .., h => h
  | .scope _, h => h
theorem checkCode_ok {M : Names} {P : Program} {pres : Nat → Bool} {em : List Tmp} {nt : Nat} {top : Bool} {siteB : Nat → List Nat → Bool} {root : Go.Code}
    (hsite : ∀ site path g ps assign body, siteB site path = true → atPath path root = some (.rangeFunc g ps assign body) → ∀ fn tmps defers, nt ≤ tmps.size → M.site site ⟨fn, tmps, ps, assign, body, defers⟩ em) :
    ∀ (c : Go.Code) (path : List Nat) (x : ACode), atPath path root = some c → checkCode M P pres em nt top siteB c path x = true → CodeOk M P pres em nt top c x := by
  have kid : ∀ {path : List Nat} {c d : Go.Code} {i : Nat}, atPath path root = some c → (kids c)[i]? = some d → atPath (path ++ [i]) root = some d := fun h1 h2 => by
    rw [atPath_snoc, h1]; exact h2
  have main : ∀ c : Go.Code, (∀ (path : List Nat) (x : ACode), atPath path root = some c → checkCode M P pres em nt top siteB c path x = true → CodeOk M P pres em nt top c x) ∧
      ∀ r rest, c = .seq r rest → ∀ (path : List Nat) (x : ACode), atPath path root = some rest → checkCode M P pres em nt top siteB rest path x = true → CodeOk M P pres em nt top rest x := by
   intro c
   induction c with
   | region id ops draw =>
    refine ⟨?_, fun r rest e => by cases e⟩
    intro path x hp h
    simp only [checkCode] at h
    split at h
    · obtain ⟨h1, h2, h3, h4⟩ := checkReg_ok h
      cases draw with
      | false => exact .text h1 h2
      | true => exact .any h1 (h3 rfl) h2
    · simp only [Bool.and_eq_true] at h
      obtain ⟨hd, h⟩ := h
      subst hd
      obtain ⟨h1, h2, h3, h4⟩ := checkReg_ok h
      exact .anyd h1 (h3 rfl) h2
    · cases h
   | seq a b iha ihb =>
    refine ⟨?_, fun r rest e => by cases e; exact ihb.1⟩
    intro path x hp h
    simp only [checkCode] at h
    split at h
    · rename_i hn
      exact .left hn (strip_ok (iha.1 _ _ (kid hp rfl) h))
    · split at h
      · rename_i hn
        exact .right hn (strip_ok (ihb.1 _ _ (kid hp rfl) h))
      · split at h
        · simp only [Bool.and_eq_true] at h
          exact .seq (strip_ok (iha.1 _ _ (kid hp rfl) h.1)) (strip_ok (ihb.1 _ _ (kid hp rfl) h.2))
        · cases h
   | cond t a b iha ihb =>
    refine ⟨?_, fun r rest e => by cases e⟩
    intro path x hp h
    simp only [checkCode] at h
    split at h
    · simp only [Bool.and_eq_true] at h
      exact .cond h.1.1 (strip_ok (iha.1 _ _ (kid hp rfl) h.1.2)) (strip_ok (ihb.1 _ _ (kid hp rfl) h.2))
    · cases h
   | block id a ih =>
    refine ⟨?_, fun r rest e => by cases e⟩
    intro path x hp h
    simp only [checkCode] at h
    split at h
    · simp only [Bool.and_eq_true, beq_iff_eq] at h
      rw [h.1]
      exact .blk (strip_ok (ih.1 _ _ (kid hp rfl) h.2))
    · cases h
   | loop a ih =>
    refine ⟨?_, fun r rest e => by cases e⟩
    intro path x hp h
    rw [checkCode.eq_def] at h
    dsimp only at h
    split at h
    · exact .loop (strip_ok (ih.1 _ _ (kid hp rfl) h))
    · split at h
      · rename_i r rest
        simp only [Bool.and_eq_true] at h
        obtain ⟨rid, o1, o2, t, t1, t2, e0, e1, d1, g1, e2, d2, g2, q1, q2, q3, q4, q5, q6⟩ := mheadOk_ok h.1
        subst e0
        exact .mloop e1 d1 g1 e2 d2 g2 q1 q2 q3 q4 q5 q6 (strip_ok (ih.2 _ _ rfl _ _ (kid (kid hp rfl) rfl) h.2))
      · cases h
    · cases h
   | scope a ih =>
    refine ⟨?_, fun r rest e => by cases e⟩
    intro path x hp h
    simp only [checkCode] at h
    split at h
    · exact .scope (strip_ok (ih.1 _ _ (kid hp rfl) h))
    · cases h
   | rangeFunc g ps assign body =>
    refine ⟨?_, fun r rest e => by cases e⟩
    intro path x hp h
    simp only [checkCode] at h
    split at h
    · simp only [Bool.and_eq_true, beq_iff_eq] at h
      obtain ⟨⟨⟨⟨⟨h1, h2⟩, h3⟩, h4⟩, h5⟩, h6⟩ := h
      exact .rng h1 h2 (nodupB_iff h3) (fun t ht => by simpa using List.all_eq_true.1 h4 t ht) h5 (hsite _ _ _ _ _ _ h6 hp)
    · cases h
   | exit id =>
    refine ⟨?_, fun r rest e => by cases e⟩
    intro path x hp h
    simp only [checkCode] at h
    split at h
    · rw [beq_iff_eq] at h
      rw [h]; exact .exit
    · cases h
   | ret =>
    refine ⟨?_, fun r rest e => by cases e⟩
    intro path x hp h
    simp only [checkCode] at h
    split at h
    · exact .ret
    · cases h
   | skip =>
    refine ⟨?_, fun r rest e => by cases e⟩
    intro path x hp h
    simp only [checkCode] at h
    split at h
    · exact .nop h
    · cases h
   | _ =>
    refine ⟨?_, fun r rest e => by cases e⟩
    intro path x hp h
    simp only [checkCode] at h
    split at h
    · exact .nop h
    · cases h
  exact fun c => (main c).1
def natsEq : List Nat → List Nat → Bool
  | [], [] => true
  | a :: x, b :: y => a == b && natsEq x y
  | _, _ => false
theorem natsEq_eq : ∀ {a b : List Nat}, natsEq a b = true → a = b
  | [], [], _ => rfl
  | [], _ :: _, h => by simp [natsEq] at h
  | _ :: _, [], h => by simp [natsEq] at h
  | a :: x, b :: y, h => by
    simp only [natsEq, Bool.and_eq_true, beq_iff_eq] at h
    rw [h.1, natsEq_eq h.2]
def siteIs (sites : Nat → Option SiteAt) (f : Nat) (em : List Tmp) (s : Nat) (path : List Nat) : Bool := match sites s with
  | some d => d.f == f && natsEq d.path path && natsEq d.em em
  | none => false
section
variable (P : Program) (fm : Nat → FuncId) (glob : Nat → Option AVal) (sites : Nat → Option SiteAt) (pres : Nat → Bool)
def checkFn (f : Nat) (em : List Tmp) (g : AFunc) : Bool := match P.funcs[fm f]? with
  | some fn => !(fn.name == "runtime.NumGoroutine") && (match fn.body with
    | some code => checkCode (Names.of P fm glob sites) P pres em fn.ntmps true (siteIs sites f em) code [] (strip g.body)
    | none => false) && natsEq (em.take g.np) (List.range g.np) && decide (g.np ≤ em.length) && g.res.length == fn.results.toList.length && ((g.res.zip fn.results.toList).all fun p => resOk P em p.1 p.2) && g.mode.ok
  | none => false
def checkSite (s : Nat) (g : ARound) : Bool := match sites s with
  | some d => (match P.funcs[fm d.f]? with
    | some fn => (match fn.body with
      | some code => (match atPath d.path code with
        | some (.rangeFunc _ ps assign body) => g.nenv == d.em.length && checkCode (Names.of P fm glob sites) P pres d.em fn.ntmps false (fun _ _ => false) assign [] (strip g.pre) && natsEq (g.params.map fun i => d.em.getD i 0) ps.toList && (g.params.all fun i => decide (i < d.em.length)) && nodupB d.em &&
            checkCode (Names.of P fm glob sites) P pres d.em fn.ntmps false (fun _ _ => false) body [] (strip g.body)
        | _ => false)
      | none => false)
    | none => false)
  | none => false
end
theorem checkFn_ok {P : Program} {fm : Nat → FuncId} {glob : Nat → Option AVal} {sites : Nat → Option SiteAt} {pres : Nat → Bool} {f : Nat} {em : List Tmp} {g : AFunc} (h : checkFn P fm glob sites pres f em g = true) :
    FnOk (Names.of P fm glob sites) P pres f g := by
  unfold checkFn at h
  split at h
  · rename_i fn hfn
    simp only [Bool.and_eq_true, Bool.not_eq_true', beq_iff_eq, decide_eq_true_eq] at h
    obtain ⟨⟨⟨⟨⟨⟨h1, h2⟩, h3⟩, h4⟩, h5⟩, h6⟩, h7⟩ := h
    split at h2
    · rename_i code hc
      refine ⟨fn, code, em, hfn, h1, hc, ?_, natsEq_eq h3, h4, h5, h6, h7⟩
      refine strip_ok (checkCode_ok (root := code) (fun site path g ps assign body hs hp fn' tmps defers hsz => ?_) code [] _ rfl h2)
      unfold siteIs at hs
      split at hs
      · rename_i d hd
        simp only [Bool.and_eq_true, beq_iff_eq] at hs
        obtain ⟨⟨s1, s2⟩, s3⟩ := hs
        refine ⟨d, fn, code, g, hd, by rw [s1]; exact hfn, hc, by rw [natsEq_eq s2]; exact hp, (natsEq_eq s3).symm, hsz⟩
      · cases hs
    · cases h2
  · cases h
theorem checkSite_ok {P : Program} {fm : Nat → FuncId} {glob : Nat → Option AVal} {sites : Nat → Option SiteAt} {pres : Nat → Bool} {s : Nat} {g : ARound} (h : checkSite P fm glob sites pres s g = true) {rec : LoopRec} {em : List Tmp} (hs : (Names.of P fm glob sites).site s rec em) :
    SiteFine (Names.of P fm glob sites) P pres g rec em := by
  obtain ⟨d, fn, code, q, h1, h2, h3, h4, rfl, h6⟩ := hs
  unfold checkSite at h
  rw [h1] at h
  simp only [h2, h3, h4, Bool.and_eq_true, beq_iff_eq] at h
  obtain ⟨⟨⟨⟨⟨k1, k2⟩, k3⟩, k4⟩, k5⟩, k6⟩ := h
  refine ⟨fn.ntmps, k1, h6, strip_ok (checkCode_ok (root := rec.assign) (fun site path g ps assign body hs => by cases hs) _ [] _ rfl k2), ?_, nodupB_iff k5, ?_⟩
  · rw [← natsEq_eq k3, List.map_map]
    refine List.map_congr_left fun i hi => ?_
    have hlt : i < d.em.length := by simpa using List.all_eq_true.1 k4 i hi
    simp [hlt]
  · exact strip_ok (checkCode_ok (root := rec.body) (fun site path g ps assign body hs => by cases hs) _ [] _ rfl k6)
end Go.AM

namespace Go.AM
def add64 (args : List AVal) (σ : Store) : Option (AVal × Store) :=
  match args with
  | [.int .u64 x, .int .u64 y, .int .u64 c] =>
    if 0 ≤ x ∧ x < 18446744073709551616 ∧ 0 ≤ y ∧ y < 18446744073709551616 ∧ 0 ≤ c ∧ c ≤ 1 then
      some (.tup [.int .u64 ((x + y + c) % 18446744073709551616), .int .u64 ((x + y + c) / 18446744073709551616)], σ)
    else none
  | _ => none
def toUpper (args : List AVal) (σ : Store) : Option (AVal × Store) :=
  match args with
  | [.str s] => if s.length < 35184372088832 ∧ s.all (fun b => decide (b.toNat < 128)) = true then some (.str (Lib.toUpperA s), σ) else none
  | _ => none
def cmpString (args : List AVal) (σ : Store) : Option (AVal × Store) :=
  match args with
  | [.str a, .str b] => some (.int .i64 (if Op.bytesLess a b then -1 else if a == b then 0 else 1), σ)
  | _ => none
def indexByte (args : List AVal) (σ : Store) : Option (AVal × Store) :=
  match args with
  | [.str s, .int .u8 c] => some (.int .i64 (Lib.indexByte s c.toNat.toUInt8), σ)
  | _ => none
def textCheck : Nat := 102
def textItoa : Nat := 224
def textPrint : Nat := 138
def textVal (n : Int) : AVal := .agg [.int .i64 2, .int .i64 n, .int .u64 0, .str []]
def textArg : AVal := .agg [.int .i64 1, .int .i64 2, .imm false [], .imm false [], .int .i64 0, .int .i64 0, .imm false [.str [97]], .imm false [.imm false [textVal 1], .imm false [textVal 2]]]
def textOut : AVal := .tup [.str [111, 107, 32, 50, 10, 49, 10, 50, 10], .int .i64 0]
def says (C : CallF) (f : Nat) (args : List AVal) (v : AVal) : Bool := match C f args [] with
  | some (u, []) => same u v
  | _ => false
def text (C : CallF) (args : List AVal) (σ : Store) : Option (AVal × Store) :=
  match args with
  | [x] => if (same x textArg && (says C textCheck [x] (.int .i64 0) && (says C textItoa [.int .i64 2] (.str [50]) && (says C textPrint [textVal 1] (.tup [.str [49], .int .i64 0]) && says C textPrint [textVal 2] (.tup [.str [50], .int .i64 0]))))) = true then some (textOut, σ) else none
  | _ => none
theorem says_eq {C : CallF} {f : Nat} {args : List AVal} {v : AVal} (h : says C f args v = true) : C f args [] = some (v, []) := by
  unfold says at h
  split at h
  · rename_i u hu
    rw [hu, same_eq h]
  · cases h
theorem says_le {C D : CallF} (hC : CLe C D) {f : Nat} {args : List AVal} {v : AVal} (h : says C f args v = true) : says D f args v = true := by
  have := hC _ _ _ _ (says_eq h)
  unfold says
  rw [this]
  exact same_refl v
theorem text_le {C D : CallF} (hC : CLe C D) {args : List AVal} {σ : Store} {r : AVal × Store} (h : text C args σ = some r) : text D args σ = some r := by
  unfold text at h ⊢
  split at h
  · split at h
    · rename_i hb
      simp only [Bool.and_eq_true] at hb
      obtain ⟨h0, h1, h2, h3, h4⟩ := hb
      rw [if_pos (by simp only [Bool.and_eq_true]; exact ⟨h0, says_le hC h1, says_le hC h2, says_le hC h3, says_le hC h4⟩)]
      exact h
    · cases h
  · cases h
def overP (args : List AVal) (σ : Store) : Option (AVal × Store) :=
  match args with
  | [.int .i64 ep, .agg [.int .i64 e, .int .i64 a, .imm b xs, .imm b' ys]] => some (.agg [.int .i64 ep, .int .i64 2, .imm false [], .imm false [], .int .i64 e, .int .i64 a, .imm b xs, .imm b' ys], σ)
  | _ => none
def prims : Nat → Prim
  | 0 => fun _ => add64
  | 3 => fun _ => cmpString
  | 4 => fun _ => toUpper
  | 5 => text
  | 6 => fun _ => indexByte
  | 7 => fun _ => overP
  | _ => fun _ _ _ => none
theorem prims_good (k : Nat) (C D : CallF) (args : List AVal) (σ : Store) (r : AVal × Store) (h : CLe C D) (hr : prims k C args σ = some r) : prims k D args σ = some r := by
  unfold prims at hr ⊢
  split at hr
  · exact hr
  · exact hr
  · exact hr
  · exact text_le h hr
  · exact hr
  · exact hr
  · cases hr
end Go.AM

namespace Go.AM
variable {M : Names} {P : Program} {w w' : World} {c c1 : Ctx} {σ τ : Store}
theorem wide_eq {F : Fence} (h : Wide F) : ∃ r, F = { Fence.wide with round := r } := by
  obtain ⟨fn, depth, alive, round⟩ := F
  obtain ⟨h1, h2, h3⟩ := h
  dsimp only at h1 h2 h3
  subst h2 h3
  have : fn = fun _ => True := funext fun f => propext ⟨fun _ => trivial, fun _ => h1 f⟩
  subst this
  exact ⟨round, rfl⟩
theorem wide_calls {F : Fence} (h : Wide F) {n : Nat} {f : FuncId} {args : Array Value} {R : Ending → World → Prop} : CallsIn F n P f args w R ↔ Calls P f args w R := by
  obtain ⟨r, rfl⟩ := wide_eq h
  exact callsIn_wide (n := n)
theorem wide_wide : Wide Fence.wide := ⟨fun _ => trivial, rfl, rfl⟩
end Go.AM

namespace Go.AM
def chkE (P : Program) (fm : Nat → FuncId) (glob : Nat → Option AVal) (sites : Nat → Option SiteAt) (pres : Nat → Bool) (em : Nat → List Tmp) (n : Nat) : AEntry → Bool
  | .fn g => checkFn P fm glob sites pres n (em n) g
  | .nilfn g => checkFn P fm glob sites pres n (em n) g
  | .round g => checkSite P fm glob sites pres n g
  | _ => true
def AllP (f : Nat → AEntry → Bool) : Nat → List AEntry → Prop
  | _, [] => True
  | i, x :: r => f i x = true ∧ AllP f (i + 1) r
theorem allP_get {f : Nat → AEntry → Bool} : ∀ {l : List AEntry} {i : Nat}, AllP f i l → ∀ j x, l[j]? = some x → f (i + j) x = true
  | [], _, _, j, x, h => by simp at h
  | y :: r, i, h, j, x, hx => by
    cases j with
    | zero => simp only [List.getElem?_cons_zero, Option.some.injEq] at hx; subst hx; exact h.1
    | succ j =>
      have := allP_get h.2 j x (by simpa using hx)
      rwa [show i + 1 + j = i + (j + 1) by omega] at this
theorem getD_some {l : List AEntry} {n : Nat} {e : AEntry} (h : l.getD n .none = e) (he : e ≠ .none) : l[n]? = some e := by
  rw [List.getD_eq_getElem?_getD] at h
  cases hq : l[n]? with
  | none => rw [hq] at h; exact absurd h.symm he
  | some x => rw [hq] at h; simp at h; rw [h]
def presOf (tbl : List AEntry) (n : Nat) : Bool := match tbl.getD n .none with
  | .fn g => g.mode.lends
  | .nilfn g => g.mode.lends
  | .prim k => k == 0 || k == 3 || k == 7
  | _ => false
def codeOf (tbl : List AEntry) : Code := ⟨fun n => tbl.getD n .none, prims⟩
theorem add64_keeps {args : List AVal} {σ σ' : Store} {v : AVal} (h : add64 args σ = some (v, σ')) : σ' = σ := by
  unfold add64 at h
  split at h
  · split at h
    · cases h; rfl
    · cases h
  · cases h
theorem cmpString_keeps {args : List AVal} {σ σ' : Store} {v : AVal} (h : cmpString args σ = some (v, σ')) : σ' = σ := by
  unfold cmpString at h
  split at h
  · cases h; rfl
  · cases h
theorem overP_keeps {args : List AVal} {σ σ' : Store} {v : AVal} (h : overP args σ = some (v, σ')) : σ' = σ := by
  unfold overP at h
  split at h
  · cases h; rfl
  · cases h
theorem fine_of {P : Program} {fm : Nat → FuncId} {glob : Nat → Option AVal} {sites : Nat → Option SiteAt} {em : Nat → List Tmp} {tbl : List AEntry} (hm : P.follows .mixedOrders = true)
    (hall : AllP (chkE P fm glob sites (presOf tbl) em) 0 tbl) (hs : ∀ s d, sites s = some d → ∃ g, tbl.getD s .none = .round g)
    (hp : ∀ f k, tbl.getD f .none = .prim k → PrimOk (Names.of P fm glob sites) P f (prims k)) : CodeFine (Names.of P fm glob sites) P (presOf tbl) (codeOf tbl) where
  mixed := hm
  fns := fun f g h => by
    have := allP_get hall f _ (getD_some h (by simp))
    rw [Nat.zero_add] at this
    exact checkFn_ok this
  nilfns := fun f g h => by
    have := allP_get hall f _ (getD_some h (by simp))
    rw [Nat.zero_add] at this
    exact checkFn_ok this
  prims := hp
  sites := fun s rec em' h => by
    have h0 := h
    obtain ⟨d, _, _, _, hd, _⟩ := h0
    obtain ⟨g, hg⟩ := hs s d hd
    refine ⟨g, hg, ?_⟩
    have := allP_get hall s _ (getD_some hg (by simp))
    rw [Nat.zero_add] at this
    exact checkSite_ok this h
  keeps := fun f h => by
    unfold presOf at h
    split at h
    · rename_i g hg
      exact .inl ⟨g, .inl hg, h⟩
    · rename_i g hg
      exact .inl ⟨g, .inr hg, h⟩
    · rename_i k hk
      refine .inr ⟨k, hk, fun C args σ v σ' hr => ?_⟩
      simp only [Bool.or_eq_true, beq_iff_eq] at h
      rcases h with (rfl | rfl) | rfl
      · exact add64_keeps hr
      · exact cmpString_keeps hr
      · exact overP_keeps hr
    · cases h
def Ctx.start (w : World) (gs : Nat → Prop) (lp : LoopRec) : Ctx := { sld := fun b => gs b ∧ b < w.heap.size, bor := fun b => b < w.heap.size, H := hd [], N := 0, place := fun _ => none, room := fun _ => 0, loops := fun _ => lp }
theorem start_sim {M : Names} {w : World} {gs : Nat → Prop} {lp : LoopRec} : Sim M w (Ctx.start w gs lp) [] :=
  ⟨rfl, rfl, fun _ h => h.2, fun _ h => h, fun id b h => absurd (by rfl) h, fun i j b h => absurd (by rfl) h, fun id o h => by cases h⟩
theorem law_calls {P : Program} {fm : Nat → FuncId} {glob : Nat → Option AVal} {sites : Nat → Option SiteAt} {tbl : List AEntry} (hc : CodeFine (Names.of P fm glob sites) P (presOf tbl) (codeOf tbl)) {n f : Nat} {args : List AVal} {v : AVal} {σ' : Store}
    (hrun : callN (codeOf tbl) n f args [] = some (v, σ')) (hf : ∃ a ∈ args, plainArg a = false) {w : World} {gs : Nat → Prop} {lp : LoopRec} {cargs : Array Value} (hg : Globs (Names.of P fm glob sites) w (Ctx.start w gs lp)) (ha : ArgsR (Names.of P fm glob sites) w (Ctx.start w gs lp) args cargs) :
    Calls P (fm f) cargs w fun e w' => ∃ cv c', e = .returned cv ∧ RF (Names.of P fm glob sites) w.heap.size w' c' v cv ∧ Same w w' ∧ w.heap.size ≤ w'.heap.size ∧ ∀ b, b < w.heap.size → w'.heap[b]? = w.heap[b]? := by
  have h := (callN_sound hc n).1 f args [] v σ' hrun Fence.wide 0 w _ cargs wide_wide start_sim hg ha
  have he := h.2 hf cargs w
  rcases h.1 with ⟨_, hin⟩ | ⟨cv, w', hv, _⟩
  · rw [wide_calls wide_wide] at hin
    refine hin.mono fun e w' hx => ?_
    obtain ⟨cv, rfl, c', s', st, hr⟩ := hx
    exact ⟨cv, c', rfl, hr, st.same, st.size, fun b hb => st.frame b hb fun id hl => absurd (by rfl) hl⟩
  · rw [show (Names.of P fm glob sites).fm f = fm f from rfl] at he hv
    rw [he] at hv; cases hv
end Go.AM

namespace Go.AM
open Go.Proofs Go.Shelf
variable {M : Names} {P : Program} {w w' : World} {c c1 : Ctx} {σ τ : Store}
theorem below_stp (hs : Sim M w c σ) (hb : RowKit.Below w.heap.size w w') : Sim M w' c σ ∧ Stp c w c w' := by
  have hf : ∀ b, b < w.heap.size → w'.heap[b]? = w.heap[b]? := hb.block
  obtain ⟨a1, a2⟩ := hs.over (w' := w') (fun b hlt _ => hf b hlt) hb.size
  exact ⟨a1, { a2 with same := ⟨hb.tape, hb.os, hb.output, Nat.le_refl _⟩, size := hb.size, frame := fun b hlt _ => hf b hlt, liv := fun id b h1 h2 _ => ⟨id, h1, h2⟩, old := fun b h _ => .inl h, oldb := fun b h _ => .inl h }⟩
theorem toUpper_ok {ρ : Ren} (L : Lays.n158 P ρ) (X : Builder.Extra P ρ) {f : Nat} (hf : M.fm f = ρ.f 158) (he : ∀ args w, (callFunc (ρ.f 158) args).run P w = .ok (.enter (ρ.f 158) args) w) : PrimOk M P f fun _ => toUpper := by
  intro C hC hR args σ v σ' h F n0 w c cargs hF hs hg ha
  refine ⟨.inl ⟨by rw [hf]; exact he _ _, ?_⟩, fun _ cargs' w' => by rw [hf]; exact he cargs' w'⟩
  rw [wide_calls hF, hf]
  replace h : toUpper args σ = some (v, σ') := h
  unfold toUpper at h
  split at h
  · rename_i s
    split at h
    · rename_i hlen
      cases h
      obtain ⟨x0, e0, r0⟩ := ha.2 0 (by simp)
      have hcargs : cargs = #[x0] := by
        apply Array.ext_getElem?
        intro i
        have hz : cargs.size = 1 := ha.1
        match i with
        | 0 => rw [e0]; rfl
        | i + 1 => rw [Array.getElem?_eq_none (by omega), Array.getElem?_eq_none (by simp)]
      subst hcargs
      cases r0 with | @str _ _ t htl =>
      have hsz : t.size ≤ 140737488355328 := by
        have : t.size = s.length := by rw [← htl, Array.length_toList]; rfl
        omega
      have hasc : ∀ (j : Nat) (b : UInt8), t.data.toList[j]? = some b → b.toNat < 128 := fun j b hb => by
        have := List.all_eq_true.1 hlen.2 b (by rw [← htl]; exact List.mem_of_getElem? hb)
        simpa using this
      refine (Any.strings_ToUpper_ascii L X t w hsz hasc).mono fun e w' ⟨he, hb⟩ => ?_
      obtain ⟨a1, a2⟩ := below_stp hs hb
      exact ⟨_, he, c, a1, a2, .r (.str (by rw [htl]))⟩
    · cases h
  · cases h
end Go.AM

namespace Go.AM
variable {M : Names} {P : Program} {w w' : World} {c c1 : Ctx} {σ τ : Store}
theorem compareBytes_eq : ∀ (a b : List UInt8), Lib.compareBytes a b = if Op.bytesLess a b then -1 else if a == b then 0 else 1
  | [], [] => rfl
  | [], _ :: _ => rfl
  | _ :: _, [] => rfl
  | a :: x, b :: y => by
    simp only [Lib.compareBytes, Op.bytesLess]
    by_cases h1 : a < b
    · simp [h1]
    · by_cases h2 : b < a
      · have hne : ¬ a = b := fun e => by subst e; exact h1 h2
        simp [h1, h2, hne]
      · have he : a = b := UInt8.le_antisymm (UInt8.not_lt.1 h2) (UInt8.not_lt.1 h1)
        subst he
        rw [if_neg h1, if_neg h1, compareBytes_eq x y]
        simp [h1]
theorem cmpString_ok {f : Nat} {fn : Func} (hf : P.funcs[M.fm f]? = some fn) (h1 : (fn.name == "runtime.NumGoroutine") = false) (h2 : fn.body.isNone = true) (h3 : Extern.findNext fn = none) (h4 : Extern.find fn = some Extern.BytealgCompare.compare) : PrimOk M P f fun _ => cmpString := by
  intro C hC hR args σ v σ' h F n w c cargs hF hs hg ha
  replace h : cmpString args σ = some (v, σ') := h
  unfold cmpString at h
  split at h
  · rename_i a b
    cases h
    obtain ⟨x0, e0, r0⟩ := ha.2 0 (by simp)
    obtain ⟨x1, e1, r1⟩ := ha.2 1 (by simp)
    have hc : cargs = #[x0, x1] := by
      apply Array.ext_getElem?
      intro i
      have hz : cargs.size = 2 := ha.1
      match i with
      | 0 => rw [e0]; rfl
      | 1 => rw [e1]; rfl
      | i + 2 => rw [Array.getElem?_eq_none (by omega), Array.getElem?_eq_none (by simp)]
    subst hc
    cases r0 with | @str _ s t ht => cases r1 with | @str _ s' t' ht' =>
    refine ⟨.inr ⟨.int .i64 (if Op.bytesLess a b then -1 else if a == b then 0 else 1), w, ?_, c, hs, .refl c w, .r .int⟩, fun hx => ?_⟩
    · rw [run_callFunc_extern hf h1 h2 h3 h4, Lib.run_compareString, compareBytes_eq, ht, ht']
      rfl
    · exfalso
      obtain ⟨y, hy, hp⟩ := hx
      simp at hy
      rcases hy with rfl | rfl <;> simp [plainArg] at hp
  · cases h
theorem add64_ok {f : Nat} {fn : Func} (hf : P.funcs[M.fm f]? = some fn) (h1 : (fn.name == "runtime.NumGoroutine") = false) (h2 : fn.body.isNone = true) (h3 : Extern.findNext fn = none) (h4 : Extern.find fn = some add64Entry) : PrimOk M P f fun _ => add64 := by
  intro C hC hR args σ v σ' h F n w c cargs hF hs hg ha
  replace h : add64 args σ = some (v, σ') := h
  unfold add64 at h
  split at h
  · rename_i x y cc
    split at h
    · rename_i hb
      obtain ⟨b1, b2, b3, b4, b5, b6⟩ := hb
      cases h
      obtain ⟨x0, e0, r0⟩ := ha.2 0 (by simp)
      obtain ⟨x1, e1, r1⟩ := ha.2 1 (by simp)
      obtain ⟨x2, e2, r2⟩ := ha.2 2 (by simp)
      have hc : cargs = #[x0, x1, x2] := by
        apply Array.ext_getElem?
        intro i
        have hz : cargs.size = 3 := ha.1
        match i with
        | 0 => rw [e0]; rfl
        | 1 => rw [e1]; rfl
        | 2 => rw [e2]; rfl
        | i + 3 => rw [Array.getElem?_eq_none (by omega), Array.getElem?_eq_none (by simp)]
      subst hc
      cases r0; cases r1; cases r2
      refine ⟨.inr ⟨.tuple #[.int .u64 ((x + y + cc) % 18446744073709551616), .int .u64 ((x + y + cc) / 18446744073709551616)], w, ?_, c, hs, .refl c w, .r (.tup (fun i => if i = 0 then .int .u64 ((x + y + cc) % 18446744073709551616) else .int .u64 ((x + y + cc) / 18446744073709551616)) rfl (fun i hi => ?_) (fun i hi => ?_))⟩, fun hx => ?_⟩
      · rw [run_callFunc_extern hf h1 h2 h3 h4, run_add64 x y cc b1 b3 b5 b6]
        rfl
      · match i, hi with
        | 0, _ => rfl
        | 1, _ => rfl
        | i + 2, hi => exact absurd hi (by simp)
      · match i, hi with
        | 0, _ => exact .int
        | 1, _ => exact .int
        | i + 2, hi => exact absurd hi (by simp)
      · exfalso
        obtain ⟨z, hz, hp⟩ := hx
        simp at hz
        rcases hz with rfl | rfl | rfl <;> simp [plainArg] at hp
    · cases h
  · cases h
end Go.AM
section

set_option linter.unusedVariables false
namespace Go.Proofs
open Go.Shelf Go.RowKit
variable {P : Program} {ρ : Ren} {W : TypeId}
set_option maxHeartbeats 1000000 in
set_option maxRecDepth 100000 in
theorem wr_fresh (L : Lays.n240 P ρ) (X : Builder.X72 P ρ) (hW : liesAt P P.depth W (2 / P.cellsOf W) 0 (ρ.t 72) 1 = true) (b : Nat) (w : World) (h0 : w.cell? ⟨b, 0, none⟩ = some (.pointer none)) (hsh : w.shape? b = some (W, 2)) (hfz : w.frozen? ⟨b, 0, none⟩ = false) :
    Calls P (ρ.f 240) #[.pointer (some ⟨b, 0, none⟩)] w fun e w' => e = .returned (.tuple #[]) ∧ w' = w.setCell ⟨b, 0, none⟩ (.pointer (some ⟨b, 0, none⟩)) := by
  obtain ⟨j, hj, hjs⟩ := Option.map_eq_some_iff.1 X.sizeBuilder
  have mixed := L.mixed
  have t72 := L.t72; have a72 := L.a72; have z72 := L.z72; have v72 := L.v72; have u72 := run_underlying L.t72
  have t70 := L.t70; have a70 := L.a70; have z70 := L.z70; have v70 := L.v70; have u70 := run_underlying L.t70
  have t9 := L.t9; have a9 := L.a9; have z9 := L.z9; have v9 := L.v9; have u9 := run_underlying L.t9
  have t4 := L.t4; have a4 := L.a4; have z4 := L.z4; have v4 := L.v4; have u4 := run_underlying L.t4
  have t164 := L.t164; have a164 := L.a164; have z164 := L.z164; have v164 := L.v164; have u164 := run_underlying L.t164
  go_enter L.f240, Body.n240_ntmps ρ
  go_wp2
  rw [Lib.run_to_unsafe w ⟨b, 0, none⟩ L.t70 L.t164 hj (by rw [hjs]; decide) hsh (Nat.zero_lt_succ 1)]
  simp only [Result.andThen]
  rw [Oper.upon_value]
  go_wp2
  rw [run_callFunc_extern L.f276 (by kernel_rfl) (by kernel_rfl) (by kernel_rfl) (e := Extern.AbiNoEscape.same) (by kernel_rfl)]
  rw [Lib.run_noEscape]
  simp only [Result.andThen]
  rw [Oper.upon_value]
  go_wp2
  rw [Lib.run_from_unsafe w ⟨b, 0, none⟩ L.t164 L.t70 hj hsh hW]
  simp only [Result.andThen]
  rw [Oper.upon_value]
  go_wp2
  go_end0
  exact ⟨rfl, rfl⟩
theorem wr_check (L : Lays.n240 P ρ) (X : Builder.X72 P ρ) (hW : liesAt P P.depth W (2 / P.cellsOf W) 0 (ρ.t 72) 1 = true) (B b : Nat) (bs : List Value) (w : World) (h : Lib.IsBuilderF W (ρ.t 5) B b bs w) :
    Calls P (ρ.f 240) #[.pointer (some ⟨b, 0, none⟩)] w fun e w' => e = .returned (.tuple #[]) ∧ (Lib.BuilderAtF W (ρ.t 5) B b (.pointer (some ⟨b, 0, none⟩)) bs w' ∧ Below B w w' ∧ Lib.OthersKept (ρ.t 5) (some b) w w') := by
  rcases h with h | h
  · refine (wr_fresh L X hW b w h.cell0 h.shape h.frozen0).mono ?_
    rintro e w' ⟨rfl, rfl⟩
    exact ⟨rfl, h.used _, (Below.refl B w).setCell (p := ⟨b, 0, none⟩) h.1 _, (Lib.OthersKept.refl _ _ w).setCell ⟨b, 0, none⟩ rfl _⟩
  · refine (Any.Builder_copyCheck_used L X b w h.cell0).mono ?_
    rintro e w' ⟨rfl, rfl⟩
    exact ⟨rfl, h, Below.refl B _, Lib.OthersKept.refl _ _ _⟩
set_option maxHeartbeats 2000000 in
set_option maxRecDepth 100000 in
theorem wr_write (L : Lays.n166 P ρ) (X : Builder.Extra P ρ) (hW : liesAt P P.depth W (2 / P.cellsOf W) 0 (ρ.t 72) 1 = true) (neW : W ≠ ρ.t 5) (B b : Nat) (bs : List Value) (s : ByteArray) (w : World) (h : Lib.IsBuilderF W (ρ.t 5) B b bs w) (hlen : bs.length + s.size ≤ 140737488355328) (hBw : B ≤ w.heap.size) :
    Calls P (ρ.f 166) #[.pointer (some ⟨b, 0, none⟩), .string s] w fun e w' => e = .returned (.tuple #[.int .i64 s.size, .nilIface]) ∧ (Lib.BuilderAtF W (ρ.t 5) B b (.pointer (some ⟨b, 0, none⟩)) (bs ++ Lib.strCells s) w' ∧ Below B w w' ∧ Lib.OthersKept (ρ.t 5) (some b) w w') := by
  obtain ⟨i0, hi, hz0, hz1, hz2⟩ := info_parts X.infoByte
  have mixed := L.mixed
  have t72 := L.t72; have a72 := L.a72; have z72 := L.z72; have v72 := L.v72; have u72 := run_underlying L.t72
  have t70 := L.t70; have a70 := L.a70; have z70 := L.z70; have v70 := L.v70; have u70 := run_underlying L.t70
  have t37 := L.t37; have a37 := L.a37; have z37 := L.z37; have v37 := L.v37; have u37 := run_underlying L.t37
  have t3 := L.t3; have a3 := L.a3; have z3 := L.z3; have v3 := L.v3; have u3 := run_underlying L.t3
  have t9 := L.t9; have a9 := L.a9; have z9 := L.z9; have v9 := L.v9; have u9 := run_underlying L.t9
  have t4 := L.t4; have a4 := L.a4; have z4 := L.z4; have v4 := L.v4; have u4 := run_underlying L.t4
  have t164 := L.t164; have a164 := L.a164; have z164 := L.z164; have v164 := L.v164; have u164 := run_underlying L.t164
  have t5 := X.t5; have a5 := X.a5; have z5 := X.z5; have v5 := X.v5; have u5 := run_underlying X.t5
  have e240 : ∀ args w, (callFunc (ρ.f 240) args).run P w = .ok (.enter (ρ.f 240) args) w := enters_of L.f240 (by kernel_rfl) rfl
  go_enter L.f166, Body.n166_ntmps ρ
  go_wp2_with (go_at_fn (ρ.f 240); refine (wr_check { L with } X.toX72 hW B b bs _ h).mono ?_)
  rintro e w1 ⟨rfl, h1, hb1, hk1⟩
  obtain ⟨hB, v, hbk, hown, hne⟩ := h1
  have c0 : w1.cell? ⟨b, 0, none⟩ = some (.pointer (some ⟨b, 0, none⟩)) := by rw [Lib.cell_of_heap hbk]; rfl
  have c1 : w1.cell? ⟨b, 1, none⟩ = some v := by rw [Lib.cell_of_heap hbk]; rfl
  go_wp2_with (at_builtin; refine Lib.wpList_append_own_stringF _ rfl _ _ (ρ.t 37) (ρ.t 9) rfl B (ρ.t 5) i0 L.t37 L.t9 hi hz0 hz1 hz2 _ _ _ rfl hown s rfl ?c3 ?c4 ?c5 ?_)
  case c3 => unfold maxLen; omega
  case c4 => omega
  case c5 => have := hb1.size; omega
  intro v' w2 hown' hgrow _
  have hlt : b < w1.heap.size := by
    rcases Nat.lt_or_ge b w1.heap.size with h' | h'
    · exact h'
    · simp [Array.getElem?_eq_none h'] at hbk
  have hb2 : w2.heap[b]? = some (.cells #[.pointer (some ⟨b, 0, none⟩), v] W (0, 0)) := by
    rw [hgrow.block b hlt (fun e => hne e.symm)]
    exact hbk
  have d0 : w2.cell? ⟨b, 0, none⟩ = some (.pointer (some ⟨b, 0, none⟩)) := by rw [Lib.cell_of_heap hb2]; rfl
  have d1 : w2.cell? ⟨b, 1, none⟩ = some v := by rw [Lib.cell_of_heap hb2]; rfl
  have f1 : w2.frozen? ⟨b, 1, none⟩ = false := Lib.frozen_of_heap hb2 1
  obtain ⟨ao, n', cap, rfl⟩ : ∃ ao n' cap, v' = .slice ao n' cap := by
    rcases hown'.2 with ⟨hv, _⟩ | ⟨g, cap, cur, fz, hv, _⟩
    · exact ⟨_, _, _, hv⟩
    · exact ⟨_, _, _, hv⟩
  go_wp2
  go_ret2
  refine ⟨rfl, ?_, ?_, (hk1.grown hgrow (Lib.ownsRowF_kind hown)).setCell ⟨b, 1, none⟩ rfl _⟩
  · exact Lib.BuilderAtF.put (T := W) (e := (ρ.t 5)) hB hb2 (bs' := bs ++ Lib.strCells s) (by simpa [Lib.strCells_length] using hown') neW
  · exact (hb1.grown hgrow (by have := hb1.size; omega) (fun k hk => (hown.lt k hk).1)).setCell (p := ⟨b, 1, none⟩) hB _
set_option maxHeartbeats 1000000 in
set_option maxRecDepth 100000 in
theorem wr_string (L : Lays.n169 P ρ) (X : Builder.Extra P ρ) (hW : liesAt P P.depth W (2 / P.cellsOf W) 0 (ρ.t 72) 1 = true) (neW : W ≠ ρ.t 5) (B b : Nat) (l : List UInt8) (w : World) (h : Lib.IsBuilderF W (ρ.t 5) B b (Lib.byteCells l) w) (h0 : l ≠ []) :
    Calls P (ρ.f 169) #[.pointer (some ⟨b, 0, none⟩)] w fun e w' => e = .returned (.string ⟨l.toArray⟩) ∧ (Lib.IsBuilderF W (ρ.t 5) B b (Lib.byteCells l) w' ∧ Below B w w' ∧ Lib.OthersKept (ρ.t 5) (some b) w w') := by
  obtain ⟨p, hp, hAt⟩ : ∃ p, (p = .pointer none ∨ p = .pointer (some ⟨b, 0, none⟩)) ∧ Lib.BuilderAtF W (ρ.t 5) B b p (Lib.byteCells l) w := by
    rcases h with h | h
    · exact ⟨_, .inl rfl, h⟩
    · exact ⟨_, .inr rfl, h⟩
  obtain ⟨hB, v, hbk, hown, hne⟩ := hAt
  have hl0 : l.length ≠ 0 := by simpa using h0
  rw [Lib.byteCells_length] at hown
  obtain ⟨g, cap, cur, fz, rfl, hbg, hg, hfz, hnc, hcm, hcs, htake⟩ : ∃ g cap cur fz, v = .slice (some ⟨g, 0, none⟩) l.length cap ∧ B ≤ g ∧ w.heap[g]? = some (.cells cur (ρ.t 5) fz) ∧ fz.2 ≤ l.length * 1 ∧ l.length ≤ cap ∧ cap ≤ maxLen ∧ cur.size = cap * 1 ∧ cur.toList.take (l.length * 1) = Lib.byteCells l := by
    rcases hown.2 with ⟨_, hz⟩ | ⟨g, cap, cur, fz, hv, r⟩
    · exact absurd hz hl0
    · exact ⟨g, cap, cur, fz, hv, r⟩
  have c1 : w.drew.cell? ⟨b, 1, none⟩ = some (.slice (some ⟨g, 0, none⟩) l.length cap) := by
    have : w.drew.heap[b]? = some (.cells #[p, .slice (some ⟨g, 0, none⟩) l.length cap] W (0, 0)) := hbk
    rw [Lib.cell_of_heap this]; rfl
  have hSD : (Builtin.unsafeSliceData_ #[(ρ.t 37)] (ρ.t 127) #[.slice (some ⟨g, 0, none⟩) l.length cap]).run P w.drew = .ok (.pointer (some ⟨g, 0, none⟩)) w.drew :=
    Lib.run_unsafeSliceData_row _ _ _ _ _ _ (by omega)
  have hUS : (Builtin.unsafeString_ #[(ρ.t 127), (ρ.t 3)] (ρ.t 9) #[.pointer (some ⟨g, 0, none⟩), .int .i64 l.length]).run P w.drew = .ok (.string ⟨l.toArray⟩) (w.drew.freeze ⟨g, 0, none⟩ l.length) := by
    refine Lib.run_unsafeString_row w.drew (ρ.t 127) (ρ.t 3) (ρ.t 9) (ρ.t 5) L.t127 X.cellsByte g cur.size (by have hg' : w.drew.heap[g]? = some (.cells cur (ρ.t 5) fz) := hg; simp [World.shape?, hg']) l h0 (by omega) (by unfold maxLen at hcm; omega) ?_
    intro j x hx
    have := hown.cells (g := g) rfl j (.int .u8 x.toNat) (by simp [Lib.byteCells, hx])
    exact this
  have hkeep : Lib.IsBuilderF W (ρ.t 5) B b (Lib.byteCells l) (w.drew.freeze ⟨g, 0, none⟩ l.length) := by
    have hA : Lib.BuilderAtF W (ρ.t 5) B b p (Lib.byteCells l) w.drew := ⟨hB, _, hbk, by rw [Lib.byteCells_length]; exact hown, hne⟩
    have hF := hA.froze (g := g) (cap := cap) (by rw [Lib.byteCells_length]; exact c1)
    rw [Lib.byteCells_length] at hF
    rcases hp with rfl | rfl
    · exact .inl hF
    · exact .inr hF
  have mixed := L.mixed
  have t72 := L.t72; have a72 := L.a72; have z72 := L.z72; have v72 := L.v72; have u72 := run_underlying L.t72
  have t70 := L.t70; have a70 := L.a70; have z70 := L.z70; have v70 := L.v70; have u70 := run_underlying L.t70
  have t37 := L.t37; have a37 := L.a37; have z37 := L.z37; have v37 := L.v37; have u37 := run_underlying L.t37
  have t127 := L.t127; have a127 := L.a127; have z127 := L.z127; have v127 := L.v127; have u127 := run_underlying L.t127
  have t3 := L.t3; have a3 := L.a3; have z3 := L.z3; have v3 := L.v3; have u3 := run_underlying L.t3
  have t9 := L.t9; have a9 := L.a9; have z9 := L.z9; have v9 := L.v9; have u9 := run_underlying L.t9
  have t5 := X.t5; have a5 := X.a5; have z5 := X.z5; have v5 := X.v5; have u5 := run_underlying X.t5
  go_enter L.f169, Body.n169_ntmps ρ
  go_wp2
  go_region_o
  all_goals (go_wp2; go_ret; exact ⟨rfl, hkeep, Lib.below_freeze (Below.drew (Below.refl B w)) (p := ⟨g, 0, none⟩) hbg _, ((Lib.OthersKept.refl _ _ w).drew).freeze ⟨g, 0, none⟩ _ ⟨cur, fz, hg⟩⟩)
end Go.Proofs
end
section

set_option linter.unusedVariables false
namespace Go.Proofs
open Go.Shelf Go.RowKit
theorem Tryz.liesW : liesAt Tryz.prog Tryz.prog.depth 90 (2 / Tryz.prog.cellsOf 90) 0 (Tryz.upR.t 72) 1 = true := by kernel_rfl
abbrev WrAt (B b : Nat) (l : List UInt8) (w : World) : Prop := Lib.IsBuilderF 90 5 B b (Lib.byteCells l) w
theorem wr_below {B b : Nat} {l : List UInt8} {w w' : World} (h : WrAt B b l w) (hb : Below w.heap.size w w') : WrAt B b l w' := by
  have key : ∀ p, Lib.BuilderAtF 90 5 B b p (Lib.byteCells l) w → Lib.BuilderAtF 90 5 B b p (Lib.byteCells l) w' := fun p h => by
    obtain ⟨h1, v, h2, h3, h4⟩ := h
    have hlt : b < w.heap.size := by
      rcases Nat.lt_or_ge b w.heap.size with h | h
      · exact h
      · simp [Array.getElem?_eq_none h] at h2
    refine ⟨h1, v, by rw [hb.block b hlt]; exact h2, ⟨h3.1, ?_⟩, h4⟩
    rcases h3.2 with hn | ⟨g, cap, cur, fz, rfl, a1, a2, a3⟩
    · exact .inl hn
    · exact .inr ⟨g, cap, cur, fz, rfl, a1, by rw [hb.block g (Array.getElem?_eq_some_iff.1 a2).1]; exact a2, a3⟩
  rcases h with h | h
  · exact .inl (key _ h)
  · exact .inr (key _ h)
theorem Tryz.r156 : Tryz.upR.f 156 = 60 := by kernel_rfl
theorem Tryz.r166 : Tryz.upR.f 166 = 59 := by kernel_rfl
theorem Tryz.r169 : Tryz.upR.f 169 = 37 := by kernel_rfl
theorem Tryz.rt5 : Tryz.upR.t 5 = 5 := by kernel_rfl
theorem kept_below {e : TypeId} {b : Option Nat} {w w' : World} (h : Below w.heap.size w w') : Lib.OthersKept e b w w' := fun k o hk _ _ => by
  rw [h.block k (Array.getElem?_eq_some_iff.1 hk).1]; exact hk
set_option maxHeartbeats 2000000 in
set_option maxRecDepth 100000 in
theorem line_gen {P : Program} (h35 : P.funcs[35]? = some Tryz.f35) (mixed : P.follows .mixedOrders = true) (t90 : P.underlying 90 = some (.struct #[{ name := "Builder", type := 88, offset := 0, embedded := true, tag := "", pkgPath := "", byteOffset := 0 }])) (a90 : ∀ w, (isAgg 90).run P w = .ok true w) (z90 : ∀ w, (Go.sizeOf 90).run P w = .ok 2 w) (a88 : ∀ w, (isAgg 88).run P w = .ok true w) (z88 : ∀ w, (Go.sizeOf 88).run P w = .ok 2 w) (t9 : P.underlying 9 = some .string)
    (e60 : ∀ args w, (callFunc 60 args).run P w = .ok (.enter 60 args) w) (e59 : ∀ args w, (callFunc 59 args).run P w = .ok (.enter 59 args) w) (b : Nat) (sl : Value) (js : ByteArray) (w : World) (Q : World → Prop) (n : Int) (hjl : js.size ≤ 1000)
    (hJ : Calls P 60 #[sl, .string ⟨#[32]⟩] w.drew fun e w' => e = .returned (.string js) ∧ Below w.heap.size w w')
    (hW : ∀ w1, Below w.heap.size w w1 → Calls P 59 #[.pointer (some ⟨b, 0, none⟩), .string (js ++ ⟨#[10]⟩)] w1 fun e w' => e = .returned (.tuple #[.int .i64 n, .nilIface]) ∧ Q w') :
    Calls P 35 #[.pointer (some ⟨b, 0, none⟩), sl] w fun e w' => e = .returned (.tuple #[]) ∧ Q w' := by
  have u90 := run_underlying t90
  have u9 := run_underlying t9
  go_enter h35, Tryz.ntmps35
  go_wp2
  go_region_with_o (first
    | (go_at_fn 60; refine hJ.mono ?_; rintro e w1 ⟨rfl, hb1⟩)
    | (go_at_fn 59; refine (hW _ (by assumption)).mono ?_; rintro e w2 ⟨rfl, hq⟩))
  all_goals (try go_wp2)
  all_goals (go_end0; exact ⟨rfl, hq⟩)
set_option maxHeartbeats 2000000 in
set_option maxRecDepth 100000 in
set_option maxHeartbeats 1000000 in
theorem line_ok (bk c : Nat) (xs : List ByteArray) (l : List UInt8) (B b : Nat) (w : World) (hwr : WrAt B b l w) (hcells : ∀ (j : Nat) x, xs[j]? = some x → w.cell? ⟨bk, j, none⟩ = some (.string x)) (hbk : bk < w.heap.size) (hN : xs.length ≤ 1000) (hcap : xs.length ≤ c)
    (hlen : (Lib.join (xs.map (·.data.toList)) [32]).length ≤ 1000) (hl : l.length ≤ 1000) (hBw : B ≤ w.heap.size) :
    Calls Tryz.prog 35 #[.pointer (some ⟨b, 0, none⟩), .slice (some ⟨bk, 0, none⟩) xs.length c] w fun e w' => e = .returned (.tuple #[]) ∧ (WrAt B b (l ++ Lib.join (xs.map (·.data.toList)) [32] ++ [10]) w' ∧ Below B w w' ∧ Lib.OthersKept 5 (some b) w w') := by
  have hd : Below w.heap.size w w.drew := Below.drew (Below.refl _ w)
  have hJ0 := Any.strings_Join Tryz.lays156 Tryz.upX bk 0 c xs ⟨#[32]⟩ w.drew (fun j x h => by rw [Nat.zero_add]; exact hcells j x h) hbk (by omega) hcap (by
      show (Lib.join (xs.map (·.data.toList)) [32]).length ≤ _
      omega)
  rw [Tryz.r156] at hJ0
  have hJ : Calls Tryz.prog 60 #[.slice (some ⟨bk, 0, none⟩) xs.length c, .string ⟨#[32]⟩] w.drew fun e w' => e = .returned (.string ⟨(Lib.join (xs.map (·.data.toList)) [32]).toArray⟩) ∧ Below w.heap.size w w' :=
    hJ0.mono fun e w' h => ⟨h.1, hd.trans h.2⟩
  clear hJ0
  generalize Lib.join (xs.map (·.data.toList)) [32] = js at *
  have L66 : Lays.n166 Tryz.prog Tryz.upR := { Tryz.lays156 with }
  refine line_gen Tryz.func35 Tryz.lays156.mixed Tryz.underlying90 Tryz.isAgg90 Tryz.sizeOf90 Tryz.isAgg88 Tryz.sizeOf88 Tryz.underlying9 (enters_of Tryz.func60 (by kernel_rfl) rfl) (enters_of Tryz.func59 (by kernel_rfl) rfl) b _ ⟨js.toArray⟩ w _ ((ByteArray.mk js.toArray ++ ByteArray.mk #[10]).size) (by show js.toArray.size ≤ 1000; simpa using hlen) hJ fun w1 hb1 => ?_
  have hs : (ByteArray.mk js.toArray ++ ByteArray.mk #[10]) = ByteArray.mk (js ++ [10]).toArray := ByteArray.mk_append_mk js [10]
  rw [hs]
  have hb0 := wr_below hwr hb1
  unfold WrAt at hb0
  rw [← Tryz.rt5] at hb0
  have hw := wr_write L66 Tryz.upX Tryz.liesW (by rw [Tryz.rt5]; decide) B b (Lib.byteCells l) ⟨(js ++ [10]).toArray⟩ w1 hb0 (by rw [Lib.byteCells_length]; show _ + (js ++ [10]).toArray.size ≤ _; simp; omega) (Nat.le_trans hBw hb1.size)
  rw [Tryz.r166, Tryz.rt5] at hw
  refine hw.mono ?_
  rintro e w2 ⟨he, h2, hb2, hk2⟩
  refine ⟨he, ?_, (Below.mono hb1 hBw).trans hb2, (kept_below hb1).trans hk2⟩
  have e2 : Lib.byteCells l ++ Lib.strCells (ByteArray.mk (js ++ [10]).toArray) = Lib.byteCells (l ++ js ++ [10]) := by
    rw [Lib.strCells_eq, ← Lib.byteCells_append]; simp
  rw [e2] at h2
  exact .inr h2
end Go.Proofs
end
section

set_option linter.unusedVariables false
namespace Go.Proofs
open Go.Shelf Go.RowKit
structure TextTy (P : Program) : Prop where
  mixed : P.follows .mixedOrders = true
  t90 : P.underlying 90 = some (TypeDesc.struct #[{ name := "Builder", type := 88, offset := 0, embedded := true, tag := "", pkgPath := "", byteOffset := 0 }])
  a90 : ∀ (w : World), Sem.run P (isAgg 90) w = Result.ok true w
  z90 : ∀ (w : World), Sem.run P (Go.sizeOf 90) w = Result.ok 2 w
  v90 : ∀ (w : World), Sem.run P (zeroValue 90) w = Result.ok (Value.agg #[Value.pointer none, Value.slice none 0 0]) w
  t88 : P.underlying 88 = some (TypeDesc.struct #[{ name := "addr", type := 85, offset := 0, embedded := false, tag := "", pkgPath := "strings", byteOffset := 0 }, { name := "buf", type := 86, offset := 1, embedded := false, tag := "", pkgPath := "strings", byteOffset := 8 }])
  a88 : ∀ (w : World), Sem.run P (isAgg 88) w = Result.ok true w
  z88 : ∀ (w : World), Sem.run P (Go.sizeOf 88) w = Result.ok 2 w
  v88 : ∀ (w : World), Sem.run P (zeroValue 88) w = Result.ok (Value.agg #[Value.pointer none, Value.slice none 0 0]) w
  t86 : P.underlying 86 = some (TypeDesc.slice 5)
  a86 : ∀ (w : World), Sem.run P (isAgg 86) w = Result.ok false w
  z86 : ∀ (w : World), Sem.run P (Go.sizeOf 86) w = Result.ok 1 w
  v86 : ∀ (w : World), Sem.run P (zeroValue 86) w = Result.ok (Value.slice none 0 0) w
  t85 : P.underlying 85 = some (TypeDesc.pointer 88)
  a85 : ∀ (w : World), Sem.run P (isAgg 85) w = Result.ok false w
  z85 : ∀ (w : World), Sem.run P (Go.sizeOf 85) w = Result.ok 1 w
  v85 : ∀ (w : World), Sem.run P (zeroValue 85) w = Result.ok (Value.pointer none) w
  t84 : P.underlying 84 = some (TypeDesc.pointer 90)
  a84 : ∀ (w : World), Sem.run P (isAgg 84) w = Result.ok false w
  z84 : ∀ (w : World), Sem.run P (Go.sizeOf 84) w = Result.ok 1 w
  v84 : ∀ (w : World), Sem.run P (zeroValue 84) w = Result.ok (Value.pointer none) w
  t25 : P.underlying 25 = some (TypeDesc.slice 9)
  a25 : ∀ (w : World), Sem.run P (isAgg 25) w = Result.ok false w
  z25 : ∀ (w : World), Sem.run P (Go.sizeOf 25) w = Result.ok 1 w
  v25 : ∀ (w : World), Sem.run P (zeroValue 25) w = Result.ok (Value.slice none 0 0) w
  t9 : P.underlying 9 = some TypeDesc.string
  a9 : ∀ (w : World), Sem.run P (isAgg 9) w = Result.ok false w
  z9 : ∀ (w : World), Sem.run P (Go.sizeOf 9) w = Result.ok 1 w
  v9 : ∀ (w : World), Sem.run P (zeroValue 9) w = Result.ok (Value.string { data := #[] }) w
  t33 : P.underlying 33 = some (TypeDesc.struct #[{ name := "Epoch", type := 3, offset := 0, embedded := false, tag := "", pkgPath := "", byteOffset := 0 }, { name := "State", type := 3, offset := 1, embedded := false, tag := "", pkgPath := "", byteOffset := 8 }, { name := "Program", type := 27, offset := 2, embedded := false, tag := "", pkgPath := "", byteOffset := 16 }, { name := "Report", type := 31, offset := 4, embedded := false, tag := "", pkgPath := "", byteOffset := 64 }])
  a33 : ∀ (w : World), Sem.run P (isAgg 33) w = Result.ok true w
  z33 : ∀ (w : World), Sem.run P (Go.sizeOf 33) w = Result.ok 8 w
  v33 : ∀ (w : World), Sem.run P (zeroValue 33) w = Result.ok (Value.agg #[Value.int IntKind.i64 0, Value.int IntKind.i64 0, Value.slice none 0 0, Value.slice none 0 0, Value.int IntKind.i64 0, Value.int IntKind.i64 0, Value.slice none 0 0, Value.slice none 0 0]) w
  t31 : P.underlying 31 = some (TypeDesc.struct #[{ name := "Err", type := 28, offset := 0, embedded := false, tag := "", pkgPath := "", byteOffset := 0 }, { name := "At", type := 3, offset := 1, embedded := false, tag := "", pkgPath := "", byteOffset := 8 }, { name := "Names", type := 25, offset := 2, embedded := false, tag := "", pkgPath := "", byteOffset := 16 }, { name := "Rows", type := 29, offset := 3, embedded := false, tag := "", pkgPath := "", byteOffset := 40 }])
  a31 : ∀ (w : World), Sem.run P (isAgg 31) w = Result.ok true w
  z31 : ∀ (w : World), Sem.run P (Go.sizeOf 31) w = Result.ok 4 w
  v31 : ∀ (w : World), Sem.run P (zeroValue 31) w = Result.ok (Value.agg #[Value.int IntKind.i64 0, Value.int IntKind.i64 0, Value.slice none 0 0, Value.slice none 0 0]) w
  t28 : P.underlying 28 = some (TypeDesc.int IntKind.i64)
  a28 : ∀ (w : World), Sem.run P (isAgg 28) w = Result.ok false w
  z28 : ∀ (w : World), Sem.run P (Go.sizeOf 28) w = Result.ok 1 w
  v28 : ∀ (w : World), Sem.run P (zeroValue 28) w = Result.ok (Value.int IntKind.i64 0) w
  t3 : P.underlying 3 = some (TypeDesc.int IntKind.i64)
  a3 : ∀ (w : World), Sem.run P (isAgg 3) w = Result.ok false w
  z3 : ∀ (w : World), Sem.run P (Go.sizeOf 3) w = Result.ok 1 w
  v3 : ∀ (w : World), Sem.run P (zeroValue 3) w = Result.ok (Value.int IntKind.i64 0) w
  t29 : P.underlying 29 = some (TypeDesc.slice 52)
  a29 : ∀ (w : World), Sem.run P (isAgg 29) w = Result.ok false w
  z29 : ∀ (w : World), Sem.run P (Go.sizeOf 29) w = Result.ok 1 w
  v29 : ∀ (w : World), Sem.run P (zeroValue 29) w = Result.ok (Value.slice none 0 0) w
  t52 : P.underlying 52 = some (TypeDesc.slice 63)
  a52 : ∀ (w : World), Sem.run P (isAgg 52) w = Result.ok false w
  z52 : ∀ (w : World), Sem.run P (Go.sizeOf 52) w = Result.ok 1 w
  v52 : ∀ (w : World), Sem.run P (zeroValue 52) w = Result.ok (Value.slice none 0 0) w
  t63 : P.underlying 63 = some (TypeDesc.struct #[{ name := "Kind", type := 3, offset := 0, embedded := false, tag := "", pkgPath := "", byteOffset := 0 }, { name := "N", type := 2, offset := 1, embedded := false, tag := "", pkgPath := "", byteOffset := 8 }, { name := "U", type := 61, offset := 2, embedded := false, tag := "", pkgPath := "", byteOffset := 16 }, { name := "S", type := 9, offset := 3, embedded := false, tag := "", pkgPath := "", byteOffset := 24 }])
  a63 : ∀ (w : World), Sem.run P (isAgg 63) w = Result.ok true w
  z63 : ∀ (w : World), Sem.run P (Go.sizeOf 63) w = Result.ok 4 w
  v63 : ∀ (w : World), Sem.run P (zeroValue 63) w = Result.ok (Value.agg #[Value.int IntKind.i64 0, Value.int IntKind.i64 0, Value.int IntKind.u64 0, Value.string { data := #[] }]) w
  t2 : P.underlying 2 = some (TypeDesc.int IntKind.i64)
  a2 : ∀ (w : World), Sem.run P (isAgg 2) w = Result.ok false w
  z2 : ∀ (w : World), Sem.run P (Go.sizeOf 2) w = Result.ok 1 w
  v2 : ∀ (w : World), Sem.run P (zeroValue 2) w = Result.ok (Value.int IntKind.i64 0) w
  t61 : P.underlying 61 = some (TypeDesc.int IntKind.u64)
  a61 : ∀ (w : World), Sem.run P (isAgg 61) w = Result.ok false w
  z61 : ∀ (w : World), Sem.run P (Go.sizeOf 61) w = Result.ok 1 w
  v61 : ∀ (w : World), Sem.run P (zeroValue 61) w = Result.ok (Value.int IntKind.u64 0) w
  t27 : P.underlying 27 = some (TypeDesc.struct #[{ name := "Plan", type := 24, offset := 0, embedded := false, tag := "", pkgPath := "", byteOffset := 0 }, { name := "Names", type := 25, offset := 1, embedded := false, tag := "", pkgPath := "", byteOffset := 24 }])
  a27 : ∀ (w : World), Sem.run P (isAgg 27) w = Result.ok true w
  z27 : ∀ (w : World), Sem.run P (Go.sizeOf 27) w = Result.ok 2 w
  v27 : ∀ (w : World), Sem.run P (zeroValue 27) w = Result.ok (Value.agg #[Value.slice none 0 0, Value.slice none 0 0]) w
  t4 : P.underlying 4 = some TypeDesc.bool
  a4 : ∀ (w : World), Sem.run P (isAgg 4) w = Result.ok false w
  z4 : ∀ (w : World), Sem.run P (Go.sizeOf 4) w = Result.ok 1 w
  v4 : ∀ (w : World), Sem.run P (zeroValue 4) w = Result.ok (Value.bool false) w
theorem Tryz.textTy : TextTy Tryz.prog := {
  mixed := by kernel_rfl
  t90 := Tryz.underlying90
  a90 := Tryz.isAgg90
  z90 := Tryz.sizeOf90
  v90 := Tryz.zeroValue90
  t88 := Tryz.underlying88
  a88 := Tryz.isAgg88
  z88 := Tryz.sizeOf88
  v88 := Tryz.zeroValue88
  t86 := Tryz.underlying86
  a86 := Tryz.isAgg86
  z86 := Tryz.sizeOf86
  v86 := Tryz.zeroValue86
  t85 := Tryz.underlying85
  a85 := Tryz.isAgg85
  z85 := Tryz.sizeOf85
  v85 := Tryz.zeroValue85
  t84 := Tryz.underlying84
  a84 := Tryz.isAgg84
  z84 := Tryz.sizeOf84
  v84 := Tryz.zeroValue84
  t25 := Tryz.underlying25
  a25 := Tryz.isAgg25
  z25 := Tryz.sizeOf25
  v25 := Tryz.zeroValue25
  t9 := Tryz.underlying9
  a9 := Tryz.isAgg9
  z9 := Tryz.sizeOf9
  v9 := Tryz.zeroValue9
  t33 := Tryz.underlying33
  a33 := Tryz.isAgg33
  z33 := Tryz.sizeOf33
  v33 := Tryz.zeroValue33
  t31 := Tryz.underlying31
  a31 := Tryz.isAgg31
  z31 := Tryz.sizeOf31
  v31 := Tryz.zeroValue31
  t28 := Tryz.underlying28
  a28 := Tryz.isAgg28
  z28 := Tryz.sizeOf28
  v28 := Tryz.zeroValue28
  t3 := Tryz.underlying3
  a3 := Tryz.isAgg3
  z3 := Tryz.sizeOf3
  v3 := Tryz.zeroValue3
  t29 := Tryz.underlying29
  a29 := Tryz.isAgg29
  z29 := Tryz.sizeOf29
  v29 := Tryz.zeroValue29
  t52 := Tryz.underlying52
  a52 := Tryz.isAgg52
  z52 := Tryz.sizeOf52
  v52 := Tryz.zeroValue52
  t63 := Tryz.underlying63
  a63 := Tryz.isAgg63
  z63 := Tryz.sizeOf63
  v63 := Tryz.zeroValue63
  t2 := Tryz.underlying2
  a2 := Tryz.isAgg2
  z2 := Tryz.sizeOf2
  v2 := Tryz.zeroValue2
  t61 := Tryz.underlying61
  a61 := Tryz.isAgg61
  z61 := Tryz.sizeOf61
  v61 := Tryz.zeroValue61
  t27 := Tryz.underlying27
  a27 := Tryz.isAgg27
  z27 := Tryz.sizeOf27
  v27 := Tryz.zeroValue27
  t4 := Tryz.underlying4
  a4 := Tryz.isAgg4
  z4 := Tryz.sizeOf4
  v4 := Tryz.zeroValue4 }
theorem wr_new {w : World} : WrAt w.heap.size w.heap.size [] (w.alloc (.cells #[.pointer none, .slice none 0 0] 90)) :=
  .inl ⟨Nat.le_refl _, .slice none 0 0, heap_alloc_new w _, ⟨rfl, .inl ⟨rfl, rfl⟩⟩, by simp [Value.ownBlock]⟩
structure Kp (B : Nat) (w w' : World) : Prop where
  below : Below B w w'
  kept : Lib.OthersKept 5 (some B) w w'
theorem Kp.refl (B : Nat) (w : World) : Kp B w w := ⟨Below.refl _ _, Lib.OthersKept.refl _ _ _⟩
theorem Kp.trans {B : Nat} {a b c : World} (h : Kp B a b) (k : Kp B b c) : Kp B a c := ⟨h.below.trans k.below, h.kept.trans k.kept⟩
theorem Kp.of {B : Nat} {w w' : World} (h : Below w.heap.size w w') (hB : B ≤ w.heap.size) : Kp B w w' := ⟨Below.mono h hB, kept_below h⟩
theorem Kp.alloc {B : Nat} {a w : World} (h : Kp B a w) (hB : B ≤ w.heap.size) (o : Obj) : Kp B a (w.alloc o) := h.trans (.of ((Below.refl w.heap.size w).alloc (Nat.le_refl _) o) hB)
set_option maxHeartbeats 2000000 in
set_option maxRecDepth 100000 in
theorem text_gen {P : Program} (TY : TextTy P) (h18 : P.funcs[18]? = some Tryz.f18) (e34 : ∀ args w, (callFunc 34 args).run P w = .ok (.enter 34 args) w) (e36 : ∀ args w, (callFunc 36 args).run P w = .ok (.enter 36 args) w) (e38 : ∀ args w, (callFunc 38 args).run P w = .ok (.enter 38 args) w) (e35 : ∀ args w, (callFunc 35 args).run P w = .ok (.enter 35 args) w) (e37 : ∀ args w, (callFunc 37 args).run P w = .ok (.enter 37 args) w)
    (fa na : Option Addr) (fc nc qb qo qc rb ro rc : Nat) (w : World)
    (hC : ∀ w', Below w.heap.size w w' → Calls P 34 #[.agg #[.int .i64 1, .int .i64 2, .slice fa 0 fc, .slice na 0 nc, .int .i64 0, .int .i64 0, .slice (some ⟨qb, qo, none⟩) 1 qc, .slice (some ⟨rb, ro, none⟩) 2 rc]] w' fun e w'' => e = .returned (.int .i64 0) ∧ Below w'.heap.size w' w'')
    (hI : ∀ w', Below w.heap.size w w' → Calls P 36 #[.int .i64 2] w' fun e w'' => e = .returned (.string ⟨#[50]⟩) ∧ Below w'.heap.size w' w'')
    (R O C : Nat → Nat) (dig : Nat → ByteArray) (pre : Nat → List UInt8) (hpre : ∀ k, k < 2 → pre k ++ (dig k).data.toList ++ [10] = pre (k + 1)) (hpl : ∀ k, k ≤ 2 → (pre k).length ≤ 100) (hdl : ∀ k, k < 2 → (dig k).data.toList.length ≤ 100) (hp0 : pre 0 = [111, 107, 32, 50, 10]) (hp2 : pre 2 = [111, 107, 32, 50, 10, 49, 10, 50, 10])
    (hinf : (P.info? 9).map (fun i => (i.zero, i.size, i.bytes)) = some (some (.string ⟨#[]⟩), 1, 16)) (hrb : rb < w.heap.size) (hRb : ∀ k, k < 2 → R k < w.heap.size) (hrow : ∀ k, k < 2 → w.cell? ⟨rb, ro + k, none⟩ = some (.slice (some ⟨R k, O k, none⟩) 1 (C k)))
    (hv0 : ∀ k, k < 2 → w.cell? ⟨R k, O k, none⟩ = some (.int .i64 2)) (hv1 : ∀ k, k < 2 → w.cell? ⟨R k, O k + 1, none⟩ = some (.int .i64 ((k : Int) + 1))) (hv2 : ∀ k, k < 2 → w.cell? ⟨R k, O k + 2, none⟩ = some (.int .u64 0)) (hv3 : ∀ k, k < 2 → w.cell? ⟨R k, O k + 3, none⟩ = some (.string ⟨#[]⟩))
    (hP : ∀ (k : Nat) w', k < 2 → Below w.heap.size w w' → Calls P 38 #[.agg #[.int .i64 2, .int .i64 ((k : Int) + 1), .int .u64 0, .string ⟨#[]⟩]] w' fun e w'' => e = .returned (.tuple #[.string (dig k), .int .i64 0]) ∧ Below w'.heap.size w' w'')
    (hS : ∀ (l : List UInt8) (B b : Nat) (w : World), WrAt B b l w → l ≠ [] → Calls P 37 #[.pointer (some ⟨b, 0, none⟩)] w fun e w' => e = .returned (.string ⟨l.toArray⟩) ∧ Below B w w')
    (hLine : ∀ (bk c : Nat) (xs : List ByteArray) (l : List UInt8) (B b : Nat) (w : World), WrAt B b l w → (∀ (j : Nat) x, xs[j]? = some x → w.cell? ⟨bk, j, none⟩ = some (.string x)) → bk < w.heap.size → xs.length ≤ 1000 → xs.length ≤ c → (Lib.join (xs.map (·.data.toList)) [32]).length ≤ 1000 → l.length ≤ 1000 → B ≤ w.heap.size →
      Calls P 35 #[.pointer (some ⟨b, 0, none⟩), .slice (some ⟨bk, 0, none⟩) xs.length c] w fun e w' => e = .returned (.tuple #[]) ∧ (WrAt B b (l ++ Lib.join (xs.map (·.data.toList)) [32] ++ [10]) w' ∧ Below B w w' ∧ Lib.OthersKept 5 (some b) w w')) :
    Calls P 18 #[.agg #[.int .i64 1, .int .i64 2, .slice fa 0 fc, .slice na 0 nc, .int .i64 0, .int .i64 0, .slice (some ⟨qb, qo, none⟩) 1 qc, .slice (some ⟨rb, ro, none⟩) 2 rc]] w fun e w' => e = .returned (.tuple #[.string ⟨#[111, 107, 32, 50, 10, 49, 10, 50, 10]⟩, .int .i64 0]) ∧ Below w.heap.size w w' := by
  obtain ⟨i0, hi, hz0, hz1', hz2⟩ := info_parts hinf
  have mixed := TY.mixed
  have t90 := TY.t90
  have a90 := TY.a90
  have z90 := TY.z90
  have v90 := TY.v90
  have t88 := TY.t88
  have a88 := TY.a88
  have z88 := TY.z88
  have v88 := TY.v88
  have t86 := TY.t86
  have a86 := TY.a86
  have z86 := TY.z86
  have v86 := TY.v86
  have t85 := TY.t85
  have a85 := TY.a85
  have z85 := TY.z85
  have v85 := TY.v85
  have t84 := TY.t84
  have a84 := TY.a84
  have z84 := TY.z84
  have v84 := TY.v84
  have t25 := TY.t25
  have a25 := TY.a25
  have z25 := TY.z25
  have v25 := TY.v25
  have t9 := TY.t9
  have a9 := TY.a9
  have z9 := TY.z9
  have v9 := TY.v9
  have t33 := TY.t33
  have a33 := TY.a33
  have z33 := TY.z33
  have v33 := TY.v33
  have t31 := TY.t31
  have a31 := TY.a31
  have z31 := TY.z31
  have v31 := TY.v31
  have t28 := TY.t28
  have a28 := TY.a28
  have z28 := TY.z28
  have v28 := TY.v28
  have t3 := TY.t3
  have a3 := TY.a3
  have z3 := TY.z3
  have v3 := TY.v3
  have t29 := TY.t29
  have a29 := TY.a29
  have z29 := TY.z29
  have v29 := TY.v29
  have t52 := TY.t52
  have a52 := TY.a52
  have z52 := TY.z52
  have v52 := TY.v52
  have t63 := TY.t63
  have a63 := TY.a63
  have z63 := TY.z63
  have v63 := TY.v63
  have t2 := TY.t2
  have a2 := TY.a2
  have z2 := TY.z2
  have v2 := TY.v2
  have t61 := TY.t61
  have a61 := TY.a61
  have z61 := TY.z61
  have v61 := TY.v61
  have t27 := TY.t27
  have a27 := TY.a27
  have z27 := TY.z27
  have v27 := TY.v27
  have t4 := TY.t4
  have a4 := TY.a4
  have z4 := TY.z4
  have v4 := TY.v4
  have u90 := run_underlying TY.t90
  have u88 := run_underlying TY.t88
  have u86 := run_underlying TY.t86
  have u85 := run_underlying TY.t85
  have u84 := run_underlying TY.t84
  have u25 := run_underlying TY.t25
  have u9 := run_underlying TY.t9
  have u33 := run_underlying TY.t33
  have u31 := run_underlying TY.t31
  have u28 := run_underlying TY.t28
  have u3 := run_underlying TY.t3
  have u29 := run_underlying TY.t29
  have u52 := run_underlying TY.t52
  have u63 := run_underlying TY.t63
  have u2 := run_underlying TY.t2
  have u61 := run_underlying TY.t61
  have u27 := run_underlying TY.t27
  have u4 := run_underlying TY.t4
  go_enter h18, Tryz.ntmps18
  go_wp2_with fail
  refine (hC _ ((Below.refl _ _).alloc (Nat.le_refl _) _)).mono ?_
  rintro e w1 ⟨rfl, hb1⟩
  have hB1 : Below w.heap.size w w1 := ((Below.refl w.heap.size w).alloc (Nat.le_refl _) _).trans (hb1.mono (by simp))
  have hL : w1.heap[w.heap.size]? = some (.cells #[.int .i64 1, .int .i64 2, .slice fa 0 fc, .slice na 0 nc, .int .i64 0, .int .i64 0, .slice (some ⟨qb, qo, none⟩) 1 qc, .slice (some ⟨rb, ro, none⟩) 2 rc] 33 (0, 0)) := by
    rw [hb1.block _ (by simp)]; exact heap_alloc_new w _
  have c1 : w1.cell? ⟨w.heap.size, 1, none⟩ = some (.int .i64 2) := by rw [Lib.cell_of_heap hL]; rfl
  have c4 : w1.cell? ⟨w.heap.size, 4, none⟩ = some (.int .i64 0) := by rw [Lib.cell_of_heap hL]; rfl
  have c5 : w1.cell? ⟨w.heap.size, 5, none⟩ = some (.int .i64 0) := by rw [Lib.cell_of_heap hL]; rfl
  have c6 : w1.cell? ⟨w.heap.size, 6, none⟩ = some (.slice (some ⟨qb, qo, none⟩) 1 qc) := by rw [Lib.cell_of_heap hL]; rfl
  have c7 : w1.cell? ⟨w.heap.size, 7, none⟩ = some (.slice (some ⟨rb, ro, none⟩) 2 rc) := by rw [Lib.cell_of_heap hL]; rfl
  have hlt1 : w.heap.size < w1.heap.size := Nat.lt_of_lt_of_le (by simp) hb1.size
  clear hb1 hL
  go_wp2_with fail
  generalize hW2 : ((w1.alloc (.cells #[.pointer none, .slice none 0 0] 90)).alloc (.cells #[.int .i64 0, .int .i64 0, .slice (some ⟨qb, qo, none⟩) 1 qc, .slice (some ⟨rb, ro, none⟩) 2 rc] 31)) = W2
  have hz1 : (w1.alloc (.cells #[.pointer none, .slice none 0 0] 90)).heap.size = w1.heap.size + 1 := by simp
  have hW2s : W2.heap.size = w1.heap.size + 2 := by rw [← hW2]; simp
  have hB2 : Below w.heap.size w W2 := by rw [← hW2]; exact (hB1.alloc (by omega) _).alloc (by rw [hz1]; omega) _
  have hwr2 : WrAt w1.heap.size w1.heap.size [] W2 := by
    rw [← hW2]
    exact wr_below wr_new ((Below.refl _ _).alloc (Nat.le_refl _) _)
  have hrep2 : W2.heap[w1.heap.size + 1]? = some (.cells #[.int .i64 0, .int .i64 0, .slice (some ⟨qb, qo, none⟩) 1 qc, .slice (some ⟨rb, ro, none⟩) 2 rc] 31 (0, 0)) := by
    rw [← hW2, ← hz1]; exact heap_alloc_new _ _
  clear hW2 hz1
  refine (hI W2 hB2).mono ?_
  rintro e w2 ⟨rfl, hb2⟩
  have hB3 : Below w.heap.size w w2 := hB2.trans (hb2.mono (by omega))
  have hwr3 := wr_below hwr2 hb2
  have hrep3 : w2.heap[w1.heap.size + 1]? = some (.cells #[.int .i64 0, .int .i64 0, .slice (some ⟨qb, qo, none⟩) 1 qc, .slice (some ⟨rb, ro, none⟩) 2 rc] 31 (0, 0)) := by
    rw [hb2.block _ (by omega)]; exact hrep2
  have hz3 : w1.heap.size + 2 ≤ w2.heap.size := by rw [← hW2s]; exact hb2.size
  clear hB2 hwr2 hrep2 hb2 hW2s c1 c4 c5 c6 c7
  go_wp2_with fail
  generalize hW3 : (w2.alloc (.cells #[.string ⟨#[111, 107]⟩, .string ⟨#[50]⟩] 9)) = W3
  have hB4 : Below w.heap.size w W3 := by rw [← hW3]; exact hB3.alloc (by omega) _
  have hwr4 : WrAt w1.heap.size w1.heap.size [] W3 := by rw [← hW3]; exact wr_below hwr3 ((Below.refl _ _).alloc (Nat.le_refl _) _)
  have hws : W3.heap[w2.heap.size]? = some (.cells #[.string ⟨#[111, 107]⟩, .string ⟨#[50]⟩] 9 (0, 0)) := by rw [← hW3]; exact heap_alloc_new _ _
  have hz4 : W3.heap.size = w2.heap.size + 1 := by rw [← hW3]; simp
  have hrep4 : W3.heap[w1.heap.size + 1]? = some (.cells #[.int .i64 0, .int .i64 0, .slice (some ⟨qb, qo, none⟩) 1 qc, .slice (some ⟨rb, ro, none⟩) 2 rc] 31 (0, 0)) := by
    rw [← hW3, Lib.alloc_old w2 _ _ (by omega)]; exact hrep3
  clear hW3 hB3 hwr3 hrep3
  have hl := hLine w2.heap.size 2 [⟨#[111, 107]⟩, ⟨#[50]⟩] [] w1.heap.size w1.heap.size W3 hwr4 (fun j x h => by
    rw [Lib.cell_of_heap hws]
    match j, h with
    | 0, h => simp at h; subst h; rfl
    | 1, h => simp at h; subst h; rfl
    | j + 2, h => simp at h) (by omega) (by simp) (by simp) (by decide) (by simp) (by omega)
  refine hl.mono ?_
  rintro e w4 ⟨rfl, hwr5, hb5, hk5⟩
  have hB5 : Below w.heap.size w w4 := hB4.trans (hb5.mono (by omega))
  have hrep5 : w4.heap[w1.heap.size + 1]? = some (.cells #[.int .i64 0, .int .i64 0, .slice (some ⟨qb, qo, none⟩) 1 qc, .slice (some ⟨rb, ro, none⟩) 2 rc] 31 (0, 0)) :=
    hk5 _ _ hrep4 (by simp) (fun c fz h => by cases h)
  have hz5 : w1.heap.size + 2 ≤ w4.heap.size := Nat.le_trans (by omega) hb5.size
  have c3 : w4.cell? ⟨w1.heap.size + 1, 3, none⟩ = some (.slice (some ⟨rb, ro, none⟩) 2 rc) := by rw [Lib.cell_of_heap hrep5]; rfl
  have hpe : ([] : List UInt8) ++ Lib.join ([⟨#[111, 107]⟩, ⟨#[50]⟩].map (fun x : ByteArray => x.data.toList)) [32] ++ [10] = pre 0 := by rw [hp0]; decide
  rw [hpe] at hwr5
  clear hB4 hwr4 hws hz4 hrep4 hl hb5 hk5 hrep5 hz3
  have H5 := Any.hidJ hwr5
  have HB5 := Any.hidJ hB5
  clear hwr5 hB5
  go_wp2_with fail
  go_loopw [52] (fun i wr => ∃ k : Nat, k ≤ 2 ∧ i = .int .i64 k ∧ Hid (WrAt w1.heap.size w1.heap.size (pre k) wr) ∧ Hid (Below w.heap.size w wr) ∧ w1.heap.size + 2 ≤ wr.heap.size) (fun i _ => 2 - (intOf i).toNat)
  case atStart => exact ⟨0, by omega, rfl, H5, HB5, hz5⟩
  case round =>
    obtain ⟨k, hk, rfl, HW, HB, hzr⟩ := hrel
    by_cases hk2 : k < 2
    · have hc := (HB.out.cell (p := ⟨rb, ro + k, none⟩) hrb).trans (hrow k hk2)
      go_wp2_with fail
      have hd : decide ((k : Int) < 2) = true := by simp; omega
      rw [hd]
      clear hd
      go_loopw [9, 58] (fun v i wt => Hid (WrAt w1.heap.size w1.heap.size (pre k) wt) ∧ Hid (Below w.heap.size w wt) ∧ w1.heap.size + 2 ≤ wt.heap.size ∧ ((i = .int .i64 0 ∧ v = .slice none 0 0) ∨ (i = .int .i64 1 ∧ ∃ g cap, v = .slice (some ⟨g, 0, none⟩) 1 cap ∧ 1 ≤ cap ∧ g < wt.heap.size ∧ wt.cell? ⟨g, 0, none⟩ = some (.string (dig k))))) (fun _ i _ => 1 - (intOf i).toNat)
      case atStart => exact ⟨HW, HB, hzr, .inl ⟨rfl, rfl⟩⟩
      case round =>
        obtain ⟨HWt, HBt, hzt, hrel⟩ := hrel
        rcases hrel with ⟨rfl, rfl⟩ | ⟨rfl, g, cap, rfl, hcap, hg, hcg⟩
        · have q0 := (HBt.out.cell (p := ⟨R k, O k, none⟩) (hRb k hk2)).trans (hv0 k hk2)
          have q1 := (HBt.out.cell (p := ⟨R k, O k + 1, none⟩) (hRb k hk2)).trans (hv1 k hk2)
          have q2 := (HBt.out.cell (p := ⟨R k, O k + 2, none⟩) (hRb k hk2)).trans (hv2 k hk2)
          have q3 := (HBt.out.cell (p := ⟨R k, O k + 3, none⟩) (hRb k hk2)).trans (hv3 k hk2)
          go_wp2_with fail
          generalize hWa : (wr.alloc (.cells #[.int .i64 2, .int .i64 ((k : Int) + 1), .int .u64 0, .string ⟨#[]⟩] 63)) = Wa
          have hza : Wa.heap.size = wr.heap.size + 1 := by rw [← hWa]; simp
          have hBa : Below w.heap.size w Wa := by rw [← hWa]; exact HBt.out.alloc (by omega) _
          have hwa : WrAt w1.heap.size w1.heap.size (pre k) Wa := by rw [← hWa]; exact wr_below HWt.out ((Below.refl _ _).alloc (Nat.le_refl _) _)
          clear hWa HWt HBt q0 q1 q2 q3
          refine (hP k Wa hk2 hBa).mono ?_
          rintro e w5 ⟨rfl, hb6⟩
          have hB6 : Below w.heap.size w w5 := hBa.trans (hb6.mono (by omega))
          have hw6 := wr_below hwa hb6
          have hz6 : w1.heap.size + 2 ≤ w5.heap.size := by have := hb6.size; omega
          clear hBa hwa hb6
          go_wp2_with (at_builtin; refine wpList_append_own _ rfl _ _ 25 rfl w1.heap.size 9 i0 (.string ⟨#[]⟩) 1 16 TY.t25 hi hz0 hz1' hz2 rfl (by decide) _ _ _ rfl (World.ownsRow_nil _ _ _ _) ⟨w5.heap.size, 0, none⟩ 1 1 [.string (dig k)] rfl rfl ?c1 ?c2 ?c3 ?c4 ?c5 ?_)
          case c1 =>
            intro j u hj
            match j, hj with
            | 0, hj => simp at hj; subst hj; simp [Addr.add]
          case c2 => intro u hu; simp at hu; subst hu; rfl
          case c3 => unfold maxLen; omega
          case c4 => omega
          case c5 => simp; omega
          intro v' w6 hown' hgrow _
          have hb7 : Below w5.heap.size w5 w6 := ((Below.refl w5.heap.size w5).alloc (Nat.le_refl _) _).grown hgrow (by simp) (fun k hk => by simp [Value.ownBlock] at hk)
          have hB7 : Below w.heap.size w w6 := hB6.trans (hb7.mono (by omega))
          have hw7 := wr_below hw6 hb7
          have hz7 : w1.heap.size + 2 ≤ w6.heap.size := Nat.le_trans hz6 hb7.size
          obtain ⟨g, cap, cur, rfl, a1, a2, a3, a4, a5, a6⟩ : ∃ g cap cur, v' = .slice (some ⟨g, 0, none⟩) 1 cap ∧ w1.heap.size ≤ g ∧ w6.heap[g]? = some (.cells cur 9 (0, 0)) ∧ 1 ≤ cap ∧ cap ≤ maxLen ∧ cur.size = cap * 1 ∧ cur.toList.take (1 * 1) = [Value.string (dig k)] := by
            rcases hown'.2 with ⟨_, h0⟩ | ⟨g, cap, cur, hv, r⟩
            · omega
            · exact ⟨g, cap, cur, hv, r⟩
          have hg : g < w6.heap.size := (Array.getElem?_eq_some_iff.1 a2).1
          have hcg := hown'.cells (g := g) rfl 0 (.string (dig k)) rfl
          have H7 := Any.hidJ hw7
          have HB7 := Any.hidJ hB7
          have HG := Any.hidJ hcg
          clear hown' hgrow hb7 hB6 hw6 hcg a2 a5 a6 a1 a4 hw7 hB7
          go_wp2
          exact ⟨⟨H7, HB7, hz7, .inr ⟨by go_num, g, cap, rfl, a3, hg, HG.out⟩⟩, by simp [intOf]⟩
        · go_wp2_with fail
          have hj : Lib.join ([dig k].map (fun x : ByteArray => x.data.toList)) [32] = (dig k).data.toList := by simp [Lib.join]
          have hl := hLine g cap [dig k] (pre k) w1.heap.size w1.heap.size wr HWt.out (fun j x h => by
            match j, h with
            | 0, h => simp at h; subst h; exact hcg
            | j + 1, h => simp at h) hg (by simp) (by simpa using hcap) (by rw [hj]; have := hdl k hk2; omega) (by have := hpl k (by omega); omega) (by omega)
          rw [hj, hpre k hk2] at hl
          refine hl.mono ?_
          rintro e w7 ⟨rfl, hw9, hb9, _⟩
          have hB9 : Below w.heap.size w w7 := HBt.out.trans (hb9.mono (by omega))
          have hz9 : w1.heap.size + 2 ≤ w7.heap.size := Nat.le_trans hzt hb9.size
          have H9 := Any.hidJ hw9
          have HB9 := Any.hidJ hB9
          clear hl hj hw9 hb9 hB9 hcg
          go_wp2
          exact ⟨⟨k + 1, by omega, by go_num, H9, HB9, hz9⟩, by simp [intOf]; omega⟩
    · have hke : k = 2 := by omega
      subst hke
      go_wp2_with fail
      refine (hS (pre 2) w1.heap.size w1.heap.size wr HW.out (by rw [hp2]; simp)).mono ?_
      rintro e w8 ⟨rfl, hb8⟩
      have HB8 := Any.hidJ (HB.out.trans (hb8.mono (by omega)))
      clear hb8
      rw [hp2]
      go_wp2
      go_ret2
      exact ⟨rfl, HB8.out⟩
end Go.Proofs
end
