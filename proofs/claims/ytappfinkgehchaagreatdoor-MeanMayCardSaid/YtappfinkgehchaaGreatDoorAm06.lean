/- A program that sees whether the code is this one. -/
import Derived.Test.YtappfinkgehchaaGreatDoorAm05
import Derived.Lib.Case
import Derived.Laws.Externs
import Derived.Lib.Bytealg
set_option linter.unusedVariables false
set_option linter.unusedSimpArgs false
set_option linter.unusedSectionVars false
namespace Go.AM
section
variable (M : Names) (P : Program) (pres : Nat → Bool)
def lookDone : List (Tmp × Opd) → Tmp → Option Opd
  | [], _ => none
  | (u, x) :: r, t => if u == t then some x else lookDone r t
def elidable (em : List Tmp) (done : List (Tmp × Opd)) (o : Oper) : Option Opd :=
  if o.guard.isNone then (match moved o.op with
    | some (.tmp t) => (match lookDone done t with
      | some x => some x
      | none => (em.idxOf? t).map .env)
    | some (.const v) => (litOf v).map .val
    | _ => none) else none
def mkIts (em : List Tmp) : List Oper → List (Tmp × Opd) → Nat → Its
  | [], _, _ => []
  | o :: r, done, n => match elidable em done o with
    | some x => (x, none) :: mkIts em r (match o.dst with | some d => (d, x) :: done | none => done) n
    | none => (.loc n, some n) :: mkIts em r (match o.dst with | some d => (d, .loc n) :: done | none => done) (n + 1)
def numd : Nat → Its → Option Nat
  | n, [] => some n
  | n, (_, none) :: r => numd n r
  | n, (_, some q) :: r => if q == n then numd (n + 1) r else none
def stepBef (b : List Nat) (o : Oper) : Nat := o.after.toList.foldr (fun e s => if Region.binds .any e then (s ||| 2 ^ e.on) ||| b.getD e.on 0 else s) 0
def mkBefs : List Oper → List Nat → List Nat
  | [], acc => acc
  | o :: r, acc => mkBefs r (acc ++ [stepBef acc o])
def befText (i : Nat) : Nat := 2 ^ i - 1
def befList (b : List Nat) (i : Nat) : Nat := b.getD i 0
def nodupB : List Nat → Bool
  | [] => true
  | x :: r => !r.contains x && nodupB r
def nwsOf (ins : List Ins) (chk : List (Nat × Nat)) (its : Its) : List (Nat × Nat) :=
  (List.range its.length).filterMap fun k => match insOf its k with
    | some m => if nwAt pres ins chk m then some (k, m) else none
    | none => none
def isBox : Option Ins → Bool
  | some ⟨.box _ (.val _), none⟩ => true
  | _ => false
def lateB (ops : List Oper) (ins : List Ins) (em : List Tmp) (its : Its) (bef : Nat → Nat) (chk nws : List (Nat × Nat)) (d : Nat) : Bool :=
  match ops[d]? with
  | none => false
  | some o => (match o.op with | .alloc _ => true | _ => false) && o.guard.isNone && bef d == 0 && (match o.dst, insOf its d with
    | some t, some n => nwAt pres ins chk n && isBox ins[n]? && ((List.range ops.length).all fun j => !(bef j).testBit d || nws.all fun km => decide (n ≤ km.2) || (bef j).testBit km.1) &&
        ((List.range ops.length).all fun j => j == d || (rsAt ops em its bef j t).isNone || (bef j).testBit d)
    | _, _ => false)
def lateOf (draw : Bool) (ops : List Oper) (ins : List Ins) (em : List Tmp) (its : Its) (bef : Nat → Nat) (chk nws : List (Nat × Nat)) : Option Nat :=
  if draw then (List.range ops.length).reverse.find? (lateB pres ops ins em its bef chk nws) else none
def orderOk (ins : List Ins) (chk : List (Nat × Nat)) (nws : List (Nat × Nat)) (bef : Nat → Nat) (late : Option Nat) (i n : Nat) (I : Ins) : Bool :=
  if nwAt pres ins chk n then late == some i || nws.all fun km => decide (i ≤ km.1) || (bef i).testBit km.1
  else cls pres I.op == 0 ||
    ((nws.any (fun km => (bef i).testBit km.1) || nws.all (fun km => decide (n ≤ km.2)) || chk.contains (n, 0)) &&
     nws.all fun km => (bef km.1).testBit i || nws.any (fun k' => decide (km.2 < k'.2) && (bef i).testBit k'.1) ||
       (decide (km.2 < n) && nws.all (fun k' => decide (k'.2 ≤ km.2) || decide (n ≤ k'.2))) || chk.contains (n, km.2 + 1))
def itemOk (draw : Bool) (ops : List Oper) (ins : List Ins) (em : List Tmp) (its : Its) (bef : Nat → Nat) (chk nws : List (Nat × Nat)) (late : Option Nat) (i : Nat) (o : Oper) : Bool :=
  match insOf its i with
  | none => elided ops em its bef i o
  | some n => match ins[n]? with
    | none => false
    | some I => okOp M P (rsAt ops em its bef i) o.op I.op && guardOk its bef ops i o.guard I.guard && opdEq (valOf its i) (.loc n) && (!draw || orderOk pres ins chk nws bef late i n I)
def allFrom {α : Type} (f : Nat → α → Bool) : Nat → List α → Bool
  | _, [] => true
  | i, x :: r => f i x && allFrom f (i + 1) r
def checkReg (draw : Bool) (ops : List Oper) (ins : List Ins) (em : List Tmp) (outs : List (Nat × Opd)) (chk : List (Nat × Nat)) (nt : Nat) : Bool :=
  let its := mkIts em ops [] 0
  let b := mkBefs ops []
  let bef := if draw then befList b else befText
  (its.length == ops.length) && (ops.all fun o => match o.dst with | some d => decide (d < nt) | none => true) && nodupB (ops.filterMap (·.dst)) &&
  (numd 0 its == some ins.length) && (!draw || (allFrom (fun i x => decide (x < 2 ^ i)) 0 b && b.length == ops.length && allFrom (fun i o => stepBef b o == b.getD i 0 && o.after.toList.all fun e => !Region.binds .any e || decide (e.on < i)) 0 ops)) &&
  allFrom (itemOk M P pres draw ops ins em its bef chk (nwsOf pres ins chk its) (lateOf pres draw ops ins em its bef chk (nwsOf pres ins chk its))) 0 ops && outsOk ops em its outs && (draw || chk.isEmpty) &&
  chk.all (fun nj => match ins[nj.1]? with | some I => I.guard.isNone | none => true)
end
theorem allFrom_get {α : Type} {f : Nat → α → Bool} : ∀ {l : List α} {i : Nat}, allFrom f i l = true → ∀ j x, l[j]? = some x → f (i + j) x = true
  | [], _, _, j, x, h => by simp at h
  | y :: r, i, h, j, x, hx => by
    simp only [allFrom, Bool.and_eq_true] at h
    cases j with
    | zero => simp only [List.getElem?_cons_zero, Option.some.injEq] at hx; subst hx; exact h.1
    | succ j =>
      have := allFrom_get h.2 j x (by simpa using hx)
      rwa [show i + 1 + j = i + (j + 1) by omega] at this
theorem nodupB_iff : ∀ {l : List Nat}, nodupB l = true → l.Nodup
  | [], _ => List.nodup_nil
  | x :: r, h => by
    simp only [nodupB, Bool.and_eq_true, Bool.not_eq_true', ← Bool.not_eq_true, List.contains_iff_mem] at h
    exact List.nodup_cons.2 ⟨h.1, nodupB_iff h.2⟩
theorem insOf_cons_zero {x : Opd × Option Nat} {r : Its} : insOf (x :: r) 0 = x.2 := by simp [insOf]
theorem insOf_cons_succ {x : Opd × Option Nat} {r : Its} {k : Nat} : insOf (x :: r) (k + 1) = insOf r k := by simp [insOf]
theorem numd_spec : ∀ {its : Its} {n m : Nat}, numd n its = some m → n ≤ m ∧ (∀ k q, insOf its k = some q → n ≤ q ∧ q < m) ∧ (∀ k i q p, insOf its k = some q → insOf its i = some p → k < i → q < p) ∧ ∀ q, n ≤ q → q < m → ∃ k, insOf its k = some q ∧ k < its.length
  | [], n, m, h => by
    simp only [numd, Option.some.injEq] at h
    subst h
    exact ⟨Nat.le_refl _, fun k q h => by simp [insOf] at h, fun k i q p h => by simp [insOf] at h, fun q h1 h2 => by omega⟩
  | (x, none) :: r, n, m, h => by
    simp only [numd] at h
    obtain ⟨h1, h2, h3, h4⟩ := numd_spec h
    refine ⟨h1, fun k q hk => ?_, fun k i q p hk hi hlt => ?_, fun q hq hm => ?_⟩
    · cases k with
      | zero => rw [insOf_cons_zero] at hk; cases hk
      | succ k => rw [insOf_cons_succ] at hk; exact h2 k q hk
    · cases k with
      | zero => rw [insOf_cons_zero] at hk; cases hk
      | succ k => cases i with
        | zero => omega
        | succ i => rw [insOf_cons_succ] at hk hi; exact h3 k i q p hk hi (by omega)
    · obtain ⟨k, k1, k2⟩ := h4 q hq hm
      exact ⟨k + 1, by rw [insOf_cons_succ]; exact k1, by simpa using k2⟩
  | (x, some y) :: r, n, m, h => by
    simp only [numd] at h
    split at h
    · rename_i hy
      have hy' : y = n := by simpa using hy
      subst hy'
      obtain ⟨h1, h2, h3, h4⟩ := numd_spec h
      refine ⟨by omega, fun k q hk => ?_, fun k i q p hk hi hlt => ?_, fun q hq hm => ?_⟩
      · cases k with
        | zero => rw [insOf_cons_zero] at hk; cases hk; omega
        | succ k => rw [insOf_cons_succ] at hk; have := h2 k q hk; omega
      · cases i with
        | zero => omega
        | succ i =>
          rw [insOf_cons_succ] at hi
          cases k with
          | zero => rw [insOf_cons_zero] at hk; cases hk; have := h2 i p hi; omega
          | succ k => rw [insOf_cons_succ] at hk; exact h3 k i q p hk hi (by omega)
      · by_cases e : q = y
        · exact ⟨0, by rw [insOf_cons_zero, e], by simp⟩
        · obtain ⟨k, k1, k2⟩ := h4 q (by omega) hm
          exact ⟨k + 1, by rw [insOf_cons_succ]; exact k1, by simpa using k2⟩
    · cases h
theorem mem_nws {pres : Nat → Bool} {ins : List Ins} {chk : List (Nat × Nat)} {its : Its} {k m : Nat} (h : insOf its k = some m) (hn : nwAt pres ins chk m = true) : (k, m) ∈ nwsOf pres ins chk its := by
  unfold nwsOf
  rw [List.mem_filterMap]
  refine ⟨k, List.mem_range.2 ?_, ?_⟩
  · unfold insOf at h
    cases hq : its[k]? with
    | none => rw [hq] at h; cases h
    | some _ => exact (List.getElem?_eq_some_iff.1 hq).1
  · rw [h]; simp [hn]
theorem of_nws {pres : Nat → Bool} {ins : List Ins} {chk : List (Nat × Nat)} {its : Its} {km : Nat × Nat} (h : km ∈ nwsOf pres ins chk its) : insOf its km.1 = some km.2 ∧ nwAt pres ins chk km.2 = true := by
  unfold nwsOf at h
  rw [List.mem_filterMap] at h
  obtain ⟨k, _, h⟩ := h
  split at h
  · rename_i m hm
    split at h
    · rename_i hn
      cases h
      exact ⟨hm, hn⟩
    · cases h
  · cases h
theorem stepBef_bit {b : List Nat} {o : Oper} {k : Nat} (h : (stepBef b o).testBit k = true) : ∃ e ∈ o.after, Region.binds .any e = true ∧ (k = e.on ∨ (befList b e.on).testBit k = true) := by
  unfold stepBef at h
  have key : ∀ l : List Edge, (l.foldr (fun e s => if Region.binds .any e then (s ||| 2 ^ e.on) ||| b.getD e.on 0 else s) 0).testBit k = true → ∃ e ∈ l, Region.binds .any e = true ∧ (k = e.on ∨ (befList b e.on).testBit k = true) := by
    intro l
    induction l with
    | nil => intro h; simp at h
    | cons e l ih =>
      intro h
      simp only [List.foldr_cons] at h
      split at h
      · rename_i hb
        simp only [Nat.testBit_or, Bool.or_eq_true, Nat.testBit_two_pow, decide_eq_true_eq] at h
        rcases h with (h | h) | h
        · obtain ⟨e', h1, h2⟩ := ih h
          exact ⟨e', List.mem_cons_of_mem _ h1, h2⟩
        · exact ⟨e, List.mem_cons_self, hb, .inl h.symm⟩
        · exact ⟨e, List.mem_cons_self, hb, .inr h⟩
      · obtain ⟨e', h1, h2⟩ := ih h
        exact ⟨e', List.mem_cons_of_mem _ h1, h2⟩
  obtain ⟨e, h1, h2⟩ := key _ h
  exact ⟨e, by simpa using h1, h2⟩
theorem testBit_lt {x i k : Nat} (h : x < 2 ^ i) (hk : x.testBit k = true) : k < i := by
  by_cases hlt : k < i
  · exact hlt
  · have : x < 2 ^ k := Nat.lt_of_lt_of_le h (Nat.pow_le_pow_right (by omega) (by omega))
    rw [Nat.testBit_lt_two_pow this] at hk
    cases hk
theorem checkReg_ok {M : Names} {P : Program} {pres : Nat → Bool} {draw : Bool} {ops : Array Oper} {ins : List Ins} {em : List Tmp} {outs : List (Nat × Opd)} {chk : List (Nat × Nat)} {nt : Nat} (h : checkReg M P pres draw ops.toList ins em outs chk nt = true) :
    RegOk M P pres ops ins em (mkIts em ops.toList [] 0) (if draw then befList (mkBefs ops.toList []) else befText) chk (lateOf pres draw ops.toList ins em (mkIts em ops.toList [] 0) (if draw then befList (mkBefs ops.toList []) else befText) chk (nwsOf pres ins chk (mkIts em ops.toList [] 0))) nt ∧ outsOk ops.toList em (mkIts em ops.toList [] 0) outs = true ∧ (draw = true → Edges ops (befList (mkBefs ops.toList []))) ∧ (draw = false → chk = []) := by
  unfold checkReg at h
  dsimp only at h
  simp only [Bool.and_eq_true, beq_iff_eq] at h
  obtain ⟨⟨⟨⟨⟨⟨⟨⟨h1, h2⟩, h3⟩, h4⟩, h5⟩, h6⟩, h7⟩, h8⟩, h9⟩ := h
  generalize hits : mkIts em ops.toList [] 0 = its at *
  obtain ⟨n1, n2, n3, n4⟩ := numd_spec h4
  have hge : ∀ (i : Nat) (o : Oper), ops[i]? = some o → ops.toList[i]? = some o := fun i o ho => by simpa using ho
  have h5' : draw = true → allFrom (fun i x => decide (x < 2 ^ i)) 0 (mkBefs ops.toList []) = true ∧ (mkBefs ops.toList []).length = ops.size ∧ allFrom (fun i o => stepBef (mkBefs ops.toList []) o == (mkBefs ops.toList []).getD i 0 && o.after.toList.all fun e => !Region.binds .any e || decide (e.on < i)) 0 ops.toList = true := fun hd => by
    subst hd
    simp only [Bool.not_true, Bool.false_or, Bool.and_eq_true, beq_iff_eq] at h5
    exact ⟨h5.1.1, by simpa using h5.1.2, h5.2⟩
  have low : ∀ i k, ((if draw then befList (mkBefs ops.toList []) else befText) i).testBit k = true → k < i := fun i k hk => by
    cases draw with
    | false =>
      have hk' : (2 ^ i - 1).testBit k = true := hk
      rw [Nat.testBit_two_pow_sub_one] at hk'
      simpa using hk'
    | true =>
      have hk' : ((mkBefs ops.toList []).getD i 0).testBit k = true := hk
      obtain ⟨a1, a2, _⟩ := h5' rfl
      by_cases hi : i < (mkBefs ops.toList []).length
      · have := allFrom_get a1 i ((mkBefs ops.toList [])[i]) (by simp)
        simp only [Nat.zero_add, decide_eq_true_eq] at this
        rw [List.getD_eq_getElem?_getD, List.getElem?_eq_getElem hi] at hk'
        exact testBit_lt this hk'
      · rw [List.getD_eq_getElem?_getD, List.getElem?_eq_none (by omega)] at hk'
        simp at hk'
  refine ⟨⟨by rw [h1]; simp, fun i o d ho hd => ?_, fun i k oi ok d hi hk hdi hdk => ?_, low, fun k i n m hk hi hlt => n3 k i n m hk hi hlt, fun n hn => ?_, fun k n hk => (n2 k n hk).2, fun i o ho => ?_, fun d hd => ?_, fun n j I hm hI => ?_⟩, h7, fun hd => ?_, fun hd => ?_⟩
  · have := List.all_eq_true.1 h2 o (by rw [List.mem_iff_getElem?]; exact ⟨i, hge i o ho⟩)
    rw [hd] at this
    simpa using this
  · have hnd := nodupB_iff h3
    have hp := List.pairwise_filterMap.1 hnd
    have hp' := List.pairwise_iff_getElem.1 hp
    have key : ∀ (i k : Nat) (oi ok : Oper), ops[i]? = some oi → ops[k]? = some ok → oi.dst = some d → ok.dst = some d → ¬ i < k := fun i k oi ok hi hk hdi hdk hlt => by
      obtain ⟨i1, i2⟩ := List.getElem?_eq_some_iff.1 (hge i oi hi)
      obtain ⟨k1, k2⟩ := List.getElem?_eq_some_iff.1 (hge k ok hk)
      have := hp' i k i1 k1 hlt d (by rw [i2]; exact hdi) d (by rw [k2]; exact hdk)
      exact this rfl
    have a := key i k oi ok hi hk hdi hdk
    have b := key k i ok oi hk hi hdk hdi
    omega
  · obtain ⟨k, k1, k2⟩ := n4 n (Nat.zero_le _) hn
    exact ⟨k, k1, by rw [h1] at k2; simpa using k2⟩
  · have hit := allFrom_get h6 i o (hge i o ho)
    simp only [Nat.zero_add] at hit
    unfold itemOk at hit
    split at hit
    · rename_i hn
      exact .inl ⟨hn, hit⟩
    · rename_i n hn
      split at hit
      · cases hit
      · rename_i I hI
        simp only [Bool.and_eq_true, Bool.or_eq_true, Bool.not_eq_true'] at hit
        obtain ⟨⟨⟨i1, i2⟩, i3⟩, i4⟩ := hit
        refine .inr ⟨n, I, hn, hI, opdEq_eq i3, i1, i2, ?_, ?_⟩
        · intro hnw hlate k m hk hm hw
          cases draw with
          | false =>
            show (2 ^ i - 1).testBit k = true
            rw [Nat.testBit_two_pow_sub_one]
            simpa using hk
          | true =>
            have i5 : orderOk pres ins chk (nwsOf pres ins chk its) (befList (mkBefs ops.toList [])) (lateOf pres true ops.toList ins em its (befList (mkBefs ops.toList [])) chk (nwsOf pres ins chk its)) i n I = true := by simpa using i4
            unfold orderOk at i5
            rw [if_pos hnw] at i5
            simp only [Bool.or_eq_true, beq_iff_eq] at i5
            have := List.all_eq_true.1 (i5.resolve_left hlate) (k, m) (mem_nws hm hw)
            simp only [Bool.or_eq_true, decide_eq_true_eq] at this
            rcases this with h | h
            · omega
            · exact h
        · intro hnw
          cases draw with
          | false =>
            right
            refine ⟨?_, fun k m hk hw => ?_⟩
            · by_cases hex : ∃ k m, insOf its k = some m ∧ nwAt pres ins chk m = true ∧ m < n
              · obtain ⟨k, m, e1, e2, e3⟩ := hex
                refine .inl ⟨k, m, e1, e2, ?_⟩
                have hlt : k < i := by
                  rcases Nat.lt_trichotomy k i with h | h | h
                  · exact h
                  · subst h; rw [e1] at hn; cases hn; omega
                  · have := n3 i k n m hn e1 h; omega
                show (2 ^ i - 1).testBit k = true
                rw [Nat.testBit_two_pow_sub_one]
                simpa using hlt
              · exact .inr (.inl fun k m e1 e2 e3 => hex ⟨k, m, e1, e2, e3⟩)
            · rcases Nat.lt_trichotomy k i with h | h | h
              · 
                have hmn := n3 k i m n hk hn h
                by_cases hex : ∃ k' m', insOf its k' = some m' ∧ nwAt pres ins chk m' = true ∧ m < m' ∧ m' < n
                · obtain ⟨k', m', e1, e2, e3, e4⟩ := hex
                  refine .inr (.inl ⟨k', m', e1, e2, e3, ?_⟩)
                  have hlt : k' < i := by
                    rcases Nat.lt_trichotomy k' i with h | h | h
                    · exact h
                    · subst h; rw [e1] at hn; cases hn; omega
                    · have := n3 i k' n m' hn e1 h; omega
                  show (2 ^ i - 1).testBit k' = true
                  rw [Nat.testBit_two_pow_sub_one]
                  simpa using hlt
                · exact .inr (.inr (.inl ⟨hmn, fun k' m' e1 e2 e3 e4 => hex ⟨k', m', e1, e2, e3, e4⟩⟩))
              · subst h
                rw [hk] at hn; cases hn
                rw [hw] at hnw; cases hnw
              · left
                show (2 ^ k - 1).testBit i = true
                rw [Nat.testBit_two_pow_sub_one]
                simpa using h
          | true =>
            have i5 : orderOk pres ins chk (nwsOf pres ins chk its) (befList (mkBefs ops.toList [])) (lateOf pres true ops.toList ins em its (befList (mkBefs ops.toList [])) chk (nwsOf pres ins chk its)) i n I = true := by simpa using i4
            unfold orderOk at i5
            rw [if_neg (by rw [hnw]; simp)] at i5
            simp only [Bool.or_eq_true, Bool.and_eq_true, beq_iff_eq] at i5
            rcases i5 with h | ⟨ha, hb⟩
            · exact .inl h
            · right
              refine ⟨?_, fun k m hk hw => ?_⟩
              · rcases ha with (ha | ha) | ha
                · obtain ⟨km, b1, b2⟩ := List.any_eq_true.1 ha
                  obtain ⟨c1, c2⟩ := of_nws b1
                  exact .inl ⟨km.1, km.2, c1, c2, b2⟩
                · refine .inr (.inl fun k m e1 e2 e3 => ?_)
                  have := List.all_eq_true.1 ha (k, m) (mem_nws e1 e2)
                  simp only [decide_eq_true_eq] at this
                  omega
                · exact .inr (.inr (List.contains_iff_mem.1 ha))
              · have := List.all_eq_true.1 hb (k, m) (mem_nws hk hw)
                simp only [Bool.or_eq_true, Bool.and_eq_true, decide_eq_true_eq] at this
                rcases this with ((h | h) | h) | h
                · exact .inl h
                · obtain ⟨km, b1, b2⟩ := List.any_eq_true.1 h
                  simp only [Bool.and_eq_true, decide_eq_true_eq] at b2
                  obtain ⟨c1, c2⟩ := of_nws b1
                  exact .inr (.inl ⟨km.1, km.2, c1, c2, b2.1, b2.2⟩)
                · refine .inr (.inr (.inl ⟨h.1, fun k' m' e1 e2 e3 e4 => ?_⟩))
                  have := List.all_eq_true.1 h.2 (k', m') (mem_nws e1 e2)
                  simp only [Bool.or_eq_true, decide_eq_true_eq] at this
                  omega
                · exact .inr (.inr (.inr (List.contains_iff_mem.1 h)))
  · 
    cases draw with
    | false => simp [lateOf] at hd
    | true =>
      simp only [lateOf, if_true] at hd
      have hb := List.find?_some hd
      unfold lateB at hb
      split at hb
      · cases hb
      · rename_i o ho
        have ho' : ops[d]? = some o := by simpa using ho
        simp only [Bool.and_eq_true, Option.isNone_iff_eq_none, beq_iff_eq] at hb
        obtain ⟨⟨⟨b1, b2⟩, b3⟩, b4⟩ := hb
        refine ⟨b3, ?_⟩
        split at b4
        · rename_i t n ht hn
          simp only [Bool.and_eq_true] at b4
          obtain ⟨⟨⟨c1, c2⟩, c3⟩, c4⟩ := b4
          split at b1
          · rename_i T hT
            have hbox : ∃ kk z, ins[n]? = some ⟨.box kk (.val z), none⟩ := by
              unfold isBox at c2
              split at c2
              · rename_i kk z hk
                exact ⟨kk, z, hk⟩
              · cases c2
            obtain ⟨kk, z, hk⟩ := hbox
            have hlen : (mkBefs ops.toList []).length = ops.size := (h5' rfl).2.1
            refine ⟨o, T, t, n, kk, z, ho', hT, b2, ht, hn, hk, c1, fun j hj k m hkm hm hlt => ?_, fun j hjs hjd hne => ?_⟩
            · have hjl : j < ops.size := by
                rcases Nat.lt_or_ge j ops.size with h | h
                · exact h
                · have hj' : ((mkBefs ops.toList []).getD j 0).testBit d = true := hj
                  rw [List.getD_eq_getElem?_getD, List.getElem?_eq_none (by omega)] at hj'
                  simp at hj'
              have := List.all_eq_true.1 c3 j (List.mem_range.2 (by simpa using hjl))
              have hj' : (befList (mkBefs ops.toList []) j).testBit d = true := hj
              simp only [hj', Bool.not_true, Bool.false_or] at this
              have := List.all_eq_true.1 this (k, m) (mem_nws hkm hm)
              simp only [Bool.or_eq_true, decide_eq_true_eq] at this
              rcases this with h | h
              · omega
              · exact h
            · have := List.all_eq_true.1 c4 j (List.mem_range.2 (by simpa using hjs))
              simp only [Bool.or_eq_true, beq_iff_eq, Option.isNone_iff_eq_none] at this
              rcases this with (h | h) | h
              · exact absurd h hjd
              · exact absurd h hne
              · exact h
          · cases b1
        · cases b4
  · have := List.all_eq_true.1 h9 (n, j) hm
    simp only [hI] at this
    simpa using this
  · obtain ⟨_, a2, a3⟩ := h5' hd
    refine ⟨fun i o ho e he hb => ?_, fun i o ho k hk => ?_⟩
    · have := allFrom_get a3 i o (hge i o ho)
      simp only [Nat.zero_add, Bool.and_eq_true] at this
      have := List.all_eq_true.1 this.2 e (by simpa using he)
      simpa [hb] using this
    · have := allFrom_get a3 i o (hge i o ho)
      simp only [Nat.zero_add, Bool.and_eq_true, beq_iff_eq] at this
      have hk' : ((mkBefs ops.toList []).getD i 0).testBit k = true := hk
      rw [← this.1] at hk'
      exact stepBef_bit hk'
  · subst hd
    simpa using h8
end Go.AM

namespace Go.AM
def kids : Go.Code → List Go.Code
  | .seq a b => [a, b]
  | .cond _ a b => [a, b]
  | .block _ a => [a]
  | .loop a => [a]
  | .scope a => [a]
  | .rangeFunc _ _ a b => [a, b]
  | _ => []
def atPath : List Nat → Go.Code → Option Go.Code
  | [], c => some c
  | i :: r, c => ((kids c)[i]?).bind (atPath r)
theorem atPath_snoc {i : Nat} : ∀ {p : List Nat} {c : Go.Code}, atPath (p ++ [i]) c = (atPath p c).bind fun d => (kids d)[i]?
  | [], c => by
    simp only [List.nil_append, atPath, Option.bind_some]
    cases (kids c)[i]? <;> rfl
  | j :: p, c => by
    simp only [List.cons_append, atPath]
    cases (kids c)[j]? with
    | none => rfl
    | some d => exact atPath_snoc
def strip : ACode → ACode
  | .lift _ _ _ x => strip x
  | x => x
structure SiteAt where
  f : Nat
  path : List Nat
  em : List Tmp
def Names.of (P : Program) (fm : Nat → FuncId) (glob : Nat → Option AVal) (sites : Nat → Option SiteAt) : Names where
  fm := fm
  glob := glob
  site := fun s rec em => ∃ d fn code g, sites s = some d ∧ P.funcs[fm d.f]? = some fn ∧ fn.body = some code ∧ atPath d.path code = some (.rangeFunc g rec.params rec.assign rec.body) ∧ em = d.em ∧ fn.ntmps ≤ rec.tmps.size
def mheadOk (em : List Tmp) (nt it ok : Nat) : Go.Code → Bool
  | .region _ ops false => (match ops.toList with
    | [o1, o2] => (match o1.op, o1.dst, o2.op, o2.dst with
      | .next (.tmp t) false, some t1, .extract (.tmp t1') 0, some t2 => o1.guard.isNone && o2.guard.isNone && (t1 : Nat) == t1' && (match em[it]? with
        | some t' => (t' : Nat) == t
        | none => false) && (match em[ok]? with
        | some t' => (t' : Nat) == t2
        | none => false) && nodupB em && em.all (fun t' => !((t' : Nat) == t1)) && decide ((t1 : Nat) < nt) && decide ((t2 : Nat) < nt)
      | _, _, _, _ => false)
    | _ => false)
  | _ => false
theorem mheadOk_ok {em : List Tmp} {nt it ok : Nat} {c : Go.Code} (h : mheadOk em nt it ok c = true) : ∃ rid o1 o2 t t1 t2, c = .region rid #[o1, o2] false ∧ o1.op = .next (.tmp t) false ∧ o1.dst = some t1 ∧ o1.guard = none ∧ o2.op = .extract (.tmp t1) 0 ∧ o2.dst = some t2 ∧ o2.guard = none ∧
    em[it]? = some t ∧ em[ok]? = some t2 ∧ em.Nodup ∧ t1 ∉ em ∧ t1 < nt ∧ t2 < nt := by
  unfold mheadOk at h
  split at h
  · rename_i rid ops
    split at h
    · rename_i o1 o2 hl
      have hl : ops = #[o1, o2] := by
        apply Array.toList_inj.1; simpa using hl
      subst hl
      split at h
      · rename_i t t1 t1' t2 e1 d1 e2 d2
        simp only [Bool.and_eq_true, decide_eq_true_eq, beq_iff_eq] at h
        obtain ⟨⟨⟨⟨⟨⟨⟨⟨g1, g2⟩, e3⟩, h1⟩, h2⟩, h3⟩, h4⟩, h5⟩, h6⟩ := h
        subst e3
        refine ⟨rid, o1, o2, t, t1, t2, rfl, e1, d1, by simpa using g1, e2, d2, by simpa using g2, ?_, ?_, nodupB_iff h3, fun hm => ?_, h5, h6⟩
        · split at h1
          · rename_i t' ht; rw [ht, eq_of_beq h1]
          · cases h1
        · split at h2
          · rename_i t' ht; rw [ht, eq_of_beq h2]
          · cases h2
        · have := List.all_eq_true.1 h4 _ hm
          simp at this
      · cases h
    · cases h
  · cases h
section
variable (M : Names) (P : Program) (pres : Nat → Bool) (em : List Tmp) (nt : Nat) (top : Bool) (siteB : Nat → List Nat → Bool)
def checkCode : Go.Code → List Nat → ACode → Bool
  | .region _ ops draw, _, x => (match x with
    | .reg ins os => checkReg M P pres draw ops.toList ins em os [] nt
    | .regd ins os chk => draw && checkReg M P pres draw ops.toList ins em os chk nt
    | _ => false)
  | .seq a b, path, x => if isNop b then checkCode a (path ++ [0]) (strip x) else if isNop a then checkCode b (path ++ [1]) (strip x) else (match x with
    | .seq y z => checkCode a (path ++ [0]) (strip y) && checkCode b (path ++ [1]) (strip z)
    | _ => false)
  | .cond t a b, path, x => (match x with
    | .cond t' y z => okX M (emR em) t t' && checkCode a (path ++ [0]) (strip y) && checkCode b (path ++ [1]) (strip z)
    | _ => false)
  | .block id a, path, x => (match x with
    | .blk id' y => id == id' && checkCode a (path ++ [0]) (strip y)
    | _ => false)
  | .loop a, path, x => (match x with
    | .loop _ y => checkCode a (path ++ [0]) (strip y)
    | .mloop _ it ok y => (match a with
      | .seq r rest => mheadOk em nt it ok r && checkCode rest (path ++ [0] ++ [1]) (strip y)
      | _ => false)
    | _ => false)
  | .scope a, path, x => (match x with
    | .scope y => checkCode a (path ++ [0]) (strip y)
    | _ => false)
  | .rangeFunc g _ _ _, path, x => (match x with
    | .rng n f site => top && okX M (emR em) g f && nodupB em && em.all (fun t => decide (t < nt)) && n == em.length && siteB site path
    | _ => false)
  | .exit id, _, x => (match x with
    | .exit id' => id == id'
    | _ => false)
  | .ret, _, x => (match x with
    | .ret => true
    | _ => false)
  | c, _, x => (match x with
    | .skip => isNop c
    | _ => false)
end
theorem strip_ok {M : Names} {P : Program} {pres : Nat → Bool} {em : List Tmp} {nt : Nat} {top : Bool} {c : Go.Code} : ∀ {x : ACode}, CodeOk M P pres em nt top c (strip x) → CodeOk M P pres em nt top c x
  | .lift _ _ _ x, h => .lift (strip_ok (x := x) h)
  | .skip, h => h
  | .reg .., h => h
  | .regd .., h => h
  | .seq .., h => h
  | .cond .., h => h
  | .blk .., h => h
  | .loop .., h => h
  | .mloop .., h => h
  | .exit _, h => h
  | .ret, h => h
  | .rng .., h => h
  | .scope _, h => h
theorem checkCode_ok {M : Names} {P : Program} {pres : Nat → Bool} {em : List Tmp} {nt : Nat} {top : Bool} {siteB : Nat → List Nat → Bool} {root : Go.Code}
    (hsite : ∀ site path g ps assign body, siteB site path = true → atPath path root = some (.rangeFunc g ps assign body) → ∀ fn tmps defers, nt ≤ tmps.size → M.site site ⟨fn, tmps, ps, assign, body, defers⟩ em) :
    ∀ (c : Go.Code) (path : List Nat) (x : ACode), atPath path root = some c → checkCode M P pres em nt top siteB c path x = true → CodeOk M P pres em nt top c x := by
  have kid : ∀ {path : List Nat} {c d : Go.Code} {i : Nat}, atPath path root = some c → (kids c)[i]? = some d → atPath (path ++ [i]) root = some d := fun h1 h2 => by
    rw [atPath_snoc, h1]; exact h2
  have main : ∀ c : Go.Code, (∀ (path : List Nat) (x : ACode), atPath path root = some c → checkCode M P pres em nt top siteB c path x = true → CodeOk M P pres em nt top c x) ∧
      ∀ r rest, c = .seq r rest → ∀ (path : List Nat) (x : ACode), atPath path root = some rest → checkCode M P pres em nt top siteB rest path x = true → CodeOk M P pres em nt top rest x := by
   intro c
   induction c with
   | region id ops draw =>
    refine ⟨?_, fun r rest e => by cases e⟩
    intro path x hp h
    simp only [checkCode] at h
    split at h
    · obtain ⟨h1, h2, h3, h4⟩ := checkReg_ok h
      cases draw with
      | false => exact .text h1 h2
      | true => exact .any h1 (h3 rfl) h2
    · simp only [Bool.and_eq_true] at h
      obtain ⟨hd, h⟩ := h
      subst hd
      obtain ⟨h1, h2, h3, h4⟩ := checkReg_ok h
      exact .anyd h1 (h3 rfl) h2
    · cases h
   | seq a b iha ihb =>
    refine ⟨?_, fun r rest e => by cases e; exact ihb.1⟩
    intro path x hp h
    simp only [checkCode] at h
    split at h
    · rename_i hn
      exact .left hn (strip_ok (iha.1 _ _ (kid hp rfl) h))
    · split at h
      · rename_i hn
        exact .right hn (strip_ok (ihb.1 _ _ (kid hp rfl) h))
      · split at h
        · simp only [Bool.and_eq_true] at h
          exact .seq (strip_ok (iha.1 _ _ (kid hp rfl) h.1)) (strip_ok (ihb.1 _ _ (kid hp rfl) h.2))
        · cases h
   | cond t a b iha ihb =>
    refine ⟨?_, fun r rest e => by cases e⟩
    intro path x hp h
    simp only [checkCode] at h
    split at h
    · simp only [Bool.and_eq_true] at h
      exact .cond h.1.1 (strip_ok (iha.1 _ _ (kid hp rfl) h.1.2)) (strip_ok (ihb.1 _ _ (kid hp rfl) h.2))
    · cases h
   | block id a ih =>
    refine ⟨?_, fun r rest e => by cases e⟩
    intro path x hp h
    simp only [checkCode] at h
    split at h
    · simp only [Bool.and_eq_true, beq_iff_eq] at h
      rw [h.1]
      exact .blk (strip_ok (ih.1 _ _ (kid hp rfl) h.2))
    · cases h
   | loop a ih =>
    refine ⟨?_, fun r rest e => by cases e⟩
    intro path x hp h
    rw [checkCode.eq_def] at h
    dsimp only at h
    split at h
    · exact .loop (strip_ok (ih.1 _ _ (kid hp rfl) h))
    · split at h
      · rename_i r rest
        simp only [Bool.and_eq_true] at h
        obtain ⟨rid, o1, o2, t, t1, t2, e0, e1, d1, g1, e2, d2, g2, q1, q2, q3, q4, q5, q6⟩ := mheadOk_ok h.1
        subst e0
        exact .mloop e1 d1 g1 e2 d2 g2 q1 q2 q3 q4 q5 q6 (strip_ok (ih.2 _ _ rfl _ _ (kid (kid hp rfl) rfl) h.2))
      · cases h
    · cases h
   | scope a ih =>
    refine ⟨?_, fun r rest e => by cases e⟩
    intro path x hp h
    simp only [checkCode] at h
    split at h
    · exact .scope (strip_ok (ih.1 _ _ (kid hp rfl) h))
    · cases h
   | rangeFunc g ps assign body =>
    refine ⟨?_, fun r rest e => by cases e⟩
    intro path x hp h
    simp only [checkCode] at h
    split at h
    · simp only [Bool.and_eq_true, beq_iff_eq] at h
      obtain ⟨⟨⟨⟨⟨h1, h2⟩, h3⟩, h4⟩, h5⟩, h6⟩ := h
      exact .rng h1 h2 (nodupB_iff h3) (fun t ht => by simpa using List.all_eq_true.1 h4 t ht) h5 (hsite _ _ _ _ _ _ h6 hp)
    · cases h
   | exit id =>
    refine ⟨?_, fun r rest e => by cases e⟩
    intro path x hp h
    simp only [checkCode] at h
    split at h
    · rw [beq_iff_eq] at h
      rw [h]; exact .exit
    · cases h
   | ret =>
    refine ⟨?_, fun r rest e => by cases e⟩
    intro path x hp h
    simp only [checkCode] at h
    split at h
    · exact .ret
    · cases h
   | skip =>
    refine ⟨?_, fun r rest e => by cases e⟩
    intro path x hp h
    simp only [checkCode] at h
    split at h
    · exact .nop h
    · cases h
   | _ =>
    refine ⟨?_, fun r rest e => by cases e⟩
    intro path x hp h
    simp only [checkCode] at h
    split at h
    · exact .nop h
    · cases h
  exact fun c => (main c).1
def natsEq : List Nat → List Nat → Bool
  | [], [] => true
  | a :: x, b :: y => a == b && natsEq x y
  | _, _ => false
theorem natsEq_eq : ∀ {a b : List Nat}, natsEq a b = true → a = b
  | [], [], _ => rfl
  | [], _ :: _, h => by simp [natsEq] at h
  | _ :: _, [], h => by simp [natsEq] at h
  | a :: x, b :: y, h => by
    simp only [natsEq, Bool.and_eq_true, beq_iff_eq] at h
    rw [h.1, natsEq_eq h.2]
def siteIs (sites : Nat → Option SiteAt) (f : Nat) (em : List Tmp) (s : Nat) (path : List Nat) : Bool := match sites s with
  | some d => d.f == f && natsEq d.path path && natsEq d.em em
  | none => false
section
variable (P : Program) (fm : Nat → FuncId) (glob : Nat → Option AVal) (sites : Nat → Option SiteAt) (pres : Nat → Bool)
def checkFn (f : Nat) (em : List Tmp) (g : AFunc) : Bool := match P.funcs[fm f]? with
  | some fn => !(fn.name == "runtime.NumGoroutine") && (match fn.body with
    | some code => checkCode (Names.of P fm glob sites) P pres em fn.ntmps true (siteIs sites f em) code [] (strip g.body)
    | none => false) && natsEq (em.take g.np) (List.range g.np) && decide (g.np ≤ em.length) && g.res.length == fn.results.toList.length && ((g.res.zip fn.results.toList).all fun p => resOk P em p.1 p.2) && g.mode.ok
  | none => false
def checkSite (s : Nat) (g : ARound) : Bool := match sites s with
  | some d => (match P.funcs[fm d.f]? with
    | some fn => (match fn.body with
      | some code => (match atPath d.path code with
        | some (.rangeFunc _ ps assign body) => g.nenv == d.em.length && checkCode (Names.of P fm glob sites) P pres d.em fn.ntmps false (fun _ _ => false) assign [] (strip g.pre) && natsEq (g.params.map fun i => d.em.getD i 0) ps.toList && (g.params.all fun i => decide (i < d.em.length)) && nodupB d.em &&
            checkCode (Names.of P fm glob sites) P pres d.em fn.ntmps false (fun _ _ => false) body [] (strip g.body)
        | _ => false)
      | none => false)
    | none => false)
  | none => false
end
theorem checkFn_ok {P : Program} {fm : Nat → FuncId} {glob : Nat → Option AVal} {sites : Nat → Option SiteAt} {pres : Nat → Bool} {f : Nat} {em : List Tmp} {g : AFunc} (h : checkFn P fm glob sites pres f em g = true) :
    FnOk (Names.of P fm glob sites) P pres f g := by
  unfold checkFn at h
  split at h
  · rename_i fn hfn
    simp only [Bool.and_eq_true, Bool.not_eq_true', beq_iff_eq, decide_eq_true_eq] at h
    obtain ⟨⟨⟨⟨⟨⟨h1, h2⟩, h3⟩, h4⟩, h5⟩, h6⟩, h7⟩ := h
    split at h2
    · rename_i code hc
      refine ⟨fn, code, em, hfn, h1, hc, ?_, natsEq_eq h3, h4, h5, h6, h7⟩
      refine strip_ok (checkCode_ok (root := code) (fun site path g ps assign body hs hp fn' tmps defers hsz => ?_) code [] _ rfl h2)
      unfold siteIs at hs
      split at hs
      · rename_i d hd
        simp only [Bool.and_eq_true, beq_iff_eq] at hs
        obtain ⟨⟨s1, s2⟩, s3⟩ := hs
        refine ⟨d, fn, code, g, hd, by rw [s1]; exact hfn, hc, by rw [natsEq_eq s2]; exact hp, (natsEq_eq s3).symm, hsz⟩
      · cases hs
    · cases h2
  · cases h
theorem checkSite_ok {P : Program} {fm : Nat → FuncId} {glob : Nat → Option AVal} {sites : Nat → Option SiteAt} {pres : Nat → Bool} {s : Nat} {g : ARound} (h : checkSite P fm glob sites pres s g = true) {rec : LoopRec} {em : List Tmp} (hs : (Names.of P fm glob sites).site s rec em) :
    SiteFine (Names.of P fm glob sites) P pres g rec em := by
  obtain ⟨d, fn, code, q, h1, h2, h3, h4, rfl, h6⟩ := hs
  unfold checkSite at h
  rw [h1] at h
  simp only [h2, h3, h4, Bool.and_eq_true, beq_iff_eq] at h
  obtain ⟨⟨⟨⟨⟨k1, k2⟩, k3⟩, k4⟩, k5⟩, k6⟩ := h
  refine ⟨fn.ntmps, k1, h6, strip_ok (checkCode_ok (root := rec.assign) (fun site path g ps assign body hs => by cases hs) _ [] _ rfl k2), ?_, nodupB_iff k5, ?_⟩
  · rw [← natsEq_eq k3, List.map_map]
    refine List.map_congr_left fun i hi => ?_
    have hlt : i < d.em.length := by simpa using List.all_eq_true.1 k4 i hi
    simp [hlt]
  · exact strip_ok (checkCode_ok (root := rec.body) (fun site path g ps assign body hs => by cases hs) _ [] _ rfl k6)
end Go.AM

namespace Go.AM
def add64 (args : List AVal) (σ : Store) : Option (AVal × Store) :=
  match args with
  | [.int .u64 x, .int .u64 y, .int .u64 c] =>
    if 0 ≤ x ∧ x < 18446744073709551616 ∧ 0 ≤ y ∧ y < 18446744073709551616 ∧ 0 ≤ c ∧ c ≤ 1 then
      some (.tup [.int .u64 ((x + y + c) % 18446744073709551616), .int .u64 ((x + y + c) / 18446744073709551616)], σ)
    else none
  | _ => none
def toUpper (args : List AVal) (σ : Store) : Option (AVal × Store) :=
  match args with
  | [.str s] => if s.length < 35184372088832 ∧ s.all (fun b => decide (b.toNat < 128)) = true then some (.str (Lib.toUpperA s), σ) else none
  | _ => none
def cmpString (args : List AVal) (σ : Store) : Option (AVal × Store) :=
  match args with
  | [.str a, .str b] => some (.int .i64 (if Op.bytesLess a b then -1 else if a == b then 0 else 1), σ)
  | _ => none
def prims : Nat → Prim
  | 0 => fun _ => add64
  | 3 => fun _ => cmpString
  | 4 => fun _ => toUpper
  | _ => fun _ _ _ => none
theorem prims_good (k : Nat) (C D : CallF) (args : List AVal) (σ : Store) (r : AVal × Store) (h : CLe C D) (hr : prims k C args σ = some r) : prims k D args σ = some r := by
  unfold prims at hr ⊢
  split at hr
  · exact hr
  · exact hr
  · exact hr
  · cases hr
end Go.AM

namespace Go.AM
variable {M : Names} {P : Program} {w w' : World} {c c1 : Ctx} {σ τ : Store}
theorem wide_eq {F : Fence} (h : Wide F) : ∃ r, F = { Fence.wide with round := r } := by
  obtain ⟨fn, depth, alive, round⟩ := F
  obtain ⟨h1, h2, h3⟩ := h
  dsimp only at h1 h2 h3
  subst h2 h3
  have : fn = fun _ => True := funext fun f => propext ⟨fun _ => trivial, fun _ => h1 f⟩
  subst this
  exact ⟨round, rfl⟩
theorem wide_calls {F : Fence} (h : Wide F) {n : Nat} {f : FuncId} {args : Array Value} {R : Ending → World → Prop} : CallsIn F n P f args w R ↔ Calls P f args w R := by
  obtain ⟨r, rfl⟩ := wide_eq h
  exact callsIn_wide (n := n)
theorem wide_wide : Wide Fence.wide := ⟨fun _ => trivial, rfl, rfl⟩
end Go.AM

namespace Go.AM
def chkE (P : Program) (fm : Nat → FuncId) (glob : Nat → Option AVal) (sites : Nat → Option SiteAt) (pres : Nat → Bool) (em : Nat → List Tmp) (n : Nat) : AEntry → Bool
  | .fn g => checkFn P fm glob sites pres n (em n) g
  | .nilfn g => checkFn P fm glob sites pres n (em n) g
  | .round g => checkSite P fm glob sites pres n g
  | _ => true
def AllP (f : Nat → AEntry → Bool) : Nat → List AEntry → Prop
  | _, [] => True
  | i, x :: r => f i x = true ∧ AllP f (i + 1) r
theorem allP_get {f : Nat → AEntry → Bool} : ∀ {l : List AEntry} {i : Nat}, AllP f i l → ∀ j x, l[j]? = some x → f (i + j) x = true
  | [], _, _, j, x, h => by simp at h
  | y :: r, i, h, j, x, hx => by
    cases j with
    | zero => simp only [List.getElem?_cons_zero, Option.some.injEq] at hx; subst hx; exact h.1
    | succ j =>
      have := allP_get h.2 j x (by simpa using hx)
      rwa [show i + 1 + j = i + (j + 1) by omega] at this
theorem getD_some {l : List AEntry} {n : Nat} {e : AEntry} (h : l.getD n .none = e) (he : e ≠ .none) : l[n]? = some e := by
  rw [List.getD_eq_getElem?_getD] at h
  cases hq : l[n]? with
  | none => rw [hq] at h; exact absurd h.symm he
  | some x => rw [hq] at h; simp at h; rw [h]
def presOf (tbl : List AEntry) (n : Nat) : Bool := match tbl.getD n .none with
  | .fn g => g.mode.lends
  | .nilfn g => g.mode.lends
  | .prim k => k == 0 || k == 3
  | _ => false
def codeOf (tbl : List AEntry) : Code := ⟨fun n => tbl.getD n .none, prims⟩
theorem add64_keeps {args : List AVal} {σ σ' : Store} {v : AVal} (h : add64 args σ = some (v, σ')) : σ' = σ := by
  unfold add64 at h
  split at h
  · split at h
    · cases h; rfl
    · cases h
  · cases h
theorem cmpString_keeps {args : List AVal} {σ σ' : Store} {v : AVal} (h : cmpString args σ = some (v, σ')) : σ' = σ := by
  unfold cmpString at h
  split at h
  · cases h; rfl
  · cases h
theorem fine_of {P : Program} {fm : Nat → FuncId} {glob : Nat → Option AVal} {sites : Nat → Option SiteAt} {em : Nat → List Tmp} {tbl : List AEntry} (hm : P.follows .mixedOrders = true)
    (hall : AllP (chkE P fm glob sites (presOf tbl) em) 0 tbl) (hs : ∀ s d, sites s = some d → ∃ g, tbl.getD s .none = .round g)
    (hp : ∀ f k, tbl.getD f .none = .prim k → PrimOk (Names.of P fm glob sites) P f (prims k)) : CodeFine (Names.of P fm glob sites) P (presOf tbl) (codeOf tbl) where
  mixed := hm
  fns := fun f g h => by
    have := allP_get hall f _ (getD_some h (by simp))
    rw [Nat.zero_add] at this
    exact checkFn_ok this
  nilfns := fun f g h => by
    have := allP_get hall f _ (getD_some h (by simp))
    rw [Nat.zero_add] at this
    exact checkFn_ok this
  prims := hp
  sites := fun s rec em' h => by
    have h0 := h
    obtain ⟨d, _, _, _, hd, _⟩ := h0
    obtain ⟨g, hg⟩ := hs s d hd
    refine ⟨g, hg, ?_⟩
    have := allP_get hall s _ (getD_some hg (by simp))
    rw [Nat.zero_add] at this
    exact checkSite_ok this h
  keeps := fun f h => by
    unfold presOf at h
    split at h
    · rename_i g hg
      exact .inl ⟨g, .inl hg, h⟩
    · rename_i g hg
      exact .inl ⟨g, .inr hg, h⟩
    · rename_i k hk
      refine .inr ⟨k, hk, fun C args σ v σ' hr => ?_⟩
      simp only [Bool.or_eq_true, beq_iff_eq] at h
      rcases h with rfl | rfl
      · exact add64_keeps hr
      · exact cmpString_keeps hr
    · cases h
def Ctx.start (w : World) (gs : Nat → Prop) (lp : LoopRec) : Ctx := { sld := fun b => gs b ∧ b < w.heap.size, bor := fun b => b < w.heap.size, H := hd [], N := 0, place := fun _ => none, room := fun _ => 0, loops := fun _ => lp }
theorem start_sim {M : Names} {w : World} {gs : Nat → Prop} {lp : LoopRec} : Sim M w (Ctx.start w gs lp) [] :=
  ⟨rfl, rfl, fun _ h => h.2, fun _ h => h, fun id b h => absurd (by rfl) h, fun i j b h => absurd (by rfl) h, fun id o h => by cases h⟩
theorem law_calls {P : Program} {fm : Nat → FuncId} {glob : Nat → Option AVal} {sites : Nat → Option SiteAt} {tbl : List AEntry} (hc : CodeFine (Names.of P fm glob sites) P (presOf tbl) (codeOf tbl)) {n f : Nat} {args : List AVal} {v : AVal} {σ' : Store}
    (hrun : callN (codeOf tbl) n f args [] = some (v, σ')) (hf : ∃ a ∈ args, plainArg a = false) {w : World} {gs : Nat → Prop} {lp : LoopRec} {cargs : Array Value} (hg : Globs (Names.of P fm glob sites) w (Ctx.start w gs lp)) (ha : ArgsR (Names.of P fm glob sites) w (Ctx.start w gs lp) args cargs) :
    Calls P (fm f) cargs w fun e w' => ∃ cv c', e = .returned cv ∧ RF (Names.of P fm glob sites) w.heap.size w' c' v cv ∧ Same w w' ∧ w.heap.size ≤ w'.heap.size ∧ ∀ b, b < w.heap.size → w'.heap[b]? = w.heap[b]? := by
  have h := (callN_sound hc n).1 f args [] v σ' hrun Fence.wide 0 w _ cargs wide_wide start_sim hg ha
  have he := h.2 hf cargs w
  rcases h.1 with ⟨_, hin⟩ | ⟨cv, w', hv, _⟩
  · rw [wide_calls wide_wide] at hin
    refine hin.mono fun e w' hx => ?_
    obtain ⟨cv, rfl, c', s', st, hr⟩ := hx
    exact ⟨cv, c', rfl, hr, st.same, st.size, fun b hb => st.frame b hb fun id hl => absurd (by rfl) hl⟩
  · rw [show (Names.of P fm glob sites).fm f = fm f from rfl] at he hv
    rw [he] at hv; cases hv
end Go.AM

namespace Go.AM
open Go.Proofs Go.Shelf
variable {M : Names} {P : Program} {w w' : World} {c c1 : Ctx} {σ τ : Store}
theorem below_stp (hs : Sim M w c σ) (hb : RowKit.Below w.heap.size w w') : Sim M w' c σ ∧ Stp c w c w' := by
  have hf : ∀ b, b < w.heap.size → w'.heap[b]? = w.heap[b]? := hb.block
  obtain ⟨a1, a2⟩ := hs.over (w' := w') (fun b hlt _ => hf b hlt) hb.size
  exact ⟨a1, { a2 with same := ⟨hb.tape, hb.os, hb.output, Nat.le_refl _⟩, size := hb.size, frame := fun b hlt _ => hf b hlt, liv := fun id b h1 h2 _ => ⟨id, h1, h2⟩, old := fun b h _ => .inl h, oldb := fun b h _ => .inl h }⟩
theorem toUpper_ok {ρ : Ren} (L : Lays.n158 P ρ) (X : Builder.Extra P ρ) {f : Nat} (hf : M.fm f = ρ.f 158) (he : ∀ args w, (callFunc (ρ.f 158) args).run P w = .ok (.enter (ρ.f 158) args) w) : PrimOk M P f fun _ => toUpper := by
  intro C hC hR args σ v σ' h F n0 w c cargs hF hs hg ha
  refine ⟨.inl ⟨by rw [hf]; exact he _ _, ?_⟩, fun _ cargs' w' => by rw [hf]; exact he cargs' w'⟩
  rw [wide_calls hF, hf]
  replace h : toUpper args σ = some (v, σ') := h
  unfold toUpper at h
  split at h
  · rename_i s
    split at h
    · rename_i hlen
      cases h
      obtain ⟨x0, e0, r0⟩ := ha.2 0 (by simp)
      have hcargs : cargs = #[x0] := by
        apply Array.ext_getElem?
        intro i
        have hz : cargs.size = 1 := ha.1
        match i with
        | 0 => rw [e0]; rfl
        | i + 1 => rw [Array.getElem?_eq_none (by omega), Array.getElem?_eq_none (by simp)]
      subst hcargs
      cases r0 with | @str _ _ t htl =>
      have hsz : t.size ≤ 140737488355328 := by
        have : t.size = s.length := by rw [← htl, Array.length_toList]; rfl
        omega
      have hasc : ∀ (j : Nat) (b : UInt8), t.data.toList[j]? = some b → b.toNat < 128 := fun j b hb => by
        have := List.all_eq_true.1 hlen.2 b (by rw [← htl]; exact List.mem_of_getElem? hb)
        simpa using this
      refine (Any.strings_ToUpper_ascii L X t w hsz hasc).mono fun e w' ⟨he, hb⟩ => ?_
      obtain ⟨a1, a2⟩ := below_stp hs hb
      exact ⟨_, he, c, a1, a2, .r (.str (by rw [htl]))⟩
    · cases h
  · cases h
end Go.AM

namespace Go.AM
variable {M : Names} {P : Program} {w w' : World} {c c1 : Ctx} {σ τ : Store}
theorem compareBytes_eq : ∀ (a b : List UInt8), Lib.compareBytes a b = if Op.bytesLess a b then -1 else if a == b then 0 else 1
  | [], [] => rfl
  | [], _ :: _ => rfl
  | _ :: _, [] => rfl
  | a :: x, b :: y => by
    simp only [Lib.compareBytes, Op.bytesLess]
    by_cases h1 : a < b
    · simp [h1]
    · by_cases h2 : b < a
      · have hne : ¬ a = b := fun e => by subst e; exact h1 h2
        simp [h1, h2, hne]
      · have he : a = b := UInt8.le_antisymm (UInt8.not_lt.1 h2) (UInt8.not_lt.1 h1)
        subst he
        rw [if_neg h1, if_neg h1, compareBytes_eq x y]
        simp [h1]
theorem cmpString_ok {f : Nat} {fn : Func} (hf : P.funcs[M.fm f]? = some fn) (h1 : (fn.name == "runtime.NumGoroutine") = false) (h2 : fn.body.isNone = true) (h3 : Extern.findNext fn = none) (h4 : Extern.find fn = some Extern.BytealgCompare.compare) : PrimOk M P f fun _ => cmpString := by
  intro C hC hR args σ v σ' h F n w c cargs hF hs hg ha
  replace h : cmpString args σ = some (v, σ') := h
  unfold cmpString at h
  split at h
  · rename_i a b
    cases h
    obtain ⟨x0, e0, r0⟩ := ha.2 0 (by simp)
    obtain ⟨x1, e1, r1⟩ := ha.2 1 (by simp)
    have hc : cargs = #[x0, x1] := by
      apply Array.ext_getElem?
      intro i
      have hz : cargs.size = 2 := ha.1
      match i with
      | 0 => rw [e0]; rfl
      | 1 => rw [e1]; rfl
      | i + 2 => rw [Array.getElem?_eq_none (by omega), Array.getElem?_eq_none (by simp)]
    subst hc
    cases r0 with | @str _ s t ht => cases r1 with | @str _ s' t' ht' =>
    refine ⟨.inr ⟨.int .i64 (if Op.bytesLess a b then -1 else if a == b then 0 else 1), w, ?_, c, hs, .refl c w, .r .int⟩, fun hx => ?_⟩
    · rw [run_callFunc_extern hf h1 h2 h3 h4, Lib.run_compareString, compareBytes_eq, ht, ht']
      rfl
    · exfalso
      obtain ⟨y, hy, hp⟩ := hx
      simp at hy
      rcases hy with rfl | rfl <;> simp [plainArg] at hp
  · cases h
theorem add64_ok {f : Nat} {fn : Func} (hf : P.funcs[M.fm f]? = some fn) (h1 : (fn.name == "runtime.NumGoroutine") = false) (h2 : fn.body.isNone = true) (h3 : Extern.findNext fn = none) (h4 : Extern.find fn = some add64Entry) : PrimOk M P f fun _ => add64 := by
  intro C hC hR args σ v σ' h F n w c cargs hF hs hg ha
  replace h : add64 args σ = some (v, σ') := h
  unfold add64 at h
  split at h
  · rename_i x y cc
    split at h
    · rename_i hb
      obtain ⟨b1, b2, b3, b4, b5, b6⟩ := hb
      cases h
      obtain ⟨x0, e0, r0⟩ := ha.2 0 (by simp)
      obtain ⟨x1, e1, r1⟩ := ha.2 1 (by simp)
      obtain ⟨x2, e2, r2⟩ := ha.2 2 (by simp)
      have hc : cargs = #[x0, x1, x2] := by
        apply Array.ext_getElem?
        intro i
        have hz : cargs.size = 3 := ha.1
        match i with
        | 0 => rw [e0]; rfl
        | 1 => rw [e1]; rfl
        | 2 => rw [e2]; rfl
        | i + 3 => rw [Array.getElem?_eq_none (by omega), Array.getElem?_eq_none (by simp)]
      subst hc
      cases r0; cases r1; cases r2
      refine ⟨.inr ⟨.tuple #[.int .u64 ((x + y + cc) % 18446744073709551616), .int .u64 ((x + y + cc) / 18446744073709551616)], w, ?_, c, hs, .refl c w, .r (.tup (fun i => if i = 0 then .int .u64 ((x + y + cc) % 18446744073709551616) else .int .u64 ((x + y + cc) / 18446744073709551616)) rfl (fun i hi => ?_) (fun i hi => ?_))⟩, fun hx => ?_⟩
      · rw [run_callFunc_extern hf h1 h2 h3 h4, run_add64 x y cc b1 b3 b5 b6]
        rfl
      · match i, hi with
        | 0, _ => rfl
        | 1, _ => rfl
        | i + 2, hi => exact absurd hi (by simp)
      · match i, hi with
        | 0, _ => exact .int
        | 1, _ => exact .int
        | i + 2, hi => exact absurd hi (by simp)
      · exfalso
        obtain ⟨z, hz, hp⟩ := hx
        simp at hz
        rcases hz with rfl | rfl | rfl <;> simp [plainArg] at hp
    · cases h
  · cases h
end Go.AM

namespace Go.AM.P
abbrev e := Opd.env
abbrev l := Opd.loc
abbrev v := Opd.val
abbrev i (o : AOp) : Ins := ⟨o, none⟩
abbrev g (x : Opd) (b : Bool) (o : AOp) : Ins := ⟨o, some (x, b)⟩
end Go.AM.P
