/- A region, in whatever order its operations may come. -/
import Derived.Test.YtmkkmacbmlcfaaaGreatDoorAm04
import Derived.OrdersIn
import Derived.RangeFuncLeaves
import Derived.RangeFuncRecord
import Derived.Laws.NewFold
set_option linter.unusedVariables false
set_option linter.unusedSimpArgs false
set_option linter.unusedSectionVars false
namespace Go.AM
variable {M : Names} {P : Program}
abbrev Its := List (Opd × Option Nat)
def valOf (its : Its) (k : Nat) : Opd := ((its[k]?).map (·.1)).getD (.val .any)
def insOf (its : Its) (k : Nat) : Option Nat := (its[k]?).bind (·.2)
def wrOf (ops : List Oper) (t : Tmp) : Option Nat := ops.findIdx? fun o => o.dst == some t
def rsAt (ops : List Oper) (em : List Tmp) (its : Its) (bef : Nat → Nat) (i : Nat) (t : Tmp) : Option Opd :=
  match wrOf ops t with
  | none => (em.idxOf? t).map .env
  | some k => if (bef i).testBit k then some (valOf its k) else if k == i || (bef k).testBit i then (em.idxOf? t).map .env else none
def litOf : Value → Option AVal
  | .int k n => some (.int k n)
  | .bool b => some (.bool b)
  | .string s => some (.str s.data.toList)
  | .pointer none => some .nilp
  | .nilFunc => some .nilf
  | .map none => some .nilm
  | _ => none
theorem lit_R {w : World} {c : Ctx} {v : Value} {a : AVal} (h : litOf v = some a) : R M w c a v := by
  unfold litOf at h
  split at h <;> first | (cases h; done) | (cases h; first | exact .int | exact .bool | exact .str rfl | exact .nilp | exact .nilf | exact .nilm)
def moved : Op → Option Operand
  | .move x => some x
  | .assign x => some x
  | _ => none
def nwAt (pres : Nat → Bool) (ins : List Ins) (chk : List (Nat × Nat)) (n : Nat) : Bool := match ins[n]? with
  | some I => cls pres I.op == 2 && !chk.contains (n, n)
  | none => false
def guardOk (its : Its) (bef : Nat → Nat) (ops : List Oper) (i : Nat) : Option (Nat × Bool) → Option (Opd × Bool) → Bool
  | none, none => true
  | some (j, b), some (x, b') => b == b' && (bef i).testBit j && opdEq (valOf its j) x && ((ops[j]?).bind (·.dst)).isSome
  | _, _ => false
def elided (ops : List Oper) (em : List Tmp) (its : Its) (bef : Nat → Nat) (i : Nat) (o : Oper) : Bool := o.guard.isNone && (match moved o.op with
  | some (.tmp t) => (match rsAt ops em its bef i t with
    | some x => opdEq x (valOf its i)
    | none => false)
  | some (.const v) => (match litOf v with
    | some a => opdEq (.val a) (valOf its i)
    | none => false)
  | _ => false)
structure RegOk (M : Names) (P : Program) (pres : Nat → Bool) (ops : Array Oper) (ins : List Ins) (em : List Tmp) (its : Its) (bef : Nat → Nat) (chk : List (Nat × Nat)) (late : Option Nat) (nt : Nat) : Prop where
  size : its.length = ops.size
  dst : ∀ (i : Nat) (o : Oper) (d : Tmp), ops[i]? = some o → o.dst = some d → d < nt
  uniq : ∀ (i k : Nat) (oi ok : Oper) (d : Tmp), ops[i]? = some oi → ops[k]? = some ok → oi.dst = some d → ok.dst = some d → i = k
  low : ∀ i k, (bef i).testBit k = true → k < i
  mono : ∀ k i n m, insOf its k = some n → insOf its i = some m → k < i → n < m
  onto : ∀ n, n < ins.length → ∃ k, insOf its k = some n ∧ k < ops.size
  bound : ∀ k n, insOf its k = some n → n < ins.length
  item : ∀ (i : Nat) (o : Oper), ops[i]? = some o → (insOf its i = none ∧ elided ops.toList em its bef i o = true) ∨
    ∃ n I, insOf its i = some n ∧ ins[n]? = some I ∧ valOf its i = .loc n ∧ okOp M P (rsAt ops.toList em its bef i) o.op I.op = true ∧ guardOk its bef ops.toList i o.guard I.guard = true ∧
      (nwAt pres ins chk n = true → late ≠ some i → ∀ k m, k < i → insOf its k = some m → nwAt pres ins chk m = true → (bef i).testBit k = true) ∧
      (nwAt pres ins chk n = false → cls pres I.op = 0 ∨
        ((∃ k m, insOf its k = some m ∧ nwAt pres ins chk m = true ∧ (bef i).testBit k = true) ∨ (∀ k m, insOf its k = some m → nwAt pres ins chk m = true → ¬ m < n) ∨ (n, 0) ∈ chk) ∧
        ∀ k m, insOf its k = some m → nwAt pres ins chk m = true → (bef k).testBit i = true ∨ (∃ k' m', insOf its k' = some m' ∧ nwAt pres ins chk m' = true ∧ m < m' ∧ (bef i).testBit k' = true) ∨
          (m < n ∧ ∀ k' m', insOf its k' = some m' → nwAt pres ins chk m' = true → m < m' → ¬ m' < n) ∨ (n, m + 1) ∈ chk)
  lateOk : ∀ d, late = some d → bef d = 0 ∧ ∃ o T t n kk z, ops[d]? = some o ∧ o.op = .alloc T ∧ o.guard = none ∧ o.dst = some t ∧ insOf its d = some n ∧ ins[n]? = some ⟨.box kk (.val z), none⟩ ∧ nwAt pres ins chk n = true ∧
    (∀ j, (bef j).testBit d = true → ∀ k m, insOf its k = some m → nwAt pres ins chk m = true → m < n → (bef j).testBit k = true) ∧ ∀ j, j < ops.size → j ≠ d → rsAt ops.toList em its bef j t ≠ none → (bef j).testBit d = true
  guards : ∀ (n j : Nat) (I : Ins), (n, j) ∈ chk → ins[n]? = some I → I.guard = none
theorem wrOf_none {ops : Array Oper} {t : Tmp} (h : wrOf ops.toList t = none) {k : Nat} {o : Oper} (ho : ops[k]? = some o) : o.dst ≠ some t := by
  unfold wrOf at h
  rw [List.findIdx?_eq_none_iff] at h
  have hm : o ∈ ops.toList := by
    rw [List.mem_iff_getElem?]
    exact ⟨k, by simpa using ho⟩
  have := h o hm
  simpa using this
theorem wrOf_some {ops : Array Oper} {t : Tmp} {k : Nat} (h : wrOf ops.toList t = some k) : ∃ o, ops[k]? = some o ∧ o.dst = some t := by
  unfold wrOf at h
  rw [List.findIdx?_eq_some_iff_getElem] at h
  obtain ⟨hk, h1, _⟩ := h
  exact ⟨ops[k]'(by simpa using hk), by simp, by simpa using h1⟩
theorem R.undef {w : World} {c : Ctx} : R M w c (.tup []) undef := .tup (fun _ => .nilFunc) rfl (fun i h => absurd h (by simp)) (fun i h => absurd h (by simp))
theorem eval_take {env ls : List AVal} {x : Opd} (n : Nat) : x.eval env (ls.take n) = x.eval env ls ∨ x.eval env (ls.take n) = .any := by
  cases x with
  | env i => exact .inl rfl
  | val v => exact .inl rfl
  | loc j =>
    simp only [Opd.eval, nth, List.getElem?_take]
    by_cases h : j < n
    · simp [h]
    · simp [h]
theorem R.take {w : World} {c : Ctx} {env ls : List AVal} {x : Opd} {v : Value} (h : R M w c (x.eval env ls) v) (n : Nat) : R M w c (x.eval env (ls.take n)) v := by
  rcases eval_take (env := env) (ls := ls) (x := x) n with e | e
  · rw [e]; exact h
  · rw [e]; exact .any
section
variable {pres : Nat → Bool} {ops : Array Oper} {ins : List Ins} {em : List Tmp} {its : Its} {bef : Nat → Nat} {chk : List (Nat × Nat)} {env ls : List AVal} {s : Nat → Store} {C : CallF} {w0 : World} {c0 : Ctx} {a0 : Act}
def Cut (pres : Nat → Bool) (ins : List Ins) (its : Its) (chk : List (Nat × Nat)) (S : Nat → Prop) (p : Nat) : Prop :=
  (p = 0 ∨ ∃ k n, S k ∧ insOf its k = some n ∧ nwAt pres ins chk n = true ∧ p = n + 1) ∧
  ∀ k n, insOf its k = some n → nwAt pres ins chk n = true → (S k ↔ n < p)
def Inv (M : Names) (pres : Nat → Bool) (ops : Array Oper) (ins : List Ins) (its : Its) (bef : Nat → Nat) (chk : List (Nat × Nat)) (env ls : List AVal) (s : Nat → Store) (c0 : Ctx) (w0 : World) (a0 : Act) (x : Option (Tmp × Nat × Go.Obj)) (S : Nat → Prop) (a : Act) (w : World) : Prop :=
  (∀ i k, S i → (bef i).testBit k = true → S k) ∧ (∀ i, S i → i < ops.size) ∧ ∃ c p, Sim M w c (s p) ∧ Stp c0 w0 c w ∧ Cut pres ins its chk S p ∧
    (∀ (i : Nat) (o : Oper) (d : Tmp), S i → ops[i]? = some o → o.dst = some d → R M w c ((valOf its i).eval env ls) (a.tmps.getD d undef)) ∧
    (∀ t, (∀ (i : Nat) (o : Oper), S i → ops[i]? = some o → o.dst ≠ some t) → (∀ b ob, x ≠ some (t, b, ob)) → a.tmps.getD t undef = a0.tmps.getD t undef) ∧ a.tmps.size = a0.tmps.size ∧ a.defers = a0.defers ∧
    ∀ t b ob, x = some (t, b, ob) → a.tmps.getD t undef = .pointer (some ⟨b, 0, none⟩) ∧ w0.heap.size ≤ b ∧ w.heap[b]? = some ob ∧ ¬ c.bor b ∧ ∀ id, c.H id ≠ .dead → c.place id ≠ some b
theorem store_same (hT : Trace C env ins ls s) (hp : Keeps pres C) (hchk : ∀ (n j : Nat) (I : Ins), (n, j) ∈ chk → ins[n]? = some I → stepOp C env (ls.take n) (s j) I.op = some (nth ls n, s j)) (hgd : ∀ (n j : Nat) (I : Ins), (n, j) ∈ chk → ins[n]? = some I → I.guard = none)
    {p n : Nat} (hpn : p ≤ n) (hn : n ≤ ins.length) (h : ∀ m, p ≤ m → m < n → nwAt pres ins chk m = false) : s n = s p := by
  induction n with
  | zero => rw [show p = 0 by omega]
  | succ n ih =>
    by_cases e : p = n + 1
    · rw [e]
    · rw [← ih (by omega) (by omega) (fun m h1 h2 => h m h1 (by omega))]
      have hn' : n < ins.length := by omega
      have hnw := h n (by omega) (by omega)
      have hl := hT.len
      rcases hT.step n hn' (by omega) with ⟨h1, h2⟩ | ⟨_, _, h3⟩
      · unfold nwAt at hnw
        rw [List.getElem?_eq_getElem hn'] at hnw
        simp only [Bool.and_eq_false_iff, beq_eq_false_iff_ne, Bool.not_eq_false', List.contains_iff_mem] at hnw
        rcases hnw with h4 | h4
        · have : cls pres ins[n].op ≤ 1 := by
            have : cls pres ins[n].op ≤ 2 := by
              cases ins[n].op <;> simp [cls]
              split <;> omega
            omega
          exact cls_le hp this h2
        · have h5 := hchk n n ins[n] h4 (List.getElem?_eq_getElem hn')
          rw [h5] at h2
          simp only [Option.some.injEq, Prod.mk.injEq] at h2
          exact h2.2.symm
      · exact h3
theorem same_cut (hT : Trace C env ins ls s) (hp : Keeps pres C) (hchk : ∀ (n j : Nat) (I : Ins), (n, j) ∈ chk → ins[n]? = some I → stepOp C env (ls.take n) (s j) I.op = some (nth ls n, s j)) (hgd : ∀ (n j : Nat) (I : Ins), (n, j) ∈ chk → ins[n]? = some I → I.guard = none)
    (onto : ∀ n, n < ins.length → ∃ k, insOf its k = some n ∧ k < ops.size) {p n : Nat} (hpl : p ≤ ins.length) (hn : n ≤ ins.length)
    (h : ∀ k m, insOf its k = some m → nwAt pres ins chk m = true → (m < p ↔ m < n)) : s p = s n := by
  have nw : ∀ m, m < ins.length → nwAt pres ins chk m = true → (m < p ↔ m < n) := fun m hm hw => by
    obtain ⟨k, hk, _⟩ := onto m hm
    exact h k m hk hw
  by_cases hle : p ≤ n
  · refine (store_same hT hp hchk hgd hle hn fun m h1 h2 => ?_).symm
    cases e : nwAt pres ins chk m with
    | false => rfl
    | true => exact absurd ((nw m (by omega) e).2 h2) (by omega)
  · refine store_same hT hp hchk hgd (by omega) hpl fun m h1 h2 => ?_
    cases e : nwAt pres ins chk m with
    | false => rfl
    | true => exact absurd ((nw m (by omega) e).1 h2) (by omega)
theorem guard_R {w : World} {c : Ctx} {a : Act} {i n : Nat} {o : Oper} {g : Option (Opd × Bool)} {t : Bool} (h : guardOk its bef ops.toList i o.guard g = true) (hw : wanted env (ls.take n) g = some t)
    (hv : ∀ (j : Nat) (oj : Oper) (d : Tmp), (bef i).testBit j = true → ops[j]? = some oj → oj.dst = some d → R M w c ((valOf its j).eval env ls) (a.tmps.getD d undef)) : Region.wanted o (yielded ops a.tmps) = t := by
  unfold Region.wanted
  cases hg : o.guard with
  | none =>
    rw [hg] at h
    cases g with
    | none => simp only [wanted, Option.some.injEq] at hw; exact hw
    | some x => simp [guardOk] at h
  | some jb =>
    obtain ⟨j, b⟩ := jb
    rw [hg] at h
    cases g with
    | none => simp [guardOk] at h
    | some xb =>
      obtain ⟨x, b'⟩ := xb
      simp only [guardOk, Bool.and_eq_true, beq_iff_eq] at h
      obtain ⟨⟨⟨rfl, h2⟩, h3⟩, h4⟩ := h
      have hx := opdEq_eq h3
      obtain ⟨d, hd⟩ := Option.isSome_iff_exists.1 h4
      obtain ⟨oj, hj, hjd⟩ := bind_eq_some hd
      have hj' : ops[j]? = some oj := by simpa using hj
      have hr := hv j oj d h2 hj' hjd
      rw [hx] at hr
      simp only [wanted] at hw
      split at hw
      · rename_i t0 ht0
        simp only [Option.some.injEq] at hw
        have he : x.eval env ls = .bool t0 := by
          rcases eval_take (env := env) (ls := ls) (x := x) n with e | e
          · rw [← e]; exact ht0
          · rw [e] at ht0; cases ht0
        rw [he] at hr
        have hval : a.tmps[d]? = some (.bool t0) := by
          rw [Array.getD_eq_getD_getElem?] at hr
          cases hq : a.tmps[d]? with
          | none => rw [hq] at hr; simp [undef] at hr; cases hr
          | some v => rw [hq] at hr; simp at hr; cases hr; rfl
        have hy : yielded ops a.tmps j = some t0 := by
          unfold yielded
          simp [hj', hjd, hval]
        show (yielded ops a.tmps j == some b) = t
        rw [hy, ← hw]
        cases t0 <;> cases b <;> rfl
      · rename_i ht0
        simp only [Option.some.injEq] at hw
        have he : x.eval env ls = .tup [] := by
          rcases eval_take (env := env) (ls := ls) (x := x) n with e | e
          · rw [← e]; exact ht0
          · rw [e] at ht0; cases ht0
        rw [he] at hr
        show (yielded ops a.tmps j == some b) = t
        have hy : yielded ops a.tmps j = none := by
          unfold yielded
          rw [Array.getD_eq_getD_getElem?] at hr
          simp only [hj', Option.bind_some, hjd]
          cases hq : a.tmps[d]? with
          | none => rfl
          | some v =>
            rw [hq] at hr
            simp only [Option.getD_some] at hr
            cases hr
            rfl
        rw [hy, ← hw]
        cases b <;> rfl
      · cases hw
end
end Go.AM

namespace Go.AM
variable {M : Names} {P : Program}
variable {pres : Nat → Bool} {ops : Array Oper} {ins : List Ins} {em : List Tmp} {its : Its} {bef : Nat → Nat} {chk : List (Nat × Nat)} {late : Option Nat} {nt : Nat} {env ls : List AVal} {s : Nat → Store} {C : CallF} {w0 : World} {c0 : Ctx} {a0 : Act}
theorem nth_get {ls : List AVal} {n : Nat} (h : n < ls.length) : nth ls n = ls[n] := by
  unfold nth; rw [List.getElem?_eq_getElem h]; rfl
theorem step_op (hok : RegOk M P pres ops ins em its bef chk late nt) (hT : Trace C env ins ls s) (hp : Keeps pres C) (hchk : ∀ (n j : Nat) (I : Ins), (n, j) ∈ chk → ins[n]? = some I → stepOp C env (ls.take n) (s j) I.op = some (nth ls n, s j))
    (hC : CallSound M P C) (hR : RoundSound M P C) {F : Fence} {n0 : Nat} (hF : Wide F) (hg : Globs M w0 c0) (ht0 : TmpR M w0 c0 env [] (fun t => (em.idxOf? t).map .env) a0.tmps) (hsz : nt ≤ a0.tmps.size)
    {Q : Exit → Act → World → Prop} {i : Nat} {o : Oper} (ho : ops[i]? = some o) {x : Option (Tmp × Nat × Go.Obj)} (hxr : ∀ t b ob, x = some (t, b, ob) → rsAt ops.toList em its bef i t = none ∧ o.dst ≠ some t) {S : Nat → Prop} (hi : ¬ S i) (hall : ∀ n, insOf its i = some n → nwAt pres ins chk n = true → ∀ k m, k < i → insOf its k = some m → nwAt pres ins chk m = true → S k) (hb : ∀ k, (bef i).testBit k = true → S k) {a : Act} {w : World}
    (hinv : Inv M pres ops ins its bef chk env ls s c0 w0 a0 x S a w) :
    wpOpIn F n0 P ops Q i (Inv M pres ops ins its bef chk env ls s c0 w0 a0 x fun j => S j ∨ j = i) a w := by
  obtain ⟨cl, lt, c, p, hs, hst, hcut, hv, hun, hts, hdf, hhid⟩ := hinv
  have hio : i < ops.size := (Array.getElem?_eq_some_iff.1 ho).1
  have hg' : Globs M w c := hg.ext hst.toExt
  have hT1 : TmpR M w c env ls (rsAt ops.toList em its bef i) a.tmps := by
    intro t x' hx
    have hxt : ∀ b ob, x ≠ some (t, b, ob) := fun b ob e => by rw [(hxr t b ob e).1] at hx; cases hx
    unfold rsAt at hx
    have base : (em.idxOf? t).map Opd.env = some x' → (∀ (i : Nat) (o : Oper), S i → ops[i]? = some o → o.dst ≠ some t) → R M w c (x'.eval env ls) (a.tmps.getD t undef) := fun h1 h2 => by
      rw [hun t h2 hxt]
      have := (ht0 t x' h1).ext hst.toExt
      obtain ⟨j, _, rfl⟩ := map_eq_some h1
      exact this
    split at hx
    · rename_i hw
      exact base hx fun k ok _ hk => wrOf_none hw hk
    · rename_i k hw
      obtain ⟨ok, hk, hkd⟩ := wrOf_some hw
      split at hx
      · rename_i hbk
        cases hx
        exact hv k ok t (hb k hbk) hk hkd
      · split at hx
        · rename_i hc
          refine base hx fun k' ok' hS hk' hd' => ?_
          have := hok.uniq k' k ok' ok t hk' hk hd' hkd
          subst this
          simp only [Bool.or_eq_true, beq_iff_eq] at hc
          rcases hc with rfl | hc
          · exact hi hS
          · exact hi (cl _ _ hS hc)
        · cases hx
  have hT2 : ∀ n, TmpR M w c env (ls.take n) (rsAt ops.toList em its bef i) a.tmps := fun n t x hx => (hT1 t x hx).take n
  have upd : ∀ (cv : Value) (w' : World) (c' : Ctx) (p' : Nat), Sim M w' c' (s p') → Stp c w c' w' → Cut pres ins its chk (fun j => S j ∨ j = i) p' → R M w' c' ((valOf its i).eval env ls) cv →
      Inv M pres ops ins its bef chk env ls s c0 w0 a0 x (fun j => S j ∨ j = i) (a.put o.dst cv) w' := fun cv w' c' p' h1 h2 h3 h4 => by
    refine ⟨fun j k hj hk => ?_, fun j hj => ?_, c', p', h1, hst.trans h2, h3, fun j oj d hj hoj hd => ?_, fun t ht hxt => ?_, ?_, ?_, fun t b ob e => ?_⟩
    · rcases hj with hj | rfl
      · exact .inl (cl j k hj hk)
      · exact .inl (hb k hk)
    · rcases hj with hj | rfl
      · exact lt j hj
      · exact hio
    · by_cases e : j = i
      · subst e
        rw [ho] at hoj; cases hoj
        rw [hd, getD_put (by rw [hts]; exact Nat.lt_of_lt_of_le (hok.dst _ _ _ ho hd) hsz), if_pos rfl]
        exact h4
      · have hSj : S j := hj.resolve_right e
        have := (hv j oj d hSj hoj hd).ext h2.toExt
        cases hod : o.dst with
        | none => exact this
        | some d' =>
          have hne : ¬ d = d' := fun e2 => by
            subst e2
            exact e (hok.uniq _ _ _ _ _ hoj ho hd hod)
          rw [getD_put (by rw [hts]; exact Nat.lt_of_lt_of_le (hok.dst _ _ _ ho hod) hsz), if_neg hne]
          exact this
    · have hne : o.dst ≠ some t := ht i o (.inr rfl) ho
      have := hun t (fun j oj hj => ht j oj (.inl hj)) hxt
      cases hod : o.dst with
      | none => exact this
      | some d' =>
        have hne' : ¬ t = d' := fun e2 => hne (by rw [hod, e2])
        rw [getD_put (by rw [hts]; exact Nat.lt_of_lt_of_le (hok.dst _ _ _ ho hod) hsz), if_neg hne']
        exact this
    · cases hod : o.dst with
      | none => exact hts
      | some d => simp [Act.put, hts]
    · cases hod : o.dst with
      | none => exact hdf
      | some d => exact hdf
    · obtain ⟨y1, y2, y3, y4, y5⟩ := hhid t b ob e
      have hne := (hxr t b ob e).2
      have hbl : b < w.heap.size := (Array.getElem?_eq_some_iff.1 y3).1
      refine ⟨?_, y2, by rw [h2.frame b hbl y5]; exact y3, fun hb => ?_, fun id z1 z2 => ?_⟩
      · cases hod : o.dst with
        | none => exact y1
        | some d' =>
          have hne' : ¬ t = d' := fun e2 => hne (by rw [hod, e2])
          rw [getD_put (by rw [hts]; exact Nat.lt_of_lt_of_le (hok.dst _ _ _ ho hod) hsz), if_neg hne']
          exact y1
      · rcases h2.oldb b hb hbl with hb | ⟨q, q1, q2⟩
        · exact y4 hb
        · exact y5 q q1 q2
      · obtain ⟨q, q1, q2⟩ := h2.liv id b z1 z2 hbl
        exact y5 q q1 q2
  have hpl : p ≤ ins.length := by
    rcases hcut.1 with rfl | ⟨k, n, _, hk, _, rfl⟩
    · exact Nat.zero_le _
    · exact hok.bound k n hk
  unfold wpOpIn
  rw [ho]
  simp only
  rcases hok.item i o ho with ⟨hn, hel⟩ | ⟨n, I, hn, hI, hval, hop, hgo, hnw, hx⟩
  · 
    unfold elided at hel
    simp only [Bool.and_eq_true, Option.isNone_iff_eq_none] at hel
    obtain ⟨hgn, hel⟩ := hel
    have hw : Region.wanted o (yielded ops a.tmps) = true := by unfold Region.wanted; rw [hgn]
    rw [if_pos hw]
    have hcut' : Cut pres ins its chk (fun j => S j ∨ j = i) p := by
      refine ⟨hcut.1.imp id fun ⟨k, n, h1, h2⟩ => ⟨k, n, .inl h1, h2⟩, fun k n hk hnw => ?_⟩
      rw [← hcut.2 k n hk hnw]
      refine ⟨fun h => h.resolve_right fun e => ?_, .inl⟩
      rw [e, hn] at hk; cases hk
    have fin : ∀ y, moved o.op = some y → R M w c ((valOf its i).eval env ls) (a.eval y) → o.wpIn F n0 P a w (Inv M pres ops ins its bef chk env ls s c0 w0 a0 x fun j => S j ∨ j = i) Q := fun y hm hr => by
      refine ⟨fun f _ => hF.fn f, ?_⟩
      have hex : (execOp a.eval o) = pure (.value (a.eval y)) := by
        unfold execOp
        cases hopp : o.op <;> rw [hopp] at hm <;> simp only [moved] at hm <;> first | (cases hm; done) | (cases hm; rfl)
      rw [Oper.semAt_eq _ _ _ (fun d e => by rw [e] at hm; cases hm), hex]
      exact upd _ w c p hs (.refl c w) hcut' hr
    split at hel
    · rename_i t hm
      split at hel
      · rename_i x hx
        refine fin _ hm ?_
        have := hT1 t x hx
        rw [opdEq_eq hel] at this
        exact this
      · cases hel
    · rename_i v hm
      split at hel
      · rename_i x hx
        refine fin _ hm ?_
        rw [← opdEq_eq hel]
        exact lit_R hx
      · cases hel
    · cases hel
  · 
    obtain ⟨hnl, hIe⟩ := List.getElem?_eq_some_iff.1 hI
    have hnl' : n < ls.length := by rw [hT.len]; exact hnl
    have hvR : ∀ (j : Nat) (oj : Oper) (d : Tmp), (bef i).testBit j = true → ops[j]? = some oj → oj.dst = some d → R M w c ((valOf its j).eval env ls) (a.tmps.getD d undef) := fun j oj d hj => hv j oj d (hb j hj)
    have hvaln : (valOf its i).eval env ls = ls[n] := by
      rw [hval]
      exact nth_get hnl'
    have hcutN : nwAt pres ins chk n = true → s p = s n := fun hw => by
      refine same_cut hT hp hchk hok.guards hok.onto hpl (by omega) fun k m hk hm => ?_
      rw [← hcut.2 k m hk hm]
      rcases Nat.lt_trichotomy k i with h | h | h
      · exact ⟨fun _ => hok.mono _ _ _ _ hk hn h, fun _ => hall n hn hw k m h hk hm⟩
      · subst h
        rw [hn] at hk; cases hk
        exact ⟨fun h => absurd h hi, fun h => absurd h (Nat.lt_irrefl _)⟩
      · have hnm := hok.mono _ _ _ _ hn hk h
        refine ⟨fun hS => absurd ((hcut.2 i n hn hw).2 (by have := (hcut.2 k m hk hm).1 hS; omega)) hi, fun h2 => ?_⟩
        omega
    have cutN : nwAt pres ins chk n = true → Cut pres ins its chk (fun j => S j ∨ j = i) (n + 1) := fun hw => by
      refine ⟨.inr ⟨i, n, .inr rfl, hn, hw, rfl⟩, fun k m hk hm => ?_⟩
      rcases Nat.lt_trichotomy k i with h | h | h
      · have := hok.mono _ _ _ _ hk hn h
        exact ⟨fun _ => by omega, fun _ => .inl (hall n hn hw k m h hk hm)⟩
      · subst h
        rw [hn] at hk; cases hk
        exact ⟨fun _ => by omega, fun _ => .inr rfl⟩
      · have := hok.mono _ _ _ _ hn hk h
        refine ⟨fun hS => ?_, fun h2 => by omega⟩
        rcases hS with hS | rfl
        · exact absurd ((hcut.2 i n hn hw).2 (by have := (hcut.2 k m hk hm).1 hS; omega)) hi
        · exact absurd h (Nat.lt_irrefl _)
    have cutX : nwAt pres ins chk n = false → Cut pres ins its chk (fun j => S j ∨ j = i) p := fun hw => by
      refine ⟨hcut.1.imp id fun ⟨k, n, h1, h2⟩ => ⟨k, n, .inl h1, h2⟩, fun k m hk hm => ?_⟩
      rw [← hcut.2 k m hk hm]
      refine ⟨fun h => h.resolve_right fun e => ?_, .inl⟩
      rw [e, hn] at hk; cases hk
      rw [hw] at hm; cases hm
    rcases hT.step n hnl hnl' with ⟨h1, h2⟩ | ⟨h1, h2, h3⟩
    · 
      rw [hIe] at h1 h2
      have hw : Region.wanted o (yielded ops a.tmps) = true := guard_R hgo h1 hvR
      rw [if_pos hw]
      have run : ∀ p', stepOp C env (ls.take n) (s p) I.op = some (ls[n], s p') → Cut pres ins its chk (fun j => S j ∨ j = i) p' → o.wpIn F n0 P a w (Inv M pres ops ins its bef chk env ls s c0 w0 a0 x fun j => S j ∨ j = i) Q := fun p' hstep hc' =>
        op_wp hF hC hR hs (hT2 n) hg' hop hstep fun cv w' c' b1 b2 b3 => upd cv w' c' p' b1 b2 hc' (by rw [hvaln]; exact b3)
      cases hw2 : nwAt pres ins chk n with
      | true =>
        refine run (n + 1) ?_ (cutN hw2)
        rw [hcutN hw2]; exact h2
      | false =>
        refine run p ?_ (cutX hw2)
        have hsn : s (n + 1) = s n := store_same hT hp hchk hok.guards (Nat.le_succ n) hnl fun m a1 a2 => by
          have : m = n := by omega
          rw [this]; exact hw2
        rw [hsn] at h2
        have same : (∀ k m, insOf its k = some m → nwAt pres ins chk m = true → (m < p ↔ m < n)) → stepOp C env (ls.take n) (s p) I.op = some (ls[n], s p) := fun h => by
          rw [same_cut hT hp hchk hok.guards hok.onto hpl (by omega) h]; exact h2
        have byChk : (n, p) ∈ chk → stepOp C env (ls.take n) (s p) I.op = some (ls[n], s p) := fun h => by
          rw [hchk n p I h hI, nth_get hnl']
        rcases hx hw2 with h0 | ⟨hz, hk⟩
        · exact cls_zero h0 h2 (s p)
        · rcases hcut.1 with rfl | ⟨k, m, hS, hkm, hmw, rfl⟩
          · rcases hz with ⟨k, m, b1, b2, b3⟩ | hz | hz
            · have := (hcut.2 k m b1 b2).1 (hb k b3)
              omega
            · exact same fun k m b1 b2 => ⟨fun h => by omega, fun h => absurd h (hz k m b1 b2)⟩
            · exact byChk hz
          · rcases hk k m hkm hmw with h | ⟨k', m', b1, b2, b3, b4⟩ | ⟨b1, b2⟩ | h
            · exact absurd (cl k i hS h) hi
            · have := (hcut.2 k' m' b1 b2).1 (hb k' b4)
              omega
            · exact same fun k' m' e1 e2 => ⟨fun h => by omega, fun h => by
                by_cases e : m < m'
                · exact absurd h (b2 k' m' e1 e2 e)
                · omega⟩
            · exact byChk h
    · 
      rw [hIe] at h1
      have hw : Region.wanted o (yielded ops a.tmps) = false := guard_R hgo h1 hvR
      rw [if_neg (by rw [hw]; simp)]
      refine ⟨fun f _ => hF.fn f, ?_⟩
      have hany : R M w c ((valOf its i).eval env ls) undef := by rw [hvaln, h2]; exact R.undef
      cases hw2 : nwAt pres ins chk n with
      | true => exact upd _ w c (n + 1) (by rw [h3, ← hcutN hw2]; exact hs) (.refl c w) (cutN hw2) hany
      | false => exact upd _ w c p hs (.refl c w) (cutX hw2) hany
end Go.AM

namespace Go.AM
variable {M : Names} {P : Program} {w w' : World} {c c' : Ctx} {σ : Store}
theorem Sim.over (hs : Sim M w c σ) (h : ∀ b, b < w.heap.size → (c.bor b ∨ ∃ id, c.H id ≠ .dead ∧ c.place id = some b) → w'.heap[b]? = w.heap[b]?) (hz : w.heap.size ≤ w'.heap.size) : Sim M w' c σ ∧ Ext c w c w' := by
  have hext : Ext c w c w' := ⟨fun _ h => h, fun _ h => h, fun b hb => h b (hs.low b (hb.elim (fun h => h) (hs.sb b))) (.inl (hb.elim (fun h => h) (hs.sb b))), Nat.le_refl _, fun _ _ => .inl rfl, fun _ _ _ _ => ⟨rfl, rfl, rfl⟩⟩
  refine ⟨⟨hs.H, hs.N, hs.sb, fun b hb => Nat.lt_of_lt_of_le (hs.low b hb) hz, fun id b h1 h2 => ?_, hs.inj, fun id o ho => ?_⟩, hext⟩
  · obtain ⟨p1, p2⟩ := hs.plow id b h1 h2
    exact ⟨Nat.lt_of_lt_of_le p1 hz, p2⟩
  · refine (hs.obj id o ho).ext hext (fun _ => ⟨rfl, rfl, rfl⟩) fun hnd b hb => ?_
    have hd : c.H id ≠ .dead := by rw [hs.H]; exact fun h => hnd ((hd_dead ho).1 h)
    exact h b (hs.plow id b hd hb).1 (.inr ⟨id, hd, hb⟩)
end Go.AM

namespace Go.AM
variable {M : Names} {P : Program}
variable {pres : Nat → Bool} {ops : Array Oper} {ins : List Ins} {em : List Tmp} {its : Its} {bef : Nat → Nat} {chk : List (Nat × Nat)} {late : Option Nat} {nt : Nat} {env ls : List AVal} {s : Nat → Store} {C : CallF} {w0 : World} {c0 : Ctx} {a0 : Act}
def emR (em : List Tmp) (t : Tmp) : Option Opd := (em.idxOf? t).map .env
def lookOut (e : Nat) : List (Nat × Opd) → Option Opd
  | [] => none
  | (k, x) :: r => if k = e then some x else lookOut e r
def outsOk (ops : List Oper) (em : List Tmp) (its : Its) (os : List (Nat × Opd)) : Bool :=
  (os.map (·.1)).Nodup && em.zipIdx.all fun te => match wrOf ops te.1 with
    | none => (lookOut te.2 os).isNone
    | some k => (match lookOut te.2 os with
      | some x => opdEq (valOf its k) x
      | none => false)
theorem nth_set_ne {env : List AVal} {k e : Nat} {v : AVal} (h : k ≠ e) : nth (env.set k v) e = nth env e := by
  unfold nth; rw [List.getElem?_set_ne h]
theorem outs_ne {old ls : List AVal} {e : Nat} : ∀ {os : List (Nat × Opd)} {env : List AVal}, lookOut e os = none → nth (outs env old ls os) e = nth env e
  | [], _, _ => rfl
  | (k, x) :: r, env, h => by
    simp only [lookOut] at h
    split at h
    · cases h
    · rename_i hk
      simp only [outs]
      rw [outs_ne h, nth_set_ne hk]
theorem outs_eq {old ls : List AVal} {e : Nat} {x : Opd} : ∀ {os : List (Nat × Opd)} {env : List AVal}, (os.map (·.1)).Nodup → lookOut e os = some x → nth (outs env old ls os) e = x.eval old ls ∨ nth (outs env old ls os) e = .any
  | [], _, _, h => by cases h
  | (k, y) :: r, env, hn, h => by
    simp only [lookOut] at h
    simp only [List.map_cons, List.nodup_cons] at hn
    simp only [outs]
    split at h
    · rename_i hk
      subst hk
      cases h
      have : lookOut k r = none := by
        have hni := hn.1
        clear hn
        induction r with
        | nil => rfl
        | cons q r ih =>
          simp only [List.map_cons, List.mem_cons, not_or] at hni
          unfold lookOut
          rw [if_neg (fun e => hni.1 e.symm)]
          exact ih hni.2
      rw [outs_ne this]
      unfold nth
      rw [List.getElem?_set]
      split
      · split
        · exact .inl rfl
        · exact .inr rfl
      · exact absurd rfl (by assumption)
    · exact outs_eq hn.2 h
def Final (M : Names) (em : List Tmp) (env ls : List AVal) (os : List (Nat × Opd)) (c0 : Ctx) (w0 : World) (a0 : Act) (σ' : Store) (a : Act) (w : World) : Prop :=
  ∃ c, Sim M w c σ' ∧ Stp c0 w0 c w ∧ TmpR M w c (outs env env ls os) [] (emR em) a.tmps ∧ a.tmps.size = a0.tmps.size ∧ a.defers = a0.defers
theorem inv_final (hok : RegOk M P pres ops ins em its bef chk late nt) (hT : Trace C env ins ls s) (hp : Keeps pres C) (hchk : ∀ (n j : Nat) (I : Ins), (n, j) ∈ chk → ins[n]? = some I → stepOp C env (ls.take n) (s j) I.op = some (nth ls n, s j))
    (ht0 : TmpR M w0 c0 env [] (emR em) a0.tmps) {os : List (Nat × Opd)} (hos : outsOk ops.toList em its os = true) {S : Nat → Prop} (hS : ∀ i, i < ops.size → S i) {a : Act} {w : World}
    (hinv : Inv M pres ops ins its bef chk env ls s c0 w0 a0 none S a w) : Final M em env ls os c0 w0 a0 (s ins.length) a w := by
  obtain ⟨cl, lt, c, p, hs, hst, hcut, hv, hun, hts, hdf, _⟩ := hinv
  have hpl : p ≤ ins.length := by
    rcases hcut.1 with rfl | ⟨k, n, _, hk, _, rfl⟩
    · exact Nat.zero_le _
    · exact hok.bound k n hk
  have hsp : s p = s ins.length := same_cut hT hp hchk hok.guards hok.onto hpl (Nat.le_refl _) fun k m hk hm => by
    have hkl : k < ops.size := by
      rw [← hok.size]
      unfold insOf at hk
      obtain ⟨x, hx, _⟩ := bind_eq_some hk
      exact (List.getElem?_eq_some_iff.1 hx).1
    exact ⟨fun _ => hok.bound k m hk, fun _ => (hcut.2 k m hk hm).1 (hS k hkl)⟩
  refine ⟨c, hsp ▸ hs, hst, fun t x hx => ?_, hts, hdf⟩
  unfold emR at hx
  obtain ⟨e, he, rfl⟩ := map_eq_some hx
  unfold outsOk at hos
  simp only [Bool.and_eq_true, decide_eq_true_eq, List.all_eq_true] at hos
  obtain ⟨hnd, hall⟩ := hos
  have hm : (t, e) ∈ em.zipIdx := by
    rw [List.idxOf?, List.findIdx?_eq_some_iff_getElem] at he
    obtain ⟨h1, h2, _⟩ := he
    rw [List.mem_zipIdx_iff_getElem?]
    rw [List.getElem?_eq_getElem h1]
    simpa using h2
  have := hall _ hm
  simp only at this
  show R M w c (nth (outs env env ls os) e) _
  cases hw : wrOf ops.toList t with
  | none =>
    rw [hw] at this
    rw [outs_ne (by simpa using this), hun t (fun i o _ ho => wrOf_none hw ho) (fun _ _ e => by cases e)]
    exact (ht0 t (.env e) (by unfold emR; rw [he]; rfl)).ext hst.toExt
  | some k =>
    rw [hw] at this
    simp only at this
    split at this
    · rename_i x hx'
      obtain ⟨ok, hk, hkd⟩ := wrOf_some hw
      have hr := hv k ok t (hS k (Array.getElem?_eq_some_iff.1 hk).1) hk hkd
      rw [opdEq_eq this] at hr
      rcases outs_eq (old := env) (ls := ls) (env := env) hnd hx' with h | h
      · rw [h]; exact hr
      · rw [h]; exact .any
    · cases this
theorem inv_start {w : World} (hs : Sim M w c0 (s 0)) (hst : Stp c0 w0 c0 w) {S : Nat → Prop} (hS : ∀ i, ¬ S i) : Inv M pres ops ins its bef chk env ls s c0 w0 a0 none S a0 w :=
  ⟨fun i k h => absurd h (hS i), fun i h => absurd h (hS i), c0, 0, hs, hst, ⟨.inl rfl, fun k n _ _ => ⟨fun h => absurd h (hS k), fun h => absurd h (Nat.not_lt_zero _)⟩⟩, fun i o d h => absurd h (hS i), fun t _ _ => rfl, rfl, rfl, fun _ _ _ e => by cases e⟩
theorem Inv.congr {x : Option (Tmp × Nat × Go.Obj)} {S S' : Nat → Prop} (h : ∀ i, S i ↔ S' i) {a : Act} {w : World} (hi : Inv M pres ops ins its bef chk env ls s c0 w0 a0 x S a w) : Inv M pres ops ins its bef chk env ls s c0 w0 a0 x S' a w := by
  have : S = S' := funext fun i => propext (h i)
  rw [← this]; exact hi
section
variable {F : Fence} {n0 : Nat} {Q : Exit → Act → World → Prop} {os : List (Nat × Opd)}
theorem region_text (hok : RegOk M P pres ops ins em its (fun i => 2 ^ i - 1) chk none nt) (hT : Trace C env ins ls s) (hp : Keeps pres C) (hchk : ∀ (n j : Nat) (I : Ins), (n, j) ∈ chk → ins[n]? = some I → stepOp C env (ls.take n) (s j) I.op = some (nth ls n, s j))
    (hC : CallSound M P C) (hR : RoundSound M P C) (hF : Wide F) (hg : Globs M w0 c0) (hs : Sim M w0 c0 (s 0)) (ht0 : TmpR M w0 c0 env [] (emR em) a0.tmps) (hsz : nt ≤ a0.tmps.size) (hos : outsOk ops.toList em its os = true)
    (hQ : ∀ a w, Final M em env ls os c0 w0 a0 (s ins.length) a w → Q .normal a w) (id : Nat) : (Code.region id ops false).wpIn F n0 P Q a0 w0 := by
  apply wpIn_region
  have key : ∀ (m i : Nat) (a : Act) (w : World), i + m = ops.size → Inv M pres ops ins its (fun i => 2 ^ i - 1) chk env ls s c0 w0 a0 none (fun j => j < i) a w → wpOpsIn F n0 P ops Q (List.range' i m) a w := by
    intro m
    induction m with
    | zero =>
      intro i a w hi hinv
      exact hQ a w (inv_final hok hT hp hchk ht0 hos (fun j hj => by omega) hinv)
    | succ m ih =>
      intro i a w hi hinv
      rw [List.range'_succ, wpOpsIn_cons]
      have hio : i < ops.size := by omega
      refine wpOpIn_mono (fun a' w' h => ih (i + 1) a' w' (by omega) h) ?_
      have := step_op (Q := Q) (n0 := n0) hok hT hp hchk hC hR hF hg ht0 hsz (i := i) (o := ops[i]) (by simp [hio]) (x := none) (fun _ _ _ e => by cases e) (S := fun j => j < i) (Nat.lt_irrefl i) (fun n hn hw k m hlt hk hm => hlt) (fun k hk => by
        rw [Nat.testBit_two_pow_sub_one] at hk
        simpa using hk) hinv
      exact wpOpIn_mono (fun a' w' h => h.congr fun j => by omega) this
  rw [List.range_eq_range']
  exact key ops.size 0 a0 w0 (by omega) (inv_start hs (.refl c0 w0) fun i => Nat.not_lt_zero i)
structure Edges (ops : Array Oper) (bef : Nat → Nat) : Prop where
  low : ∀ (i : Nat) (o : Oper), ops[i]? = some o → ∀ e ∈ o.after, Region.binds .any e = true → e.on < i
  clos : ∀ (i : Nat) (o : Oper), ops[i]? = some o → ∀ k, (bef i).testBit k = true → ∃ e ∈ o.after, Region.binds .any e = true ∧ (k = e.on ∨ (bef e.on).testBit k = true)
theorem ready_iff {listed : Array Bool} {i : Nat} : i ∈ Region.ready .any ops listed ↔ i < ops.size ∧ listed.getD i true = false ∧ ∃ o, ops[i]? = some o ∧ ∀ e ∈ o.after, Region.binds .any e = true → listed.getD e.on false = true := by
  unfold Region.ready
  simp only [List.mem_filter, List.mem_range, Bool.and_eq_true, Bool.not_eq_true']
  constructor
  · rintro ⟨h1, h2, h3⟩
    refine ⟨h1, h2, ops[i], by simp [h1], fun e he hb => ?_⟩
    rw [Array.getElem?_eq_getElem h1] at h3
    simp only [Option.map_some, Option.getD_some, Array.all_eq_true_iff_forall_mem] at h3
    have := h3 e he
    simpa [hb] using this
  · rintro ⟨h1, h2, o, ho, h3⟩
    refine ⟨h1, h2, ?_⟩
    rw [ho]
    simp only [Option.map_some, Option.getD_some, Array.all_eq_true_iff_forall_mem]
    intro e he
    cases hb : Region.binds .any e with
    | false => rfl
    | true => simpa using h3 e he hb
theorem inv_adopt (hok : RegOk M P pres ops ins em its bef chk late nt) (hT : Trace C env ins ls s) (hp : Keeps pres C) (hchk : ∀ (n j : Nat) (I : Ins), (n, j) ∈ chk → ins[n]? = some I → stepOp C env (ls.take n) (s j) I.op = some (nth ls n, s j))
    {d : Nat} {o : Oper} {t : Tmp} {n kk b : Nat} {z : AVal} {v0 : Value} {T : TypeId} (hd : ops[d]? = some o) (hdt : o.dst = some t) (hn : insOf its d = some n) (hI : ins[n]? = some ⟨.box kk (.val z), none⟩) (hnw : nwAt pres ins chk n = true) (hval : valOf its d = .loc n)
    (hk0 : kk ≠ 0) (hz : constOk M.fm 8 v0 z = true) (hbd : bef d = 0) {S : Nat → Prop} (hS : ¬ S d) (hall : ∀ k m, insOf its k = some m → nwAt pres ins chk m = true → m < n → S k) {a : Act} {w : World}
    (hinv : Inv M pres ops ins its bef chk env ls s c0 w0 a0 (some (t, b, .cells v0.cells T (0, 0))) S a w) : Inv M pres ops ins its bef chk env ls s c0 w0 a0 none (fun j => S j ∨ j = d) a w := by
  obtain ⟨cl, lt, c, p, hs, hst, hcut, hv, hun, hts, hdf, hhid⟩ := hinv
  obtain ⟨y1, y2, y3, y4, y5⟩ := hhid t b _ rfl
  have hnl : n < ins.length := (List.getElem?_eq_some_iff.1 hI).1
  have hnl' : n < ls.length := by rw [hT.len]; exact hnl
  have hpl : p ≤ ins.length := by
    rcases hcut.1 with rfl | ⟨k, n, _, hk, _, rfl⟩
    · exact Nat.zero_le _
    · exact hok.bound k n hk
  have hnp : ¬ n < p := fun h => hS ((hcut.2 d n hn hnw).2 h)
  have hiff : ∀ k m, insOf its k = some m → nwAt pres ins chk m = true → (m < p ↔ m < n) := fun k m hk hm => by
    refine ⟨fun h => by omega, fun h => (hcut.2 k m hk hm).1 (hall k m hk hm h)⟩
  have hsp : s p = s n := same_cut hT hp hchk hok.guards hok.onto hpl (by omega) hiff
  have hstep : stepOp C env (ls.take n) (s n) (.box kk (.val z)) = some (ls[n], s (n + 1)) := by
    have hIe := (List.getElem?_eq_some_iff.1 hI).2
    rcases hT.step n hnl hnl' with ⟨_, h2⟩ | ⟨h1, _, _⟩
    · rw [hIe] at h2; exact h2
    · rw [hIe] at h1; cases h1
  have hstep' : (if ncells z = kk then some (AVal.ptr (s n).length 0 0 0, s n ++ [.arr kk 0 [z]]) else none) = some (ls[n], s (n + 1)) := hstep
  split at hstep'
  · rename_i hzk
    simp only [Option.some.injEq, Prod.mk.injEq] at hstep'
    obtain ⟨e1, e2⟩ := hstep'
    rw [hsp] at hs
    obtain ⟨g, hg, hgs, hgc⟩ := cells_R (const_R (M := M) (w := w) (c := c) hz) (by omega)
    obtain ⟨c', a1, a2, a3, a4, a5, a6, a7⟩ := hs.adopt hst (k := kk) (xs := [z]) (f := fun _ j => g j) y2 y3 y4 y5 hk0 (by simp [hzk]) (by simp; omega)
      (fun i j hi hj => by
        have : i = 0 := by simp at hi; omega
        subst this
        rw [Nat.zero_mul, Nat.zero_add]; exact ⟨hgc j (by omega), hg.one j (by omega)⟩)
      (fun i hi j hj => by
        have : i = 0 := by simp at hi; omega
        subst this
        exact hg.rel j hj)
    refine ⟨fun i k hi hk => ?_, fun i hi => ?_, c', n + 1, by rw [← e2]; exact a5, a6, ⟨.inr ⟨d, n, .inr rfl, hn, hnw, rfl⟩, fun k m hk hm => ?_⟩, fun i oi di hi hoi hdi => ?_, fun t' ht' _ => ?_, hts, hdf, fun _ _ _ e => by cases e⟩
    · rcases hi with hi | rfl
      · exact .inl (cl i k hi hk)
      · rw [hbd] at hk; simp at hk
    · rcases hi with hi | rfl
      · exact lt i hi
      · exact (Array.getElem?_eq_some_iff.1 hd).1
    · constructor
      · rintro (h | rfl)
        · have := (hcut.2 k m hk hm).1 h
          have := (hiff k m hk hm).1 this
          omega
        · rw [hn] at hk; cases hk; omega
      · intro h
        by_cases e : m = n
        · subst e
          right
          rcases Nat.lt_trichotomy k d with h | h | h
          · have := hok.mono _ _ _ _ hk hn h; omega
          · exact h
          · have := hok.mono _ _ _ _ hn hk h; omega
        · exact .inl (hall k m hk hm (by omega))
    · by_cases e : i = d
      · subst e
        rw [hd] at hoi; cases hoi
        rw [hdt] at hdi; cases hdi
        rw [y1, hval]
        have e3 : (Opd.loc n).eval env ls = .ptr (s n).length 0 0 0 := by
          show nth ls n = _
          rw [nth_get hnl', ← e1]
        rw [e3]
        have := R.ptr (M := M) (w := w) (c := c') (id := (s n).length) (ep := 0) (i := 0) (off := 0) (by omega) a2 a3
        simpa using this
      · exact (hv i oi di (hi.resolve_right e) hoi hdi).ext a7
    · refine hun t' (fun i oi hi => ht' i oi (.inl hi)) fun b' ob' e => ?_
      cases e
      exact ht' d o (.inr rfl) hd hdt
  · cases hstep'
def InvP (M : Names) (P : Program) (pres : Nat → Bool) (ops : Array Oper) (ins : List Ins) (its : Its) (bef : Nat → Nat) (chk : List (Nat × Nat)) (late : Option Nat) (env ls : List AVal) (s : Nat → Store) (c0 : Ctx) (w0 : World) (a0 : Act) (S : Nat → Prop) (a : Act) (w : World) : Prop :=
  Inv M pres ops ins its bef chk env ls s c0 w0 a0 none S a w ∨
  ∃ d o t n kk b z v0 T, late = some d ∧ ops[d]? = some o ∧ o.dst = some t ∧ insOf its d = some n ∧ ins[n]? = some ⟨.box kk (.val z), none⟩ ∧ valOf its d = .loc n ∧ kk ≠ 0 ∧ constOk M.fm 8 v0 z = true ∧ S d ∧
    (∃ k m, insOf its k = some m ∧ nwAt pres ins chk m = true ∧ m < n ∧ ¬ S k) ∧ Inv M pres ops ins its bef chk env ls s c0 w0 a0 (some (t, b, .cells v0.cells T (0, 0))) (fun j => S j ∧ j ≠ d) a w
theorem step_any (hok : RegOk M P pres ops ins em its bef chk late nt) (hT : Trace C env ins ls s) (hp : Keeps pres C) (hchk : ∀ (n j : Nat) (I : Ins), (n, j) ∈ chk → ins[n]? = some I → stepOp C env (ls.take n) (s j) I.op = some (nth ls n, s j))
    (hC : CallSound M P C) (hR : RoundSound M P C) (hF : Wide F) (hg : Globs M w0 c0) (ht0 : TmpR M w0 c0 env [] (emR em) a0.tmps) (hsz : nt ≤ a0.tmps.size)
    {i : Nat} {o : Oper} (ho : ops[i]? = some o) {S : Nat → Prop} (hi : ¬ S i) (hb : ∀ k, (bef i).testBit k = true → S k) {a : Act} {w : World}
    (hinv : InvP M P pres ops ins its bef chk late env ls s c0 w0 a0 S a w) : wpOpIn F n0 P ops Q i (InvP M P pres ops ins its bef chk late env ls s c0 w0 a0 fun j => S j ∨ j = i) a w := by
  have hio : i < ops.size := (Array.getElem?_eq_some_iff.1 ho).1
  have ord : late ≠ some i → ∀ n, insOf its i = some n → nwAt pres ins chk n = true → ∀ k m, k < i → insOf its k = some m → nwAt pres ins chk m = true → (bef i).testBit k = true := fun hl n hn hw k m hk hkm hm => by
    rcases hok.item i o ho with ⟨h1, _⟩ | ⟨m', I, h1, h2, h3, h4, h5, h6, h7⟩
    · rw [h1] at hn; cases hn
    · rw [h1] at hn; cases hn
      exact h6 hw hl k m hk hkm hm
  rcases hinv with hinv | ⟨d, od, t, n, kk, b, z, v0, T, hl, hd, hdt, hn, hI, hval, hk0, hz, hSd, ⟨k0, m0, hk0', hm0, hlt0, hnS0⟩, hinv⟩
  · by_cases hA : late = some i ∧ ∃ n k m, insOf its i = some n ∧ insOf its k = some m ∧ nwAt pres ins chk m = true ∧ m < n ∧ ¬ S k
    · 
      obtain ⟨hl, n', k', m', hn', hk', hm', hlt', hnS'⟩ := hA
      obtain ⟨hbd, o', T, t, n, kk, z, l1, l2, l3, l4, l5, l6, l7, l8, l9⟩ := hok.lateOk i hl
      rw [ho] at l1; cases l1
      rw [l5] at hn'; cases hn'
      have hitem := hok.item i o ho
      rcases hitem with ⟨h1, _⟩ | ⟨m, I, h1, h2, h3, h4, _⟩
      · rw [h1] at l5; cases l5
      rw [h1] at l5; cases l5
      rw [l6] at h2; cases h2
      rw [l2] at h4
      simp only [okOp, Bool.and_eq_true] at h4
      obtain ⟨z1, z2⟩ := h4
      obtain ⟨z3, z4⟩ := szOk_iff z1
      obtain ⟨ii, v0, i1, i2, i3, i4⟩ := zero_run z2
      unfold wpOpIn
      rw [ho]
      simp only
      have hw : Region.wanted o (yielded ops a.tmps) = true := by unfold Region.wanted; rw [l3]
      rw [if_pos hw]
      refine ⟨fun f _ => hF.fn f, ?_⟩
      have hex : (execOp a.eval o).run P w = .ok (.value (.pointer (some ⟨w.heap.size, 0, none⟩))) (newW w (.cells v0.cells T (0, 0))) := by
        unfold execOp
        rw [l2]
        simp [Instr.alloc, i3, newVar, newRow]
        rfl
      rw [Oper.semAt_eq _ _ _ (fun q e => by rw [e] at l2; cases l2), hex]
      obtain ⟨cl, lt, c, p, hs, hst, hcut, hv, hun, hts, hdf, _⟩ := hinv
      obtain ⟨s1, x1⟩ := hs.over (w' := newW w (.cells v0.cells T (0, 0))) (fun b hb _ => newW_get hb) (by rw [newW_size]; omega)
      have st1 : Stp c w c (newW w (.cells v0.cells T (0, 0))) := { x1 with same := newW_same, size := by rw [newW_size]; omega, frame := fun b hb _ => newW_get hb, liv := fun i b h1 h2 _ => ⟨i, h1, h2⟩, old := fun _ h _ => .inl h, oldb := fun _ h _ => .inl h }
      have hdsz : t < a.tmps.size := by rw [hts]; exact Nat.lt_of_lt_of_le (hok.dst _ _ _ ho l4) hsz
      refine .inr ⟨i, o, t, _, kk, w.heap.size, z, v0, T, hl, ho, l4, h1, l6, h3, z4, i4, .inr rfl, ⟨k', m', hk', hm', hlt', fun h => h.elim hnS' fun e => ?_⟩, fun j k hj hk => ?_, fun j hj => ?_, c, p, s1, hst.trans st1, ?_, fun j oj dj hj hoj hdj => ?_, fun t' ht' hx' => ?_, ?_, ?_, fun t' b' ob' e => ?_⟩
      · subst e
        rw [h1] at hk'; cases hk'
        omega
      · have hj' : S j := hj.1.resolve_right hj.2
        refine ⟨.inl (cl j k hj' hk), fun e => ?_⟩
        subst e
        exact hi (cl j k hj' hk)
      · exact lt j (hj.1.resolve_right hj.2)
      · refine ⟨hcut.1.imp id fun ⟨k, q, q1, q2⟩ => ⟨k, q, ⟨.inl q1, fun e => hi (e ▸ q1)⟩, q2⟩, fun k q q1 q2 => ?_⟩
        rw [← hcut.2 k q q1 q2]
        exact ⟨fun h => h.1.resolve_right h.2, fun h => ⟨.inl h, fun e => hi (e ▸ h)⟩⟩
      · have hj' : S j := hj.1.resolve_right hj.2
        have hne : ¬ dj = t := fun e => by
          subst e
          exact hj.2 (hok.uniq _ _ _ _ _ hoj ho hdj l4)
        rw [l4, getD_put hdsz, if_neg hne]
        exact (hv j oj dj hj' hoj hdj).ext x1
      · have hne : ¬ t' = t := fun e => hx' _ _ (by rw [e])
        rw [l4, getD_put hdsz, if_neg hne]
        exact hun t' (fun j oj hj => ht' j oj ⟨.inl hj, fun e => hi (e ▸ hj)⟩) fun _ _ e => by cases e
      · rw [l4]; simp [Act.put, hts]
      · rw [l4]; exact hdf
      · cases e
        refine ⟨by rw [l4, getD_put hdsz, if_pos rfl], hst.size, newW_new, fun h => absurd (hs.low _ h) (Nat.lt_irrefl _), fun id h1 h2 => absurd (hs.plow id _ h1 h2).1 (Nat.lt_irrefl _)⟩
    · refine wpOpIn_mono (fun a' w' h => .inl h) (step_op (Q := Q) (n0 := n0) hok hT hp hchk hC hR hF hg ht0 hsz ho (x := none) (fun _ _ _ e => by cases e) hi (fun n hn hw k m hk hkm hm => ?_) hb hinv)
      by_cases hl : late = some i
      · by_cases hS : S k
        · exact hS
        · exact absurd ⟨hl, n, k, m, hn, hkm, hm, hok.mono _ _ _ _ hkm hn hk, hS⟩ hA
      · exact hb k (ord hl n hn hw k m hk hkm hm)
  · 
    obtain ⟨hbd, o', T', t', n', kk', z', l1, l2, l3, l4, l5, l6, l7, l8, l9⟩ := hok.lateOk d hl
    rw [hd] at l1; cases l1
    rw [hdt] at l4; cases l4
    rw [hn] at l5; cases l5
    have hid : i ≠ d := fun e => hi (e ▸ hSd)
    have hli : late ≠ some i := fun e => by rw [hl] at e; cases e; exact hid rfl
    have hnbd : ¬ (bef i).testBit d = true := fun h => hnS0 (hb k0 (l8 i h k0 m0 hk0' hm0 hlt0))
    have hb' : ∀ k, (bef i).testBit k = true → S k ∧ k ≠ d := fun k hk => ⟨hb k hk, fun e => by subst e; exact hnbd hk⟩
    refine wpOpIn_mono (fun a' w' h => ?_) (step_op (Q := Q) (n0 := n0) hok hT hp hchk hC hR hF hg ht0 hsz ho (x := some (t, b, .cells v0.cells T (0, 0))) (fun t1 b1 ob1 e => ?_) (fun h => hi h.1) (fun n1 hn1 hw1 k m hk hkm hm => hb' k (ord hli n1 hn1 hw1 k m hk hkm hm)) hb' hinv)
    · by_cases hmore : ∃ k m, insOf its k = some m ∧ nwAt pres ins chk m = true ∧ m < n ∧ ¬ (S k ∨ k = i)
      · refine .inr ⟨d, od, t, n, kk, b, z, v0, T, hl, hd, hdt, hn, hI, hval, hk0, hz, .inl hSd, hmore, h.congr fun j => ?_⟩
        constructor
        · rintro (⟨h1, h2⟩ | rfl)
          · exact ⟨.inl h1, h2⟩
          · exact ⟨.inr rfl, hid⟩
        · rintro ⟨h1 | rfl, h2⟩
          · exact .inl ⟨h1, h2⟩
          · exact .inr rfl
      · have hall : ∀ k m, insOf its k = some m → nwAt pres ins chk m = true → m < n → (S k ∧ k ≠ d) ∨ k = i := fun k m h1 h2 h3 => by
          by_cases h4 : S k ∨ k = i
          · rcases h4 with h4 | h4
            · refine .inl ⟨h4, fun e => ?_⟩
              subst e
              rw [hn] at h1; cases h1
              omega
            · exact .inr h4
          · exact absurd ⟨k, m, h1, h2, h3, h4⟩ hmore
        have := inv_adopt hok hT hp hchk hd hdt hn hI l7 hval hk0 hz hbd (S := fun j => (S j ∧ j ≠ d) ∨ j = i) (fun h => h.elim (fun h => h.2 rfl) fun e => hid e.symm) hall h
        refine .inl (this.congr fun j => ?_)
        constructor
        · rintro ((⟨h1, h2⟩ | rfl) | rfl)
          · exact .inl h1
          · exact .inr rfl
          · exact .inl hSd
        · rintro (h1 | rfl)
          · by_cases e : j = d
            · exact .inr e
            · exact .inl (.inl ⟨h1, e⟩)
          · exact .inl (.inr rfl)
    · cases e
      refine ⟨?_, fun e => hid (hok.uniq _ _ _ _ _ ho hd e hdt)⟩
      cases hq : rsAt ops.toList em its bef i t with
      | none => rfl
      | some q => exact absurd (l9 i hio hid (by rw [hq]; simp)) hnbd
theorem InvP.final (hok : RegOk M P pres ops ins em its bef chk late nt) {S : Nat → Prop} (hS : ∀ i, i < ops.size → S i) {a : Act} {w : World} (hinv : InvP M P pres ops ins its bef chk late env ls s c0 w0 a0 S a w) : Inv M pres ops ins its bef chk env ls s c0 w0 a0 none S a w := by
  rcases hinv with h | ⟨d, o, t, n, kk, b, z, v0, T, hl, hd, hdt, hn, hI, hval, hk0, hz, hSd, ⟨k0, m0, hk0', hm0, hlt0, hnS0⟩, hinv⟩
  · exact h
  · have hkl : k0 < ops.size := by
      rw [← hok.size]
      unfold insOf at hk0'
      obtain ⟨x, hx, _⟩ := bind_eq_some hk0'
      exact (List.getElem?_eq_some_iff.1 hx).1
    exact absurd (hS k0 hkl) hnS0
theorem InvP.congr {S S' : Nat → Prop} (h : ∀ i, S i ↔ S' i) {a : Act} {w : World} (hi : InvP M P pres ops ins its bef chk late env ls s c0 w0 a0 S a w) : InvP M P pres ops ins its bef chk late env ls s c0 w0 a0 S' a w := by
  have : S = S' := funext fun i => propext (h i)
  rw [← this]; exact hi
theorem InvP.closed (hok : RegOk M P pres ops ins em its bef chk late nt) {S : Nat → Prop} {a : Act} {w : World} (hinv : InvP M P pres ops ins its bef chk late env ls s c0 w0 a0 S a w) : ∀ i k, S i → (bef i).testBit k = true → S k := by
  rcases hinv with h | ⟨d, o, t, n, kk, b, z, v0, T, hl, hd, hdt, hn, hI, hval, hk0, hz, hSd, _, hinv⟩
  · exact h.1
  · intro i k hi hk
    by_cases e : i = d
    · subst e
      rw [(hok.lateOk i hl).1] at hk
      simp at hk
    · exact (hinv.1 i k ⟨hi, e⟩ hk).1
theorem region_any (hm : P.follows .mixedOrders = true) (he : Edges ops bef) (hok : RegOk M P pres ops ins em its bef chk late nt) (hT : Trace C env ins ls s) (hp : Keeps pres C) (hchk : ∀ (n j : Nat) (I : Ins), (n, j) ∈ chk → ins[n]? = some I → stepOp C env (ls.take n) (s j) I.op = some (nth ls n, s j))
    (hC : CallSound M P C) (hR : RoundSound M P C) (hF : Wide F) (hg : Globs M w0 c0) (hs : Sim M w0 c0 (s 0)) (ht0 : TmpR M w0 c0 env [] (emR em) a0.tmps) (hsz : nt ≤ a0.tmps.size) (hos : outsOk ops.toList em its os = true)
    (hQ : ∀ a w, Final M em env ls os c0 w0 a0 (s ins.length) a w → Q .normal a w) (id : Nat) : (Code.region id ops true).wpIn F n0 P Q a0 w0 := by
  apply wpIn_region_any hm
  have key : ∀ (fuel : Nat) (listed : Array Bool) (a : Act) (w : World), listed.size = ops.size → listed.toList.countP (fun b => !b) ≤ fuel → InvP M P pres ops ins its bef chk late env ls s c0 w0 a0 (fun j => listed[j]? = some true) a w →
      wpAnyIn F n0 P .any ops Q fuel listed a w := by
    intro fuel
    have done : ∀ (listed : Array Bool) (a : Act) (w : World), listed.size = ops.size → (∀ i, i < ops.size → listed[i]? = some true) → InvP M P pres ops ins its bef chk late env ls s c0 w0 a0 (fun j => listed[j]? = some true) a w → Q .normal a w := fun listed a w hz hall hinv =>
      hQ a w (inv_final hok hT hp hchk ht0 hos hall (hinv.final hok hall))
    have allOf : ∀ (listed : Array Bool), listed.size = ops.size → Region.ready .any ops listed = [] → ∀ i, i < ops.size → listed[i]? = some true := fun listed hz hr i => by
      induction i using Nat.strongRecOn with
      | _ i ih =>
        intro hi
        have hi' : i < listed.size := by omega
        cases hb : listed[i] with
        | true => rw [Array.getElem?_eq_getElem hi', hb]
        | false =>
          have : i ∈ Region.ready .any ops listed := ready_iff.2 ⟨hi, by simp [Array.getD, hi', hb], ops[i], by simp [hi], fun e hee hbd => by
            have hlt := he.low i ops[i] (by simp [hi]) e hee hbd
            have := ih e.on hlt (by omega)
            simp [Array.getD_eq_getD_getElem?, this]⟩
          rw [hr] at this; cases this
    induction fuel with
    | zero =>
      intro listed a w hz hc hinv
      have hall : ∀ i, i < ops.size → listed[i]? = some true := fun i hi => by
        have hi' : i < listed.size := by omega
        have h0 := List.countP_eq_zero.1 (Nat.le_zero.1 hc) listed[i] (by simp)
        rw [Array.getElem?_eq_getElem hi']
        simpa using h0
      refine ⟨?_, done listed a w hz hall hinv⟩
      rw [List.eq_nil_iff_forall_not_mem]
      intro i hi
      obtain ⟨h1, h2, _⟩ := ready_iff.1 hi
      have := hall i h1
      rw [Array.getD_eq_getD_getElem?, this] at h2
      cases h2
    | succ fuel ih =>
      intro listed a w hz hc hinv
      refine ⟨fun hr => done listed a w hz (allOf listed hz hr) hinv, fun i hi => ?_⟩
      obtain ⟨h1, h2, o, ho, h3⟩ := ready_iff.1 hi
      have hi' : i < listed.size := by omega
      have hfalse : listed[i] = false := by simpa [Array.getD, hi'] using h2
      have hset : ∀ j, (listed.setIfInBounds i true)[j]? = some true ↔ (listed[j]? = some true ∨ j = i) := fun j => by
        rw [Array.getElem?_setIfInBounds]
        by_cases e : i = j
        · subst e; simp [hi']
        · have : ¬ j = i := fun h => e h.symm
          simp [e, this]
      refine wpOpIn_mono (fun a' w' h => ih (listed.setIfInBounds i true) a' w' (by simpa using hz) ?_ h) ?_
      · rw [Array.toList_setIfInBounds, List.countP_set (by simpa using hi')]
        simp only [Array.getElem_toList, hfalse, Bool.not_false, if_true, Bool.not_true, Bool.false_eq_true, if_false]
        have : 0 < listed.toList.countP (fun b => !b) := List.countP_pos_iff.2 ⟨false, by rw [← hfalse]; simp, rfl⟩
        omega
      · have := step_any (Q := Q) (n0 := n0) hok hT hp hchk hC hR hF hg ht0 hsz ho (S := fun j => listed[j]? = some true) (by rw [Array.getElem?_eq_getElem hi', hfalse]; simp) (fun k hk => by
          obtain ⟨e, e1, e2, e3⟩ := he.clos i o ho k hk
          have hl : listed[e.on]? = some true := by
            have := h3 e e1 e2
            rw [Array.getD_eq_getD_getElem?] at this
            cases hq : listed[e.on]? with
            | none => rw [hq] at this; cases this
            | some b => rw [hq] at this; simp at this; rw [this]
          rcases e3 with rfl | e3
          · exact hl
          · exact hinv.closed hok e.on k hl e3) hinv
        exact wpOpIn_mono (fun a' w' h => h.congr fun j => (hset j).symm) this
  refine key ops.size _ a0 _ (by simp) ?_ ?_
  · exact Nat.le_trans (List.countP_le_length) (by simp)
  · refine .inl (inv_start (w0 := w0) (w := { w0 with drawn := w0.drawn + 1 }) (hs.heap rfl) (Stp.ofHeap rfl ⟨rfl, rfl, rfl, Nat.le_refl _⟩) fun i h => ?_)
    rw [Array.getElem?_replicate] at h
    split at h <;> cases h
end
end Go.AM

namespace Go.AM
variable {M : Names} {w : World}
structure Turn (fl : Bool) (base : Nat) (c d : Ctx) : Prop where
  sld : ∀ b, c.sld b → d.sld b
  sb : ∀ b, d.sld b → d.bor b
  bor : ∀ b, c.bor b → d.bor b
  gone : ∀ id b, base ≤ id → c.H id ≠ .dead → c.place id = some b → if fl then d.bor b else d.sld b
  N : ∀ id, id < base → id < c.N → id < d.N
  keep : ∀ id, id < base → id < c.N → (d.H id = c.H id ∧ (c.H id ≠ .dead → d.place id = c.place id ∧ d.room id = c.room id ∧ d.loops id = c.loops id)) ∨ d.H id = .dead
def Ctx.view (d : Ctx) (fl top : Bool) : Ctx := if top then d else d.still fl
theorem view_sld {d : Ctx} {fl top : Bool} : (d.view fl top).sld = d.sld := by cases top <;> rfl
theorem view_top {d : Ctx} {fl : Bool} : d.view fl true = d := rfl
theorem view_bor' {d : Ctx} {fl top : Bool} (h : fl = true ∨ top = true) : (d.view fl top).bor = d.bor := by cases top <;> cases fl <;> first | rfl | simp at h
theorem view_bor {d : Ctx} {top : Bool} : (d.view true top).bor = d.bor := by cases top <;> rfl
theorem view_still {d : Ctx} {fl top : Bool} : (d.view fl top).still fl = d.still fl := by cases top <;> cases fl <;> rfl
theorem view_still_f {d : Ctx} {fl top : Bool} : (d.view fl top).still false = d.still false := by cases top <;> cases fl <;> rfl
theorem ext_view {d : Ctx} {fl top : Bool} (hsb : ∀ b, d.sld b → d.bor b) : Ext (d.still fl) w (d.view fl top) w := by
  cases top
  · exact .refl _ _
  · exact .ofStill hsb fl
theorem ext_still_of {c d : Ctx} {b : Bool} (h1 : ∀ x, c.sld x → d.sld x) (h2 : b = true → ∀ x, c.bor x → d.bor x) : Ext (c.still b) w (d.still b) w where
  sld := h1
  bor := fun x hx => by
    cases b
    · exact h1 x hx
    · exact h2 rfl x hx
  rest := fun _ _ => rfl
  N := Nat.le_refl _
  head := fun id hid => absurd hid (Nat.not_lt_zero _)
  place := fun id hid => absurd hid (Nat.not_lt_zero _)
theorem fz_noAgg {fl top : Bool} {base : Nat} {σ : Store} {n : Nat} {v : AVal} (h : isAgg v = false) : isAgg (fz fl top base σ n v) = false := by
  cases n with
  | zero => rfl
  | succ n =>
    have hl : ∀ l l', isAgg (listAt fl l l') = false := fun l l' => by unfold listAt; split <;> rfl
    have hc' : ∀ g x x' o, isAgg (cptrAt g x x' o) = false := fun g x x' o => by unfold cptrAt; split <;> rfl
    have hc : ∀ x x' o, isAgg (cptrAt fl x x' o) = false := fun x x' o => hc' _ _ _ _
    have ho : ∀ {α : Type} (o : Option α) (f : α → AVal), (∀ a, isAgg (f a) = false) → isAgg (o.elim .any f) = false := fun o f hf => by cases o <;> first | rfl | exact hf _
    cases v with
    | agg cs => simp [isAgg] at h
    | imm b xs => simp only [fz]; split <;> rfl
    | nil0 => simp only [fz]; split <;> rfl
    | imap b xs => simp only [fz]; split <;> rfl
    | lst xs => exact hl _ _
    | cptr b x o =>
      simp only [fz]
      cases b
      · rfl
      · cases fl
        · cases top
          · rfl
          · exact hc' _ _ _ _
        · exact hc _ _ _
    | sl id ep off len =>
      simp only [fz]
      split
      · split <;> rfl
      · exact ho _ _ fun l => hl _ _
    | ptr id ep i off =>
      simp only [fz]
      split
      · split <;> rfl
      · exact ho _ _ fun l => hc _ _ _
    | mp id =>
      simp only [fz]
      split
      · split <;> rfl
      · exact ho _ _ fun l => rfl
    | asl id ep i off m => simp only [fz]; split <;> rfl
    | yld l s e => simp only [fz]; split <;> rfl
    | it id => simp only [fz]; split <;> rfl
    | _ => rfl
section
variable {fl : Bool} {base : Nat} {σ : Store} {c d : Ctx}
def FzR (M : Names) (w : World) (fl : Bool) (base : Nat) (σ : Store) (c d : Ctx) (n : Nat) : Prop := ∀ (top : Bool) (v : AVal) (cv : Value), R M w c v cv → R M w (d.view fl top) (fz fl top base σ n v) cv
theorem cells_fz' {n : Nat} {top : Bool} (ih : ∀ m, m ≤ n → FzR M w fl base σ c d m) {x : AVal} {f : Nat → Value} (h : ∀ j (hj : j < (cellsOf x).length), R M w c (cellsOf x)[j] (f j)) :
    ∀ j (hj : j < (cellsOf (fz fl top base σ n x)).length), R M w (d.view fl top) (cellsOf (fz fl top base σ n x))[j] (f j) := by
  intro j hj
  cases ha : isAgg x with
  | true =>
    obtain ⟨cs, rfl⟩ := isAgg_iff ha
    cases n with
    | zero =>
      have e : cellsOf (fz fl top base σ 0 (.agg cs)) = [.any] := rfl
      simp only [e, List.length_cons, List.length_nil] at hj ⊢
      have : j = 0 := by omega
      subst this; exact .any
    | succ n =>
      have e : cellsOf (fz fl top base σ (n + 1) (.agg cs)) = cs.map (fz fl top base σ n) := rfl
      simp only [e, List.length_map, List.getElem_map] at hj ⊢
      exact ih n (by omega) top _ _ (h j hj)
  | false =>
    have e : cellsOf (fz fl top base σ n x) = [fz fl top base σ n x] := cells_not (fz_noAgg ha)
    have e2 : cellsOf x = [x] := cells_not ha
    simp only [e, List.length_cons, List.length_nil] at hj ⊢
    have : j = 0 := by omega
    subst this
    have h0 := h 0 (by rw [e2]; simp)
    simp only [e2, List.getElem_cons_zero] at h0
    exact ih n (Nat.le_refl _) top _ _ h0
theorem cells_fz {n : Nat} (ih : ∀ m, m ≤ n → FzR M w fl base σ c d m) {x : AVal} {f : Nat → Value} (h : ∀ j (hj : j < (cellsOf x).length), R M w c (cellsOf x)[j] (f j)) :
    ∀ j (hj : j < (cellsOf (fz fl false base σ n x)).length), R M w (d.still fl) (cellsOf (fz fl false base σ n x))[j] (f j) := cells_fz' (top := false) ih h
theorem map_ncells {l l' : List AVal} (h : l'.map ncells = l.map ncells) : l'.length = l.length ∧ ∀ i (h1 : i < l'.length) (h2 : i < l.length), ncells l'[i] = ncells l[i] := by
  have hl : l'.length = l.length := by simpa using congrArg List.length h
  refine ⟨hl, fun i h1 h2 => ?_⟩
  have := congrArg (fun q => q[i]?) h
  simpa [h1, h2] using this
theorem listAt_R {n : Nat} (hd : ∀ b, d.sld b → d.bor b) (ih : ∀ m, m ≤ n → FzR M w fl base σ c d m) {top : Bool} {l : List AVal} {a : Addr} {cap K : Nat} {f : Nat → Nat → Value} (hb : if fl then d.bor a.block else d.sld a.block) (ha : a.spot = none) (hcap : l.length ≤ cap) (hK : K ≠ 0)
    (hn : ∀ x ∈ l, ncells x = K) (hc : ∀ i j, i < l.length → j < K → w.cell? ⟨a.block, a.off + i * K + j, none⟩ = some (f i j) ∧ (f i j).oneCell' = true)
    (hr : ∀ i (hi : i < l.length) j (hj : j < (cellsOf l[i]).length), R M w c (cellsOf l[i])[j] (f i j)) :
    R M w (d.view fl top) (listAt fl l (l.map (fz fl false base σ n))) (.slice (some a) l.length cap) := by
  unfold listAt
  split
  · rename_i hm
    obtain ⟨m1, m2⟩ := map_ncells hm
    have hlen : (l.map (fz fl false base σ n)).length = l.length := by simp
    have := R.imm (M := M) (w := w) (c := d.view fl top) (b := fl) (xs := l.map (fz fl false base σ n)) (cap := cap) (a := a) K f (by
        cases fl
        · rw [view_sld]; exact hb
        · rw [view_bor]; exact hb) ha (by rw [hlen]; exact hcap) hK (fun x hx => by
        obtain ⟨i, hi, rfl⟩ := List.mem_iff_getElem.1 hx
        rw [m2 i hi (by rw [← hlen]; exact hi)]
        exact hn _ (List.getElem_mem _)) (fun i j hi hj => hc i j (by rw [← hlen]; exact hi) hj) (fun i hi j hj => by
        rw [view_still]
        have hi' : i < l.length := by rw [← hlen]; exact hi
        simp only [List.getElem_map] at hj ⊢
        exact cells_fz ih (hr i hi') j hj)
    rw [hlen] at this
    exact this
  · exact .any
theorem cptrAt_R {n : Nat} (hd : ∀ b, d.sld b → d.bor b) (ih : ∀ m, m ≤ n → FzR M w fl base σ c d m) {top : Bool} {x : AVal} {off o blk : Nat} {f : Nat → Value} (hb : if fl then d.bor blk else d.sld blk) (hn : ncells x ≠ 0)
    (hc : ∀ j, j < ncells x → w.cell? ⟨blk, o + j, none⟩ = some (f j) ∧ (f j).oneCell' = true) (hr : ∀ j (hj : j < (cellsOf x).length), R M w c (cellsOf x)[j] (f j)) :
    R M w (d.view fl top) (cptrAt fl x (fz fl false base σ n x) off) (.pointer (some ⟨blk, o + off, none⟩)) := by
  unfold cptrAt
  split
  · rename_i hm
    refine .cptr f ?_ (by omega) (fun j hj => hc j (by omega)) fun j hj => ?_
    · cases fl
      · rw [view_sld]; exact hb
      · rw [view_bor]; exact hb
    · have := cells_fz ih hr j hj
      cases fl
      · have e : (if false = true then d.view false top else (d.view false top).still false) = d.still false := view_still (fl := false)
        rw [e]; exact this
      · exact this.ext (ext_view hd)
  · exact .any
theorem FzR.zero : FzR M w fl base σ c d 0 := fun _ _ _ _ => .any
theorem stale {id ep k : Nat} {es : List AVal} (hs : Sim M w c σ) (ho : σ[id]? = some (.arr k ep es)) (h : ∀ k e, c.H id = .arr k e → ep < e) : False :=
  absurd (h k ep (by rw [hs.H, hd_of ho])) (Nat.lt_irrefl _)
theorem fz_R (hs : Sim M w c σ) (ht : Turn fl base c d) : ∀ n, FzR M w fl base σ c d n := by
  intro n
  induction n using Nat.strongRecOn with
  | _ n ihs =>
  cases n with
  | zero => exact FzR.zero
  | succ n =>
    have ih : ∀ m, m ≤ n → FzR M w fl base σ c d m := fun m hm => ihs m (by omega)
    have IH : ∀ {top : Bool} {v : AVal} {cv : Value}, R M w c v cv → R M w (d.view fl top) (fz fl top base σ n v) cv := fun {top v cv} h => ih n (Nat.le_refl _) top v cv h
    intro top v cv h
    have bsld : ∀ b, d.sld b → (if fl then d.bor b else d.sld b) := fun b hb => by
      cases fl
      · exact hb
      · exact ht.sb b hb
    cases h with
    | any => exact .any
    | int => exact .int
    | bool => exact .bool
    | str h => exact .str h
    | nilp => exact .nilp
    | nilf => exact .nilf
    | nilm => exact .nilm
    | @nil0 _ a =>
      show R M w _ (if !fl && top then .nil0 else .imm false []) _
      split
      · exact .nil0
      · exact .imm0
    | emp h => exact .emp h
    | @agg _ cs vs f h1 h2 h3 h4 =>
      show R M w _ (.agg (cs.map (fz fl top base σ n))) _
      have hr : ∀ i (hi : i < (cs.map (fz fl top base σ n)).length), R M w (d.view fl top) (cs.map (fz fl top base σ n))[i] (f i) := fun i hi => by
        rw [List.getElem_map]
        exact IH (h4 i (by simpa using hi))
      exact .agg f (by simpa using h1) (fun i hi => h2 i (by simpa using hi)) (fun i hi => (hr i hi).small (h2 i (by simpa using hi)).2) hr
    | @tup _ cs vs f h1 h2 h3 =>
      show R M w _ (.tup (cs.map (fz fl top base σ n))) _
      exact .tup f (by simpa using h1) (fun i hi => h2 i (by simpa using hi)) fun i hi => by
        rw [List.getElem_map]
        exact IH (h3 i (by simpa using hi))
    | @fn _ g first cap fs cs f1 f2 h1 h2 h3 h4 h5 h6 =>
      show R M w _ (.fn g (first.map (fz fl top base σ n)) (cap.map (fz fl top base σ n))) _
      exact .fn f1 f2 (by simpa using h1) (by simpa using h2) (fun i hi => h3 i (by simpa using hi)) (fun i hi => h4 i (by simpa using hi)) (fun i hi => by
        rw [List.getElem_map]; exact IH (h5 i (by simpa using hi))) (fun i hi => by rw [List.getElem_map]; exact IH (h6 i (by simpa using hi)))
    | @imm _ b xs cap a K f h1 h2 h3 h4 h5 h6 h7 =>
      show R M w _ (if b && !fl && !top then .any else .imm b xs) _
      split
      · exact .any
      · rename_i hc
        have hbf : b = true → fl = true ∨ top = true := fun e => by subst e; cases fl <;> cases top <;> simp at hc ⊢
        refine .imm K f ?_ h2 h3 h4 h5 h6 fun i hi j hj => (h7 i hi j hj).ext (ext_still_of (fun x hx => by rw [view_sld]; exact ht.sld x hx) fun e x hx => ?_)
        · cases b
          · rw [view_sld]; exact ht.sld _ h1
          · rw [if_pos rfl, view_bor' (hbf rfl)]; exact ht.bor _ h1
        · rw [view_bor' (hbf e)]; exact ht.bor _ hx
    | @imm0 _ b cap a =>
      show R M w _ (if b && !fl && !top then .any else .imm b []) _
      split
      · exact .any
      · exact .imm0
    | @lst _ xs cap a K f h1 h2 h3 h4 h5 h6 h7 =>
      exact listAt_R ht.sb ih (bsld _ (ht.sld _ h1)) h2 h3 h4 h5 h6 h7
    | @lst0 _ cap a => exact .imm0
    | @cptr _ b x off o blk f h1 h2 h3 h4 =>
      show R M w _ (if b then (if fl then cptrAt true x (fz fl false base σ n x) off else if top then cptrAt true x (fz fl top base σ n x) off else .any) else .cptr false x off) _
      cases b with
      | true =>
        cases fl with
        | true => exact cptrAt_R (fl := true) ht.sb ih (ht.bor _ h1) h2 h3 h4
        | false =>
          cases top with
          | false => exact .any
          | true =>
            show R M w d (cptrAt true x (fz false true base σ n x) off) _
            unfold cptrAt
            split
            · rename_i hm
              exact .cptr f (ht.bor _ h1) (by omega) (fun j hj => h3 j (by omega)) fun j hj => cells_fz' (top := true) ih h4 j hj
            · exact .any
      | false =>
        refine .cptr f (by rw [view_sld]; exact ht.sld _ h1) h2 h3 fun j hj => ?_
        exact (h4 j hj).ext (ext_still_of (fun x hx => by rw [view_sld]; exact ht.sld x hx) fun e => by cases e)
    | @imap _ b es r clock en f g h1 h2 h3 h4 h5 h6 =>
      show R M w _ (if b && !fl && !top then .any else .imap b es) _
      split
      · exact .any
      · rename_i hc
        have hbf : b = true → fl = true ∨ top = true := fun e => by subst e; cases fl <;> cases top <;> simp at hc ⊢
        have hx : Ext (c.still b) w ((d.view fl top).still b) w := ext_still_of (fun x hx => by rw [view_sld]; exact ht.sld x hx) fun e x hx => by
          rw [view_bor' (hbf e)]; exact ht.bor _ hx
        refine .imap f g ?_ h2 h3 h4 (fun i hi => (h5 i hi).ext hx) (fun i hi => (h6 i hi).ext hx)
        cases b
        · rw [view_sld]; exact ht.sld _ h1
        · rw [if_pos rfl, view_bor' (hbf rfl)]; exact ht.bor _ h1
    | @sl _ id ep off len cap k blk h1 h2 h3 h4 h5 =>
      show R M w _ (if id < base then (if top then .sl id ep off len else .any) else (sliceAt σ id ep off len).elim .any fun l => listAt fl l (l.map (fz fl false base σ n))) _
      split
      · rename_i hb
        cases top with
        | false => exact .any
        | true =>
          rcases ht.keep id hb h1 with ⟨k1, k2⟩ | k1
          · obtain ⟨p1, p2, _⟩ := k2 (by rw [h2]; simp)
            exact .sl (ht.N id hb h1) (k1.trans h2) (p1.trans h3) h4 (by show _ ≤ d.room id; rw [p2]; exact h5)
          · exact .slOld rfl (ht.N id hb h1) (by show ∀ k e, d.H id = _ → _; rw [k1]; simp) (by show d.H id ≠ _; rw [k1]; simp) (by show d.H id ≠ _; rw [k1]; simp)
      · rename_i hb
        cases hsl : sliceAt σ id ep off len with
        | none => exact .any
        | some l =>
          obtain ⟨k2, es, ho, hl, rfl⟩ := sliceAt_obj hsl
          have hH : c.H id = .arr k2 ep := by rw [hs.H, hd_of ho]
          have hkk : k = k2 := by rw [hH] at h2; cases h2; rfl
          subst hkk
          obtain ⟨o1, o2, o3, o4⟩ := hs.obj id _ ho
          obtain ⟨cs, T, F, q1, q2, q3, q4, q5⟩ := o4 blk h3
          have hlen : ((es.drop off).take len).length = len := by simp; omega
          have := listAt_R (M := M) (w := w) (fl := fl) (base := base) (σ := σ) (c := c) (d := d) (n := n) (top := top) (l := (es.drop off).take len) (a := ⟨blk, off * k, none⟩) (cap := cap) (K := k) (f := fun i j => F (off + i) j) ht.sb ih (ht.gone id blk (by omega) (by rw [h2]; simp) h3) rfl (by omega) o1
            (fun x hx => o2 x (List.mem_of_mem_drop (List.mem_of_mem_take hx))) (fun i j hi hj => by
              rw [hlen] at hi
              obtain ⟨a1, a2⟩ := q4 (off + i) j (by omega) hj
              refine ⟨?_, a2⟩
              simp only [World.cell?, q1]
              rw [show off * k + i * k + j = (off + i) * k + j by rw [Nat.add_mul]]
              exact a1) (fun i hi j hj => by
              rw [hlen] at hi
              have e : ((es.drop off).take len)[i]'(by rw [hlen]; exact hi) = es[off + i]'(by omega) := by simp
              have hj' : j < (cellsOf (es[off + i]'(by omega))).length := by rw [← e]; exact hj
              have := q5 (off + i) (by omega) j hj'
              simp only [List.getElem_take, List.getElem_drop]
              exact this)
          rw [hlen] at this
          exact this
    | @sl0 _ id ep off k a h1 h2 =>
      show R M w _ (if id < base then (if top then .sl id ep off 0 else .any) else (sliceAt σ id ep off 0).elim .any fun l => listAt fl l (l.map (fz fl false base σ n))) _
      split
      · rename_i hb
        cases top with
        | false => exact .any
        | true =>
          rcases ht.keep id hb h1 with ⟨k1, k2⟩ | k1
          · exact .sl0 (ht.N id hb h1) (k1.trans h2)
          · exact .slOld rfl (ht.N id hb h1) (by show ∀ k e, d.H id = _ → _; rw [k1]; simp) (by show d.H id ≠ _; rw [k1]; simp) (by show d.H id ≠ _; rw [k1]; simp)
      · cases hsl : sliceAt σ id ep off 0 with
        | none => exact .any
        | some l =>
          obtain ⟨k2, es, ho, hl, rfl⟩ := sliceAt_obj hsl
          exact .imm0
    | @slOld _ id ep off len _ h0 h1 h2 h3 h4 =>
      show R M w _ (if id < base then (if top then .sl id ep off len else .any) else (sliceAt σ id ep off len).elim .any fun l => listAt fl l (l.map (fz fl false base σ n))) _
      split
      · rename_i hb
        cases top with
        | false => exact .any
        | true =>
          rcases ht.keep id hb h1 with ⟨k1, k2⟩ | k1
          · exact .slOld h0 (ht.N id hb h1) (by show ∀ k e, d.H id = _ → _; rw [k1]; exact h2) (by show d.H id ≠ _; rw [k1]; exact h3) (by show d.H id ≠ _; rw [k1]; exact h4)
          · exact .slOld h0 (ht.N id hb h1) (by show ∀ k e, d.H id = _ → _; rw [k1]; simp) (by show d.H id ≠ _; rw [k1]; simp) (by show d.H id ≠ _; rw [k1]; simp)
      · cases hsl : sliceAt σ id ep off len with
        | none => exact .any
        | some l =>
          obtain ⟨k2, es, ho, hl, rfl⟩ := sliceAt_obj hsl
          exact (stale hs ho h2).elim
    | @ptr _ id ep i off k blk h1 h2 h3 =>
      show R M w _ (if id < base then (if top then .ptr id ep i off else .any) else (elemAt σ id ep i).elim .any fun x => cptrAt fl x (fz fl false base σ n x) off) _
      split
      · rename_i hb
        cases top with
        | false => exact .any
        | true =>
          rcases ht.keep id hb h1 with ⟨k1, k2⟩ | k1
          · obtain ⟨p1, p2, _⟩ := k2 (by rw [h2]; simp)
            exact .ptr (ht.N id hb h1) (k1.trans h2) (p1.trans h3)
          · exact .ptrOld rfl (ht.N id hb h1) (by show ∀ k e, d.H id = _ → _; rw [k1]; simp) (by show d.H id ≠ _; rw [k1]; simp) (by show d.H id ≠ _; rw [k1]; simp)
      · rename_i hb
        cases hsl : elemAt σ id ep i with
        | none => exact .any
        | some x =>
          obtain ⟨k2, es, ho, hx⟩ := elemAt_obj hsl
          have hH : c.H id = .arr k2 ep := by rw [hs.H, hd_of ho]
          have hkk : k = k2 := by rw [hH] at h2; cases h2; rfl
          subst hkk
          obtain ⟨b, f, hbp, hcr, hnk, hk0, hcell⟩ := hs.elem ho hx
          rw [h3] at hbp; cases hbp
          exact cptrAt_R (o := i * k) ht.sb ih (ht.gone id blk (by omega) (by rw [h2]; simp) h3) (by omega) (fun j hj => ⟨hcell j (by omega), hcr.one j hj⟩) hcr.rel
    | @ptrOld _ id ep i off _ h0 h1 h2 h3 h4 =>
      show R M w _ (if id < base then (if top then .ptr id ep i off else .any) else (elemAt σ id ep i).elim .any fun x => cptrAt fl x (fz fl false base σ n x) off) _
      split
      · rename_i hb
        cases top with
        | false => exact .any
        | true =>
          rcases ht.keep id hb h1 with ⟨k1, k2⟩ | k1
          · exact .ptrOld h0 (ht.N id hb h1) (by show ∀ k e, d.H id = _ → _; rw [k1]; exact h2) (by show d.H id ≠ _; rw [k1]; exact h3) (by show d.H id ≠ _; rw [k1]; exact h4)
          · exact .ptrOld h0 (ht.N id hb h1) (by show ∀ k e, d.H id = _ → _; rw [k1]; simp) (by show d.H id ≠ _; rw [k1]; simp) (by show d.H id ≠ _; rw [k1]; simp)
      · cases hsl : elemAt σ id ep i with
        | none => exact .any
        | some x =>
          obtain ⟨k2, es, ho, hx⟩ := elemAt_obj hsl
          exact (stale hs ho h2).elim
    | @asl _ id ep i off m k blk h1 h2 h3 =>
      show R M w _ (if id < base && top then .asl id ep i off m else .any) _
      split
      · rename_i hc
        simp only [Bool.and_eq_true, decide_eq_true_eq] at hc
        obtain ⟨hb, rfl⟩ := hc
        rcases ht.keep id hb h1 with ⟨k1, k2⟩ | k1
        · obtain ⟨p1, p2, _⟩ := k2 (by rw [h2]; simp)
          exact .asl (ht.N id hb h1) (k1.trans h2) (p1.trans h3)
        · exact .aslOld (ht.N id hb h1) (by show ∀ k e, d.H id = _ → _; rw [k1]; simp) (by show d.H id ≠ _; rw [k1]; simp) (by show d.H id ≠ _; rw [k1]; simp)
      · exact .any
    | @aslOld _ id ep i off m _ h1 h2 h3 h4 =>
      show R M w _ (if id < base && top then .asl id ep i off m else .any) _
      split
      · rename_i hc
        simp only [Bool.and_eq_true, decide_eq_true_eq] at hc
        obtain ⟨hb, rfl⟩ := hc
        rcases ht.keep id hb h1 with ⟨k1, k2⟩ | k1
        · exact .aslOld (ht.N id hb h1) (by show ∀ k e, d.H id = _ → _; rw [k1]; exact h2) (by show d.H id ≠ _; rw [k1]; exact h3) (by show d.H id ≠ _; rw [k1]; exact h4)
        · exact .aslOld (ht.N id hb h1) (by show ∀ k e, d.H id = _ → _; rw [k1]; simp) (by show d.H id ≠ _; rw [k1]; simp) (by show d.H id ≠ _; rw [k1]; simp)
      · exact .any
    | @mp _ id blk h1 h2 h3 =>
      show R M w _ (if id < base then (if top then .mp id else .any) else (entriesAt σ id).elim .any fun es => .imap fl (es.map fun e => (e.1, fz fl false base σ n e.2))) _
      split
      · rename_i hb
        cases top with
        | false => exact .any
        | true =>
          rcases ht.keep id hb h1 with ⟨k1, k2⟩ | k1
          · obtain ⟨p1, p2, _⟩ := k2 (by rw [h2]; simp)
            exact .mp (ht.N id hb h1) (k1.trans h2) (p1.trans h3)
          · exact .mpOld rfl (ht.N id hb h1) k1
      · rename_i hb
        cases he : entriesAt σ id with
        | none => exact .any
        | some es =>
          unfold entriesAt at he
          split at he
          · rename_i es' ho
            cases he
            obtain ⟨b, cl, en, f, g, q1, q2, q3, q4, q5, q6⟩ := hs.obj id _ ho
            rw [q1] at h3; cases h3
            have hgone := ht.gone id _ (by omega) (by rw [h2]; simp) q1
            refine .imap f g ?_ q2 (by simpa using q3) (fun i hi => ?_) (fun i hi => ?_) (fun i hi => ?_)
            · cases fl
              · rw [view_sld]; exact hgone
              · rw [view_bor]; exact hgone
            · obtain ⟨e, e1, e2, e3, e4⟩ := q4 i (by simpa using hi)
              exact ⟨e, e1, e2, e3, by simpa using e4⟩
            · obtain ⟨e, e1, e2, e3, e4⟩ := q4 i (by simpa using hi)
              simp only [List.getElem_map]
              exact key_any (q5 i (by simpa using hi)) e4.1
            · rw [view_still]
              simp only [List.getElem_map]
              exact IH (top := false) (q6 i (by simpa using hi))
          · cases he
    | @mpOld _ id _ h0 h1 h2 =>
      show R M w _ (if id < base then (if top then .mp id else .any) else (entriesAt σ id).elim .any fun es => .imap fl (es.map fun e => (e.1, fz fl false base σ n e.2))) _
      split
      · rename_i hb
        cases top with
        | false => exact .any
        | true =>
          rcases ht.keep id hb h1 with ⟨k1, k2⟩ | k1
          · exact .mpOld h0 (ht.N id hb h1) (k1.trans h2)
          · exact .mpOld h0 (ht.N id hb h1) k1
      · cases he : entriesAt σ id with
        | none => exact .any
        | some es =>
          unfold entriesAt at he
          split at he
          · rename_i es' ho
            rw [hs.H, hd_of ho] at h2; cases h2
          · cases he
    | @yld _ l site env em blk f h1 h2 h3 h4 h5 h6 h7 =>
      show R M w _ (if l < base && top then .yld l site (env.map (fz fl top base σ n)) else .any) _
      split
      · rename_i hc
        simp only [Bool.and_eq_true, decide_eq_true_eq] at hc
        obtain ⟨hb, rfl⟩ := hc
        rcases ht.keep l hb h1 with ⟨k1, k2⟩ | k1
        · obtain ⟨p1, p2, p3⟩ := k2 (by rw [h2]; simp)
          refine .yld f (ht.N l hb h1) (k1.trans h2) (p1.trans h3) (by show M.site site (d.loops l) em; rw [p3]; exact h4) (by simpa using h5) (fun i hi hx => by show (d.loops l).tmps[em[i]]? = _; rw [p3]; exact h6 i hi (by simpa using hx)) fun i hx => ?_
          rw [List.getElem_map]
          exact IH (top := true) (h7 i (by simpa using hx))
        · exact .yldOld rfl (ht.N l hb h1) k1
      · exact .any
    | @yldOld _ l site env _ h0 h1 h2 =>
      show R M w _ (if l < base && top then .yld l site (env.map (fz fl top base σ n)) else .any) _
      split
      · rename_i hc
        simp only [Bool.and_eq_true, decide_eq_true_eq] at hc
        obtain ⟨hb, rfl⟩ := hc
        rcases ht.keep l hb h1 with ⟨k1, k2⟩ | k1
        · exact .yldOld h0 (ht.N l hb h1) (k1.trans h2)
        · exact .yldOld h0 (ht.N l hb h1) k1
      · exact .any
    | @it _ id blk h1 h2 h3 =>
      show R M w _ (if id < base && top then .it id else .any) _
      split
      · rename_i hc
        simp only [Bool.and_eq_true, decide_eq_true_eq] at hc
        obtain ⟨hb, rfl⟩ := hc
        rcases ht.keep id hb h1 with ⟨k1, k2⟩ | k1
        · obtain ⟨p1, _, _⟩ := k2 (by rw [h2]; simp)
          exact .it (ht.N id hb h1) (k1.trans h2) (p1.trans h3)
        · exact .itOld rfl (ht.N id hb h1) k1
      · exact .any
    | @itOld _ id _ h0 h1 h2 =>
      show R M w _ (if id < base && top then .it id else .any) _
      split
      · rename_i hc
        simp only [Bool.and_eq_true, decide_eq_true_eq] at hc
        obtain ⟨hb, rfl⟩ := hc
        rcases ht.keep id hb h1 with ⟨k1, k2⟩ | k1
        · exact .itOld h0 (ht.N id hb h1) (k1.trans h2)
        · exact .itOld h0 (ht.N id hb h1) k1
      · exact .any
end
end Go.AM

namespace Go.AM
variable {M : Names} {w : World}
def Ctx.sealUp (c : Ctx) (base : Nat) (τ : Store) : Ctx := { c with
  sld := fun b => c.sld b ∨ ∃ id, base ≤ id ∧ c.H id ≠ .dead ∧ c.place id = some b
  bor := fun b => c.bor b ∨ ∃ id, base ≤ id ∧ c.H id ≠ .dead ∧ c.place id = some b
  H := hd τ
  N := τ.length }
def sealed (base : Nat) (σ : Store) : Store := (σ.take base).map (freezeObj base σ)
variable {c : Ctx} {σ : Store} {base : Nat}
theorem sealed_len (hb : base ≤ σ.length) : (sealed base σ).length = base := by simp [sealed]; omega
theorem sealed_get {id : Nat} {o : Obj} (h : (sealed base σ)[id]? = some o) : id < base ∧ ∃ o0, σ[id]? = some o0 ∧ o = freezeObj base σ o0 := by
  unfold sealed at h
  rw [List.getElem?_map] at h
  obtain ⟨o0, h1, h2⟩ := map_eq_some h
  rw [List.getElem?_take] at h1
  split at h1
  · exact ⟨by assumption, o0, h1, h2.symm⟩
  · cases h1
theorem sealed_at {id : Nat} {o : Obj} (hid : id < base) (h : σ[id]? = some o) : (sealed base σ)[id]? = some (freezeObj base σ o) := by
  unfold sealed
  rw [List.getElem?_map, List.getElem?_take, if_pos hid, h]; rfl
theorem hd_freeze {id : Nat} (hid : id < base) (hb : base ≤ σ.length) : hd (sealed base σ) id = hd σ id ∨ hd (sealed base σ) id = .dead := by
  have hlt : id < σ.length := by omega
  obtain ⟨o, ho⟩ : ∃ o, σ[id]? = some o := ⟨_, List.getElem?_eq_getElem hlt⟩
  have h1 := sealed_at (base := base) (σ := σ) hid ho
  unfold hd
  rw [h1, ho]
  cases o with
  | arr k ep es =>
    simp only [freezeObj, arrAt]
    by_cases hm : (es.map (freeze base σ)).map ncells = es.map ncells
    · rw [if_pos hm]; exact .inl rfl
    · rw [if_neg hm]; exact .inr rfl
  | map es => exact .inl rfl
  | pend b j => exact .inl rfl
  | it s pos => exact .inl rfl
  | mit es cur k => exact .inl rfl
  | dead => exact .inl rfl
theorem turn_sealUp (hs : Sim M w c σ) (hb : base ≤ σ.length) : Turn false base c (c.sealUp base (sealed base σ)) where
  sld := fun b h => .inl h
  sb := fun b h => h.imp (hs.sb b) fun h => h
  bor := fun b h => .inl h
  gone := fun id b h1 h2 h3 => .inr ⟨id, h1, h2, h3⟩
  N := fun id h1 _ => by show id < (sealed base σ).length; rw [sealed_len hb]; exact h1
  keep := fun id h1 _ => by
    rcases hd_freeze (σ := σ) h1 hb with h | h
    · exact .inl ⟨by show hd (sealed base σ) id = c.H id; rw [h, hs.H], fun _ => ⟨rfl, rfl, rfl⟩⟩
    · exact .inr h
theorem Sim.sealUp (hs : Sim M w c σ) (hb : base ≤ σ.length) : Sim M w (c.sealUp base (sealed base σ)) (sealed base σ) := by
  have ht := turn_sealUp hs hb
  have hF := fun n => fz_R hs ht n
  have live : ∀ id, hd (sealed base σ) id ≠ .dead → id < base ∧ c.H id ≠ .dead := fun id h => by
    have hlt := hd_lt h
    rw [sealed_len hb] at hlt
    refine ⟨hlt, ?_⟩
    rcases hd_freeze (σ := σ) hlt hb with h' | h'
    · rw [hs.H, ← h']; exact h
    · exact absurd h' h
  refine ⟨rfl, rfl, ht.sb, fun b h => ?_, fun id b h1 h2 => ?_, fun i j b hi hj hbi hbj => hs.inj i j b (live i hi).2 (live j hj).2 hbi hbj, fun id o ho => ?_⟩
  · rcases h with h | ⟨id, _, h1, h2⟩
    · exact hs.low b h
    · exact (hs.plow id b h1 h2).1
  · obtain ⟨hlt, hl⟩ := live id h1
    obtain ⟨p1, p2⟩ := hs.plow id b hl h2
    refine ⟨p1, fun h => h.elim p2 fun ⟨id', q1, q2, q3⟩ => ?_⟩
    have := hs.inj id id' b hl q2 h2 q3
    omega
  · obtain ⟨hlt, o0, h0, rfl⟩ := sealed_get ho
    have hobj := hs.obj id o0 h0
    cases o0 with
    | arr k ep es =>
      simp only [freezeObj, arrAt]
      by_cases hm : (es.map (freeze base σ)).map ncells = es.map ncells
      · rw [if_pos hm]
        obtain ⟨m1, m2⟩ := map_ncells hm
        obtain ⟨o1, o2, o3, o4⟩ := hobj
        refine ⟨o1, fun x hx => ?_, fun hn => by rw [o3 hn]; rfl, fun b hb' => ?_⟩
        · obtain ⟨i, hi, rfl⟩ := List.mem_iff_getElem.1 hx
          rw [m2 i hi (by omega)]
          exact o2 _ (List.getElem_mem _)
        · obtain ⟨cs, T, f, q1, q2, q3, q4, q5⟩ := o4 b hb'
          refine ⟨cs, T, f, q1, by rw [m1]; exact q2, q3, fun i j hi hj => q4 i j (by omega) hj, fun i hi j hj => ?_⟩
          simp only [List.getElem_map] at hj ⊢
          exact cells_fz' (top := true) (n := fuel) (fun m _ => hF m) (q5 i (by omega)) j hj
      · rw [if_neg hm]; trivial
    | map es =>
      obtain ⟨b, cl, en, f, g, q1, q2, q3, q4, q5, q6⟩ := hobj
      refine ⟨b, cl, en, f, g, q1, q2, by simpa using q3, fun i hi => ?_, fun i hi => ?_, fun i hi => ?_⟩
      · obtain ⟨e, e1, e2, e3, e4⟩ := q4 i (by simpa using hi)
        exact ⟨e, e1, e2, e3, by simpa using e4⟩
      · obtain ⟨e, e1, e2, e3, e4⟩ := q4 i (by simpa using hi)
        simp only [List.getElem_map]
        exact key_any (q5 i (by simpa using hi)) e4.1
      · simp only [List.getElem_map]
        exact hF fuel true _ _ (q6 i (by simpa using hi))
    | pend bz j => exact hobj
    | it s pos => exact hobj
    | mit es cur k =>
      obtain ⟨b, r, last, cl, seen, en, f, g, q1, q2, q3, q4, q5, q6, q7, q8, q9, q10, q11⟩ := hobj
      have he : Ext (c.still false) w ((c.sealUp base (sealed base σ)).still false) w := ext_still_of (fun b h => .inl h) (fun h => by cases h)
      refine ⟨b, r, last, cl, seen, en, f, g, q1, q2, .inl q3, q4, q5, q6, fun i hi => (q7 i hi).ext he, fun i hi => (q8 i hi).ext he, q9, q10, fun e h => ?_⟩
      obtain ⟨l1, st, q, l2, l3, l4, l5⟩ := q11 e h
      exact ⟨l1, st, q, l2, l3, l4.ext he, l5.ext he⟩
    | dead => trivial
theorem Stp.sealUp {c0 : Ctx} {w0 : World} (h : Stp c0 w0 c w) (hs : Sim M w c σ) (hN : c0.N = base) (hb : base ≤ σ.length) : Stp c0 w0 (c.sealUp base (sealed base σ)) w where
  sld := fun b hb => .inl (h.sld b hb)
  bor := fun b hb => .inl (h.bor b hb)
  rest := h.rest
  N := by show c0.N ≤ (sealed base σ).length; rw [sealed_len hb, hN]; exact Nat.le_refl _
  head := fun id hid => by
    show (c0.H id).le (hd (sealed base σ) id)
    rcases hd_freeze (σ := σ) (show id < base by omega) hb with h' | h'
    · rw [h', ← hs.H]; exact h.head id hid
    · rw [h']; exact .inr (.inl rfl)
  place := fun id hid hq hd' => by
    refine h.place id hid ?_ hd'
    have hq' : c0.H id = hd (sealed base σ) id := hq
    rcases hd_freeze (σ := σ) (show id < base by omega) hb with h' | h'
    · rw [hq', h', ← hs.H]
    · exact absurd (hq'.trans h') hd'
  same := h.same
  size := h.size
  frame := h.frame
  old := fun b h1 hx => by
    rcases h1 with h1 | ⟨id, _, h2, h3⟩
    · exact h.old b h1 hx
    · exact .inr (h.liv id b h2 h3 hx)
  oldb := fun b h1 hx => by
    rcases h1 with h1 | ⟨id, _, h2, h3⟩
    · exact h.oldb b h1 hx
    · exact .inr (h.liv id b h2 h3 hx)
  liv := fun id b h1 h2 hx => by
    refine h.liv id b ?_ h2 hx
    have h1' : hd (sealed base σ) id ≠ .dead := h1
    have hlt := hd_lt h1'
    rw [sealed_len hb] at hlt
    rcases hd_freeze (σ := σ) hlt hb with h' | h'
    · rw [hs.H, ← h']; exact h1'
    · exact absurd h' h1'
theorem nth_clear {e : Nat} : ∀ {l : List Nat} {env : List AVal}, nth (clear env l) e = nth env e ∨ nth (clear env l) e = .any
  | [], _ => .inl rfl
  | i :: r, env => by
    simp only [clear]
    rcases nth_clear (e := e) (l := r) (env := env.set i .any) with h | h
    · rw [h]
      by_cases hi : i = e
      · subst hi
        unfold nth
        rw [List.getElem?_set]
        simp only [if_true]
        split
        · exact .inr rfl
        · exact .inr rfl
      · exact .inl (nth_set_ne hi)
    · exact .inr h
theorem TmpR.clear {env : List AVal} {em : List Tmp} {tmps : Array Value} (h : TmpR M w c env [] (emR em) tmps) (l : List Nat) : TmpR M w c (clear env l) [] (emR em) tmps := fun t x hx => by
  have hr := h t x hx
  unfold emR at hx
  obtain ⟨e, _, rfl⟩ := map_eq_some hx
  show R M w c (nth (Go.AM.clear env l) e) _
  rcases nth_clear (e := e) (l := l) (env := env) with h' | h'
  · rw [h']; exact hr
  · rw [h']; exact .any
theorem roundEnd_R {c0 : Ctx} {w0 : World} {s : St} {em : List Tmp} {tmps : Array Value} {clr : List Nat} (hs : Sim M w c s.st) (hst : Stp c0 w0 c w) (hN : c0.N = base) (ht : TmpR M w c s.env [] (emR em) tmps) :
    ∃ c', Sim M w c' (roundEnd base clr s).st ∧ Stp c0 w0 c' w ∧ TmpR M w c' (roundEnd base clr s).env [] (emR em) tmps ∧
      ∀ r, ¬ c.bor r → (∀ id, c.H id ≠ .dead → c.place id ≠ some r) → ¬ c'.bor r ∧ ∀ id, c'.H id ≠ .dead → c'.place id ≠ some r := by
  have hb : base ≤ s.st.length := by rw [← hN, ← hs.N]; exact hst.N
  unfold roundEnd
  split
  · exact ⟨c, hs, hst, ht.clear clr, fun r h1 h2 => ⟨h1, h2⟩⟩
  · refine ⟨c.sealUp base (sealed base s.st), hs.sealUp hb, hst.sealUp hs hN hb, fun t x hx => ?_, fun r h1 h2 => ⟨fun h => ?_, fun id hl => ?_⟩⟩
    rotate_left
    · rcases h with h | ⟨id, _, h3, h4⟩
      · exact h1 h
      · exact h2 id h3 h4
    · have hl' : hd (sealed base s.st) id ≠ .dead := hl
      have hlt := hd_lt hl'
      rw [sealed_len hb] at hlt
      refine h2 id ?_
      rcases hd_freeze (σ := s.st) hlt hb with h' | h'
      · rw [hs.H, ← h']; exact hl'
      · exact absurd h' hl'
    have hr := (ht.clear clr) t x hx
    unfold emR at hx
    obtain ⟨e, _, rfl⟩ := map_eq_some hx
    have hr' : R M w c (nth (Go.AM.clear s.env clr) e) (tmps.getD t undef) := hr
    show R M w _ (nth ((Go.AM.clear s.env clr).map (freeze base s.st)) e) _
    have e1 : nth ((Go.AM.clear s.env clr).map (freeze base s.st)) e = freeze base s.st (nth (Go.AM.clear s.env clr) e) ∨ nth ((Go.AM.clear s.env clr).map (freeze base s.st)) e = .any := by
      unfold nth
      rw [List.getElem?_map]
      cases (Go.AM.clear s.env clr)[e]? with
      | none => exact .inr rfl
      | some v => exact .inl rfl
    rcases e1 with e1 | e1
    · rw [e1]; exact fz_R hs (turn_sealUp hs hb) fuel true _ _ hr'
    · rw [e1]; exact .any
end Go.AM

namespace Go.AM
variable {M : Names} {P : Program} {w w' : World} {c c' : Ctx} {σ : Store}
structure Hid (n0 : Nat) (w : World) (c : Ctx) (r : Nat) : Prop where
  new : n0 ≤ r
  at_ : w.heap[r]? = some (.deferred (some []))
  bor : ¬ c.bor r
  place : ∀ id, c.H id ≠ .dead → c.place id ≠ some r
theorem Hid.lt {n0 r : Nat} (h : Hid n0 w c r) : r < w.heap.size := (Array.getElem?_eq_some_iff.1 h.at_).1
theorem Hid.stp {n0 r : Nat} (h : Hid n0 w c r) (hst : Stp c w c' w') : Hid n0 w' c' r where
  new := h.new
  at_ := by rw [hst.frame r h.lt h.place]; exact h.at_
  bor := fun hb => by
    rcases hst.oldb r hb h.lt with hb | ⟨i, h1, h2⟩
    · exact h.bor hb
    · exact h.place i h1 h2
  place := fun id h1 h2 => by
    obtain ⟨i, a1, a2⟩ := hst.liv id r h1 h2 h.lt
    exact h.place i a1 a2
def Marks (n0 : Nat) (w : World) (c : Ctx) : List Deferred → Prop
  | [] => True
  | d :: ds => (∃ r, d.target = .collected r ∧ Hid n0 w c r ∧ ∀ d' ∈ ds, d'.target ≠ .collected r) ∧ Marks n0 w c ds
theorem Marks.stp {n0 : Nat} (hst : Stp c w c' w') : ∀ {ds : List Deferred}, Marks n0 w c ds → Marks n0 w' c' ds
  | [], _ => trivial
  | _ :: _, ⟨⟨r, h1, h2, h3⟩, h⟩ => ⟨⟨r, h1, h2.stp hst, h3⟩, h.stp hst⟩
theorem Marks.same {n0 : Nat} (h : ∀ r, ¬ c.bor r → (∀ id, c.H id ≠ .dead → c.place id ≠ some r) → ¬ c'.bor r ∧ ∀ id, c'.H id ≠ .dead → c'.place id ≠ some r) : ∀ {ds : List Deferred}, Marks n0 w c ds → Marks n0 w c' ds
  | [], _ => trivial
  | _ :: _, ⟨⟨r, h1, h2, h3⟩, hm⟩ => ⟨⟨r, h1, ⟨h2.new, h2.at_, (h r h2.bor h2.place).1, (h r h2.bor h2.place).2⟩, h3⟩, hm.same h⟩
theorem Marks.lt {n0 : Nat} : ∀ {ds : List Deferred}, Marks n0 w c ds → ∀ d ∈ ds, ∃ r, d.target = .collected r ∧ r < w.heap.size
  | _ :: _, ⟨⟨r, h1, h2, _⟩, h⟩, d, hd => by
    rcases List.mem_cons.1 hd with rfl | hd
    · exact ⟨r, h1, h2.lt⟩
    · exact h.lt d hd
theorem Stp.hid {c0 : Ctx} {w0 : World} {r : Nat} {o : Go.Obj} (h : Stp c0 w0 c w) (hs : Sim M w c σ) (hr : Hid w0.heap.size w c r) (hw : SetB w w' r o) : Sim M w' c σ ∧ Ext c w c w' ∧ Stp c0 w0 c w' := by
  have hne : ∀ b, (c.bor b ∨ ∃ id, c.H id ≠ .dead ∧ c.place id = some b) → b ≠ r := fun b hb e => by
    subst e
    rcases hb with hb | ⟨i, h1, h2⟩
    · exact hr.bor hb
    · exact hr.place i h1 h2
  obtain ⟨a1, a2⟩ := hs.over (w' := w') (fun b _ hb => by rw [hw.get b hr.lt, if_neg (hne b hb)]) (by rw [hw.size]; exact Nat.le_refl _)
  refine ⟨a1, a2, { Ext.trans h.toExt a2 with
    same := h.same.trans hw.toSame
    size := by rw [hw.size]; exact h.size
    frame := fun b hb hn => by
      rw [hw.get b hr.lt, if_neg (by have := hr.new; omega)]
      exact h.frame b hb hn
    liv := h.liv
    old := h.old
    oldb := h.oldb }⟩
theorem Marks.over {n0 r : Nat} {o : Go.Obj} (hlt : r < w.heap.size) (hw : SetB w w' r o) : ∀ {ds : List Deferred}, (∀ d ∈ ds, d.target ≠ .collected r) → Marks n0 w c ds → Marks n0 w' c ds
  | [], _, _ => trivial
  | d :: ds, hn, ⟨⟨q, h1, h2, h3⟩, h⟩ => by
    refine ⟨⟨q, h1, ⟨h2.new, ?_, h2.bor, h2.place⟩, h3⟩, h.over hlt hw fun d' hd' => hn d' (List.mem_cons_of_mem _ hd')⟩
    rw [hw.get q hlt, if_neg]
    · exact h2.at_
    · intro e
      subst e
      exact hn d List.mem_cons_self h1
theorem leaves_marks {F : Fence} {n : Nat} {fn : Func} {tmps : Array Value} {c0 : Ctx} {w0 : World} {R : Ending → World → Prop} : ∀ (ds : List Deferred) (w : World), Sim M w c σ → Stp c0 w0 c w → Marks w0.heap.size w c ds →
    (∀ w', Sim M w' c σ → Ext c w c w' → Stp c0 w0 c w' → ∃ v, (Go.results fn tmps).run P w' = .ok v w' ∧ R (.returned v) w') → LeavesInM F n P fn tmps R ds .returning w
  | [], w, hs, hst, _, h => h w hs (.refl c w) hst
  | d :: ds, w, hs, hst, ⟨⟨r, h1, h2, h3⟩, hm⟩, h => by
    have hset : SetB w (w.putObj r (.deferred none)) r (.deferred none) := ⟨⟨rfl, rfl, rfl, Nat.le_refl _⟩, rfl⟩
    obtain ⟨a1, a2, a3⟩ := hst.hid hs h2 hset
    exact ⟨by simp, .inl ⟨r, _, h1, run_takeDeferred h2.at_, leaves_marks ds _ a1 a3 (hm.over h2.lt hset h3) fun w' b1 b2 b3 => h w' b1 (a2.trans b2) b3⟩⟩
theorem Sim.drop (hs : Sim M w c σ) {id b : Nat} {o : Go.Obj} (hl : c.H id ≠ .dead) (hb : c.place id = some b) (hw : SetB w w' b o) :
    Sim M w' { c with H := hd (σ.set id .dead) } (σ.set id .dead) ∧ Stp c w { c with H := hd (σ.set id .dead) } w' := by
  have hlt := (hs.plow id b hl hb).1
  have hh : ∀ i, hd (σ.set id .dead) i = if i = id then .dead else hd σ i := fun i => by
    by_cases e : i = id
    · subst e
      rw [if_pos rfl]
      unfold hd
      rw [List.getElem?_set]
      simp only [if_true]
      split <;> rename_i h <;> split at h <;> simp_all
    · rw [if_neg e, hd_set_ne e]
  have live : ∀ i, hd (σ.set id .dead) i ≠ .dead → c.H i ≠ .dead ∧ i ≠ id := fun i h => by
    rw [hh] at h
    split at h
    · exact absurd rfl h
    · rw [hs.H]; exact ⟨h, by assumption⟩
  have hext : Ext c w { c with H := hd (σ.set id .dead) } w' := ⟨fun _ h => h, fun _ h => h, fun x hx => by
    rw [hw.get x hlt, if_neg]
    rintro rfl
    exact (hs.plow id x hl hb).2 (hx.elim (fun h => h) (hs.sb x)), Nat.le_refl _, fun i hi => by
    show (c.H i).le (hd (σ.set id .dead) i)
    rw [hh]
    split
    · exact .inr (.inl rfl)
    · exact .inl (by rw [hs.H]), fun i hi h hne => ⟨rfl, rfl, rfl⟩⟩
  refine ⟨⟨rfl, by rw [List.length_set]; exact hs.N, hs.sb, fun x hx => by rw [hw.size]; exact hs.low x hx, fun i x h1 h2 => ?_, fun i j x hi hj => hs.inj i j x (live i hi).1 (live j hj).1, fun i o' ho => ?_⟩, { hext with same := hw.toSame, size := by rw [hw.size]; exact Nat.le_refl _, frame := fun x hx hn => ?_, liv := fun i x h1 h2 _ => ⟨i, (live i h1).1, h2⟩, old := fun _ h _ => .inl h, oldb := fun _ h _ => .inl h }⟩
  · obtain ⟨p1, p2⟩ := hs.plow i x (live i h1).1 h2
    exact ⟨by rw [hw.size]; exact p1, p2⟩
  · by_cases e : i = id
    · subst e
      rw [List.getElem?_set] at ho
      simp only [if_true] at ho
      split at ho
      · cases ho; trivial
      · cases ho
    · rw [List.getElem?_set_ne (fun h => e h.symm)] at ho
      refine (hs.obj i o' ho).ext hext (fun _ => ⟨rfl, rfl, rfl⟩) fun hnd x hx => ?_
      rw [hw.get x hlt, if_neg]
      rintro rfl
      exact e (hs.inj i id x (by rw [hs.H]; exact fun h => hnd ((hd_dead ho).1 h)) hl hx hb)
  · rw [hw.get x hlt, if_neg (fun e => hn id hl (by subst e; exact hb))]
theorem Sim.pend (hs : Sim M w c σ) {id b : Nat} {bz bz' : Bool} {j j' : Option Ex} {o : Go.Obj} (ho : σ[id]? = some (.pend bz j)) (hb : c.place id = some b) (hw : SetB w w' b o)
    (hobj : o = .loop (match bz', j' with
        | true, _ => recOf (c.loops id) .busy none
        | false, none => recOf (c.loops id) .ready none
        | false, some e => recOf (c.loops id) .done (jumpOf e))) :
    Sim M w' c (σ.set id (.pend bz' j')) ∧ Stp c w c w' := by
  have hl : c.H id ≠ .dead := by rw [hs.H, hd_of ho]; simp
  have hlt := (hs.plow id b hl hb).1
  have hext : Ext c w c w' := ⟨fun _ h => h, fun _ h => h, fun x hx => by
    rw [hw.get x hlt, if_neg]
    rintro rfl
    exact (hs.plow id x hl hb).2 (hx.elim (fun h => h) (hs.sb x)), Nat.le_refl _, fun i hi => .inl rfl, fun i hi h hne => ⟨rfl, rfl, rfl⟩⟩
  have hsz : id < σ.length := (List.getElem?_eq_some_iff.1 ho).1
  have hself : (σ.set id (.pend bz' j'))[id]? = some (.pend bz' j') := by simp [hsz]
  have hH : hd (σ.set id (.pend bz' j')) = hd σ := by
    funext i
    by_cases e : i = id
    · subst e
      rw [hd_of hself, hd_of ho]
    · rw [hd_set_ne e]
  refine ⟨⟨by rw [hH]; exact hs.H, by rw [List.length_set]; exact hs.N, hs.sb, fun x hx => by rw [hw.size]; exact hs.low x hx, fun i x h1 h2 => ?_, hs.inj, fun i o' ho' => ?_⟩, Stp.setB hs hl hb hw hext⟩
  · obtain ⟨p1, p2⟩ := hs.plow i x h1 h2
    exact ⟨by rw [hw.size]; exact p1, p2⟩
  · by_cases e : i = id
    · subst e
      rw [hself] at ho'
      cases ho'
      exact ⟨b, hb, by rw [hw.get b hlt, if_pos rfl, hobj]; cases bz' <;> cases j' <;> rfl⟩
    · rw [List.getElem?_set_ne (fun h => e h.symm)] at ho'
      refine (hs.obj i o' ho').ext hext (fun _ => ⟨rfl, rfl, rfl⟩) fun hnd x hx => ?_
      rw [hw.get x hlt, if_neg]
      rintro rfl
      exact e (hs.inj i id x (by rw [hs.H]; exact fun h => hnd ((hd_dead ho').1 h)) hl hx hb)
end Go.AM

namespace Go.AM
variable {M : Names} {P : Program} {w w' : World} {c c' : Ctx} {σ : Store}
theorem run_next_map {blk r cl last : Nat} {seen : Array Nat} {en : Array MapEntry} {T : TypeId} (h1 : w.heap[blk]? = some (.mapIter (some r) cl seen last)) (h2 : w.heap[r]? = some (.map en cl)) (hb : ∀ e ∈ en, e.born < cl) (hl : seen.isEmpty = false → last = cl) :
    (∃ w1, (Instr.next (.pointer (some ⟨blk, 0, none⟩)) false T).run P w = .ok (.tuple #[.bool false]) w1 ∧ w1.heap = w.heap ∧ Same w w1 ∧ ∀ e ∈ en, e.born ∈ seen) ∨
    ∃ e ∈ en, ¬ e.born ∈ seen ∧ ∃ w1, (Instr.next (.pointer (some ⟨blk, 0, none⟩)) false T).run P w = .ok (.tuple #[.bool true, e.key, e.val]) w1 ∧ SetB w w1 blk (.mapIter (some r) cl (seen.push e.born) cl) := by
  have hne : ¬ ((¬seen = #[] ∧ ¬en = #[]) ∧ ∀ (i : Nat) (x : i < en.size), last ≤ en[i].born) := by
    rintro ⟨⟨h3, h4⟩, h5⟩
    have h6 := hl (by simpa using h3)
    subst h6
    have h0 : 0 < en.size := Array.size_pos_iff.2 h4
    have := hb en[0] (Array.getElem_mem h0)
    have := h5 0 h0
    omega
  have f2 : (en.filter fun a => decide (cl ≤ a.born) && !decide (a.born ∈ seen)) = #[] := by
    rw [Array.filter_eq_empty_iff]
    intro e he
    have := hb e he
    have h3 : ¬ cl ≤ e.born := by omega
    simp [h3]
  by_cases hA : ∀ a : MapEntry, a ∈ en → a.born < cl → a.born ∈ seen
  · left
    refine ⟨w, ?_, rfl, Same.refl w, fun e he => hA e he (hb e he)⟩
    have f1 : (en.filter fun a => decide (a.born < cl) && !decide (a.born ∈ seen)) = #[] := by
      rw [Array.filter_eq_empty_iff]
      intro e he
      have := hA e he (hb e he)
      simp [this]
    simp [Instr.next, getObj, Sem.run, h1, h2, hne, f1, f2]
    rw [if_pos hA]
    simp [Question.forced]
  · right
    have hsz : 0 < (en.filter fun a => decide (a.born < cl) && !decide (a.born ∈ seen)).size := by
      apply Array.size_pos_iff.2
      intro h
      rw [Array.filter_eq_empty_iff] at h
      apply hA
      intro a ha hlt
      have := h a ha
      simpa [hlt] using this
    have hmem : ∀ e ∈ en.filter fun a => decide (a.born < cl) && !decide (a.born ∈ seen), e ∈ en ∧ ¬ e.born ∈ seen := fun e he => by
      have := Array.mem_filter.1 he
      simp only [Bool.and_eq_true, decide_eq_true_eq, Bool.not_eq_true', decide_eq_false_iff_not] at this
      exact ⟨this.1, this.2.2⟩
    generalize hL : (en.filter fun a => decide (a.born < cl) && !decide (a.born ∈ seen)) = L at *
    by_cases hq : (Question.mapNext L.size).forced = true
    · obtain ⟨m1, m2⟩ := hmem L[0] (Array.getElem_mem hsz)
      refine ⟨L[0], m1, m2, { w with heap := w.heap.setIfInBounds blk (.mapIter (some r) cl (seen.push L[0].born) cl) }, ?_, ⟨⟨rfl, rfl, rfl, Nat.le_refl _⟩, rfl⟩⟩
      simp [Instr.next, getObj, Sem.run, h1, h2, hne, hL, f2]
      rw [if_neg hA]
      simp [hq, hsz, setObj, Sem.run, h1]
    · have hk : (Question.mapNext L.size).cut (w.tape w.drawn (.mapNext L.size)) < L.size := Nat.mod_lt _ hsz
      generalize hkk : (Question.mapNext L.size).cut (w.tape w.drawn (.mapNext L.size)) = k at hk
      obtain ⟨m1, m2⟩ := hmem L[k] (Array.getElem_mem hk)
      refine ⟨L[k], m1, m2, { w.drew with heap := w.heap.setIfInBounds blk (.mapIter (some r) cl (seen.push L[k].born) cl) }, ?_, ⟨⟨rfl, rfl, rfl, Nat.le_refl _⟩, rfl⟩⟩
      simp [Instr.next, getObj, Sem.run, h1, h2, hne, hL, f2]
      rw [if_neg hA]
      have h1' : w.drew.heap[blk]? = some (.mapIter (some r) cl seen last) := h1
      simp [hq, hk, hkk, setObj, Sem.run]
      rw [h1']
      rfl
theorem filter_less {α : Type} {p q : α → Bool} : ∀ {l : List α}, (∀ x ∈ l, q x = true → p x = true) → (∃ x ∈ l, p x = true ∧ q x = false) → (l.filter q).length < (l.filter p).length
  | [], _, h => by obtain ⟨x, hx, _⟩ := h; cases hx
  | a :: l, h, hx => by
    have hle : (l.filter q).length ≤ (l.filter p).length := by
      have : ∀ {l : List α}, (∀ x ∈ l, q x = true → p x = true) → (l.filter q).length ≤ (l.filter p).length := fun {l} h => by
        induction l with
        | nil => exact Nat.le_refl _
        | cons b l ih =>
          have ih := ih fun x hx => h x (List.mem_cons_of_mem _ hx)
          cases hq : q b with
          | true => rw [List.filter_cons_of_pos hq, List.filter_cons_of_pos (h b (List.mem_cons_self ..) hq)]; simpa using ih
          | false =>
            rw [List.filter_cons_of_neg (by simp [hq])]
            cases hp : p b with
            | true => rw [List.filter_cons_of_pos hp]; simp; omega
            | false => rw [List.filter_cons_of_neg (by simp [hp])]; exact ih
      exact this fun x hx => h x (List.mem_cons_of_mem _ hx)
    obtain ⟨x, hx, h1, h2⟩ := hx
    rcases List.mem_cons.1 hx with rfl | hx
    · rw [List.filter_cons_of_pos h1, List.filter_cons_of_neg (by simp [h2])]
      simp; omega
    · have ih := filter_less (p := p) (q := q) (l := l) (fun x hx => h x (List.mem_cons_of_mem _ hx)) ⟨x, hx, h1, h2⟩
      cases hq : q a with
      | true => rw [List.filter_cons_of_pos hq, List.filter_cons_of_pos (h a (List.mem_cons_self ..) hq)]; simpa using ih
      | false =>
        rw [List.filter_cons_of_neg (by simp [hq])]
        cases hp : p a with
        | true => rw [List.filter_cons_of_pos hp]; simp; omega
        | false => rw [List.filter_cons_of_neg (by simp [hp])]; exact ih
end Go.AM
