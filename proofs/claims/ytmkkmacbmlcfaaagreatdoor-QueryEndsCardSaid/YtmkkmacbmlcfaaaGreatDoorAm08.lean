/- query.Text, by what it does: of the example's life. -/
import Derived.Test.YtmkkmacbmlcfaaaGreatDoorAm07
set_option linter.unusedVariables false
set_option linter.unusedSimpArgs false
set_option linter.unusedSectionVars false
namespace Go.AM
open Go.Proofs Go.Shelf
variable {M : Names} {P : Program} {w w' : World} {c : Ctx} {σ : Store}
abbrev allCtx (w : World) (lp : LoopRec) : Ctx := Ctx.start w (fun _ => True) lp
theorem still_all (hs : Sim M w c σ) (hb : RowKit.Below w.heap.size w w') (lp : LoopRec) (b b' : Bool) : Ext (c.still b) w ((allCtx w' lp).still b') w' := by
  have hlow : ∀ x, c.bor x → x < w'.heap.size := fun x hx => Nat.lt_of_lt_of_le (hs.low x hx) hb.size
  have hsl : ∀ x, c.sld x → x < w'.heap.size := fun x hx => hlow x (hs.sb x hx)
  refine ⟨fun x hx => ⟨trivial, hsl x hx⟩, fun x hx => ?_, fun x hx => ?_, Nat.zero_le _, fun id hid => absurd hid (Nat.not_lt_zero _), fun id hid => absurd hid (Nat.not_lt_zero _)⟩
  · have : x < w'.heap.size := by
      cases b
      · exact hsl x hx
      · exact hlow x hx
    cases b'
    · exact ⟨trivial, this⟩
    · exact this
  · refine hb.block x ?_
    rcases hx with hx | hx
    · cases b
      · exact hs.low x (hs.sb x hx)
      · exact hs.low x hx
    · exact hs.low x (hs.sb x hx)
theorem imm_all (hs : Sim M w c σ) (hb : RowKit.Below w.heap.size w w') (lp : LoopRec) {b : Bool} {xs : List AVal} {v : Value} (h : R M w c (.imm b xs) v) : R M w' (allCtx w' lp) (.imm b xs) v := by
  cases h with
  | @imm _ _ _ cap a K f h1 h2 h3 h4 h5 h6 h7 =>
    have hlt : a.block < w.heap.size := by
      cases b
      · exact hs.low _ (hs.sb _ h1)
      · exact hs.low _ h1
    refine .imm K f ?_ h2 h3 h4 h5 (fun i j hi hj => by rw [cell_of_heap (hb.block _ hlt)]; exact h6 i j hi hj) fun i hi j hj => (h7 i hi j hj).ext (still_all hs hb lp b b)
    cases b
    · exact ⟨trivial, Nat.lt_of_lt_of_le hlt hb.size⟩
    · exact Nat.lt_of_lt_of_le hlt hb.size
  | imm0 => exact .imm0
theorem globs_all (hs : Sim M w c σ) (hb : RowKit.Below w.heap.size w w') (lp : LoopRec) (hg : Globs M w c) : Globs M w' (allCtx w' lp) := fun g a ha => by
  have h := hg g a ha
  generalize hz : (Value.pointer (some ⟨g, 0, none⟩)) = z at h
  cases h with
  | @cptr _ _ _ off o blk f h1 h2 h3 h4 =>
    have hlt : blk < w.heap.size := hs.low _ (hs.sb _ h1)
    exact .cptr f ⟨trivial, Nat.lt_of_lt_of_le hlt hb.size⟩ h2 (fun j hj => by rw [cell_of_heap (hb.block _ hlt)]; exact h3 j hj) fun j hj => (h4 j hj).ext (still_all hs hb lp false false)
theorem calls_all {C : CallF} (hC : CallSound M P C) {F : Fence} (hF : Wide F) {n : Nat} (hs : Sim M w c σ) (hg : Globs M w c) (hb : RowKit.Below w.heap.size w w') (lp : LoopRec) {f : Nat} {args : List AVal} {v : AVal} (h : C f args [] = some (v, [])) {cargs : Array Value} (ha : ArgsR M w' (allCtx w' lp) args cargs) {g : FuncId} (hf : M.fm f = g) (he : ∀ args w, (callFunc g args).run P w = .ok (.enter g args) w) :
    Calls P g cargs w' fun e w'' => (∃ cv c', e = .returned cv ∧ RF M w'.heap.size w'' c' v cv) ∧ RowKit.Below w'.heap.size w' w'' := by
  subst hf
  rcases (hC f args [] v [] h F n w' (allCtx w' lp) cargs hF start_sim (globs_all hs hb lp hg) ha).1 with ⟨_, h2⟩ | ⟨cv, w'', h1, _⟩
  · refine ((wide_calls hF).1 h2).mono ?_
    rintro e w'' ⟨cv, he', c', _, st, rf⟩
    exact ⟨⟨cv, c', he', rf⟩, ⟨st.same.os, st.same.tape, st.same.output, st.size, fun k hk => st.frame k hk fun id hd => absurd rfl hd⟩⟩
  · rw [he] at h1
    cases h1
theorem int_R {k : IntKind} {n : Int} {x : Value} (h : R M w c (.int k n) x) : x = .int k n := by cases h; rfl
theorem str_R {l : List UInt8} {x : Value} (h : R M w c (.str l) x) : x = .string ⟨l.toArray⟩ := by
  cases h with | @str _ _ t ht => rw [← ht]
theorem row_R {b : Bool} {n : Int} {x : Value} (h : R M w (c.still b) (.imm false [textVal n]) x) : ∃ r o k, x = .slice (some ⟨r, o, none⟩) 1 k ∧ c.sld r ∧ w.cell? ⟨r, o, none⟩ = some (.int .i64 2) ∧ w.cell? ⟨r, o + 1, none⟩ = some (.int .i64 n) ∧ w.cell? ⟨r, o + 2, none⟩ = some (.int .u64 0) ∧ w.cell? ⟨r, o + 3, none⟩ = some (.string ⟨#[]⟩) := by
  cases h with
  | @imm _ _ _ cap a K f h1 h2 h3 h4 h5 h6 h7 =>
    obtain ⟨blk, off, spot⟩ := a
    simp only at h2
    subst h2
    have hK : K = 4 := (h5 _ (List.mem_singleton.2 rfl)).symm
    subst hK
    have g := fun j (hj : j < 4) => h6 0 j (by simp) hj
    have r := fun j (hj : j < 4) => h7 0 (by simp) j hj
    refine ⟨blk, off, cap, rfl, h1, ?_, ?_, ?_, ?_⟩
    · have := (g 0 (by omega)).1; rw [int_R (r 0 (by omega))] at this; simpa using this
    · have := (g 1 (by omega)).1; rw [int_R (r 1 (by omega))] at this; simpa using this
    · have := (g 2 (by omega)).1; rw [int_R (r 2 (by omega))] at this; simpa using this
    · have := (g 3 (by omega)).1; rw [str_R (r 3 (by omega))] at this; simpa using this
theorem nil_R {b : Bool} {x : Value} (h : R M w c (.imm b []) x) : ∃ a k, x = .slice a 0 k := by
  cases h with
  | @imm _ _ _ cap a => exact ⟨some a, cap, rfl⟩
  | @imm0 _ _ cap a => exact ⟨a, cap, rfl⟩
theorem one_R {b : Bool} {y : AVal} {x : Value} (h : R M w c (.imm b [y]) x) : ∃ q o k, x = .slice (some ⟨q, o, none⟩) 1 k := by
  cases h with
  | @imm _ _ _ cap a K f h1 h2 => 
    obtain ⟨blk, off, spot⟩ := a
    simp only at h2
    subst h2
    exact ⟨blk, off, cap, rfl⟩
theorem two_R {n m : Int} {x : Value} (h : R M w c (.imm false [.imm false [textVal n], .imm false [textVal m]]) x) : ∃ rb ro rc x0 x1, x = .slice (some ⟨rb, ro, none⟩) 2 rc ∧ c.sld rb ∧ w.cell? ⟨rb, ro, none⟩ = some x0 ∧ w.cell? ⟨rb, ro + 1, none⟩ = some x1 ∧ R M w (c.still false) (.imm false [textVal n]) x0 ∧ R M w (c.still false) (.imm false [textVal m]) x1 := by
  cases h with
  | @imm _ _ _ cap a K f h1 h2 h3 h4 h5 h6 h7 =>
    obtain ⟨blk, off, spot⟩ := a
    simp only at h2
    subst h2
    have hK : K = 1 := (h5 _ (List.mem_cons_self ..)).symm
    subst hK
    refine ⟨blk, off, cap, f 0 0, f 1 0, rfl, h1, ?_, ?_, h7 0 (by simp) 0 (by simp [cellsOf]), h7 1 (by simp) 0 (by simp [cellsOf])⟩
    · have := (h6 0 0 (by simp) (by omega)).1; simpa using this
    · have := (h6 1 0 (by simp) (by omega)).1; simpa using this
theorem text_inv {x : Value} (h : R M w c textArg x) : ∃ fa na fc nc qb qo qc y rb ro rc, x = .agg #[.int .i64 1, .int .i64 2, .slice fa 0 fc, .slice na 0 nc, .int .i64 0, .int .i64 0, .slice (some ⟨qb, qo, none⟩) 1 qc, y] ∧ y = .slice (some ⟨rb, ro, none⟩) 2 rc ∧ R M w c (.imm false [.imm false [textVal 1], .imm false [textVal 2]]) y ∧
    ∀ (w' : World) (lp : LoopRec) (σ : Store), Sim M w c σ → RowKit.Below w.heap.size w w' → R M w' (allCtx w' lp) textArg x := by
  cases h with
  | @agg _ _ vs f h1 h2 h3 h4 =>
    have e : vs = #[f 0, f 1, f 2, f 3, f 4, f 5, f 6, f 7] := by
      apply Array.ext_getElem?
      intro i
      have hz : vs.size = 8 := h1
      match i with
      | 0 => exact (h2 0 (by decide)).1
      | 1 => exact (h2 1 (by decide)).1
      | 2 => exact (h2 2 (by decide)).1
      | 3 => exact (h2 3 (by decide)).1
      | 4 => exact (h2 4 (by decide)).1
      | 5 => exact (h2 5 (by decide)).1
      | 6 => exact (h2 6 (by decide)).1
      | 7 => exact (h2 7 (by decide)).1
      | i + 8 => rw [Array.getElem?_eq_none (by omega), Array.getElem?_eq_none (by simp)]
    obtain ⟨fa, fc, e2⟩ := nil_R (h4 2 (by decide))
    obtain ⟨na, nc, e3⟩ := nil_R (h4 3 (by decide))
    obtain ⟨qb, qo, qc, e6⟩ := one_R (h4 6 (by decide))
    obtain ⟨rb, ro, rc, x0, x1, e7, _⟩ := two_R (h4 7 (by decide))
    have e0 := int_R (h4 0 (by decide))
    have e1 := int_R (h4 1 (by decide))
    have e4 := int_R (h4 4 (by decide))
    have e5 := int_R (h4 5 (by decide))
    refine ⟨fa, na, fc, nc, qb, qo, qc, f 7, rb, ro, rc, ?_, e7, h4 7 (by decide), fun w' lp σ hs hb => .agg f h1 h2 h3 fun i hi => ?_⟩
    · rw [e, e0, e1, e2, e3, e4, e5, e6]
    · match i, hi with
      | 0, hi => rw [e0]; exact .int
      | 1, hi => rw [e1]; exact .int
      | 2, hi => exact imm_all hs hb lp (h4 2 hi)
      | 3, hi => exact imm_all hs hb lp (h4 3 hi)
      | 4, hi => rw [e4]; exact .int
      | 5, hi => rw [e5]; exact .int
      | 6, hi => exact imm_all hs hb lp (h4 6 hi)
      | 7, hi => exact imm_all hs hb lp (h4 7 hi)
theorem agg4_R {c : Ctx} {a0 a1 a2 a3 : AVal} {x0 x1 x2 x3 : Value} (h0 : R M w c a0 x0) (h1 : R M w c a1 x1) (h2 : R M w c a2 x2) (h3 : R M w c a3 x3) (o : x0.oneCell' = true ∧ x1.oneCell' = true ∧ x2.oneCell' = true ∧ x3.oneCell' = true) (n : (ncells a0 ≤ 1 ∧ isAgg a0 = false) ∧ (ncells a1 ≤ 1 ∧ isAgg a1 = false) ∧ (ncells a2 ≤ 1 ∧ isAgg a2 = false) ∧ (ncells a3 ≤ 1 ∧ isAgg a3 = false)) : R M w c (.agg [a0, a1, a2, a3]) (.agg #[x0, x1, x2, x3]) := by
  refine .agg (fun i => match i with | 0 => x0 | 1 => x1 | 2 => x2 | _ => x3) rfl (fun i hi => ?_) (fun i hi => ?_) (fun i hi => ?_)
  · match i, hi with
    | 0, _ => exact ⟨rfl, o.1⟩
    | 1, _ => exact ⟨rfl, o.2.1⟩
    | 2, _ => exact ⟨rfl, o.2.2.1⟩
    | 3, _ => exact ⟨rfl, o.2.2.2⟩
  · match i, hi with
    | 0, _ => exact n.1
    | 1, _ => exact n.2.1
    | 2, _ => exact n.2.2.1
    | 3, _ => exact n.2.2.2
  · match i, hi with
    | 0, _ => exact h0
    | 1, _ => exact h1
    | 2, _ => exact h2
    | 3, _ => exact h3
theorem args1_R {c : Ctx} {a : AVal} {x : Value} (h : R M w c a x) : ArgsR M w c [a] #[x] := ⟨rfl, fun i hi => by
  match i, hi with
  | 0, _ => exact ⟨x, rfl, h⟩⟩
theorem tup2_R {n0 : Nat} {c : Ctx} {l : List UInt8} {k : IntKind} {n : Int} {x : Value} (h : RF M n0 w c (.tup [.str l, .int k n]) x) : x = .tuple #[.string ⟨l.toArray⟩, .int k n] := by
  cases h with
  | r h =>
    cases h with
    | @tup _ _ vs f h1 h2 h3 =>
      have e : vs = #[f 0, f 1] := by
        apply Array.ext_getElem?
        intro i
        have hz : vs.size = 2 := h1
        match i with
        | 0 => exact h2 0 (by simp)
        | 1 => exact h2 1 (by simp)
        | i + 2 => rw [Array.getElem?_eq_none (by omega), Array.getElem?_eq_none (by simp)]
      rw [e, str_R (h3 0 (by simp)), int_R (h3 1 (by simp))]
def digT (k : Nat) : ByteArray := if k = 0 then ⟨#[49]⟩ else ⟨#[50]⟩
def preT (k : Nat) : List UInt8 := if k = 0 then [111, 107, 32, 50, 10] else if k = 1 then [111, 107, 32, 50, 10, 49, 10] else [111, 107, 32, 50, 10, 49, 10, 50, 10]
theorem lt2 {p : Nat → Prop} (h0 : p 0) (h1 : p 1) : ∀ k, k < 2 → p k := fun k hk => by
  match k, hk with
  | 0, _ => exact h0
  | 1, _ => exact h1
theorem text_ok {f : Nat} (hf : M.fm f = 18) (hc : M.fm textCheck = 34) (hi : M.fm textItoa = 36) (hp : M.fm textPrint = 38) : PrimOk M Tryz.prog f text := by
  intro C hC hR args σ v σ' h F n w c cargs hF hs hg ha
  have e18 : ∀ args w, (callFunc 18 args).run Tryz.prog w = .ok (.enter 18 args) w := enters_of Tryz.func18 (by kernel_rfl) rfl
  have e34 : ∀ args w, (callFunc 34 args).run Tryz.prog w = .ok (.enter 34 args) w := enters_of Tryz.func34 (by kernel_rfl) rfl
  have e35 : ∀ args w, (callFunc 35 args).run Tryz.prog w = .ok (.enter 35 args) w := enters_of Tryz.func35 (by kernel_rfl) rfl
  have e36 : ∀ args w, (callFunc 36 args).run Tryz.prog w = .ok (.enter 36 args) w := enters_of Tryz.func36 (by kernel_rfl) rfl
  have e37 : ∀ args w, (callFunc 37 args).run Tryz.prog w = .ok (.enter 37 args) w := enters_of Tryz.func37 (by kernel_rfl) rfl
  have e38 : ∀ args w, (callFunc 38 args).run Tryz.prog w = .ok (.enter 38 args) w := enters_of Tryz.func38 (by kernel_rfl) rfl
  refine ⟨.inl ⟨by rw [hf]; exact e18 _ _, ?_⟩, fun _ cargs' w' => by rw [hf]; exact e18 cargs' w'⟩
  rw [wide_calls hF, hf]
  unfold text at h
  split at h
  · rename_i x
    split at h
    · rename_i hb
      simp only [Bool.and_eq_true] at hb
      obtain ⟨b0, b1, b2, b3, b4⟩ := hb
      have hx := same_eq b0
      subst hx
      cases h
      obtain ⟨x0, e0, r0⟩ := ha.2 0 (by simp)
      have hcargs : cargs = #[x0] := by
        apply Array.ext_getElem?
        intro i
        have hz : cargs.size = 1 := ha.1
        match i with
        | 0 => rw [e0]; rfl
        | i + 1 => rw [Array.getElem?_eq_none (by omega), Array.getElem?_eq_none (by simp)]
      subst hcargs
      obtain ⟨fa, na, fc, nc, qb, qo, qc, y, rb, ro, rc, hx0, hy, ry, hall⟩ := text_inv r0
      subst hx0
      obtain ⟨rb', ro', rc', y0, y1, hy', srb, cy0, cy1, ry0, ry1⟩ := two_R ry
      rw [hy] at hy'
      cases hy'
      obtain ⟨p0, o0, k0, rfl, s0, a00, a01, a02, a03⟩ := row_R ry0
      obtain ⟨p1, o1, k1, rfl, s1, a10, a11, a12, a13⟩ := row_R ry1
      subst hy
      have hlow : ∀ b, c.sld b → b < w.heap.size := fun b hb => hs.low b (hs.sb b hb)
      have lp : LoopRec := c.loops 0
      have hPr : ∀ (k : Nat) (z : List UInt8), says C textPrint [textVal ((k : Int) + 1)] (.tup [.str z, .int .i64 0]) = true → ∀ w', RowKit.Below w.heap.size w w' → Calls Tryz.prog 38 #[.agg #[.int .i64 2, .int .i64 ((k : Int) + 1), .int .u64 0, .string ⟨#[]⟩]] w' fun e w'' => e = .returned (.tuple #[.string ⟨z.toArray⟩, .int .i64 0]) ∧ RowKit.Below w'.heap.size w' w'' := fun k z hz w' hb => by
        refine (calls_all hC hF (n := n) hs hg hb lp (says_eq hz) (args1_R (agg4_R .int .int .int (.str rfl) ⟨rfl, rfl, rfl, rfl⟩ ⟨⟨by decide, rfl⟩, ⟨Nat.le_refl _, rfl⟩, ⟨by decide, rfl⟩, ⟨by decide, rfl⟩⟩)) hp e38).mono ?_
        rintro e w'' ⟨⟨cv, c', he, hr⟩, hb'⟩
        exact ⟨by rw [he, tup2_R hr], hb'⟩
      refine (text_gen Tryz.textTy Tryz.func18 e34 e36 e38 e35 e37 fa na fc nc qb qo qc rb ro rc w ?_ ?_ (fun k => if k = 0 then p0 else p1) (fun k => if k = 0 then o0 else o1) (fun k => if k = 0 then k0 else k1) digT preT ?_ ?_ ?_ rfl rfl (by kernel_rfl) (hlow _ srb) (lt2 (hlow _ s0) (hlow _ s1)) (lt2 cy0 cy1) (lt2 a00 a10) (lt2 a01 a11) (lt2 a02 a12) (lt2 a03 a13) ?_ ?_ ?_).mono ?_
      · intro w' hb
        refine (calls_all hC hF (n := n) hs hg hb lp (says_eq b1) (args1_R (hall w' lp σ hs hb)) hc e34).mono ?_
        rintro e w'' ⟨⟨cv, c', he, hr⟩, hb'⟩
        cases hr with
        | r hr => exact ⟨by rw [he, int_R hr], hb'⟩
      · intro w' hb
        refine (calls_all hC hF (n := n) hs hg hb lp (says_eq b2) (args1_R .int) hi e36).mono ?_
        rintro e w'' ⟨⟨cv, c', he, hr⟩, hb'⟩
        cases hr with
        | r hr => exact ⟨by rw [he, str_R hr], hb'⟩
      · exact lt2 rfl rfl
      · intro k hk
        match k, hk with
        | 0, _ => decide
        | 1, _ => decide
        | 2, _ => decide
      · exact lt2 (by decide) (by decide)
      · intro k w' hk hb
        match k, hk with
        | 0, _ => exact hPr 0 [49] b3 w' hb
        | 1, _ => exact hPr 1 [50] b4 w' hb
      · intro l B b w h hne
        have L69 : Lays.n169 Tryz.prog Tryz.upR := { Tryz.lays156 with }
        unfold WrAt at h
        rw [← Tryz.rt5] at h
        have := wr_string L69 Tryz.upX Tryz.liesW (by rw [Tryz.rt5]; decide) B b l w h hne
        rw [Tryz.r169] at this
        exact this.mono fun e w' h => ⟨h.1, h.2.2.1⟩
      · exact fun bk c xs l B b w h1 h2 h3 h4 h5 h6 h7 h8 => line_ok bk c xs l B b w h1 h2 h3 h4 h5 h6 h7 h8
      · rintro e w' ⟨rfl, hb⟩
        obtain ⟨a1, a2⟩ := below_stp hs hb
        refine ⟨_, rfl, c, a1, a2, .r (.tup (fun i => match i with | 0 => .string ⟨#[111, 107, 32, 50, 10, 49, 10, 50, 10]⟩ | _ => .int .i64 0) rfl (fun i hi => ?_) (fun i hi => ?_))⟩
        · match i, hi with
          | 0, _ => rfl
          | 1, _ => rfl
        · match i, hi with
          | 0, _ => exact .str rfl
          | 1, _ => exact .int
    · cases h
  · cases h
end Go.AM
section

set_option linter.unusedVariables false
namespace Go.Proofs
open Go.Shelf Go.RowKit
theorem results_cell1 {fn : Func} {p : Tmp} {ty : TypeId} (h : fn.results = #[.cell p ty]) (tmps : Array Value) (P : Program) (w : World) :
    (results fn tmps).run P w = ((asAddr (tmps.getD p undef)).run P w).andThen fun a w₁ => (loadVar ty a).run P w₁ := by
  simp only [results, h]
  simp [Sem.run_bind, Result.andThen]
set_option maxHeartbeats 2000000 in
set_option maxRecDepth 100000 in
theorem over_gen {P : Program} (TY : TextTy P) (h13 : P.funcs[13]? = some Tryz.f13) (ep ee a : Int) (na ra : Option Addr) (nn nc rn rc : Nat) (w : World) :
    Calls P 13 #[.int .i64 ep, .agg #[.int .i64 ee, .int .i64 a, .slice na nn nc, .slice ra rn rc]] w fun e w' => e = .returned (.agg #[.int .i64 ep, .int .i64 2, .slice none 0 0, .slice none 0 0, .int .i64 ee, .int .i64 a, .slice na nn nc, .slice ra rn rc]) ∧ Below w.heap.size w w' := by
  have mixed := TY.mixed
  have t90 := TY.t90
  have a90 := TY.a90
  have z90 := TY.z90
  have v90 := TY.v90
  have t88 := TY.t88
  have a88 := TY.a88
  have z88 := TY.z88
  have v88 := TY.v88
  have t86 := TY.t86
  have a86 := TY.a86
  have z86 := TY.z86
  have v86 := TY.v86
  have t85 := TY.t85
  have a85 := TY.a85
  have z85 := TY.z85
  have v85 := TY.v85
  have t84 := TY.t84
  have a84 := TY.a84
  have z84 := TY.z84
  have v84 := TY.v84
  have t25 := TY.t25
  have a25 := TY.a25
  have z25 := TY.z25
  have v25 := TY.v25
  have t9 := TY.t9
  have a9 := TY.a9
  have z9 := TY.z9
  have v9 := TY.v9
  have t33 := TY.t33
  have a33 := TY.a33
  have z33 := TY.z33
  have v33 := TY.v33
  have t31 := TY.t31
  have a31 := TY.a31
  have z31 := TY.z31
  have v31 := TY.v31
  have t28 := TY.t28
  have a28 := TY.a28
  have z28 := TY.z28
  have v28 := TY.v28
  have t3 := TY.t3
  have a3 := TY.a3
  have z3 := TY.z3
  have v3 := TY.v3
  have t29 := TY.t29
  have a29 := TY.a29
  have z29 := TY.z29
  have v29 := TY.v29
  have t52 := TY.t52
  have a52 := TY.a52
  have z52 := TY.z52
  have v52 := TY.v52
  have t63 := TY.t63
  have a63 := TY.a63
  have z63 := TY.z63
  have v63 := TY.v63
  have t2 := TY.t2
  have a2 := TY.a2
  have z2 := TY.z2
  have v2 := TY.v2
  have t61 := TY.t61
  have a61 := TY.a61
  have z61 := TY.z61
  have v61 := TY.v61
  have t27 := TY.t27
  have a27 := TY.a27
  have z27 := TY.z27
  have v27 := TY.v27
  have t4 := TY.t4
  have a4 := TY.a4
  have z4 := TY.z4
  have v4 := TY.v4
  have u90 := run_underlying TY.t90
  have u88 := run_underlying TY.t88
  have u86 := run_underlying TY.t86
  have u85 := run_underlying TY.t85
  have u84 := run_underlying TY.t84
  have u25 := run_underlying TY.t25
  have u9 := run_underlying TY.t9
  have u33 := run_underlying TY.t33
  have u31 := run_underlying TY.t31
  have u28 := run_underlying TY.t28
  have u3 := run_underlying TY.t3
  have u29 := run_underlying TY.t29
  have u52 := run_underlying TY.t52
  have u63 := run_underlying TY.t63
  have u2 := run_underlying TY.t2
  have u61 := run_underlying TY.t61
  have u27 := run_underlying TY.t27
  have u4 := run_underlying TY.t4
  go_enter h13, Tryz.ntmps13
  go_wp2
  have hb : Below w.heap.size w ((w.alloc (.cells #[.int .i64 ee, .int .i64 a, .slice na nn nc, .slice ra rn rc] 31)).alloc (.cells #[.int .i64 ep, .int .i64 2, .slice none 0 0, .slice none 0 0, .int .i64 ee, .int .i64 a, .slice na nn nc, .slice ra rn rc] 33)) :=
    ((Below.refl w.heap.size w).alloc (Nat.le_refl _) _).alloc (by simp) _
  have HB := Any.hidJ hb
  clear hb
  refine ⟨rfl, _, ?_, rfl, HB.out⟩
  rw [results_cell1 rfl]
  go_simp
end Go.Proofs
end

namespace Go.AM
open Go.Proofs Go.Shelf
variable {M : Names} {P : Program} {w w' : World} {c : Ctx} {σ : Store}
theorem indexByte_ok {f : Nat} {fn : Func} (hf : P.funcs[M.fm f]? = some fn) (h1 : (fn.name == "runtime.NumGoroutine") = false) (h2 : fn.body.isNone = true) (h3 : Extern.findNext fn = none) (h4 : Extern.find fn = some Extern.BytealgIndexByte.indexByte) : PrimOk M P f fun _ => indexByte := by
  intro C hC hR args σ v σ' h F n w c cargs hF hs hg ha
  replace h : indexByte args σ = some (v, σ') := h
  unfold indexByte at h
  split at h
  · rename_i a b
    cases h
    obtain ⟨x0, e0, r0⟩ := ha.2 0 (by simp)
    obtain ⟨x1, e1, r1⟩ := ha.2 1 (by simp)
    have hc : cargs = #[x0, x1] := by
      apply Array.ext_getElem?
      intro i
      have hz : cargs.size = 2 := ha.1
      match i with
      | 0 => rw [e0]; rfl
      | 1 => rw [e1]; rfl
      | i + 2 => rw [Array.getElem?_eq_none (by omega), Array.getElem?_eq_none (by simp)]
    subst hc
    cases r0 with | @str _ s t ht => cases r1 with | int =>
    refine ⟨.inr ⟨.int .i64 (Lib.indexByte a b.toNat.toUInt8), w, ?_, c, hs, .refl c w, .r .int⟩, fun hx => ?_⟩
    · rw [run_callFunc_extern hf h1 h2 h3 h4, Lib.run_indexByteString, ht]
      rfl
    · exfalso
      obtain ⟨y, hy, hp⟩ := hx
      simp at hy
      rcases hy with rfl | rfl <;> simp [plainArg] at hp
  · cases h
theorem sl_R {b : Bool} {xs : List AVal} {x : Value} (h : R M w c (.imm b xs) x) : ∃ a n k, x = .slice a n k := by
  cases h with
  | @imm _ _ _ cap a => exact ⟨some a, _, cap, rfl⟩
  | @imm0 _ _ cap a => exact ⟨a, 0, cap, rfl⟩
theorem over_ok {f : Nat} (hf : M.fm f = 13) : PrimOk M Tryz.prog f fun _ => overP := by
  intro C hC hR args σ v σ' h F n w c cargs hF hs hg ha
  have e13 : ∀ args w, (callFunc 13 args).run Tryz.prog w = .ok (.enter 13 args) w := enters_of Tryz.func13 (by kernel_rfl) rfl
  refine ⟨.inl ⟨by rw [hf]; exact e13 _ _, ?_⟩, fun _ cargs' w' => by rw [hf]; exact e13 cargs' w'⟩
  rw [wide_calls hF, hf]
  replace h : overP args σ = some (v, σ') := h
  unfold overP at h
  split at h
  · rename_i ep e a b xs b' ys
    cases h
    obtain ⟨x0, e0, r0⟩ := ha.2 0 (by simp)
    obtain ⟨x1, e1, r1⟩ := ha.2 1 (by simp)
    have hc : cargs = #[x0, x1] := by
      apply Array.ext_getElem?
      intro i
      have hz : cargs.size = 2 := ha.1
      match i with
      | 0 => rw [e0]; rfl
      | 1 => rw [e1]; rfl
      | i + 2 => rw [Array.getElem?_eq_none (by omega), Array.getElem?_eq_none (by simp)]
    subst hc
    have hx0 := int_R r0
    subst hx0
    simp only [List.getElem_cons_succ, List.getElem_cons_zero] at r1
    cases r1 with
    | @agg _ _ vs f h1 h2 h3 h4 =>
      have ev : vs = #[f 0, f 1, f 2, f 3] := by
        apply Array.ext_getElem?
        intro i
        have hz : vs.size = 4 := h1
        match i with
        | 0 => exact (h2 0 (by simp)).1
        | 1 => exact (h2 1 (by simp)).1
        | 2 => exact (h2 2 (by simp)).1
        | 3 => exact (h2 3 (by simp)).1
        | i + 4 => rw [Array.getElem?_eq_none (by omega), Array.getElem?_eq_none (by simp)]
      have y0 := int_R (h4 0 (by simp))
      have y1 := int_R (h4 1 (by simp))
      have r2 := h4 2 (by simp)
      have r3 := h4 3 (by simp)
      simp only [List.getElem_cons_succ, List.getElem_cons_zero] at r2 r3
      obtain ⟨na, nn, nc, y2⟩ := sl_R r2
      obtain ⟨ra, rn, rc, y3⟩ := sl_R r3
      rw [y2] at r2
      rw [y3] at r3
      rw [y0, y1, y2, y3] at ev
      subst ev
      refine (over_gen Tryz.textTy Tryz.func13 ep e a na ra nn nc rn rc w).mono ?_
      rintro e' w' ⟨rfl, hb⟩
      obtain ⟨a1, a2⟩ := below_stp hs hb
      have q2 := r2.ext a2.toExt
      have q3 := r3.ext a2.toExt
      refine ⟨_, rfl, c, a1, a2, .r (.agg (fun i => match i with | 0 => .int .i64 ep | 1 => .int .i64 2 | 2 => .slice none 0 0 | 3 => .slice none 0 0 | 4 => .int .i64 e | 5 => .int .i64 a | 6 => .slice na nn nc | _ => .slice ra rn rc) rfl (fun i hi => ?_) (fun i hi => ?_) (fun i hi => ?_))⟩
      · match i, hi with
        | 0, _ | 1, _ | 2, _ | 3, _ | 4, _ | 5, _ | 6, _ | 7, _ => exact ⟨rfl, rfl⟩
      · match i, hi with
        | 0, _ | 1, _ | 2, _ | 3, _ | 4, _ | 5, _ | 6, _ | 7, _ => exact ⟨Nat.le_refl _, rfl⟩
      · match i, hi with
        | 0, _ => exact .int
        | 1, _ => exact .int
        | 2, _ => exact .imm0
        | 3, _ => exact .imm0
        | 4, _ => exact .int
        | 5, _ => exact .int
        | 6, _ => exact q2
        | 7, _ => exact q3
  · cases h
end Go.AM

namespace Go.AM.P
abbrev e := Opd.env
abbrev l := Opd.loc
abbrev v := Opd.val
abbrev i (o : AOp) : Ins := ⟨o, none⟩
abbrev g (x : Opd) (b : Bool) (o : AOp) : Ins := ⟨o, some (x, b)⟩
end Go.AM.P
