/- The code of a function, walked as the abstract machine walks it. -/
import Derived.Test.YtmkkmacbmlcfaaaGreatDoorAm05
import Derived.Scope
set_option linter.unusedVariables false
set_option linter.unusedSimpArgs false
set_option linter.unusedSectionVars false
namespace Go.AM
variable {M : Names} {P : Program}
section
variable {F : Fence} {n : Nat} {Q : Exit → Act → World → Prop} {a : Act} {w : World}
theorem stepR_scope {b : Frame} {k : List Item} {cs : List Frame} {c : Go.Code} : Go.step P (lone (b.atR a (.code (.scope c) :: k)) cs w) = .next (lone (b.atR a (.code c :: .inScope c :: k)) cs w) :=
  step_lone_go (by simp [stepG, stepG.exec, Frame.atR])
theorem stepR_inScope {b : Frame} {k : List Item} {cs : List Frame} {c : Go.Code} : Go.step P (lone (b.atR a (.inScope c :: k)) cs w) = .next (lone (b.atR a k) cs w) :=
  step_lone_go (by simp [stepG, stepG.exec, Frame.atR])
theorem wpIn_scope {c : Go.Code} (h : c.wpIn F n P (Exit.noGoto Q) a w) : (Go.Code.scope c).wpIn F n P Q a w := by
  intro b k cs hro hb hr
  have h0 : (lone (b.atR a (.code (.scope c) :: k)) cs w).fenced P F := fenced_calm hb hr rfl
  obtain ⟨e, a₁, w₁, hq, harr⟩ := h b (.inScope c :: k) cs hro hb hr
  cases e with
  | normal => exact ⟨.normal, a₁, w₁, hq, .head h0 stepR_scope (StepsIn.trans harr (.one (fenced_calm hb hr rfl) stepR_inScope))⟩
  | exit id =>
    have hx : exitTo id (.inScope c :: k) = exitTo id k := by simp [exitTo]
    exact ⟨.exit id, a₁, w₁, hq, fun k' hk => .head h0 stepR_scope (harr.1 k' (by rw [hx]; exact hk)),
      fun hr' hk => let ⟨k₁, h1, h2⟩ := harr.2 hr' (by rw [hx]; exact hk); ⟨k₁, h1, .head h0 stepR_scope h2⟩⟩
  | goto l => exact hq.elim
  | ret => exact ⟨_, a₁, w₁, hq, .of_steps (.one h0 stepR_scope) harr⟩
  | panic ch => exact ⟨_, a₁, w₁, hq, .of_steps (.one h0 stepR_scope) harr⟩
  | outgrown => exact ⟨_, a₁, w₁, hq, .of_steps (.one h0 stepR_scope) harr⟩
end
def exitOf : Ex → Exit
  | .nrm => .normal
  | .ext id => .exit id
  | .ret => .ret
def isNop : Go.Code → Bool
  | .skip => true
  | .label _ => true
  | _ => false
inductive CodeOk (M : Names) (P : Program) (pres : Nat → Bool) (em : List Tmp) (nt : Nat) (top : Bool) : Go.Code → ACode → Prop
  | nop {c} : isNop c = true → CodeOk M P pres em nt top c .skip
  | text {id ops ins os its} : RegOk M P pres ops ins em its (fun i => 2 ^ i - 1) [] none nt → outsOk ops.toList em its os = true → CodeOk M P pres em nt top (.region id ops false) (.reg ins os)
  | any {id ops ins os its bef late} : RegOk M P pres ops ins em its bef [] late nt → Edges ops bef → outsOk ops.toList em its os = true → CodeOk M P pres em nt top (.region id ops true) (.reg ins os)
  | anyd {id ops ins os its bef chk late} : RegOk M P pres ops ins em its bef chk late nt → Edges ops bef → outsOk ops.toList em its os = true → CodeOk M P pres em nt top (.region id ops true) (.regd ins os chk)
  | seq {a b x y} : CodeOk M P pres em nt top a x → CodeOk M P pres em nt top b y → CodeOk M P pres em nt top (.seq a b) (.seq x y)
  | left {a b x} : isNop b = true → CodeOk M P pres em nt top a x → CodeOk M P pres em nt top (.seq a b) x
  | right {a b y} : isNop a = true → CodeOk M P pres em nt top b y → CodeOk M P pres em nt top (.seq a b) y
  | cond {t a b t' x y} : okX M (emR em) t t' = true → CodeOk M P pres em nt top a x → CodeOk M P pres em nt top b y → CodeOk M P pres em nt top (.cond t a b) (.cond t' x y)
  | blk {id a x} : CodeOk M P pres em nt top a x → CodeOk M P pres em nt top (.block id a) (.blk id x)
  | loop {clr a x} : CodeOk M P pres em nt top a x → CodeOk M P pres em nt top (.loop a) (.loop clr x)
  | mloop {clr it ok rid o1 o2 rest x t t1 t2} : o1.op = .next (.tmp t) false → o1.dst = some t1 → o1.guard = none → o2.op = .extract (.tmp t1) 0 → o2.dst = some t2 → o2.guard = none →
      em[it]? = some t → em[ok]? = some t2 → em.Nodup → t1 ∉ em → t1 < nt → t2 < nt → CodeOk M P pres em nt top rest x → CodeOk M P pres em nt top (.loop (.seq (.region rid #[o1, o2] false) rest)) (.mloop clr it ok x)
  | exit {id} : CodeOk M P pres em nt top (.exit id) (.exit id)
  | ret : CodeOk M P pres em nt top .ret .ret
  | scope {a x} : CodeOk M P pres em nt top a x → CodeOk M P pres em nt top (.scope a) (.scope x)
  | lift {c x i off k} : CodeOk M P pres em nt top c x → CodeOk M P pres em nt top c (.lift i off k x)
  | rng {g ps assign body f site n} : top = true → okX M (emR em) g f = true → em.Nodup → (∀ t ∈ em, t < nt) → n = em.length →
      (∀ fn tmps defers, nt ≤ tmps.size → M.site site ⟨fn, tmps, ps, assign, body, defers⟩ em) → CodeOk M P pres em nt top (.rangeFunc g ps assign body) (.rng n f site)
structure SR (M : Names) (em : List Tmp) (nt m0 : Nat) (c : Ctx) (w : World) (s : St) (a : Act) : Prop where
  sim : Sim M w c s.st
  tmp : TmpR M w c s.env [] (emR em) a.tmps
  size : nt ≤ a.tmps.size
  base : m0 ≤ w.heap.size
  marks : Marks m0 w c a.defers
section
variable {pres : Nat → Bool} {em : List Tmp} {nt : Nat} {top : Bool} {C : CallF} {n : Nat} {F : Fence} {n0 : Nat}
theorem nop_wp {c : Go.Code} (h : isNop c = true) {Q : Exit → Act → World → Prop} {a : Act} {w : World} (hq : Q .normal a w) : c.wpIn F n0 P Q a w := by
  cases c <;> simp [isNop] at h
  · exact wpIn_skip hq
  · exact wpIn_label hq
theorem exists_least {p : Nat → Prop} (h : ∃ k, p k) : ∃ k, p k ∧ ∀ j, p j → k ≤ j := by
  obtain ⟨k, hk⟩ := h
  induction k using Nat.strongRecOn with
  | _ k ih =>
    by_cases hl : ∃ j, j < k ∧ p j
    · obtain ⟨j, h1, h2⟩ := hl
      exact ih j h1 h2
    · exact ⟨k, hk, fun j hj => Nat.le_of_not_lt fun hlt => hl ⟨j, hlt, hj⟩⟩
open Classical in
noncomputable def least (p : Nat → Prop) : Nat := if h : ∃ k, p k ∧ ∀ j, p j → k ≤ j then Classical.choose h else 0
theorem least_spec {p : Nat → Prop} (h : ∃ k, p k) : p (least p) := by
  have h' := exists_least h
  unfold least
  rw [dif_pos h']
  exact (Classical.choose_spec h').1
theorem least_le {p : Nat → Prop} {k : Nat} (h : p k) : least p ≤ k := by
  have h' := exists_least ⟨k, h⟩
  unfold least
  rw [dif_pos h']
  exact (Classical.choose_spec h').2 k h
def Sound (M : Names) (P : Program) (em : List Tmp) (nt : Nat) (F : Fence) (n0 : Nat) (f : St → Option (Ex × St)) (code : Go.Code) : Prop :=
  ∀ (s : St) (e : Ex) (s' : St), f s = some (e, s') → ∀ (m0 : Nat) (c0 : Ctx) (w0 : World) (a0 : Act), Globs M w0 c0 → SR M em nt m0 c0 w0 s a0 → ∀ Q : Exit → Act → World → Prop,
    (∀ a w c, SR M em nt m0 c w s' a → Stp c0 w0 c w → Q (exitOf e) a w) → code.wpIn F n0 P Q a0 w0
theorem loop_sound {f : St → Option (Ex × St)} {code : Go.Code} (h : Sound M P em nt F n0 f code) (clr : List Nat) (k0 : Nat) : Sound M P em nt F n0 (fun s => loopN s.st.length clr f k0 ⟨clear s.env clr, s.st⟩) (.loop code) := by
  intro s e s' hr m0 c0 w0 a0 hg hs Q hQ
  have hN : c0.N = s.st.length := hs.sim.N
  let J : Nat → Act → World → Prop := fun k a w => ∃ s1 c, SR M em nt m0 c w s1 a ∧ Stp c0 w0 c w ∧ loopN s.st.length clr f k s1 = some (e, s')
  have hJ0 : J k0 a0 w0 := ⟨⟨clear s.env clr, s.st⟩, c0, ⟨hs.sim, hs.tmp.clear clr, hs.size, hs.base, hs.marks⟩, .refl c0 w0, hr⟩
  refine wpIn_loop (fun a w => ∃ k, J k a w) (fun a w => least fun k => J k a w) ⟨k0, hJ0⟩ fun a w hI => ?_
  have hk : J (least fun k => J k a w) a w := least_spec (p := fun k => J k a w) hI
  generalize hke : (least fun k => J k a w) = k at hk
  obtain ⟨s1, c, hs1, hst, hl⟩ := hk
  cases k with
  | zero => simp [loopN] at hl
  | succ k =>
    simp only [loopN] at hl
    obtain ⟨⟨e1, s2⟩, h1, h2⟩ := bind_eq_some hl
    refine h s1 e1 s2 h1 m0 c w a (hg.ext hst.toExt) hs1 _ fun a' w' c' hs2 hst2 => ?_
    cases e1 with
    | nrm =>
      obtain ⟨c'', r1, r2, r3, r4⟩ := roundEnd_R (clr := clr) hs2.sim (hst.trans hst2) hN hs2.tmp
      have hJ : J k a' w' := ⟨_, c'', ⟨r1, r3, hs2.size, hs2.base, hs2.marks.same r4⟩, r2, h2⟩
      refine ⟨⟨k, hJ⟩, ?_⟩
      exact Nat.lt_succ_of_le (least_le (p := fun k => J k a' w') hJ)
    | ext id =>
      simp only [Option.some.injEq, Prod.mk.injEq] at h2
      obtain ⟨rfl, rfl⟩ := h2
      exact hQ a' w' c' hs2 (hst.trans hst2)
    | ret =>
      simp only [Option.some.injEq, Prod.mk.injEq] at h2
      obtain ⟨rfl, rfl⟩ := h2
      exact hQ a' w' c' hs2 (hst.trans hst2)
theorem okX_env {w : World} {c : Ctx} {env : List AVal} {a : Act} {x : Operand} {x' : Opd} (ht : TmpR M w c env [] (emR em) a.tmps) (hg : Globs M w c) (h : okX M (emR em) x x' = true) : R M w c (x'.eval env []) (a.eval x) := okX_R ht hg h
theorem nodup_inj {α : Type} {l : List α} (h : l.Nodup) {i j : Nat} (hi : i < l.length) (hj : j < l.length) (e : l[i] = l[j]) : i = j := by
  have hp := List.pairwise_iff_getElem.1 h
  rcases Nat.lt_trichotomy i j with hlt | heq | hlt
  · exact absurd e (hp i j hi hj hlt)
  · exact heq
  · exact absurd e.symm (hp j i hj hi hlt)
theorem ArgsR.ext {w w' : World} {c c' : Ctx} {xs : List AVal} {A : Array Value} (h : ArgsR M w c xs A) (he : Ext c w c' w') : ArgsR M w' c' xs A :=
  ⟨h.1, fun i hi => let ⟨x, h1, h2⟩ := h.2 i hi; ⟨x, h1, h2.ext he⟩⟩
theorem idx_nodup {em : List Tmp} (hnd : em.Nodup) {i : Nat} {t : Tmp} (h : em[i]? = some t) : em.idxOf? t = some i := by
  obtain ⟨hi, he⟩ := List.getElem?_eq_some_iff.1 h
  rw [List.idxOf?, List.findIdx?_eq_some_iff_getElem]
  refine ⟨hi, by simp [he], fun j hj => ?_⟩
  have : em[j]'(by omega) ≠ t := fun e => by
    have := nodup_inj hnd (i := j) (j := i) (by omega) hi (e.trans he.symm)
    omega
  simpa using this
theorem value_wp (hF : Wide F) {o : Oper} {a : Act} {w w' : World} {v : Value} (hd : ∀ c, o.op ≠ .defer c) (h : (execOp a.eval o).run P w = .ok (.value v) w') {K : Act → World → Prop} {Q : Exit → Act → World → Prop} (hK : K (a.put o.dst v) w') : o.wpIn F n0 P a w K Q := by
  refine ⟨fun f _ => hF.fn f, ?_⟩
  rw [Oper.semAt_eq _ _ _ hd, h]
  exact hK
theorem head_wp (hF : Wide F) {rid : Nat} {o1 o2 : Oper} {t t1 t2 : Tmp} (e1 : o1.op = .next (.tmp t) false) (d1 : o1.dst = some t1) (g1 : o1.guard = none) (e2 : o2.op = .extract (.tmp t1) 0) (d2 : o2.dst = some t2) (g2 : o2.guard = none)
    {a : Act} {w w1 : World} {vs : Array Value} {b : Bool} (hrun : (Instr.next (a.tmps.getD t undef) false o1.type).run P w = .ok (.tuple vs) w1) (hv : vs[0]? = some (.bool b)) (ht1 : t1 < a.tmps.size) {Q : Exit → Act → World → Prop}
    (hQ : Q .normal ((a.put (some t1) (.tuple vs)).put (some t2) (.bool b)) w1) : (Code.region rid #[o1, o2] false).wpIn F n0 P Q a w := by
  apply wpIn_region
  show wpOpsIn F n0 P #[o1, o2] Q [0, 1] a w
  rw [wpOpsIn_cons]
  unfold wpOpIn
  have h0 : (#[o1, o2] : Array Oper)[0]? = some o1 := rfl
  have h1 : (#[o1, o2] : Array Oper)[1]? = some o2 := rfl
  have w0 : ∀ y, Region.wanted o1 y = true := fun y => by unfold Region.wanted; rw [g1]
  have w2 : ∀ y, Region.wanted o2 y = true := fun y => by unfold Region.wanted; rw [g2]
  simp only [h0, w0, if_true]
  refine value_wp hF (fun c => by rw [e1]; simp) (v := .tuple vs) (w' := w1) ?_ ?_
  · unfold execOp
    rw [e1]
    have : a.eval (.tmp t) = a.tmps.getD t undef := rfl
    simp only [this, Sem.run_bind, hrun, Result.andThen_ok, Sem.run_pure]
  · rw [wpOpsIn_cons]
    unfold wpOpIn
    simp only [h1, w2, if_true]
    refine value_wp hF (fun c => by rw [e2]; simp) (v := .bool b) (w' := w1) ?_ ?_
    · unfold execOp
      rw [e2]
      have : (a.put o1.dst (.tuple vs)).eval (.tmp t1) = .tuple vs := by
        rw [d1]
        show (a.tmps.setIfInBounds t1 _).getD t1 undef = _
        simp [Array.getD, ht1]
      simp [this, Instr.extract, hv]
    · rw [d1, d2]
      exact hQ
theorem head_tmp {w : World} {c : Ctx} {env : List AVal} {a : Act} {t1 t2 : Tmp} {ok : Nat} {vs : Array Value} {b : Bool} (h : TmpR M w c env [] (emR em) a.tmps) (hok : em[ok]? = some t2) (hnd : em.Nodup) (h1 : t1 ∉ em) (l2 : t2 < a.tmps.size) :
    TmpR M w c (env.set ok (.bool b)) [] (emR em) ((a.put (some t1) (.tuple vs)).put (some t2) (.bool b)).tmps := fun t x hx => by
  have hx0 := hx
  unfold emR at hx
  obtain ⟨i, hi, rfl⟩ := map_eq_some hx
  have hm : em[i]? = some t := by
    rw [List.idxOf?, List.findIdx?_eq_some_iff_getElem] at hi
    obtain ⟨a1, a2, _⟩ := hi
    rw [List.getElem?_eq_getElem a1]
    simpa using a2
  have hne : t ≠ t1 := fun e => h1 (e ▸ List.mem_of_getElem? hm)
  show R M w c (nth (env.set ok (.bool b)) i) (((a.tmps.setIfInBounds t1 (.tuple vs)).setIfInBounds t2 (.bool b)).getD t undef)
  by_cases ht : t = t2
  · subst ht
    have hio : i = ok := by
      have e1 := idx_nodup hnd hm
      rw [idx_nodup hnd hok] at e1
      exact (Option.some.inj e1).symm
    subst hio
    have e2 : ((a.tmps.setIfInBounds t1 (.tuple vs)).setIfInBounds t (.bool b)).getD t undef = .bool b := by
      simp [Array.getD, l2]
    rw [e2]
    unfold nth
    by_cases hl : i < env.length
    · rw [List.getElem?_set_self hl]; exact .bool
    · rw [List.getElem?_eq_none (by simp; omega)]; exact .any
  · have hio : ok ≠ i := fun e => by
      subst e
      rw [hok] at hm
      exact ht (Option.some.inj hm).symm
    have e2 : ((a.tmps.setIfInBounds t1 (.tuple vs)).setIfInBounds t2 (.bool b)).getD t undef = a.tmps.getD t undef := by
      simp only [Array.getD_eq_getD_getElem?, Array.getElem?_setIfInBounds_ne (Ne.symm ht), Array.getElem?_setIfInBounds_ne (Ne.symm hne)]
    rw [e2]
    have e3 : nth (env.set ok (.bool b)) i = nth env i := by
      unfold nth; rw [List.getElem?_set_ne hio]
    rw [e3]
    exact h t _ hx0
theorem Sim.tell {w : World} {c : Ctx} {σ : Store} (hs : Sim M w c σ) {id : Nat} {es : List (AVal × AVal)} {cur cur' : Option (AVal × AVal)} {k k' : Nat} (ho : σ[id]? = some (.mit es cur k)) (hobj : ObjOk M w c id (.mit es cur' k')) : Sim M w c (σ.set id (.mit es cur' k')) := by
  have hlt : id < σ.length := (List.getElem?_eq_some_iff.1 ho).1
  have hH : hd (σ.set id (.mit es cur' k')) = hd σ := by
    funext i
    by_cases hi : id = i
    · subst hi
      rw [hd_of (List.getElem?_set_self hlt), hd_of ho]
    · unfold hd; rw [List.getElem?_set_ne hi]
  refine ⟨by rw [hH]; exact hs.H, by rw [hs.N]; simp, hs.sb, hs.low, hs.plow, hs.inj, fun i o hoi => ?_⟩
  by_cases hi : id = i
  · subst hi
    rw [List.getElem?_set_self hlt] at hoi; cases hoi
    exact hobj
  · rw [List.getElem?_set_ne hi] at hoi
    exact hs.obj i o hoi
theorem mloop_sound {f : St → Option (Ex × St)} {rest : Go.Code} (h : Sound M P em nt F n0 f rest) (hF : Wide F) {clr : List Nat} {it ok rid : Nat} {o1 o2 : Oper} {t t1 t2 : Tmp} (e1 : o1.op = .next (.tmp t) false) (d1 : o1.dst = some t1) (g1 : o1.guard = none) (e2 : o2.op = .extract (.tmp t1) 0) (d2 : o2.dst = some t2) (g2 : o2.guard = none)
    (hit : em[it]? = some t) (hok : em[ok]? = some t2) (hnd : em.Nodup) (h1 : t1 ∉ em) (l1 : t1 < nt) (l2 : t2 < nt) : Sound M P em nt F n0 (mloopN clr it ok f) (.loop (.seq (.region rid #[o1, o2] false) rest)) := by
  intro s e s' hr m0 c0 w0 a0 hg hs Q hQ
  unfold mloopN at hr
  split at hr
  · rename_i id hid
    split at hr
    · rename_i es k ho
      dsimp only at hr
      split at hr
      · rename_i hc
        obtain ⟨hk, hall⟩ := hc
        obtain ⟨⟨e3, s3⟩, hfin, hr⟩ := bind_eq_some hr
        have hN : c0.N = s.st.length := hs.sim.N
        have hlt : id < s.st.length := (List.getElem?_eq_some_iff.1 ho).1
        generalize hE : clear s.env clr = env at *
        have hJ0 : SR M em nt m0 c0 w0 ⟨env, s.st.set id (.mit es none k)⟩ a0 := ⟨by
          have : s.st.set id (.mit es none k) = s.st := by
            obtain ⟨q1, q2⟩ := List.getElem?_eq_some_iff.1 ho
            rw [← q2]; exact List.set_getElem_self q1
          show Sim M w0 c0 (s.st.set id (.mit es none k))
          rw [this]; exact hs.sim, by rw [← hE]; exact hs.tmp.clear clr, hs.size, hs.base, hs.marks⟩
        let J : Nat → Act → World → Prop := fun j a w => ∃ c, SR M em nt m0 c w ⟨env, s.st.set id (.mit es none j)⟩ a ∧ Stp c0 w0 c w ∧ j ≤ es.length
        refine wpIn_loop (fun a w => ∃ j, J j a w) (fun a w => least fun j => J j a w) ⟨k, c0, hJ0, .refl c0 w0, by omega⟩ fun a w hI => ?_
        have hj : J (least fun j => J j a w) a w := least_spec (p := fun j => J j a w) hI
        generalize hje : (least fun j => J j a w) = j at hj
        obtain ⟨c, hs1, hst, hle⟩ := hj
        have hoj : (s.st.set id (.mit es none j))[id]? = some (.mit es none j) := List.getElem?_set_self hlt
        have hH : c.H id = .it := by rw [hs1.sim.H, hd_of hoj]
        obtain ⟨b, r, last, cl, seen, en, f', g', q1, q2, q3, q4, q5, q6, q7, q8, q9, q10, q11⟩ := hs1.sim.obj id _ hoj
        have hv : a.tmps.getD t undef = .pointer (some ⟨b, 0, none⟩) := by
          have := hs1.tmp t (.env it) (by unfold emR; rw [idx_nodup hnd hit]; rfl)
          have this' : R M w c (nth env it) (a.tmps.getD t undef) := this
          rw [hid] at this'
          generalize a.tmps.getD t undef = q at this'
          cases this' with
          | it a1 a2 a3 => rw [q1] at a3; cases a3; rfl
          | itOld a0 a1 a2 => rw [hH] at a2; cases a2
        have hborn : ∀ e ∈ en, e.born < cl := fun e he => by
          obtain ⟨i, hi, rfl⟩ := Array.mem_iff_getElem.1 he
          obtain ⟨e', p1, _, _, _, p5⟩ := q6 i (by omega)
          rw [Array.getElem?_eq_getElem hi] at p1
          cases p1; exact p5
        have hsz := hs1.size
        apply wpIn_seq
        rcases run_next_map (P := P) (T := o1.type) q2 q4 hborn q10 with ⟨w1, hrun, hheap, hsame, hno⟩ | ⟨en1, he, hns, w1, hrun, hset⟩
        · 
          refine head_wp hF e1 d1 g1 e2 d2 g2 (b := false) (by rw [hv]; exact hrun) rfl (Nat.lt_of_lt_of_le l1 hsz) ?_
          have hnil : (en.toList.filter fun e => !decide (e.born ∈ seen)).length ≤ 0 := by
            have : (en.toList.filter fun e => !decide (e.born ∈ seen)) = [] := by
              rw [List.filter_eq_nil_iff]
              intro x hx
              have := hno x (by simpa using hx)
              simp [this]
            rw [this]; exact Nat.le_refl _
          have hs2 : Sim M w c (s.st.set id (.mit es none 0)) := by
            have := hs1.sim.tell hoj (cur' := none) (k' := 0) ⟨b, r, last, cl, seen, en, f', g', q1, q2, q3, q4, q5, q6, q7, q8, hnil, q10, fun e h => by cases h⟩
            rwa [List.set_set] at this
          have hst1 : Stp c w c w1 := .ofHeap hheap hsame
          refine h ⟨env.set ok (.bool false), s.st.set id (.mit es none 0)⟩ e3 s3 hfin m0 c w1 _ (hg.ext (hst.trans hst1).toExt) ⟨hs2.heap hheap, head_tmp (hs1.tmp.ext hst1.toExt) hok hnd h1 (Nat.lt_of_lt_of_le l2 hsz), by simp [Act.put]; exact hsz, by rw [hheap]; exact hs1.base, hs1.marks.stp hst1⟩ _ fun a' w' c' hs3 hst3 => ?_
          cases e3 with
          | nrm => cases hr
          | ext q =>
            simp only [Option.some.injEq, Prod.mk.injEq] at hr
            obtain ⟨rfl, rfl⟩ := hr
            exact hQ a' w' c' hs3 ((hst.trans hst1).trans hst3)
          | ret =>
            simp only [Option.some.injEq, Prod.mk.injEq] at hr
            obtain ⟨rfl, rfl⟩ := hr
            exact hQ a' w' c' hs3 ((hst.trans hst1).trans hst3)
        · 
          refine head_wp hF e1 d1 g1 e2 d2 g2 (b := true) (by rw [hv]; exact hrun) rfl (Nat.lt_of_lt_of_le l1 hsz) ?_
          have hlive : c.H id ≠ .dead := by rw [hH]; simp
          have hbn := hs1.sim.plow id b hlive q1
          have hfind : ∃ i q, ∃ hi : i < es.length, en[i]? = some q ∧ en.find? (fun q => q.born == en1.born) = some q := by
            cases hq : en.find? (fun q => q.born == en1.born) with
            | none =>
              have := Array.find?_eq_none.1 hq en1 he
              simp at this
            | some q =>
              obtain ⟨i, hi, hqi⟩ := Array.mem_iff_getElem.1 (Array.mem_of_find?_eq_some hq)
              exact ⟨i, q, by omega, by rw [Array.getElem?_eq_getElem hi, hqi], rfl⟩
          obtain ⟨i, q, hi, p1, p2⟩ := hfind
          have hless : (en.toList.filter fun e => !decide (e.born ∈ seen.push en1.born)).length < (en.toList.filter fun e => !decide (e.born ∈ seen)).length := by
            refine filter_less (fun x _ hx => ?_) ⟨en1, by simpa using he, by simp [hns], by simp⟩
            simp only [Array.mem_push, Bool.not_eq_true', decide_eq_false_iff_not, not_or] at hx ⊢
            exact hx.1
          have hj0 : 0 < j := by omega
          have hext : Ext c w c w1 := ⟨fun _ h => h, fun _ h => h, fun y hy => by rw [hset.get _ hbn.1, if_neg (fun e => by subst e; exact hbn.2 (hy.elim (fun h => h) (hs1.sim.sb _)))], Nat.le_refl _, fun _ _ => .inl rfl, fun _ _ _ _ => ⟨rfl, rfl, rfl⟩⟩
          obtain ⟨e', y1, y2, y3, y4, _⟩ := q6 i hi
          have hqe : e' = q := Option.some.inj (y1.symm.trans p1)
          subst hqe
          have hrb : r ≠ b := fun e => by
            subst e
            exact hbn.2 (hs1.sim.sb _ q3)
          have hobj : ObjOk M w1 c id (.mit es (some es[i]) (j - 1)) := by
            have hes := hext.still false
            refine ⟨b, r, cl, cl, seen.push en1.born, en, f', g', q1, by rw [hset.get _ hbn.1, if_pos rfl], q3, by rw [hext.rest _ (.inr q3)]; exact q4, q5, q6, fun i hi => (q7 i hi).ext hes, fun i hi => (q8 i hi).ext hes, by omega, fun _ => rfl, fun e h => ?_⟩
            cases h
            exact ⟨rfl, en1.born, e', by simp, p2, by rw [y2]; exact (q7 i hi).ext hes, by rw [y3]; exact (q8 i hi).ext hes⟩
          obtain ⟨hs2, _⟩ := hs1.sim.setObj' hoj (by simp) (by rw [hd_of (List.getElem?_set_self (by simpa using hlt)), hd_of hoj]) q1 hset hobj
          rw [List.set_set] at hs2
          have hst1 : Stp c w c w1 := Stp.setB hs1.sim hlive q1 hset hext
          have hm := List.all_eq_true.1 hall (j - 1) (by simp; omega)
          have hm := List.all_eq_true.1 hm es[i] (List.getElem_mem hi)
          unfold mround at hm
          split at hm
          · rename_i s4 hf4
            simp only [Bool.and_eq_true] at hm
            obtain ⟨m1, m2⟩ := hm
            have m1 := sameL_eq m1
            have m2 := sameS_eq m2
            refine h ⟨env.set ok (.bool true), s.st.set id (.mit es (some es[i]) (j - 1))⟩ .nrm s4 hf4 m0 c w1 _ (hg.ext (hst.trans hst1).toExt) ⟨hs2, head_tmp (hs1.tmp.ext hst1.toExt) hok hnd h1 (Nat.lt_of_lt_of_le l2 hsz), by simp [Act.put]; exact hsz, Nat.le_trans hs1.base hst1.size, hs1.marks.stp hst1⟩ _ fun a' w' c' hs3 hst3 => ?_
            obtain ⟨c'', r1, r2, r3, r4⟩ := roundEnd_R (clr := clr) hs3.sim ((hst.trans hst1).trans hst3) hN hs3.tmp
            rw [m2] at r1
            rw [m1] at r3
            have ho4 : (s.st.set id (.mit es (some es[i]) (j - 1)))[id]? = some (.mit es (some es[i]) (j - 1)) := List.getElem?_set_self hlt
            obtain ⟨b', r', last', cl', seen', en', f'', g'', z1, z2, z3, z4, z5, z6, z7, z8, z9, z10, z11⟩ := r1.obj id _ ho4
            have hs5 : Sim M w' c'' (s.st.set id (.mit es none (j - 1))) := by
              have := r1.tell ho4 (cur' := none) (k' := j - 1) ⟨b', r', last', cl', seen', en', f'', g'', z1, z2, z3, z4, z5, z6, z7, z8, z9, z10, fun e h => by cases h⟩
              rwa [List.set_set] at this
            have hJ : J (j - 1) a' w' := ⟨c'', ⟨hs5, r3, hs3.size, hs3.base, hs3.marks.same r4⟩, r2, by omega⟩
            refine ⟨⟨j - 1, hJ⟩, ?_⟩
            have := least_le (p := fun j => J j a' w') hJ
            exact Nat.lt_of_le_of_lt this (by omega)
          · cases hm
      · cases hr
    · cases hr
  · cases hr
theorem rng_sound (hC : CallSound M P C) (hF : Wide F) (hro : F.round = none) {g : Operand} {ps : Array Tmp} {assign body : Go.Code} {f : Opd} {site : Nat} (hf : okX M (emR em) g f = true) (hnd : em.Nodup) (hnt : ∀ t ∈ em, t < nt) {s s' : St} {e : Ex} (hlen : s.env.length = em.length)
    (hsite : ∀ fn tmps defers, nt ≤ tmps.size → M.site site ⟨fn, tmps, ps, assign, body, defers⟩ em) {v : AVal} {σ' : Store} (h1 : callF C (f.eval s.env []) [.yld s.st.length site s.env] (s.st ++ [.pend false none]) = some (v, σ'))
    (h2 : jumped s.st.length s.env σ' = some (e, s')) {m0 : Nat} {c0 : Ctx} {w0 : World} {a0 : Act} (hg : Globs M w0 c0) (hs : SR M em nt m0 c0 w0 s a0) (Q : Exit → Act → World → Prop)
    (hQ : ∀ a w c, SR M em nt m0 c w s' a → Stp c0 w0 c w → Q (exitOf e) a w) : (Go.Code.rangeFunc g ps assign body).wpIn F n0 P Q a0 w0 := by
  have hfv := okX_env (env := s.env) hs.tmp hg hf
  unfold callF at h1
  split at h1
  · rename_i f0 first cap hfe
    rw [hfe] at hfv
    obtain ⟨fs, cs, he, hfirst, hcap⟩ := argsR_fn hfv
    apply wpIn_rangeFunc
    intro fn hfn
    generalize hrec : (⟨fn, a0.tmps, ps, assign, body, w0.heap.size⟩ : LoopRec) = rec
    have hent := run_enterLoop_outer (P := P) (w := w0) fn a0.tmps ps assign body
    rw [hro]
    have hd1 : ∀ b, b < w0.heap.size → (newW w0 (.deferred (some []))).heap[b]? = w0.heap[b]? := fun b hb => newW_get hb
    obtain ⟨s1, x1⟩ := hs.sim.over (w' := newW w0 (.deferred (some []))) (fun b hb _ => newW_get hb) (by rw [newW_size]; omega)
    have st1 : Stp c0 w0 c0 (newW w0 (.deferred (some []))) := { x1 with same := newW_same, size := by rw [newW_size]; omega, frame := fun b hb _ => newW_get hb, liv := fun i b h1 h2 _ => ⟨i, h1, h2⟩, old := fun _ h _ => .inl h, oldb := fun _ h _ => .inl h }
    generalize hw1 : newW w0 (.deferred (some [])) = w1 at s1 x1 st1
    have hz1 : w1.heap.size = w0.heap.size + 1 := by rw [← hw1, newW_size]
    have hgw : ∀ b, b < w1.heap.size → (newW w1 (.loop (recOf rec .ready none))).heap[b]? = w1.heap[b]? := fun b hb => newW_get hb
    have s2 : Sim M (newW w1 (.loop (recOf rec .ready none))) (c0.grow (s.st ++ [.pend false none]) (some w1.heap.size) 0 rec) (s.st ++ [.pend false none]) := by
      refine s1.grow _ _ _ _ hgw (by rw [newW_size]; omega) (fun b hb => by cases hb; rw [newW_size]; omega) ⟨w1.heap.size, by simp [Ctx.grow, s1.N], ?_⟩
      rw [newW_new]
      simp [Ctx.grow, s1.N]
    have st2 : Stp c0 w1 (c0.grow (s.st ++ [.pend false none]) (some w1.heap.size) 0 rec) (newW w1 (.loop (recOf rec .ready none))) :=
      Stp.grow s1 _ _ _ _ newW_same hgw (by rw [newW_size]; omega) (fun b hb => by cases hb; exact Nat.le_refl _)
    have hN : c0.N = s.st.length := hs.sim.N
    have hl2 : (c0.grow (s.st ++ [.pend false none]) (some w1.heap.size) 0 rec).loops s.st.length = rec := by simp [Ctx.grow, hN]
    have hp2 : (c0.grow (s.st ++ [.pend false none]) (some w1.heap.size) 0 rec).place s.st.length = some w1.heap.size := by simp [Ctx.grow, hN]
    have hH2 : (c0.grow (s.st ++ [.pend false none]) (some w1.heap.size) 0 rec).H s.st.length = .pend := by
      show hd (s.st ++ [.pend false none]) s.st.length = _
      rw [hd_of get_push]
    have hN2 : s.st.length < (c0.grow (s.st ++ [.pend false none]) (some w1.heap.size) 0 rec).N := by simp [Ctx.grow]
    generalize hc2 : c0.grow (s.st ++ [.pend false none]) (some w1.heap.size) 0 rec = c2 at s2 st2 hl2 hp2 hH2 hN2
    generalize hw2 : newW w1 (.loop (recOf rec .ready none)) = w2 at s2 st2
    have st02 := st1.trans st2
    have hyld : R M w2 c2 (.yld s.st.length site s.env) (.func (.yield w1.heap.size) #[] #[]) := by
      refine .yld (em := em) (fun i => a0.tmps.getD (em.getD i 0) undef) hN2 hH2 hp2 ?_ hlen.symm ?_ ?_
      · rw [hl2, ← hrec]; exact hsite _ _ _ hs.size
      · intro i hi hx
        have hlt : em[i] < a0.tmps.size := Nat.lt_of_lt_of_le (hnt _ (List.getElem_mem hi)) hs.size
        rw [hl2, ← hrec]
        show a0.tmps[em[i]]? = _
        simp [Array.getD, hi, hlt]
      · intro i hi
        have hi' : i < em.length := by omega
        have hr := hs.tmp em[i] (.env i) (by
          unfold emR
          rw [show em.idxOf? em[i] = some i by
            rw [List.idxOf?, List.findIdx?_eq_some_iff_getElem]
            refine ⟨hi', by simp, fun j hj => ?_⟩
            simp only [beq_iff_eq]
            exact fun e => absurd (nodup_inj hnd _ _ e) (by omega)]
          rfl)
        have e1 : (Opd.env i).eval s.env [] = s.env[i] := by
          show nth s.env i = _
          unfold nth
          rw [List.getElem?_eq_getElem hi]; rfl
        rw [e1] at hr
        simpa [List.getD, hi'] using hr.ext st02.toExt
    have hargs : ArgsR M w2 c2 (first ++ [.yld s.st.length site s.env] ++ cap) (fs ++ #[.func (.yield w1.heap.size) #[] #[]] ++ cs) :=
      ((ArgsR.ext hfirst st02.toExt).append ⟨rfl, fun i hi => by
        have : i = 0 := by simpa using hi
        subst this
        exact ⟨_, rfl, hyld⟩⟩).append (ArgsR.ext hcap st02.toExt)
    have hcall := hC f0 _ _ v σ' h1 F (n0 - 1) w2 c2 _ hF s2 (hg.ext st02.toExt) hargs
    have henter := hcall.2 ⟨.yld s.st.length site s.env, by simp, rfl⟩ (fs ++ #[.func (.yield w1.heap.size) #[] #[]] ++ cs) w2
    have hin : CallsIn F (n0 - 1) P (M.fm f0) (fs ++ #[.func (.yield w1.heap.size) #[] #[]] ++ cs) w2 fun e w' => ∃ cv, e = .returned cv ∧ CallPost M c2 w2 σ' v cv w' := by
      rcases hcall.1 with ⟨_, h⟩ | ⟨cv, w', h, _⟩
      · exact h
      · rw [henter] at h; cases h
    refine ⟨w0.heap.size + 1, [{ target := .collected w0.heap.size, args := #[] }], w2, { target := .fn (.func (M.fm f0)) cs, args := fs ++ #[.func (.yield w1.heap.size) #[] #[]] }, w2, M.fm f0, _, w2, ?_, ?_, fun f' _ => hF.fn f', ?_, fun h => absurd h (by rw [hF.depth]; simp), hin.mono ?_⟩
    · rw [hent, ← hw2, ← hw1, ← hrec]
      rfl
    · have : a0.eval g = .func (.func (M.fm f0)) fs cs := he
      simp only [rangeCall, Go.resolve, this, Deferred.ofValue, hz1]
      show Sem.run P (pure (⟨Target.fn (Fn.func (M.fm f0)) cs, fs ++ (#[Operand.const (Value.func (Fn.yield (w0.heap.size + 1)) #[] #[])].map a0.eval)⟩ : Deferred)) w2 = _
      simp [Act.eval]
    · exact henter
    · intro e' w' ⟨cv, hcv, c3, s3, st3, _⟩
      subst hcv
      have hst3 : ∃ j, σ'[s.st.length]? = some (.pend false j) ∧ e = (match j with | none => .nrm | some e => e) ∧ s' = ⟨s.env, σ'.set s.st.length .dead⟩ := by
        unfold jumped at h2
        split at h2
        · cases h2; exact ⟨none, by assumption, rfl, rfl⟩
        · cases h2; exact ⟨some _, by assumption, rfl, rfl⟩
        · cases h2
      obtain ⟨j, hj, hej, hs'⟩ := hst3
      have hH3 : c3.H s.st.length = .pend := by rw [s3.H, hd_of hj]
      obtain ⟨p1, p2, p3⟩ := st3.place s.st.length hN2 (by rw [hH2, hH3]) (by rw [hH2]; simp)
      obtain ⟨b, b1, b2⟩ := s3.obj _ _ hj
      rw [p1, hp2] at b1
      cases b1
      rw [p3, hl2] at b2
      have hl3 : c3.H s.st.length ≠ .dead := by rw [hH3]; simp
      have hp3 : c3.place s.st.length = some w1.heap.size := by rw [p1, hp2]
      obtain ⟨r, hrr, hnb, hpend⟩ : ∃ r : Loop, w'.heap[w1.heap.size]? = some (.loop r) ∧ r.state ≠ .busy ∧ r.pending = jumpOf e := by
        refine ⟨_, b2, ?_, ?_⟩
        · cases j <;> simp [recOf]
        · rw [hej]
          cases j with
          | none => rfl
          | some e => rfl
      have hend := run_endLoop (P := P) hrr hnb
      have hset : SetB w' (w'.putObj w1.heap.size (.loop { r with state := .exhausted })) w1.heap.size (.loop { r with state := .exhausted }) := ⟨⟨rfl, rfl, rfl, Nat.le_refl _⟩, rfl⟩
      obtain ⟨s4, st4⟩ := s3.drop hl3 hp3 hset
      have st := (st02.trans st3).trans st4
      have hmk : Marks m0 w2 c2 ({ target := .collected w0.heap.size, args := #[] } :: a0.defers) := by
        refine ⟨⟨w0.heap.size, rfl, ⟨hs.base, ?_, ?_, ?_⟩, fun d hd e => ?_⟩, hs.marks.stp st02⟩
        · rw [← hw2, newW_get (by omega), ← hw1, newW_new]
        · rw [← hc2]
          exact fun h => absurd (hs.sim.low _ h) (by omega)
        · intro id hl hpl
          obtain ⟨i, i1, i2⟩ := st2.liv id _ hl hpl (by omega)
          exact absurd (hs.sim.plow i _ i1 i2).1 (by omega)
        · obtain ⟨q, q1, q2⟩ := hs.marks.lt d hd
          rw [q1] at e
          cases e
          omega
      have hfin : SR M em nt m0 _ (w'.putObj w1.heap.size (.loop { r with state := .exhausted })) s' { a0 with defers := [{ target := .collected w0.heap.size, args := #[] }] ++ a0.defers } :=
        ⟨by rw [hs']; exact s4, by rw [hs']; exact fun t x hx => (hs.tmp t x hx).ext st.toExt, hs.size, Nat.le_trans hs.base st.size, hmk.stp (st3.trans st4)⟩
      have hq := hQ _ _ _ hfin st
      generalize w'.putObj w1.heap.size (.loop { r with state := .exhausted }) = W at hend hq
      rw [hpend, hz1] at hend
      refine ⟨jumpOf e, W, hend, ?_⟩
      cases e with
      | nrm => exact hq
      | ext id => exact wpIn_exit hq
      | ret => exact wpIn_ret hq
  · cases h1
theorem Sim.reval {w : World} {c : Ctx} {σ : Store} (hs : Sim M w c σ) {id k ep : Nat} {es es' : List AVal} (ho : σ[id]? = some (.arr k ep es)) (hl : es'.length = es.length) (hn : ∀ x ∈ es', ncells x = k)
    (hr : ∀ f : Nat → Nat → Value, (∀ i (hi : i < es.length) j (hj : j < (cellsOf es[i]).length), R M w c (cellsOf es[i])[j] (f i j)) → ∀ i (hi : i < es'.length) j (hj : j < (cellsOf es'[i]).length), R M w c (cellsOf es'[i])[j] (f i j)) :
    Sim M w c (σ.set id (.arr k ep es')) := by
  have hsz : id < σ.length := (List.getElem?_eq_some_iff.1 ho).1
  have hself : (σ.set id (.arr k ep es'))[id]? = some (.arr k ep es') := by simp [hsz]
  have hH : hd (σ.set id (.arr k ep es')) = hd σ := by
    funext i
    by_cases e : i = id
    · subst e
      rw [hd_of hself, hd_of ho]
    · rw [hd_set_ne e]
  refine ⟨by rw [hH]; exact hs.H, by rw [List.length_set]; exact hs.N, hs.sb, hs.low, hs.plow, hs.inj, fun i o hoi => ?_⟩
  by_cases e : i = id
  · subst e
    rw [hself] at hoi
    cases hoi
    obtain ⟨o1, o2, o3, o4⟩ := hs.obj i _ ho
    refine ⟨o1, hn, fun hp => List.eq_nil_of_length_eq_zero (by rw [hl, o3 hp]; rfl), fun b hb => ?_⟩
    obtain ⟨cs, T, f, q1, q2, q3, q4, q5⟩ := o4 b hb
    exact ⟨cs, T, f, q1, by rw [hl]; exact q2, q3, fun i j hi hj => q4 i j (by omega) hj, hr f q5⟩
  · rw [List.getElem?_set_ne (fun h => e h.symm)] at hoi
    exact hs.obj i o hoi
theorem liftAt_R {w : World} {c : Ctx} {σ σ' : Store} (hs : Sim M w c σ) {id ep j p0 k : Nat} (h : liftAt id ep j p0 k σ = some σ') : ∃ c', Sim M w c' σ' ∧ Stp c w c' w := by
  unfold liftAt at h
  split at h
  · rename_i k' e es ho
    split at h
    · rename_i hc
      obtain ⟨_, hk⟩ := hc
      split at h
      · rename_i cs hes
        split at h
        · rename_i hcs
          cases h
          obtain ⟨hj, hej⟩ := List.getElem?_eq_some_iff.1 hes
          obtain ⟨hq, heq⟩ := List.getElem?_eq_some_iff.1 hcs
          have hid : id < σ.length := (List.getElem?_eq_some_iff.1 ho).1
          obtain ⟨c', s1, s2, s3⟩ := mknil_R hs hk none
          have ho' : (σ ++ [.arr k 0 []])[id]? = some (.arr k' e es) := by rw [List.getElem?_append_left hid]; exact ho
          have hH : c'.H σ.length = .arr k 0 := by rw [s1.H, hd_of get_push]
          have hN : σ.length < c'.N := by rw [s1.N]; simp
          refine ⟨c', ?_, s2⟩
          have := s1.reval (es' := es.set j (.agg (cs.set p0 (.sl σ.length 0 0 0)))) ho' (by simp) (fun x hx => ?_) (fun f hf i hi q hq' => ?_)
          · rwa [List.set_append_left _ _ hid] at this
          · obtain ⟨_, o2, _⟩ := hs.obj id _ ho
            rcases List.mem_or_eq_of_mem_set hx with hx | rfl
            · exact o2 x hx
            · rw [← o2 es[j] (List.getElem_mem hj), hej]
              simp [ncells]
          · have hi' : i < es.length := by simpa using hi
            by_cases e1 : i = j
            · subst e1
              have e2 : (es.set i (.agg (cs.set p0 (.sl σ.length 0 0 0))))[i] = .agg (cs.set p0 (.sl σ.length 0 0 0)) := by simp
              simp only [e2] at hq' ⊢
              have key : ∀ q (hq : q < (cs.set p0 (.sl σ.length 0 0 0)).length), R M w c' (cs.set p0 (.sl σ.length 0 0 0))[q] (f i q) := fun q hq => by
                have hql : q < cs.length := by simpa using hq
                have hold : R M w c' cs[q] (f i q) := by
                  have := hf i hi' q (by rw [hej]; exact hql)
                  simp only [hej] at this
                  exact this
                by_cases e3 : q = p0
                · subst e3
                  rw [List.getElem_set_self]
                  rw [heq] at hold
                  generalize f i q = v at hold
                  cases hold with
                  | nil0 => exact .sl0 hN hH
                · rw [List.getElem_set_ne (fun h => e3 h.symm)]
                  exact hold
              exact key q hq'
            · have e2 : (es.set j (.agg (cs.set p0 (.sl σ.length 0 0 0))))[i] = es[i] := by rw [List.getElem_set_ne (fun h => e1 h.symm)]
              simp only [e2] at hq' ⊢
              exact hf i hi' q hq'
        · cases h
      · rename_i hes
        split at h
        · cases h
          obtain ⟨hj, hej⟩ := List.getElem?_eq_some_iff.1 hes
          have hid : id < σ.length := (List.getElem?_eq_some_iff.1 ho).1
          obtain ⟨c', s1, s2, s3⟩ := mknil_R hs hk none
          have ho' : (σ ++ [.arr k 0 []])[id]? = some (.arr k' e es) := by rw [List.getElem?_append_left hid]; exact ho
          have hH : c'.H σ.length = .arr k 0 := by rw [s1.H, hd_of get_push]
          have hN : σ.length < c'.N := by rw [s1.N]; simp
          refine ⟨c', ?_, s2⟩
          have := s1.reval (es' := es.set j (.sl σ.length 0 0 0)) ho' (by simp) (fun x hx => ?_) (fun f hf i hi q hq' => ?_)
          · rwa [List.set_append_left _ _ hid] at this
          · obtain ⟨_, o2, _⟩ := hs.obj id _ ho
            rcases List.mem_or_eq_of_mem_set hx with hx | rfl
            · exact o2 x hx
            · rw [← o2 es[j] (List.getElem_mem hj), hej]
              rfl
          · have hi' : i < es.length := by simpa using hi
            by_cases e1 : i = j
            · subst e1
              have e2 : (es.set i (.sl σ.length 0 0 0))[i] = .sl σ.length 0 0 0 := by simp
              simp only [e2] at hq' ⊢
              have hq0 : q = 0 := by simpa [cellsOf] using hq'
              subst hq0
              show R M w c' (.sl σ.length 0 0 0) _
              have hold : R M w c' .nil0 (f i 0) := by
                have := hf i hi' 0 (by rw [hej]; simp [cellsOf])
                simp only [hej] at this
                exact this
              generalize f i 0 = v at hold
              cases hold with
              | nil0 => exact .sl0 hN hH
            · have e2 : (es.set j (.sl σ.length 0 0 0))[i] = es[i] := by rw [List.getElem_set_ne (fun h => e1 h.symm)]
              simp only [e2] at hq' ⊢
              exact hf i hi' q hq'
        · cases h
      · cases h
    · cases h
  · cases h
theorem liftAll_R {id ep k : Nat} : ∀ (n : Nat) {w : World} {c : Ctx} {σ σ' : Store}, Sim M w c σ → liftAll id ep k n σ = some σ' → ∃ c', Sim M w c' σ' ∧ Stp c w c' w
  | 0, w, c, σ, σ', hs, h => by cases h; exact ⟨c, hs, .refl c w⟩
  | n + 1, w, c, σ, σ', hs, h => by
    unfold liftAll at h
    obtain ⟨σ1, h1, h2⟩ := bind_eq_some h
    obtain ⟨c1, s1, t1⟩ := liftAll_R n hs h1
    obtain ⟨c2, s2, t2⟩ := liftAt_R s1 h2
    exact ⟨c2, s2, t1.trans t2⟩
theorem lift_R {w : World} {c : Ctx} {σ σ' : Store} (hs : Sim M w c σ) {p : AVal} {off k : Nat} (h : liftV p off k σ = some σ') : ∃ c', Sim M w c' σ' ∧ Stp c w c' w := by
  unfold liftV at h
  split at h
  · exact liftAt_R hs h
  · split at h
    · split at h
      · exact liftAll_R _ hs h
      · cases h
    · exact liftAt_R hs h
  · cases h
theorem exec_sound (hm : P.follows .mixedOrders = true) (hp : Keeps pres C) (hC : CallSound M P C) (hR : RoundSound M P C) (hF : Wide F) (htop : top = true → F.round = none) {code : Go.Code} {x : ACode} (h : CodeOk M P pres em nt top code x) : Sound M P em nt F n0 (exec C n x) code := by
  induction h with
  | nop hc =>
    intro s e s' hr m0 c0 w0 a0 hg hs Q hQ
    simp only [exec, Option.some.injEq, Prod.mk.injEq] at hr
    obtain ⟨rfl, rfl⟩ := hr
    exact nop_wp hc (hQ a0 w0 c0 hs (.refl c0 w0))
  | @text id ops ins os its hok hos =>
    intro s e s' hr m0 c0 w0 a0 hg hs Q hQ
    simp only [exec] at hr
    obtain ⟨⟨ls, σ'⟩, h1, h2⟩ := map_eq_some hr
    cases h2
    obtain ⟨st, t1, t2, t3⟩ := trace_of h1
    refine region_text hok t1 hp (fun n j I h => by cases h) hC hR hF hg (by rw [t2]; exact hs.sim) hs.tmp hs.size hos (fun a w hf => ?_) id
    obtain ⟨c, f1, f2, f3, f4, f5⟩ := hf
    rw [t3] at f1
    exact hQ a w c ⟨f1, f3, by rw [f4]; exact hs.size, Nat.le_trans hs.base f2.size, by rw [f5]; exact hs.marks.stp f2⟩ f2
  | @any id ops ins os its bef late hok he hos =>
    intro s e s' hr m0 c0 w0 a0 hg hs Q hQ
    simp only [exec] at hr
    obtain ⟨⟨ls, σ'⟩, h1, h2⟩ := map_eq_some hr
    cases h2
    obtain ⟨st, t1, t2, t3⟩ := trace_of h1
    refine region_any hm he hok t1 hp (fun n j I h => by cases h) hC hR hF hg (by rw [t2]; exact hs.sim) hs.tmp hs.size hos (fun a w hf => ?_) id
    obtain ⟨c, f1, f2, f3, f4, f5⟩ := hf
    rw [t3] at f1
    exact hQ a w c ⟨f1, f3, by rw [f4]; exact hs.size, Nat.le_trans hs.base f2.size, by rw [f5]; exact hs.marks.stp f2⟩ f2
  | @anyd id ops ins os its bef chk late hok he hos =>
    intro s e s' hr m0 c0 w0 a0 hg hs Q hQ
    simp only [exec] at hr
    obtain ⟨⟨ls, ss, σ'⟩, h1, h2⟩ := bind_eq_some hr
    obtain ⟨u, hc, h3⟩ := map_eq_some h2
    cases h3
    obtain ⟨st, t1, t2, t3, t4⟩ := traceT_of h1 hc
    refine region_any hm he hok t1 hp t4 hC hR hF hg (by rw [t2]; exact hs.sim) hs.tmp hs.size hos (fun a w hf => ?_) id
    obtain ⟨c, f1, f2, f3, f4, f5⟩ := hf
    rw [t3] at f1
    exact hQ a w c ⟨f1, f3, by rw [f4]; exact hs.size, Nat.le_trans hs.base f2.size, by rw [f5]; exact hs.marks.stp f2⟩ f2
  | @seq a b x y _ _ ih1 ih2 =>
    intro s e s' hr m0 c0 w0 a0 hg hs Q hQ
    simp only [exec] at hr
    obtain ⟨⟨e1, s1⟩, h1, h2⟩ := bind_eq_some hr
    apply wpIn_seq
    refine ih1 s e1 s1 h1 m0 c0 w0 a0 hg hs _ fun a1 w1 c1 hs1 hst1 => ?_
    cases e1 with
    | nrm =>
      exact ih2 s1 e s' h2 m0 c1 w1 a1 (hg.ext hst1.toExt) hs1 Q fun a2 w2 c2 hs2 hst2 => hQ a2 w2 c2 hs2 (hst1.trans hst2)
    | ext id =>
      simp only [Option.some.injEq, Prod.mk.injEq] at h2
      obtain ⟨rfl, rfl⟩ := h2
      exact hQ a1 w1 c1 hs1 hst1
    | ret =>
      simp only [Option.some.injEq, Prod.mk.injEq] at h2
      obtain ⟨rfl, rfl⟩ := h2
      exact hQ a1 w1 c1 hs1 hst1
  | @left a b x hb _ ih =>
    intro s e s' hr m0 c0 w0 a0 hg hs Q hQ
    apply wpIn_seq
    refine ih s e s' hr m0 c0 w0 a0 hg hs _ fun a1 w1 c1 hs1 hst1 => ?_
    have := hQ a1 w1 c1 hs1 hst1
    cases e with
    | nrm => exact nop_wp hb this
    | ext id => exact this
    | ret => exact this
  | @right a b y ha _ ih =>
    intro s e s' hr m0 c0 w0 a0 hg hs Q hQ
    apply wpIn_seq
    exact nop_wp ha (ih s e s' hr m0 c0 w0 a0 hg hs Q hQ)
  | @cond t a b t' x y ht _ _ ih1 ih2 =>
    intro s e s' hr m0 c0 w0 a0 hg hs Q hQ
    have hc := okX_env (env := s.env) hs.tmp hg ht
    simp only [exec] at hr
    split at hr
    · rename_i he
      rw [he] at hc
      have hv : a0.eval t = .bool true := by
        generalize a0.eval t = q at hc
        cases hc; rfl
      exact wpIn_cond_true hv (ih1 s e s' hr m0 c0 w0 a0 hg hs Q hQ)
    · rename_i he
      rw [he] at hc
      have hv : a0.eval t = .bool false := by
        generalize a0.eval t = q at hc
        cases hc; rfl
      exact wpIn_cond_false hv (ih2 s e s' hr m0 c0 w0 a0 hg hs Q hQ)
    · cases hr
  | @blk id a x _ ih =>
    intro s e s' hr m0 c0 w0 a0 hg hs Q hQ
    simp only [exec] at hr
    obtain ⟨⟨e1, s1⟩, h1, h2⟩ := map_eq_some hr
    apply wpIn_block
    refine ih s e1 s1 h1 m0 c0 w0 a0 hg hs _ fun a1 w1 c1 hs1 hst1 => ?_
    cases e1 with
    | nrm =>
      cases h2
      exact hQ a1 w1 c1 hs1 hst1
    | ret =>
      cases h2
      exact hQ a1 w1 c1 hs1 hst1
    | ext j =>
      simp only at h2
      show if j = id then Q .normal a1 w1 else Q (.exit j) a1 w1
      split at h2
      · rename_i hj
        cases h2
        rw [if_pos hj]
        exact hQ a1 w1 c1 hs1 hst1
      · rename_i hj
        cases h2
        rw [if_neg hj]
        exact hQ a1 w1 c1 hs1 hst1
  | @loop clr a x _ ih => exact loop_sound ih clr n
  | mloop e1 d1 g1 e2 d2 g2 hit hok hnd h1 l1 l2 _ ih => exact mloop_sound ih hF e1 d1 g1 e2 d2 g2 hit hok hnd h1 l1 l2
  | exit =>
    intro s e s' hr m0 c0 w0 a0 hg hs Q hQ
    simp only [exec, Option.some.injEq, Prod.mk.injEq] at hr
    obtain ⟨rfl, rfl⟩ := hr
    exact wpIn_exit (hQ a0 w0 c0 hs (.refl c0 w0))
  | ret =>
    intro s e s' hr m0 c0 w0 a0 hg hs Q hQ
    simp only [exec, Option.some.injEq, Prod.mk.injEq] at hr
    obtain ⟨rfl, rfl⟩ := hr
    exact wpIn_ret (hQ a0 w0 c0 hs (.refl c0 w0))
  | @scope a x _ ih =>
    intro s e s' hr m0 c0 w0 a0 hg hs Q hQ
    apply wpIn_scope
    refine ih s e s' hr m0 c0 w0 a0 hg hs _ fun a1 w1 c1 hs1 hst1 => ?_
    have := hQ a1 w1 c1 hs1 hst1
    cases e <;> exact this
  | @lift code x i off k _ ih =>
    intro s e s' hr m0 c0 w0 a0 hg hs Q hQ
    simp only [exec] at hr
    obtain ⟨σ, h1, h2⟩ := bind_eq_some hr
    obtain ⟨c1, l1, l2⟩ := lift_R hs.sim h1
    exact ih ⟨s.env, σ⟩ e s' h2 m0 c1 w0 a0 (hg.ext l2.toExt) ⟨l1, fun t x hx => (hs.tmp t x hx).ext l2.toExt, hs.size, hs.base, hs.marks.stp l2⟩ Q fun a w c hs1 hst => hQ a w c hs1 (l2.trans hst)
  | @rng g ps assign body f site n htop' hf hnd hnt hn hsite =>
    intro s e s' hr m0 c0 w0 a0 hg hs Q hQ
    simp only [exec] at hr
    split at hr
    · rename_i hlen
      obtain ⟨⟨v, σ'⟩, h1, h2⟩ := bind_eq_some hr
      refine rng_sound hC hF (htop htop') hf hnd hnt (by rw [hlen, hn]) hsite h1 h2 hg hs Q hQ
    · cases hr
end
end Go.AM

namespace Go.AM
variable {M : Names} {P : Program} {w : World} {c : Ctx} {σ : Store}
def Ctx.lent (c : Ctx) (w : World) : Ctx := { c with bor := fun b => b < w.heap.size, H := hd [], N := 0, place := fun _ => none }
theorem Sim.lent (hs : Sim M w c σ) : Sim M w (c.lent w) [] where
  H := rfl
  N := rfl
  sb := fun b h => hs.low b (hs.sb b h)
  low := fun b h => h
  plow := fun id b h => absurd (by rfl) h
  inj := fun i j b h => absurd (by rfl) h
  obj := fun id o h => by cases h
theorem turn_lent (hs : Sim M w c σ) : Turn true 0 c (c.lent w) where
  sld := fun b h => h
  sb := fun b h => hs.low b (hs.sb b h)
  bor := fun b h => hs.low b h
  gone := fun id b _ h1 h2 => (hs.plow id b h1 h2).1
  N := fun id h => absurd h (Nat.not_lt_zero _)
  keep := fun id h => absurd h (Nat.not_lt_zero _)
theorem snap_R (hs : Sim M w c σ) {v : AVal} {cv : Value} (h : R M w c v cv) : R M w (c.lent w) (snap σ v) cv :=
  (fz_R hs (turn_lent hs) fuel false v cv h).ext (Ext.ofStill (turn_lent hs).sb true)
theorem globs_lent (hs : Sim M w c σ) (hg : Globs M w c) : Globs M w (c.lent w) := fun g a h =>
  (fz_R hs (turn_lent hs) 1 false _ _ (hg g a h)).ext (Ext.ofStill (turn_lent hs).sb true)
theorem enter_tmp {em : List Tmp} {np nenv nt : Nat} {args : List AVal} {cargs : Array Value} (hem : em.take np = List.range np) (hnp : np ≤ em.length) (hsz : cargs.size = args.length) (hr : ∀ i (h : i < args.length), ∃ x, cargs[i]? = some x ∧ R M w c args[i] x) :
    TmpR M w c (args.take np ++ List.replicate (nenv - np) .any) [] (emR em) (cargs ++ Array.replicate (nt - cargs.size) undef) := fun t x hx => by
  unfold emR at hx
  obtain ⟨e, he, rfl⟩ := map_eq_some hx
  show R M w c (nth _ e) _
  rw [List.idxOf?, List.findIdx?_eq_some_iff_getElem] at he
  obtain ⟨h1, h2, _⟩ := he
  by_cases hlt : e < (args.take np).length
  · have hlt' : e < np ∧ e < args.length := by rw [List.length_take] at hlt; omega
    have e1 : nth (args.take np ++ List.replicate (nenv - np) .any) e = args[e]'hlt'.2 := by
      unfold nth
      rw [List.getElem?_append_left hlt, List.getElem?_eq_getElem hlt]
      simp
    have e2 : t = e := by
      have h3 : (em.take np)[e]? = some e := by rw [hem]; simp [hlt'.1]
      rw [List.getElem?_take, if_pos hlt'.1, List.getElem?_eq_getElem h1] at h3
      have h4 : em[e] = t := by simpa using h2
      rw [← h4]; exact Option.some.inj h3
    subst e2
    rw [e1]
    obtain ⟨x, x1, x2⟩ := hr t hlt'.2
    rw [Array.getD_eq_getD_getElem?, Array.getElem?_append_left (by omega), x1]
    exact x2
  · have e1 : nth (args.take np ++ List.replicate (nenv - np) .any) e = .any := by
      unfold nth
      rw [List.getElem?_append_right (by omega), List.getElem?_replicate]
      split <;> rfl
    rw [e1]; exact .any
end Go.AM

namespace Go.AM
variable {M : Names} {P : Program} {w : World} {c : Ctx}
def resOk (P : Program) (em : List Tmp) : Res → ResultVar → Bool
  | .env i, .tmp t => em.idxOf? t == some i
  | .cell a n i, .cell t T => em.idxOf? t == some i && tyOk P T a n
  | _, _ => false
def resOne (tmps : Array Value) : ResultVar → Sem Value
  | .tmp t => pure (tmps.getD t undef)
  | .cell a t => do loadVar t (← asAddr (tmps.getD a undef))
theorem run_asAddr {T : TypeId} {cp cv : Value} (h : (Instr.loadAt T cp).run P w = .ok cv w) : (do loadVar T (← asAddr cp) : Sem Value).run P w = .ok cv w := by
  unfold Instr.loadAt at h
  cases cp with
  | pointer a =>
    cases a with
    | some a => exact h
    | none => simp [Instr.sureAddr, stuck] at h
  | _ => simp [Instr.sureAddr, stuck] at h
theorem resOne_R {s : St} {em : List Tmp} {tmps : Array Value} (hs : Sim M w c s.st) (ht : TmpR M w c s.env [] (emR em) tmps) {r : Res} {q : ResultVar} (hok : resOk P em r q = true) {v : AVal} (h : getRes s r = some v) :
    ∃ cv, (resOne tmps q).run P w = .ok cv w ∧ R M w c v cv := by
  unfold resOk at hok
  split at hok
  · rename_i i t
    simp only [getRes, Option.some.injEq] at h
    subst h
    refine ⟨_, rfl, ?_⟩
    exact ht t (.env i) (by unfold emR; rw [show em.idxOf? t = some i by simpa using hok]; rfl)
  · rename_i a n i t T
    simp only [Bool.and_eq_true, beq_iff_eq] at hok
    have hr := ht t (.env i) (by unfold emR; rw [hok.1]; rfl)
    obtain ⟨cv, h1, h2⟩ := load_R (P := P) hs hr hok.2 h
    exact ⟨cv, run_asAddr h1, h2⟩
  · cases hok
theorem ress_R {s : St} {em : List Tmp} {tmps : Array Value} (hs : Sim M w c s.st) (ht : TmpR M w c s.env [] (emR em) tmps) : ∀ {l : List Res} {qs : List ResultVar} {vs : List AVal}, l.length = qs.length → ((l.zip qs).all fun p => resOk P em p.1 p.2) = true → getRess s l = some vs →
    ∃ cvs : List Value, (qs.mapM (resOne tmps)).run P w = .ok cvs w ∧ cvs.length = vs.length ∧ ∀ i (h : i < vs.length) (h' : i < cvs.length), R M w c vs[i] cvs[i]
  | [], [], vs, _, _, h => by
    simp only [getRess, Option.some.injEq] at h
    subst h
    exact ⟨[], by simp, rfl, fun i h => absurd h (by simp)⟩
  | [], _ :: _, _, h, _, _ => by simp at h
  | _ :: _, [], _, h, _, _ => by simp at h
  | r :: l, q :: qs, vs, hl, hok, h => by
    simp only [List.zip_cons_cons, List.all_cons, Bool.and_eq_true] at hok
    simp only [getRess] at h
    obtain ⟨v, h1, h⟩ := bind_eq_some h
    obtain ⟨vs', h2, rfl⟩ := map_eq_some h
    obtain ⟨cv, c1, c2⟩ := resOne_R (P := P) hs ht hok.1 h1
    obtain ⟨cvs, d1, d2, d3⟩ := ress_R hs ht (by simpa using hl) hok.2 h2
    refine ⟨cv :: cvs, ?_, by simp [d2], fun i hi hi' => ?_⟩
    · rw [List.mapM_cons]
      simp [c1, d1]
    · cases i with
      | zero => exact c2
      | succ i => exact d3 i (by simpa using hi) (by simpa using hi')
theorem results_R {s : St} {em : List Tmp} {tmps : Array Value} (hs : Sim M w c s.st) (ht : TmpR M w c s.env [] (emR em) tmps) {fn : Func} {l : List Res} (hl : l.length = fn.results.toList.length) (hok : ((l.zip fn.results.toList).all fun p => resOk P em p.1 p.2) = true) {v : AVal} (h : results s l = some v) :
    ∃ cv, (Go.results fn tmps).run P w = .ok cv w ∧ R M w c v cv := by
  unfold results at h
  obtain ⟨vs, h1, h2⟩ := map_eq_some h
  obtain ⟨cvs, d1, d2, d3⟩ := ress_R (P := P) hs ht hl hok h1
  have hm : (fn.results.mapM (resOne tmps)).run P w = .ok cvs.toArray w := by
    rw [Array.mapM_eq_mapM_toList]
    simp [d1]
  have hres : (Go.results fn tmps).run P w = .ok (if h : cvs.toArray.size = 1 then cvs.toArray[0] else .tuple cvs.toArray) w := by
    have e : Go.results fn tmps = (do let vs ← fn.results.mapM (resOne tmps); pure (if h : vs.size = 1 then vs[0] else .tuple vs) : Sem Value) := by
      unfold Go.results
      congr 1
    rw [e]
    simp only [Sem.run_bind, hm, Result.andThen_ok]
    rfl
  refine ⟨_, hres, ?_⟩
  cases vs with
  | nil =>
    have : cvs = [] := List.eq_nil_of_length_eq_zero (by simpa using d2)
    subst this; subst h2
    exact .tup (fun _ => undef) rfl (fun i h => absurd h (by simp)) (fun i h => absurd h (by simp))
  | cons x vs =>
    cases vs with
    | nil =>
      subst h2
      obtain ⟨y, rfl⟩ := List.length_eq_one_iff.1 (show cvs.length = 1 by simpa using d2)
      exact d3 0 (by simp) (by simp)
    | cons x2 vs =>
      subst h2
      have hne : ¬ (cvs.toArray.size = 1) := by simp at d2 ⊢; omega
      rw [dif_neg hne]
      refine .tup (fun i => cvs.getD i undef) (by simpa using d2) (fun i hi => ?_) (fun i hi => ?_)
      · have hi' : i < cvs.length := by omega
        simp [hi']
      · have hi' : i < cvs.length := by omega
        have := d3 i hi hi'
        simpa [hi'] using this
end Go.AM

namespace Go.AM
variable {M : Names} {P : Program} {w w' : World} {c c1 : Ctx} {σ τ : Store}
def Ctx.with (c d : Ctx) : Ctx := { c with sld := fun b => c.sld b ∨ d.sld b, bor := fun b => c.bor b ∨ d.sld b }
theorem pure_back (hs : Sim M w c σ) (hst : Stp (c.lent w) w c1 w') (hs1 : Sim M w' c1 τ) :
    ∃ c2, Sim M w' c2 σ ∧ Stp c w c2 w' ∧ (∀ v cv, R M w' c1 v cv → R M w' c2 (frozen τ v) cv) ∧
      (∀ x (f : Nat → Value), (∀ j (hj : j < (cellsOf x).length), R M w' c1 (cellsOf x)[j] (f j)) → ∀ j (hj : j < (cellsOf (frozen τ x)).length), R M w' (c2.still false) (cellsOf (frozen τ x))[j] (f j)) ∧
      (∀ b, c2.bor b → c.bor b ∨ c1.sld b ∨ ∃ id, c1.H id ≠ .dead ∧ c1.place id = some b) ∧ c2.H = c.H ∧ c2.place = c.place := by
  have hS := hs1.sealUp (Nat.zero_le τ.length)
  have hT := hst.sealUp hs1 (base := 0) rfl (Nat.zero_le _)
  generalize hd' : c1.sealUp 0 (sealed 0 τ) = d at hS hT
  have frame : ∀ b, b < w.heap.size → w'.heap[b]? = w.heap[b]? := fun b hb => hT.frame b hb fun id h => absurd (by rfl) h
  have old : ∀ b, d.sld b → b < w.heap.size → c.sld b := fun b h hb => by
    rcases hT.old b h hb with h | ⟨i, h, _⟩
    · exact h
    · exact absurd (by rfl) h
  have hext : Ext c w (c.with d) w' := ⟨fun b h => .inl h, fun b h => .inl h, fun b h => frame b (hs.low b (h.elim (fun h => h) (hs.sb b))), Nat.le_refl _, fun _ _ => .inl rfl, fun _ _ _ _ => ⟨rfl, rfl, rfl⟩⟩
  refine ⟨c.with d, ⟨hs.H, hs.N, fun b h => h.imp (hs.sb b) fun h => h, fun b h => ?_, fun id b h1 h2 => ?_, hs.inj, fun id o ho => ?_⟩, { hext with same := hT.same, size := hT.size, frame := fun b hb _ => frame b hb, liv := fun id b h1 h2 _ => ⟨id, h1, h2⟩, old := fun b h hb => h.elim .inl fun h => .inl (old b h hb), oldb := fun b h hb => h.elim .inl fun h => .inl (hs.sb b (old b h hb)) }, fun v cv hv => ?_, fun x f hx j hj => ?_, fun b h => ?_, rfl, rfl⟩
  · rcases h with h | h
    · exact Nat.lt_of_lt_of_le (hs.low b h) hT.size
    · exact hS.low b (hS.sb b h)
  · obtain ⟨p1, p2⟩ := hs.plow id b h1 h2
    exact ⟨Nat.lt_of_lt_of_le p1 hT.size, fun h => h.elim p2 fun h => p2 (hs.sb b (old b h p1))⟩
  · exact (hs.obj id o ho).ext hext (fun _ => ⟨rfl, rfl, rfl⟩) fun hnd b hb => frame b (hs.plow id b (by rw [hs.H]; exact fun h => hnd ((hd_dead ho).1 h)) hb).1
  · have ht := turn_sealUp hs1 (Nat.zero_le τ.length)
    have := fz_R hs1 ht fuel false v cv hv
    rw [hd'] at this
    refine this.ext ⟨fun b h => .inr h, fun b h => .inr h, fun _ _ => rfl, Nat.zero_le _, fun id h => absurd h (Nat.not_lt_zero _), fun id h => absurd h (Nat.not_lt_zero _)⟩
  · have ht := turn_sealUp hs1 (Nat.zero_le τ.length)
    have := cells_fz (fun m _ => fz_R hs1 ht m) hx j hj
    rw [hd'] at this
    exact this.ext ⟨fun b h => .inr h, fun b h => .inr h, fun _ _ => rfl, Nat.le_refl _, fun id h => absurd h (Nat.not_lt_zero _), fun id h => absurd h (Nat.not_lt_zero _)⟩
  · rcases h with h | h
    · exact .inl h
    · rw [← hd'] at h
      rcases h with h | ⟨id, _, h1, h2⟩
      · exact .inr (.inl h)
      · exact .inr (.inr ⟨id, h1, h2⟩)
end Go.AM

namespace Go.AM
variable {M : Names} {P : Program} {w w' : World} {c c1 : Ctx} {σ τ : Store}
theorem Sim.kill (hs : Sim M w c σ) (id : Nat) : Sim M w { c with H := hd (σ.set id .dead) } (σ.set id .dead) ∧ Ext c w { c with H := hd (σ.set id .dead) } w := by
  have hh : ∀ i, hd (σ.set id .dead) i = if i = id then .dead else hd σ i := fun i => by
    by_cases e : i = id
    · subst e
      rw [if_pos rfl]
      unfold hd
      rw [List.getElem?_set]
      simp only [if_true]
      split <;> rename_i h <;> split at h <;> simp_all
    · rw [if_neg e, hd_set_ne e]
  have live : ∀ i, hd (σ.set id .dead) i ≠ .dead → c.H i ≠ .dead := fun i h => by
    rw [hh] at h
    split at h
    · exact absurd rfl h
    · rw [hs.H]; exact h
  have hext : Ext c w { c with H := hd (σ.set id .dead) } w := ⟨fun _ h => h, fun _ h => h, fun _ _ => rfl, Nat.le_refl _, fun i hi => by
    show (c.H i).le (hd (σ.set id .dead) i)
    rw [hh]
    split
    · exact .inr (.inl rfl)
    · exact .inl (by rw [hs.H]), fun i hi h hne => ⟨rfl, rfl, rfl⟩⟩
  refine ⟨⟨rfl, by rw [List.length_set]; exact hs.N, hs.sb, hs.low, fun i b h1 h2 => hs.plow i b (live i h1) h2, fun i j b hi hj => hs.inj i j b (live i hi) (live j hj), fun i o ho => ?_⟩, hext⟩
  by_cases e : i = id
  · subst e
    rw [List.getElem?_set] at ho
    simp only [if_true] at ho
    split at ho
    · cases ho; trivial
    · cases ho
  · rw [List.getElem?_set_ne (fun h => e h.symm)] at ho
    exact (hs.obj i o ho).ext hext (fun _ => ⟨rfl, rfl, rfl⟩) fun _ _ _ => rfl
theorem Stp.kill {c0 : Ctx} {w0 : World} (h : Stp c0 w0 c w) (hs : Sim M w c σ) (id : Nat) : Stp c0 w0 { c with H := hd (σ.set id .dead) } w :=
  { Ext.trans h.toExt (hs.kill id).2 with
    same := h.same
    size := h.size
    frame := h.frame
    old := h.old
    oldb := h.oldb
    liv := fun i b h1 h2 hb => by
      refine h.liv i b ?_ h2 hb
      intro hd0
      have h1' : hd (σ.set id .dead) i ≠ .dead := h1
      by_cases e : i = id
      · subst e
        apply h1'
        unfold hd
        rw [List.getElem?_set]
        simp only [if_true]
        split <;> rename_i h <;> split at h <;> simp_all
      · rw [hd_set_ne e, ← hs.H] at h1'
        exact h1' hd0 }
theorem fresh_back (hs : Sim M w c σ) (hst : Stp (c.lent w) w c1 w') (hs1 : Sim M w' c1 τ) {k : Nat} (hk : k ≠ 0) {x : AVal} {cx : Value} (hx : R M w' c1 x cx) :
    ∃ c2, Sim M w' c2 σ ∧ Stp c w c2 w' ∧ (freshOf k τ x = .any ∨ ∃ xs, freshOf k τ x = .frs k xs ∧ FrsR M w.heap.size w' c2 k xs cx) ∧ ∀ v cv, R M w' c1 v cv → R M w' c2 (frozen (deadOf τ x) v) cv := by
  by_cases hsl : ∃ id ep off len, x = .sl id ep off len
  · obtain ⟨id, ep, off, len, rfl⟩ := hsl
    obtain ⟨hk1, hk2⟩ := hs1.kill id
    have hstk := hst.kill hs1 id
    obtain ⟨c2, b1, b2, b3, b4, b5, b6, b7⟩ := pure_back hs hstk hk1
    refine ⟨c2, b1, b2, ?_, fun v cv hv => b3 v cv (hv.ext hk2)⟩
    unfold freshOf
    dsimp only
    split
    · rename_i k' e es ho
      split
      · rename_i hc
        obtain ⟨rfl, rfl, rfl, hlen⟩ := hc
        unfold frsAt
        split
        · rename_i hm
          refine .inr ⟨_, rfl, hk, fun y hy => ?_, ?_⟩
          · obtain ⟨m1, m2⟩ := map_ncells hm
            obtain ⟨i, hi, rfl⟩ := List.mem_iff_getElem.1 hy
            rw [m2 i hi (by omega)]
            exact (hs1.obj id _ ho).2.1 _ (List.mem_of_mem_take (List.getElem_mem _))
          · have hlen' : ((es.take len).map (frozen (τ.set id .dead))).length = len := by simp; omega
            have hH : c1.H id = .arr k' e := by rw [hs1.H, hd_of ho]
            cases hx with
            | @sl _ _ _ _ _ cap k2 blk h1 h2 h3 h4 h5 =>
              rw [hH] at h2; cases h2
              obtain ⟨o1, o2, o3, o4⟩ := hs1.obj id _ ho
              obtain ⟨cs, T, f, q1, q2, q3, q4, q5⟩ := o4 blk h3
              have hnew : w.heap.size ≤ blk := Nat.le_of_not_lt fun hlt => by
                obtain ⟨i, i1, _⟩ := hst.liv id blk (by rw [hH]; simp) h3 hlt
                exact i1 rfl
              refine .inr ⟨blk, cap, cs, T, f, by rw [hlen']; simp, hnew, q1, fun hb => ?_, fun i hi hp => ?_, by rw [hlen']; exact h4, by simpa [q3] using h5, fun i j hi hj => q4 i j (by omega) hj, fun i hi j hj => ?_⟩
              · rcases b5 blk hb with hb | hb | ⟨i, i1, i2⟩
                · exact absurd (hs.low _ hb) (by omega)
                · exact (hs1.plow id blk (by rw [hH]; simp) h3).2 (hs1.sb _ hb)
                · have i1' : hd (τ.set id .dead) i ≠ .dead := i1
                  have hne : i ≠ id := fun e => by
                    subst e
                    apply i1'
                    rw [hd_of (o := .dead) (by rw [List.getElem?_set]; simp [(List.getElem?_eq_some_iff.1 ho).1])]
                  rw [hd_set_ne hne, ← hs1.H] at i1'
                  exact hne (hs1.inj i id blk i1' (by rw [hH]; simp) i2 h3)
              · rw [b6] at hi; rw [b7] at hp
                exact absurd (hs.plow i blk hi hp).1 (by omega)
              · simp only [List.getElem_map, List.getElem_take] at hj ⊢
                exact b4 _ (f i) (fun j hj => (q5 i (by omega) j hj).ext hk2) j hj
            | @sl0 _ _ _ _ _ a => exact .inl ⟨by simp, a, rfl⟩
            | slOld h0 h1 h2 => exact absurd (h2 _ _ hH) (Nat.lt_irrefl _)
        · exact .inl rfl
      · exact .inl rfl
    · exact .inl rfl
  · obtain ⟨c2, b1, b2, b3, b4, b5, b6, b7⟩ := pure_back hs hst hs1
    refine ⟨c2, b1, b2, ?_, fun v cv hv => ?_⟩
    · unfold freshOf
      split
      · cases hx with | @nil0 _ a => exact .inr ⟨[], rfl, hk, by simp, .inl ⟨rfl, a, rfl⟩⟩
      · exact absurd ⟨_, _, _, _, rfl⟩ hsl
      · exact .inl rfl
    · have : deadOf τ x = τ := by
        unfold deadOf
        split
        · exact absurd ⟨_, _, _, _, rfl⟩ hsl
        · rfl
      rw [this]
      exact b3 v cv hv
end Go.AM

namespace Go.AM
variable {M : Names} {P : Program} {w w' : World} {c c1 : Ctx} {σ τ : Store}
def Mode.lends : Mode → Bool
  | .pure | .fresh _ => true
  | _ => false
def Mode.ok : Mode → Bool
  | .fresh k => k != 0
  | _ => true
theorem finish_lent (hs : Sim M w c σ) (hst : Stp (c.lent w) w c1 w') {s : St} (hs1 : Sim M w' c1 s.st) {m : Mode} (hm : m.lends = true) (hk : m.ok = true) {v : AVal} {cv : Value} (hv : R M w' c1 v cv) :
    CallPost M c w (finish m σ s v).2 (finish m σ s v).1 cv w' := by
  cases m with
  | pure =>
    obtain ⟨c2, b1, b2, b3, _⟩ := pure_back hs hst hs1
    exact ⟨c2, b1, b2, .r (b3 v cv hv)⟩
  | fresh k =>
    have hk' : k ≠ 0 := by simpa [Mode.ok] using hk
    by_cases ht : ∃ x vs, v = .tup (x :: vs)
    · obtain ⟨x, vs, rfl⟩ := ht
      show CallPost M c w σ (.tup (freshOf k s.st x :: vs.map (frozen (deadOf s.st x)))) cv w'
      cases hv with
      | @tup _ _ cvs f h1 h2 h3 =>
        have hx0 : R M w' c1 x (f 0) := h3 0 (by simp)
        obtain ⟨c2, b1, b2, b3, b4⟩ := fresh_back hs hst hs1 hk' hx0
        refine ⟨c2, b1, b2, ?_⟩
        have hrest : ∀ i (hi : i < (vs.map (frozen (deadOf s.st x))).length), R M w' c2 (vs.map (frozen (deadOf s.st x)))[i] (f (i + 1)) := fun i hi => by
          rw [List.getElem_map]
          exact b4 _ _ (h3 (i + 1) (by simpa using hi))
        have h0 := h2 0 (by simp)
        rcases b3 with b3 | ⟨xs, b3, b5⟩
        · rw [b3]
          refine .r (.tup f (by simpa using h1) (fun i hi => h2 i (by simpa using hi)) fun i hi => ?_)
          cases i with
          | zero => exact .any
          | succ i => exact hrest i (by simpa using hi)
        · rw [b3]
          exact .tup (fun i => f (i + 1)) b5 (by simpa using h1) h0 (fun i hi => h2 (i + 1) (by simpa using hi)) hrest
    · have e : finish (.fresh k) σ s v = (freshOf k s.st v, σ) := by
        unfold finish
        dsimp only
        split
        · exact absurd ⟨_, _, rfl⟩ ht
        · rfl
      rw [e]
      obtain ⟨c2, b1, b2, b3, _⟩ := fresh_back hs hst hs1 hk' hv
      refine ⟨c2, b1, b2, ?_⟩
      rcases b3 with b3 | ⟨xs, b3, b5⟩
      · rw [b3]; exact .r .any
      · rw [b3]; exact .frs b5
  | keep => cases hm
  | trunc => cases hm
theorem finish_own (hs : Sim M w c σ) (hst : Stp c w c1 w') {s : St} (hs1 : Sim M w' c1 s.st) {m : Mode} (hm : m.lends = false) {v : AVal} {cv : Value} (hv : R M w' c1 v cv) :
    CallPost M c w (finish m σ s v).2 (finish m σ s v).1 cv w' := by
  cases m with
  | pure => cases hm
  | fresh k => cases hm
  | keep => exact ⟨c1, hs1, hst, .r hv⟩
  | trunc =>
    unfold finish
    dsimp only
    split
    · exact ⟨c1, hs1, hst, .r hv⟩
    · have hb : σ.length ≤ s.st.length := by rw [← hs.N, ← hs1.N]; exact hst.N
      exact ⟨_, hs1.sealUp hb, hst.sealUp hs1 hs.N hb, .r (fz_R hs1 (turn_sealUp hs1 hb) fuel true _ _ hv)⟩
def FnOk (M : Names) (P : Program) (pres : Nat → Bool) (f : Nat) (g : AFunc) : Prop :=
  ∃ fn code em, P.funcs[M.fm f]? = some fn ∧ (fn.name == "runtime.NumGoroutine") = false ∧ fn.body = some code ∧ CodeOk M P pres em fn.ntmps true code g.body ∧ em.take g.np = List.range g.np ∧ g.np ≤ em.length ∧
    g.res.length = fn.results.toList.length ∧ ((g.res.zip fn.results.toList).all fun p => resOk P em p.1 p.2) = true ∧ g.mode.ok = true
theorem callFunc_enter {fn : Func} {f : FuncId} {code : Go.Code} {args : Array Value} (h1 : P.funcs[f]? = some fn) (h2 : (fn.name == "runtime.NumGoroutine") = false) (h3 : fn.body = some code) : (callFunc f args).run P w = .ok (.enter f args) w := by
  unfold callFunc
  have h2' : ¬ fn.name = "runtime.NumGoroutine" := by simpa using h2
  simp [h1, h2', h3]
theorem ArgsR.take {args : List AVal} {cargs : Array Value} (h : ArgsR M w c args cargs) (hs : Sim M w c σ) : ArgsR M w (c.lent w) (args.map (snap σ)) cargs :=
  ⟨by rw [h.1]; simp, fun i hi => by
    obtain ⟨x, h1, h2⟩ := h.2 i (by simpa using hi)
    exact ⟨x, h1, by rw [List.getElem_map]; exact snap_R hs h2⟩⟩
theorem call_fn {pres : Nat → Bool} {C : CallF} {k : Nat} (hm : P.follows .mixedOrders = true) (hp : Keeps pres C) (hC : CallSound M P C) (hR : RoundSound M P C) {f : Nat} {g : AFunc} (hok : FnOk M P pres f g) {args : List AVal} {v : AVal} {σ' : Store}
    (hr : (exec C k g.body (enter g args σ)).bind (leave g σ) = some (v, σ')) {F : Fence} {n : Nat} {cargs : Array Value} (hF : Wide F) (hs : Sim M w c σ) (hg : Globs M w c) (ha : ArgsR M w c args cargs) :
    Invokes F n P (M.fm f) cargs w (CallPost M c w σ' v) := by
  obtain ⟨fn, code, em, h1, h2, h3, h4, h5, h6, h7, h8, h9⟩ := hok
  obtain ⟨⟨e, s'⟩, r1, r2⟩ := bind_eq_some hr
  refine .inl ⟨callFunc_enter h1 h2 h3, ?_⟩
  have key : ∀ F : Fence, Wide F → F.round = none → CallsIn F n P (M.fm f) cargs w fun e w' => ∃ cv, e = .returned cv ∧ CallPost M c w σ' v cv w' := fun F hF hro => by
    refine callsIn_of_wp_marks h1 h3 (hF.fn _) ?_ hro
    unfold leave at r2
    have hres : ∃ v0, results s' g.res = some v0 ∧ finish g.mode σ s' v0 = (v, σ') ∧ (e = .nrm ∨ e = .ret) := by
      cases e with
      | ext id => cases r2
      | nrm => obtain ⟨v0, q1, q2⟩ := map_eq_some r2; exact ⟨v0, q1, q2, .inl rfl⟩
      | ret => obtain ⟨v0, q1, q2⟩ := map_eq_some r2; exact ⟨v0, q1, q2, .inr rfl⟩
    obtain ⟨v0, q1, q2, q3⟩ := hres
    have post : ∀ c0, ((c0 = c.lent w ∧ g.mode.lends = true) ∨ (c0 = c ∧ g.mode.lends = false)) → ∀ a w' c1, SR M em fn.ntmps w.heap.size c1 w' s' a → Stp c0 w c1 w' → bodyPostM F n P fn (fun e w' => ∃ cv, e = .returned cv ∧ CallPost M c w σ' v cv w') (exitOf e) a w' := fun c0 hc0 a w' c1 hs1 hst => by
      have hb : LeavesInM F n P fn a.tmps (fun e w' => ∃ cv, e = .returned cv ∧ CallPost M c w σ' v cv w') a.defers .returning w' := by
        refine leaves_marks _ _ hs1.sim hst hs1.marks fun w' hs1' he1 hst => ?_
        obtain ⟨cv, x1, x2⟩ := results_R (P := P) hs1' (fun t x hx => (hs1.tmp t x hx).ext he1) h7 h8 q1
        refine ⟨cv, x1, cv, rfl, ?_⟩
        have e1 : σ' = (finish g.mode σ s' v0).2 := by rw [q2]
        have e2 : v = (finish g.mode σ s' v0).1 := by rw [q2]
        rw [e1, e2]
        rcases hc0 with ⟨rfl, hl⟩ | ⟨rfl, hl⟩
        · exact finish_lent hs hst hs1' hl h9 x2
        · exact finish_own hs hst hs1' hl x2
      rcases q3 with rfl | rfl
      · exact hb
      · exact hb
    have hsize : fn.ntmps ≤ (cargs ++ Array.replicate (fn.ntmps - cargs.size) undef).size := by simp; omega
    by_cases hl : g.mode.lends = true
    · have hent : enter g args σ = ⟨(args.map (snap σ)).take g.np ++ List.replicate (g.nenv - g.np) .any, []⟩ := by
        unfold enter
        cases hmo : g.mode <;> rw [hmo] at hl <;> first | (cases hl; done) | simp [List.map_take]
      rw [hent] at r1
      have ha' := ha.take hs
      refine exec_sound hm hp hC hR hF (fun _ => hro) h4 _ e s' r1 w.heap.size (c.lent w) w _ (globs_lent hs hg) ⟨hs.lent, enter_tmp h5 h6 ha'.1 ha'.2, hsize, Nat.le_refl _, show Marks _ _ _ [] from trivial⟩ _ fun a w' c1 hs1 hst => post _ (.inl ⟨rfl, hl⟩) a w' c1 hs1 hst
    · have hl' : g.mode.lends = false := by simpa using hl
      have hent : enter g args σ = ⟨args.take g.np ++ List.replicate (g.nenv - g.np) .any, σ⟩ := by
        unfold enter
        cases hmo : g.mode <;> rw [hmo] at hl' <;> first | (cases hl'; done) | rfl
      rw [hent] at r1
      refine exec_sound hm hp hC hR hF (fun _ => hro) h4 _ e s' r1 w.heap.size c w _ hg ⟨hs, enter_tmp h5 h6 ha.1 ha.2, hsize, Nat.le_refl _, show Marks _ _ _ [] from trivial⟩ _ fun a w' c1 hs1 hst => post _ (.inr ⟨rfl, hl'⟩) a w' c1 hs1 hst
  have hwide : Wide { F with round := none } := ⟨hF.fn, hF.depth, hF.alive⟩
  exact key { F with round := none } hwide rfl
end Go.AM

namespace Go.AM
variable {M : Names} {P : Program} {w w' : World} {c c1 : Ctx} {σ τ : Store}
def SiteFine (M : Names) (P : Program) (pres : Nat → Bool) (g : ARound) (rec : LoopRec) (em : List Tmp) : Prop :=
  ∃ nt, g.nenv = em.length ∧ nt ≤ rec.tmps.size ∧ CodeOk M P pres em nt false rec.assign g.pre ∧ g.params.map (em[·]?) = rec.params.toList.map some ∧ em.Nodup ∧ CodeOk M P pres em nt false rec.body g.body
def SitesOk (M : Names) (P : Program) (pres : Nat → Bool) (code : Code) : Prop :=
  ∀ site rec em, M.site site rec em → ∃ g, code.fns site = .round g ∧ SiteFine M P pres g rec em
def PrimOk (M : Names) (P : Program) (f : Nat) (p : Prim) : Prop :=
  ∀ (C : CallF), CallSound M P C → RoundSound M P C → ∀ args σ v σ', p C args σ = some (v, σ') → ∀ (F : Fence) (n : Nat) (w : World) (c : Ctx) (cargs : Array Value), Wide F → Sim M w c σ → Globs M w c → ArgsR M w c args cargs →
    Invokes F n P (M.fm f) cargs w (CallPost M c w σ' v) ∧ ((∃ a ∈ args, plainArg a = false) → ∀ (cargs' : Array Value) (w' : World), (callFunc (M.fm f) cargs').run P w' = .ok (.enter (M.fm f) cargs') w')
structure CodeFine (M : Names) (P : Program) (pres : Nat → Bool) (code : Code) : Prop where
  mixed : P.follows .mixedOrders = true
  fns : ∀ f g, code.fns f = .fn g → FnOk M P pres f g
  nilfns : ∀ f g, code.fns f = .nilfn g → FnOk M P pres f g
  prims : ∀ f k, code.fns f = .prim k → PrimOk M P f (code.prims k)
  sites : SitesOk M P pres code
  keeps : ∀ f, pres f = true → (∃ g, (code.fns f = .fn g ∨ code.fns f = .nilfn g) ∧ g.mode.lends = true) ∨ ∃ k, code.fns f = .prim k ∧ ∀ C args σ v σ', code.prims k C args σ = some (v, σ') → σ' = σ
theorem slice_zero {a : Option Addr} {n cap : Nat} (h : n = 0) : ∃ b k, Value.slice a n cap = .slice b 0 k := by subst h; exact ⟨_, _, rfl⟩
theorem emptyS_R (hs : Sim M w c σ) {x : AVal} {cx : Value} (hx : R M w c x cx) (h : emptyS σ x = true) : ∃ a cap, cx = .slice a 0 cap := by
  unfold emptyS at h
  split at h
  · cases h
  · rename_i hns
    split at h
    · rename_i hrd
      cases hx <;> first | (simp [rd] at hrd; done) | skip
      case str => exact absurd rfl (hns _)
      case imm xs _ _ _ _ _ _ _ _ _ _ _ => simp only [rd, Option.some.injEq] at hrd; subst hrd; exact ⟨_, _, rfl⟩
      case imm0 => exact ⟨_, _, rfl⟩
      case lst => simp only [rd, Option.some.injEq] at hrd; subst hrd; exact ⟨_, _, rfl⟩
      case lst0 => exact ⟨_, _, rfl⟩
      case nil0 => exact ⟨_, _, rfl⟩
      case emp => exact ⟨_, _, rfl⟩
      case sl =>
        simp only [rd] at hrd
        unfold sliceAt at hrd
        split at hrd
        · split at hrd
          · rename_i hc
            simp only [Option.some.injEq] at hrd
            have := congrArg List.length hrd
            simp at this
            exact slice_zero (by omega)
          · cases hrd
        · cases hrd
      case sl0 => exact ⟨_, _, rfl⟩
      case slOld =>
        rename_i h2 _ _ _
        simp only [rd] at hrd
        unfold sliceAt at hrd
        split at hrd
        · rename_i k e es ho
          split at hrd
          · rename_i hc
            have := h2 k e (by rw [hs.H, hd_of ho])
            omega
          · cases hrd
        · cases hrd
    · cases h
theorem argsR_frs {l : Nat} {xs args : List AVal} {cargs : Array Value} (h : ArgsR M w c (.frs l xs :: args) cargs) : False := by
  obtain ⟨x, _, h⟩ := h.2 0 (by simp)
  cases h
theorem setEnv_tmp {em : List Tmp} (hnd : em.Nodup) : ∀ {ps : List Nat} {ts : List Tmp} {args : List AVal} {cargs : List Value} {env : List AVal} {tmps : Array Value},
    ps.map (em[·]?) = ts.map some → args.length = ps.length → cargs.length = args.length → (∀ i (h : i < args.length) (h' : i < cargs.length), R M w c args[i] cargs[i]) → env.length = em.length → (∀ t ∈ em, t < tmps.size) → TmpR M w c env [] (emR em) tmps →
    TmpR M w c (putEnv env ps args) [] (emR em) ((ts.zip cargs).foldl (fun tmps (t, a) => tmps.setIfInBounds t a) tmps)
  | [], [], args, cargs, env, tmps, _, h1, h2, _, _, _, ht => by
    cases args with
    | nil => exact ht
    | cons _ _ => simp at h1
  | [], _ :: _, _, _, _, _, h, _, _, _, _, _, _ => by simp at h
  | _ :: _, [], _, _, _, _, h, _, _, _, _, _, _ => by simp at h
  | p :: ps, t :: ts, [], _, _, _, _, h1, _, _, _, _, _ => by simp at h1
  | p :: ps, t :: ts, x :: args, [], _, _, _, _, h2, _, _, _, _ => by simp at h2
  | p :: ps, t :: ts, x :: args, y :: cargs, env, tmps, h, h1, h2, hr, he, hb, ht => by
    simp only [List.map_cons, List.cons.injEq] at h
    obtain ⟨hp, h⟩ := h
    have hpl : p < em.length := (List.getElem?_eq_some_iff.1 hp).1
    have hpe : em[p] = t := (List.getElem?_eq_some_iff.1 hp).2
    simp only [putEnv, List.zip_cons_cons, List.foldl_cons]
    refine setEnv_tmp hnd h (by simpa using h1) (by simpa using h2) (fun i hi hi' => hr (i + 1) (by simpa using hi) (by simpa using hi')) (by simpa using he) (fun t ht => by simpa using hb t ht) ?_
    intro q o hq
    unfold emR at hq
    obtain ⟨k, hk, rfl⟩ := map_eq_some hq
    show R M w c (nth (env.set p x) k) _
    rw [List.idxOf?, List.findIdx?_eq_some_iff_getElem] at hk
    obtain ⟨k1, k2, _⟩ := hk
    have k2' : em[k] = q := by simpa using k2
    have htl : t < tmps.size := hb t (by rw [← hpe]; exact List.getElem_mem _)
    by_cases hkp : k = p
    · subst hkp
      have : nth (env.set k x) k = x := by
        unfold nth
        rw [List.getElem?_set]
        simp [he, k1]
      rw [this]
      have hqt : q = t := by rw [← k2', hpe]
      subst hqt
      have := hr 0 (by simp) (by simp)
      simpa [Array.getD, htl] using this
    · rw [nth_set_ne (fun e => hkp e.symm)]
      have hqt : q ≠ t := fun e => hkp (nodup_inj hnd _ _ (by rw [k2', hpe, e]))
      have := ht q (.env k) (by unfold emR; rw [show em.idxOf? q = some k by
        rw [List.idxOf?, List.findIdx?_eq_some_iff_getElem]
        exact ⟨k1, k2, fun j hj => by
          simp only [beq_iff_eq]
          exact fun e => absurd (nodup_inj hnd _ _ (e.trans k2'.symm)) (by omega)⟩]; rfl)
      have e : (tmps.setIfInBounds t y).getD q undef = tmps.getD q undef := by
        rw [Array.getD_eq_getD_getElem?, Array.getD_eq_getD_getElem?, Array.getElem?_setIfInBounds_ne (fun e => hqt e.symm)]
      rw [e]; exact this
theorem foldl_zip {ts : Array Tmp} {xs : Array Value} {tmps : Array Value} : (ts.zip xs).foldl (fun tmps (t, a) => tmps.setIfInBounds t a) tmps = (ts.toList.zip xs.toList).foldl (fun tmps (t, a) => tmps.setIfInBounds t a) tmps := by
  rw [← Array.foldl_toList, Array.toList_zip]
theorem foldl_size : ∀ (l : List (Tmp × Value)) (tmps : Array Value), (l.foldl (fun tmps (t, a) => tmps.setIfInBounds t a) tmps).size = tmps.size
  | [], _ => rfl
  | _ :: l, tmps => by simp only [List.foldl_cons]; rw [foldl_size l]; simp
def exOpt : Ex → Option Ex
  | .nrm => none
  | e => some e
theorem roundOver_inv {l : Nat} {e : Ex} {s : St} {v : AVal} (h : roundOver l (e, s) = some (v, σ)) :
    ∃ j, s.st[l]? = some (.pend true none) ∧ j = exOpt e ∧ v = .bool (jumpOf e).isNone ∧ σ = s.st.set l (.pend false j) := by
  unfold roundOver at h
  dsimp only at h
  generalize s.st[l]? = q at h
  match q, h with
  | some (.pend true none), h =>
    cases e with
    | nrm => cases h; exact ⟨none, rfl, rfl, rfl, rfl⟩
    | ret => cases h; exact ⟨some .ret, rfl, rfl, rfl, rfl⟩
    | ext i => cases h; exact ⟨some (.ext i), rfl, rfl, rfl, rfl⟩
theorem round_sound {pres : Nat → Bool} {C : CallF} {k : Nat} (hm : P.follows .mixedOrders = true) (hp : Keeps pres C) (hC : CallSound M P C) (hR : RoundSound M P C) {site l : Nat} {g : ARound} {env args : List AVal} {v : AVal} {σ' : Store}
    (hl : σ[l]? = some (.pend false none)) (hlen : ((env ++ args).drop g.nenv).length = g.params.length)
    (hr : (exec C k g.pre ⟨putEnv ((env ++ args).take g.nenv) g.params ((env ++ args).drop g.nenv), σ⟩).bind (roundGo C k l g.body) = some (v, σ'))
    (hok : ∀ rec em, M.site site rec em → SiteFine M P pres g rec em)
    {F : Fence} {n : Nat} {cargs : Array Value} {x : Value} (hF : Wide F) (hs : Sim M w c σ) (hg : Globs M w c) (ha : ArgsR M w c args cargs) (hx : R M w c (.yld l site env) x) :
    ∃ b tmps w1, x = .func (.yield b) #[] #[] ∧ (Instr.yield b cargs).run P w = .ok (.round b (c.loops l).fn tmps (c.loops l).assign (c.loops l).body) w1 ∧
      RoundIn F n P b (c.loops l).fn tmps (c.loops l).assign (c.loops l).body w1 fun e w' => ∃ cv, e = .returned cv ∧ CallPost M c w σ' v cv w' := by
  have hH : c.H l = .pend := by rw [hs.H, hd_of hl]
  have hlive : c.H l ≠ .dead := by rw [hH]; simp
  cases hx with
  | yldOld h0 h1 h2 => rw [hH] at h2; cases h2
  | @yld _ _ _ _ em blk f h1 h2 h3 h4 h5 h6 h7 =>
    obtain ⟨nt, g1, g2, g3, g4, g5, g6⟩ := hok _ _ h4
    have henv : env.length = g.nenv := by rw [g1, h5]
    have hdrop : (env ++ args).drop g.nenv = args := by rw [← henv]; simp
    have htake : (env ++ args).take g.nenv = env := by rw [← henv]; simp
    rw [hdrop] at hlen
    rw [hdrop, htake] at hr
    obtain ⟨b, b1, b2⟩ := hs.obj _ _ hl
    rw [h3] at b1
    cases b1
    replace b2 : w.heap[blk]? = some (.loop (recOf (c.loops l) .ready none)) := b2
    have hpar : (c.loops l).params.size = g.params.length := by
      have := congrArg List.length g4
      simpa using this.symm
    have hy := run_yield (P := P) (args := cargs) b2 (by rw [ha.1, hlen]; exact hpar.symm)
    refine ⟨blk, _, w, rfl, hy, ?_⟩
    apply roundIn_of_wpIn (hF.fn _)
    obtain ⟨⟨e0, s0⟩, r0, r00⟩ := bind_eq_some hr
    have hsz : (((c.loops l).params.zip cargs).foldl (fun tmps (t, a) => tmps.setIfInBounds t a) (c.loops l).tmps).size = (c.loops l).tmps.size := by rw [foldl_zip, foldl_size]
    have htb : ∀ t ∈ em, t < (c.loops l).tmps.size := fun t ht => by
      obtain ⟨i, hi, rfl⟩ := List.mem_iff_getElem.1 ht
      exact (Array.getElem?_eq_some_iff.1 (h6 i hi (by omega))).1
    have ht0 : TmpR M w c env [] (emR em) (c.loops l).tmps := fun t o ho => by
      unfold emR at ho
      obtain ⟨i, hi, rfl⟩ := map_eq_some ho
      show R M w c (nth env i) _
      rw [List.idxOf?, List.findIdx?_eq_some_iff_getElem] at hi
      obtain ⟨i1, i2, _⟩ := hi
      have i2' : em[i] = t := by simpa using i2
      have i3 : i < env.length := by omega
      have e1 : nth env i = env[i] := by
        unfold nth
        rw [List.getElem?_eq_getElem i3]; rfl
      rw [e1, Array.getD_eq_getD_getElem?, ← i2', h6 i i1 i3]
      exact h7 i i3
    have ht1 : TmpR M w c (putEnv env g.params args) [] (emR em) (((c.loops l).params.zip cargs).foldl (fun tmps (t, a) => tmps.setIfInBounds t a) (c.loops l).tmps) := by
      rw [foldl_zip]
      refine setEnv_tmp g5 g4 hlen (by simp [ha.1]) (fun i hi hi' => ?_) (by omega) htb ht0
      obtain ⟨y, y1, y2⟩ := ha.2 i hi
      have : cargs.toList[i] = y := by
        have := (Array.getElem?_eq_some_iff.1 y1).2
        simpa using this
      rw [this]; exact y2
    refine exec_sound hm hp hC hR (hF.inRound blk) (fun h => by cases h) g3 _ e0 s0 r0 0 c _ _ hg ⟨hs, ht1, Nat.le_trans g2 (Nat.le_of_eq hsz.symm), Nat.zero_le _, show Marks _ _ _ [] from trivial⟩ _ fun a1 w1 c1 hs1 hst1 => ?_
    have hgo : e0 = .nrm ∧ s0.st[l]? = some (.pend false none) ∧ (exec C k g.body ⟨s0.env, s0.st.set l (.pend true none)⟩).bind (roundOver l) = some (v, σ') := by
      unfold roundGo at r00
      split at r00
      · rename_i h1 h2
        exact ⟨h1, h2, r00⟩
      · cases r00
    obtain ⟨rfl, hl1, hr1⟩ := hgo
    have hH1 : c1.H l = .pend := by rw [hs1.sim.H, hd_of hl1]
    obtain ⟨q1, q2, q3⟩ := hst1.place l h1 (by rw [hH, hH1]) hlive
    obtain ⟨b, b1, b3⟩ := hs1.sim.obj _ _ hl1
    have h31 : c1.place l = some blk := by rw [q1, h3]
    rw [h31] at b1
    cases b1
    replace b3 : w1.heap[blk]? = some (.loop (recOf (c1.loops l) .ready none)) := b3
    have hbr := run_beginRound (P := P) b3 rfl
    refine ⟨_, hbr, ?_⟩
    have hset : SetB w1 (w1.putObj blk (.loop { recOf (c1.loops l) .ready none with state := .busy })) blk (.loop { recOf (c1.loops l) .ready none with state := .busy }) := ⟨⟨rfl, rfl, rfl, Nat.le_refl _⟩, rfl⟩
    obtain ⟨s1, st1⟩ := hs1.sim.pend (bz' := true) (j' := none) hl1 h31 hset rfl
    obtain ⟨⟨e, s'⟩, r1, r2⟩ := bind_eq_some hr1
    refine exec_sound hm hp hC hR (hF.inRound blk) (fun h => by cases h) g6 _ e s' r1 0 c1 _ _ (hg.ext (hst1.trans st1).toExt) ⟨s1, fun t o ho => (hs1.tmp t o ho).ext st1.toExt, hs1.size, Nat.zero_le _, hs1.marks.stp st1⟩ _ fun a w2 c2 hs2 hst2 => ?_
    have hpe := roundOver_inv r2
    obtain ⟨j, p1, p2, p3, p4⟩ := hpe
    have hst := (hst1.trans st1).trans hst2
    have hH2 : c2.H l = .pend := by rw [hs2.sim.H, hd_of p1]
    obtain ⟨q1, q2, q3⟩ := hst.place l h1 (by rw [hH, hH2]) hlive
    obtain ⟨b, b1, b3⟩ := hs2.sim.obj _ _ p1
    rw [q1, h3] at b1
    cases b1
    have hend := run_endRound (P := P) (jumpOf e) b3
    have hset2 : SetB w2 (w2.putObj blk (.loop { recOf (c2.loops l) .busy none with state := if (jumpOf e).isNone then .ready else .done, pending := jumpOf e })) blk (.loop { recOf (c2.loops l) .busy none with state := if (jumpOf e).isNone then .ready else .done, pending := jumpOf e }) := ⟨⟨rfl, rfl, rfl, Nat.le_refl _⟩, rfl⟩
    obtain ⟨s3, st3⟩ := hs2.sim.pend (bz' := false) (j' := j) p1 (by rw [q1, h3]) hset2 (by
      rw [p2]
      cases e <;> rfl)
    have hpost : CallPost M c w σ' v (.bool (jumpOf e).isNone) _ := ⟨c2, by rw [p4]; exact s3, hst.trans st3, by rw [p3]; exact .r .bool⟩
    cases e with
    | nrm => exact ⟨_, _, hend, _, rfl, hpost⟩
    | ret => exact ⟨_, _, hend, _, rfl, hpost⟩
    | ext i => exact ⟨_, _, hend, _, rfl, hpost⟩
theorem callN_sound {pres : Nat → Bool} {code : Code} (hc : CodeFine M P pres code) : ∀ n, CallSound M P (callN code n) ∧ RoundSound M P (callN code n) ∧ Keeps pres (callN code n)
  | 0 => by
    refine ⟨?_, ?_, ?_⟩
    · intro f args σ v σ' h; cases h
    · intro site l env args σ v σ' h; cases h
    · intro f args σ v σ' _ h; cases h
  | k + 1 => by
    obtain ⟨ihC, ihR, ihK⟩ := callN_sound hc k
    refine ⟨fun f args σ v σ' h F n w c cargs hF hs hg ha => ?_, fun site l env args σ v σ' h F n w c cargs x hF hs hg ha hpd hx => ?_, fun f args σ v σ' hp h => ?_⟩
    · simp only [callN] at h
      split at h
      · cases h
      · rename_i q hq
        exact hc.prims f q hq _ ihC ihR args σ v σ' h F n w c cargs hF hs hg ha
      · rename_i g hq
        refine ⟨call_fn hc.mixed ihK ihC ihR (hc.fns f g hq) h hF hs hg ha, fun _ cargs' w' => ?_⟩
        obtain ⟨fn, code, em, h1, h2, h3, _⟩ := hc.fns f g hq
        exact callFunc_enter h1 h2 h3
      · rename_i g hq
        refine ⟨?_, fun _ cargs' w' => ?_⟩
        · have hcall : ∀ args v σ', callG (callN code k) k g args σ = some (v, σ') → ArgsR M w c args cargs → Invokes F n P (M.fm f) cargs w (CallPost M c w σ' v) := fun args v σ' h ha =>
            call_fn hc.mixed ihK ihC ihR (hc.nilfns f g hq) h hF hs hg ha
          split at h
          · rename_i x rest
            split at h
            · rename_i he
              obtain ⟨r, h1, h⟩ := bind_eq_some h
              obtain ⟨q, h2, h⟩ := bind_eq_some h
              split at h
              · rename_i hsame
                cases h
                simp only [Bool.and_eq_true] at hsame
                obtain ⟨q1, q2⟩ := q
                have e1 := same_eq hsame.1
                have e2 := sameS_eq hsame.2
                dsimp only at e1 e2
                subst e1 e2
                obtain ⟨cx, hcx, hx⟩ := ha.2 0 (by simp)
                obtain ⟨a, cap, rfl⟩ := emptyS_R hs hx he
                have ha' : ∀ b, a.isNone = b → ArgsR M w c (.emp b :: rest) cargs := fun b hb => by
                  refine ⟨ha.1, fun i hi => ?_⟩
                  cases i with
                  | zero => exact ⟨_, hcx, .emp hb⟩
                  | succ i => exact ha.2 (i + 1) hi
                cases hb : a.isNone with
                | true => exact hcall _ _ _ h1 (ha' _ hb)
                | false => exact hcall _ _ _ h2 (ha' _ hb)
              · cases h
            · exact hcall _ _ _ h ha
          · cases h
        · obtain ⟨fn, code, em, h1, h2, h3, _⟩ := hc.nilfns f g hq
          exact callFunc_enter h1 h2 h3
      · split at h
        · exact (argsR_frs ha).elim
        · cases h
    · have hpl : σ[l]? = some (.pend false none) := by
        unfold pendAt at hpd
        split at hpd
        · assumption
        · cases hpd
      have hsite : ∃ g, code.fns site = .round g ∧ ∀ rec em, M.site site rec em → SiteFine M P pres g rec em := by
        cases hx with
        | @yld _ _ _ _ em blk f h1 h2 h3 h4 h5 h6 h7 =>
          obtain ⟨g, g1, g2⟩ := hc.sites _ _ _ h4
          refine ⟨g, g1, fun rec em hm => ?_⟩
          obtain ⟨g', g1', g2'⟩ := hc.sites _ _ _ hm
          rw [g1] at g1'
          cases g1'
          exact g2'
        | yldOld h0 h1 h2 => rw [hs.H, hd_of hpl] at h2; cases h2
      obtain ⟨g, g1, g2⟩ := hsite
      simp only [callN, g1, List.cons_append] at h
      split at h
      · rename_i hl
        split at h
        · rename_i hlen
          exact round_sound hc.mixed ihK ihC ihR hl hlen h g2 hF hs hg ha hx
        · cases h
      · cases h
    · simp only [callN] at h
      rcases hc.keeps f hp with ⟨g, hq, hl⟩ | ⟨q, hq, hk⟩
      · have keep : ∀ args v σ', callG (callN code k) k g args σ = some (v, σ') → σ' = σ := fun args v σ' h => by
          unfold callG at h
          obtain ⟨⟨e, s⟩, _, h2⟩ := bind_eq_some h
          unfold leave at h2
          have fin : ∀ v0, finish g.mode σ s v0 = (v, σ') → σ' = σ := fun v0 hfin => by
            cases hmo : g.mode <;> rw [hmo] at hl hfin <;> first | (cases hl; done) | skip
            · cases hfin; rfl
            · simp only [finish] at hfin
              cases hfin; rfl
          cases e with
          | ext i => cases h2
          | nrm => obtain ⟨v0, _, h3⟩ := map_eq_some h2; exact fin v0 h3
          | ret => obtain ⟨v0, _, h3⟩ := map_eq_some h2; exact fin v0 h3
        rcases hq with hq | hq
        · rw [hq] at h
          exact keep _ _ _ h
        · rw [hq] at h
          dsimp only at h
          split at h
          · split at h
            · obtain ⟨⟨r1, r2⟩, h1, h⟩ := bind_eq_some h
              obtain ⟨q, h2, h⟩ := bind_eq_some h
              split at h
              · cases h; exact keep _ _ _ h1
              · cases h
            · exact keep _ _ _ h
          · cases h
      · rw [hq] at h
        exact hk _ _ _ _ _ h
end Go.AM
