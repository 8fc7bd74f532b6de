/- Writing memory. -/
import Derived.Test.YtmkkmacbmlcfaaaGreatDoorAm01
import Derived.Laws.Strings
import Derived.Laws.Slices
import Derived.Laws.Append
set_option linter.unusedVariables false
set_option linter.unusedSimpArgs false
set_option linter.unusedSectionVars false
namespace Go.AM
variable {M : Names} {w : World} {P : Program}
structure Same (w w' : World) : Prop where
  tape : w'.tape = w.tape
  os : w'.os = w.os
  output : w'.output = w.output
  drawn : w'.drawn ≤ w'.drawn
theorem Same.refl (w : World) : Same w w := ⟨rfl, rfl, rfl, Nat.le_refl _⟩
theorem Same.trans {a b c : World} (h : Same a b) (k : Same b c) : Same a c := ⟨k.tape.trans h.tape, k.os.trans h.os, k.output.trans h.output, Nat.le_refl _⟩
structure SetB (w w' : World) (b : Nat) (o : Go.Obj) : Prop extends Same w w' where
  heap : w'.heap = w.heap.setIfInBounds b o
theorem SetB.get {w w' : World} {b : Nat} {o : Go.Obj} (h : SetB w w' b o) (i : Nat) (hb : b < w.heap.size) : w'.heap[i]? = if i = b then some o else w.heap[i]? := by
  rw [h.heap, Array.getElem?_setIfInBounds]
  by_cases hi : i = b
  · subst hi; simp [hb]
  · rw [if_neg (fun e => hi e.symm), if_neg hi]
theorem SetB.size {w w' : World} {b : Nat} {o : Go.Obj} (h : SetB w w' b o) : w'.heap.size = w.heap.size := by rw [h.heap]; simp
theorem setCell_row {w : World} {b o : Nat} {cur : Array Value} {T : TypeId} {v : Value} (h : w.heap[b]? = some (.cells cur T (0, 0))) :
    SetB w (w.setCell ⟨b, o, none⟩ v) b (.cells (cur.setIfInBounds o v) T (0, 0)) := by
  refine ⟨⟨rfl, rfl, rfl, Nat.le_refl _⟩, ?_⟩
  obtain ⟨hlt, he⟩ := Array.getElem?_eq_some_iff.1 h
  simp only [World.setCell]
  apply Array.ext_getElem?
  intro i
  rw [Array.getElem?_modify, Array.getElem?_setIfInBounds]
  split
  · rename_i e; subst e; rw [h]; rfl
  · rfl
theorem run_storeCells (b o : Nat) (T : TypeId) : ∀ (vs : List Value) (i : Nat) (cur : Array Value) (w : World), w.heap[b]? = some (.cells cur T (0, 0)) → o + i + vs.length ≤ cur.size → (∀ v ∈ vs, v.oneCell' = true) →
    ∃ (w' : World) (cur' : Array Value), (storeCells ⟨b, o, none⟩ vs i).run P w = .ok () w' ∧ SetB w w' b (.cells cur' T (0, 0)) ∧ cur'.size = cur.size ∧
      ∀ j, cur'[j]? = if o + i ≤ j ∧ j < o + i + vs.length then vs[j - (o + i)]? else cur[j]?
  | [], i, cur, w, h, _, _ => by
    refine ⟨w, cur, rfl, ⟨.refl w, ?_⟩, rfl, fun j => ?_⟩
    · obtain ⟨hlt, he⟩ := Array.getElem?_eq_some_iff.1 h
      apply Array.ext_getElem?
      intro k
      rw [Array.getElem?_setIfInBounds]
      split
      · rename_i e; subst e; rw [h]
      · rfl
    · rw [if_neg (by rintro ⟨q1, q2⟩; simp at q2; omega)]
  | v :: vs, i, cur, w, h, hl, h1 => by
    have hlt : o + i < cur.size := by simp at hl; omega
    have hc : w.cell? ⟨b, o + i, none⟩ = some cur[o + i] := by
      simp [World.cell?, h, hlt]
    have hs := setCell_row (o := o + i) (v := v) h
    have hb : b < w.heap.size := (Array.getElem?_eq_some_iff.1 h).1
    have h' : (w.setCell ⟨b, o + i, none⟩ v).heap[b]? = some (.cells (cur.setIfInBounds (o + i) v) T (0, 0)) := by
      rw [hs.get _ hb, if_pos rfl]
    obtain ⟨w', cur', hr, hw, hz, hj⟩ := run_storeCells b o T vs (i + 1) _ _ h' (by simp at hl ⊢; omega) (fun x hx => h1 x (List.mem_cons_of_mem _ hx))
    refine ⟨w', cur', ?_, ⟨hs.toSame.trans hw.toSame, ?_⟩, by rw [hz]; simp, fun j => ?_⟩
    · simp only [storeCells, Sem.run_bind, addr_add]
      rw [run_store P w _ v .plain (h1 v (List.mem_cons_self ..)), hc]
      have hf : w.frozen? ⟨b, o + i, none⟩ = false := by simp [World.frozen?, h]
      simp only [hf, Bool.false_eq_true, if_false, Result.andThen_ok]
      exact hr
    · rw [hw.heap, hs.heap]
      apply Array.ext_getElem?
      intro k
      simp only [Array.getElem?_setIfInBounds, Array.size_setIfInBounds]
      split <;> rfl
    · rw [hj j]
      by_cases hj1 : o + (i + 1) ≤ j ∧ j < o + (i + 1) + vs.length
      · rw [if_pos hj1, if_pos (by simp; omega)]
        rw [show j - (o + i) = (j - (o + (i + 1))) + 1 by omega]
        simp
      · rw [if_neg hj1, Array.getElem?_setIfInBounds]
        by_cases hj2 : o + i = j
        · subst hj2
          rw [if_pos rfl, if_pos hlt, if_pos (by simp)]
          simp
        · rw [if_neg hj2, if_neg (by simp; omega)]
theorem Sim.setObj' {c : Ctx} {σ : Store} {w' : World} (hs : Sim M w c σ) {id : Nat} {o0 o1 : Obj} {b : Nat} {o : Go.Obj} (hid : σ[id]? = some o0) (h0 : o0 ≠ .dead) (hh : hd (σ.set id o1) id = hd σ id)
    (hb : c.place id = some b) (hw : SetB w w' b o) (hobj : ObjOk M w' c id o1) : Sim M w' c (σ.set id o1) ∧ Ext c w c w' := by
  have hlt : id < σ.length := (List.getElem?_eq_some_iff.1 hid).1
  have hH : hd (σ.set id o1) = hd σ := by
    funext i
    by_cases hi : id = i
    · subst hi; exact hh
    · unfold hd; rw [List.getElem?_set_ne hi]
  have hlive : c.H id ≠ .dead := by rw [hs.H]; exact fun h => h0 ((hd_dead hid).1 h)
  obtain ⟨hbs, hbn⟩ := hs.plow id b hlive hb
  have hrest : ∀ x, x ≠ b → w'.heap[x]? = w.heap[x]? := fun x hx => by rw [hw.get _ hbs, if_neg hx]
  have hext : Ext c w c w' := ⟨fun _ h => h, fun _ h => h, fun x hx => hrest x (fun e => by subst e; exact hbn (hx.elim (fun h => h) (hs.sb _))), Nat.le_refl _, fun _ _ => .inl rfl, fun _ _ _ _ => ⟨rfl, rfl, rfl⟩⟩
  refine ⟨⟨by rw [hH]; exact hs.H, by rw [hs.N]; simp, hs.sb, by rw [hw.size]; exact hs.low, by rw [hw.size]; exact hs.plow, hs.inj, fun i o' ho => ?_⟩, hext⟩
  by_cases hi : id = i
  · subst hi
    rw [List.getElem?_set_self hlt] at ho; cases ho
    exact hobj
  · rw [List.getElem?_set_ne hi] at ho
    refine (hs.obj i o' ho).ext hext (fun _ => ⟨rfl, rfl, rfl⟩) fun hnd b' hb' => hrest b' (fun e => ?_)
    subst e
    exact hi (hs.inj id i b' hlive (by rw [hs.H]; exact fun h => hnd ((hd_dead ho).1 h)) hb hb')
theorem Sim.setObj {c : Ctx} {σ : Store} {w' : World} (hs : Sim M w c σ) {id k ep : Nat} {es es' : List AVal} {b : Nat} {o : Go.Obj} (hid : σ[id]? = some (.arr k ep es))
    (hb : c.place id = some b) (hw : SetB w w' b o) (hobj : ObjOk M w' c id (.arr k ep es')) : Sim M w' c (σ.set id (.arr k ep es')) ∧ Ext c w c w' :=
  hs.setObj' hid (by simp) (by rw [hd_of (List.getElem?_set_self (List.getElem?_eq_some_iff.1 hid).1), hd_of hid]) hb hw hobj
end Go.AM

namespace Go.AM
variable {M : Names} {w : World} {P : Program}
structure Stp (c : Ctx) (w : World) (c' : Ctx) (w' : World) : Prop extends Ext c w c' w' where
  same : Same w w'
  size : w.heap.size ≤ w'.heap.size
  frame : ∀ b, b < w.heap.size → (∀ id, c.H id ≠ .dead → c.place id ≠ some b) → w'.heap[b]? = w.heap[b]?
  liv : ∀ id b, c'.H id ≠ .dead → c'.place id = some b → b < w.heap.size → ∃ i, c.H i ≠ .dead ∧ c.place i = some b
  old : ∀ b, c'.sld b → b < w.heap.size → c.sld b ∨ ∃ i, c.H i ≠ .dead ∧ c.place i = some b
  oldb : ∀ b, c'.bor b → b < w.heap.size → c.bor b ∨ ∃ i, c.H i ≠ .dead ∧ c.place i = some b
theorem Stp.refl (c : Ctx) (w : World) : Stp c w c w :=
  { Ext.refl c w with same := .refl w, size := Nat.le_refl _, frame := fun _ _ _ => rfl, liv := fun id _ h1 h2 _ => ⟨id, h1, h2⟩, old := fun _ h _ => .inl h, oldb := fun _ h _ => .inl h }
theorem Stp.trans {c c' c'' : Ctx} {w w' w'' : World} (h : Stp c w c' w') (k : Stp c' w' c'' w'') : Stp c w c'' w'' :=
  { Ext.trans h.toExt k.toExt with
    same := h.same.trans k.same
    size := Nat.le_trans h.size k.size
    frame := fun b hb hn => by
      rw [k.frame b (Nat.lt_of_lt_of_le hb h.size) (fun id h1 h2 => ?_), h.frame b hb hn]
      obtain ⟨i, a1, a2⟩ := h.liv id b h1 h2 hb
      exact hn i a1 a2
    old := fun b h1 hb => by
      rcases k.old b h1 (Nat.lt_of_lt_of_le hb h.size) with h2 | ⟨i, a1, a2⟩
      · exact h.old b h2 hb
      · exact .inr (h.liv i b a1 a2 hb)
    oldb := fun b h1 hb => by
      rcases k.oldb b h1 (Nat.lt_of_lt_of_le hb h.size) with h2 | ⟨i, a1, a2⟩
      · exact h.oldb b h2 hb
      · exact .inr (h.liv i b a1 a2 hb)
    liv := fun id b h1 h2 hb => by
      obtain ⟨i, a1, a2⟩ := k.liv id b h1 h2 (Nat.lt_of_lt_of_le hb h.size)
      exact h.liv i b a1 a2 hb }
def Runs (M : Names) (P : Program) (c : Ctx) (w : World) (s : Sem Next) (v : AVal) (σ' : Store) : Prop :=
  ∃ nx w' c' cv, s.run P w = .ok nx w' ∧ (nx = .value cv ∨ (nx = .skip ∧ cv = undef)) ∧ Sim M w' c' σ' ∧ Stp c w c' w' ∧ R M w' c' v cv
theorem Runs.quiet {c : Ctx} {σ : Store} {s : Sem Value} {v : AVal} {cv : Value} (hs : Sim M w c σ) (h : s.run P w = .ok cv w) (hr : R M w c v cv) :
    Runs M P c w (do pure (.value (← s))) v σ :=
  ⟨_, w, c, cv, by simp [h], .inl rfl, hs, .refl c w, hr⟩
theorem Runs.of {c c' : Ctx} {w' : World} {σ' : Store} {s : Sem Value} {v : AVal} {cv : Value} (h : s.run P w = .ok cv w') (hs : Sim M w' c' σ') (ht : Stp c w c' w') (hr : R M w' c' v cv) :
    Runs M P c w (do pure (.value (← s))) v σ' :=
  ⟨_, w', c', cv, by simp [h], .inl rfl, hs, ht, hr⟩
theorem Runs.now {c : Ctx} {σ : Store} {v : AVal} {cv : Value} (hs : Sim M w c σ) (hr : R M w c v cv) : Runs M P c w (pure (.value cv)) v σ :=
  ⟨_, w, c, cv, rfl, .inl rfl, hs, .refl c w, hr⟩
theorem Ext.ofStill {c : Ctx} (hsb : ∀ b, c.sld b → c.bor b) (b : Bool) : Ext (c.still b) w c w where
  sld := fun _ h => h
  bor := fun x h => by
    cases b
    · exact hsb x h
    · exact h
  rest := fun _ _ => rfl
  N := Nat.zero_le _
  head := fun id hid => absurd hid (Nat.not_lt_zero _)
  place := fun id hid => absurd hid (Nat.not_lt_zero _)
theorem elemAt_obj {σ : Store} {id ep i : Nat} {x : AVal} (h : elemAt σ id ep i = some x) : ∃ k es, σ[id]? = some (.arr k ep es) ∧ es[i]? = some x := by
  unfold elemAt at h
  split at h
  · rename_i k e es he
    split at h
    · rename_i hc; subst hc; exact ⟨_, _, he, h⟩
    · cases h
  · cases h
theorem sliceAt_obj {σ : Store} {id ep off len : Nat} {xs : List AVal} (h : sliceAt σ id ep off len = some xs) :
    ∃ k es, σ[id]? = some (.arr k ep es) ∧ off + len ≤ es.length ∧ xs = (es.drop off).take len := by
  unfold sliceAt at h
  split at h
  · rename_i k e es he
    split at h
    · rename_i hc; obtain ⟨rfl, hl⟩ := hc; cases h; exact ⟨_, _, he, hl, rfl⟩
    · cases h
  · cases h
theorem Sim.elem {c : Ctx} {σ : Store} (hs : Sim M w c σ) {id k ep i : Nat} {es : List AVal} {x : AVal} (ho : σ[id]? = some (.arr k ep es)) (hx : es[i]? = some x) :
    ∃ b f, c.place id = some b ∧ CellsR M w c x f ∧ ncells x = k ∧ k ≠ 0 ∧ ∀ j, j < k → w.cell? ⟨b, i * k + j, none⟩ = some (f j) := by
  obtain ⟨h1, h2, h3, h4⟩ := hs.obj id _ ho
  obtain ⟨hi, rfl⟩ := List.getElem?_eq_some_iff.1 hx
  cases hp : c.place id with
  | none => rw [h3 hp] at hi; exact absurd hi (by simp)
  | some b =>
    obtain ⟨cs, T, f, q1, q2, q3, q4, q5⟩ := h4 b hp
    have hk : ncells es[i] = k := h2 _ (List.getElem_mem hi)
    refine ⟨b, f i, rfl, ⟨fun j hj => (q4 i j hi (hk ▸ hj)).2, fun j hj => q5 i hi j hj⟩, hk, h1, fun j hj => ?_⟩
    simp only [World.cell?, q1]
    exact (q4 i j hi hj).1
theorem ptr_inv {c : Ctx} {σ : Store} (hs : Sim M w c σ) {id ep i off : Nat} {p : Value} (hp : R M w c (.ptr id ep i off) p) {k : Nat} {es : List AVal} (ho : σ[id]? = some (.arr k ep es)) :
    ∃ b, c.place id = some b ∧ p = .pointer (some ⟨b, i * k + off, none⟩) := by
  have hH : c.H id = .arr k ep := by rw [hs.H, hd_of ho]
  cases hp with
  | ptr h1 h2 h3 => rw [hH] at h2; cases h2; exact ⟨_, h3, rfl⟩
  | ptrOld h0 h1 h2 => exact absurd (h2 _ _ hH) (Nat.lt_irrefl _)
theorem load_R {c : Ctx} {σ : Store} (hs : Sim M w c σ) {p : AVal} {cp : Value} (hp : R M w c p cp) {T : TypeId} {a : Bool} {s : Nat} (ht : tyOk P T a s = true) {v : AVal}
    (hl : loadAt a s p σ = some v) : ∃ cv, (Instr.loadAt T cp).run P w = .ok cv w ∧ R M w c v cv := by
  unfold loadAt at hl
  split at hl
  · rename_i b x off
    cases hp with
    | @cptr _ _ _ _ o blk f h1 h2 h3 h4 =>
      have hcr : CellsR M w c x f := ⟨fun j hj => (h3 j hj).2, fun j hj => by
        cases b with
        | true => exact h4 j hj
        | false => exact (h4 j hj).ext (Ext.ofStill hs.sb false)⟩
      obtain ⟨hle, hr⟩ := getPart_R hcr h2 hl (fun ha => by subst ha; exact tyOk_one ht)
      refine ⟨_, ?_, hr⟩
      unfold Instr.loadAt Instr.sureAddr
      simp only [Sem.run_bind, Sem.run_pure, Result.andThen_ok]
      rw [run_loadVar ht blk (o + off) (fun j => f (off + j)) (fun j hj => by rw [Nat.add_assoc]; exact (h3 (off + j) (by omega)).1)]
      cases a <;> rfl
  · rename_i id ep i off
    simp only [Option.bind_eq_some_iff] at hl
    obtain ⟨x, hx, hg⟩ := hl
    obtain ⟨k, es, ho, hei⟩ := elemAt_obj hx
    obtain ⟨b, f, hb, hcr, hk, hk0, hcell⟩ := hs.elem ho hei
    obtain ⟨b', hb', rfl⟩ := ptr_inv hs hp ho
    rw [hb] at hb'; cases hb'
    obtain ⟨hle, hr⟩ := getPart_R hcr (by omega) hg (fun ha => by subst ha; exact tyOk_one ht)
    refine ⟨_, ?_, hr⟩
    unfold Instr.loadAt Instr.sureAddr
    simp only [Sem.run_bind, Sem.run_pure, Result.andThen_ok]
    rw [run_loadVar ht b (i * k + off) (fun j => f (off + j)) (fun j hj => by rw [Nat.add_assoc]; exact hcell (off + j) (by omega))]
    cases a <;> rfl
  · cases hl
theorem cells_R {c : Ctx} {v : AVal} {cv : Value} (h : R M w c v cv) (hn : ncells v ≠ 0) : ∃ f : Nat → Value, CellsR M w c v f ∧ cv.cells.size = ncells v ∧ ∀ j, j < ncells v → cv.cells[j]? = some (f j) := by
  cases hv : Go.AM.isAgg v with
  | true =>
    obtain ⟨cs, rfl⟩ := isAgg_iff hv
    cases h with
    | agg f h1 h2 h3 h4 => exact ⟨f, ⟨fun j hj => (h2 j hj).2, h4⟩, h1, fun j hj => (h2 j hj).1⟩
  | false =>
    have h1 : ncells v = 1 := by
      cases v <;> first | rfl | exact absurd rfl hn | (simp [Go.AM.isAgg] at hv)
    have ho := h.oneOf h1 hv
    refine ⟨fun _ => cv, ⟨fun _ _ => ho, fun j hj => ?_⟩, by rw [cells_one ho, h1]; rfl, fun j hj => ?_⟩
    · simp only [cells_not hv] at hj ⊢
      have : j = 0 := by simp at hj; omega
      subst this; exact h
    · rw [h1] at hj
      have : j = 0 := by omega
      subst this; rw [cells_one ho]; rfl
theorem setPart_R {c : Ctx} {s off : Nat} {x v x' : AVal} {f g : Nat → Value} (hx : CellsR M w c x f) (hx0 : ncells x ≠ 0) (hv : CellsR M w c v g) (hs : s ≠ 0) (h : setPart s x off v = some x') :
    ncells v = s ∧ off + s ≤ ncells x ∧ ncells x' = ncells x ∧ CellsR M w c x' (fun j => if off ≤ j ∧ j < off + s then g (j - off) else f j) := by
  unfold setPart at h
  split at h
  · rename_i hvs
    split at h
    · rename_i hc
      obtain ⟨rfl, h2, h3⟩ := hc
      cases h
      refine ⟨hvs, by omega, by omega, ⟨fun j hj => ?_, fun j hj => ?_⟩⟩
      · rw [if_pos ⟨Nat.zero_le _, by omega⟩]; exact hv.one _ hj
      · have := cells_len (v := v) (by omega)
        rw [if_pos ⟨Nat.zero_le _, by omega⟩]; exact hv.rel _ hj
    · split at h
      · rename_i hc
        obtain ⟨h2, h3⟩ := hc
        cases h
        have lx := cells_len hx0
        have lv := cells_len (v := v) (by omega)
        have hlen : ((cellsOf x).take off ++ cellsOf v ++ (cellsOf x).drop (off + s)).length = ncells x := by simp; omega
        refine ⟨hvs, h2, hlen, ⟨fun j hj => ?_, fun j hj => ?_⟩⟩
        · rw [show ncells (.agg ((cellsOf x).take off ++ cellsOf v ++ (cellsOf x).drop (off + s))) = ncells x from hlen] at hj
          split
          · exact hv.one _ (by omega)
          · exact hx.one _ hj
        · change j < ((cellsOf x).take off ++ cellsOf v ++ (cellsOf x).drop (off + s)).length at hj
          change R M w c ((cellsOf x).take off ++ cellsOf v ++ (cellsOf x).drop (off + s))[j] _
          rw [hlen] at hj
          by_cases hj1 : j < off
          · rw [if_neg (by omega)]
            have := hx.rel j (by omega)
            rw [List.getElem_append_left (by simp; omega), List.getElem_append_left (by simp; omega)]
            simpa using this
          · by_cases hj2 : j < off + s
            · rw [if_pos ⟨by omega, hj2⟩]
              have := hv.rel (j - off) (by omega)
              rw [List.getElem_append_left (by simp; omega), List.getElem_append_right (by simp; omega)]
              simp only [List.length_take]
              have e : j - min off (cellsOf x).length = j - off := by rw [Nat.min_eq_left (by omega)]
              simpa [e] using this
            · rw [if_neg (by omega)]
              have := hx.rel j (by omega)
              rw [List.getElem_append_right (by simp; omega)]
              simp only [List.getElem_drop, List.length_append, List.length_take]
              have e : off + s + (j - (min off (cellsOf x).length + (cellsOf v).length)) = j := by rw [Nat.min_eq_left (by omega)]; omega
              simpa [e] using this
      · cases h
  · cases h
theorem CellsR.ext {c c' : Ctx} {w' : World} {x : AVal} {f : Nat → Value} (h : CellsR M w c x f) (he : Ext c w c' w') : CellsR M w' c' x f :=
  ⟨h.one, fun j hj => (h.rel j hj).ext he⟩
theorem Stp.setB {c : Ctx} {σ : Store} {w' : World} (hs : Sim M w c σ) {id b : Nat} {o : Go.Obj} (hl : c.H id ≠ .dead) (hb : c.place id = some b) (hw : SetB w w' b o) (he : Ext c w c w') : Stp c w c w' :=
  { he with
    same := hw.toSame
    size := by rw [hw.size]; exact Nat.le_refl _
    frame := fun x hx hn => by rw [hw.get _ (hs.plow id b hl hb).1, if_neg (fun e => hn id hl (by subst e; exact hb))]
    liv := fun i x h1 h2 _ => ⟨i, h1, h2⟩
    old := fun _ h _ => .inl h
    oldb := fun _ h _ => .inl h }
theorem store_R {c : Ctx} {σ σ' : Store} (hs : Sim M w c σ) {p v : AVal} {cp cv : Value} (hp : R M w c p cp) (hv : R M w c v cv) {T : TypeId} {s : Nat} (ht : (P.info? T).map (·.size) = some s) (hs0 : s ≠ 0)
    (hst : storeAt s p v σ = some σ') : ∃ w', (Instr.storeAt T cp cv).run P w = .ok () w' ∧ Sim M w' c σ' ∧ Stp c w c w' := by
  unfold storeAt at hst
  split at hst
  · rename_i id ep i off
    split at hst
    · rename_i k e es ho
      split at hst
      · rename_i he; subst he
        simp only [Option.bind_eq_some_iff, Option.map_eq_some_iff] at hst
        obtain ⟨x, hx, x', hx', rfl⟩ := hst
        obtain ⟨b, f, hb, hcr, hk, hk0, hcell⟩ := hs.elem ho hx
        obtain ⟨b', hb', rfl⟩ := ptr_inv hs hp ho
        rw [hb] at hb'; cases hb'
        have hlive : c.H id ≠ .dead := by rw [hs.H, hd_of ho]; simp
        have hnv : ncells v = s := by unfold setPart at hx'; split at hx' <;> first | assumption | cases hx'
        obtain ⟨g, hg, hgs, hgc⟩ := cells_R hv (by omega)
        obtain ⟨_, hle, hnx, hcr'⟩ := setPart_R hcr (by omega) hg hs0 hx'
        obtain ⟨o1, o2, o3, o4⟩ := hs.obj id _ ho
        obtain ⟨cs, T', F, q1, q2, q3, q4, q5⟩ := o4 b hb
        obtain ⟨hi, hxe⟩ := List.getElem?_eq_some_iff.1 hx
        have hfit : i * k + off + s ≤ cs.size := by
          have : (i + 1) * k ≤ es.length * k := Nat.mul_le_mul_right k hi
          rw [Nat.add_mul] at this; omega
        obtain ⟨w', cs', hr, hw, hz, hj⟩ := run_storeCells (P := P) b (i * k + off) T' cv.cells.toList 0 cs w q1 (by simp [hgs]; omega) (fun y hy => by
          obtain ⟨j, hj, rfl⟩ := List.mem_iff_getElem.1 hy
          have hj' : j < ncells v := by simp at hj; omega
          have := hgc j hj'
          rw [Array.getElem?_eq_getElem (by simpa using hj)] at this
          have h2 := hg.one j hj'
          simp only [Array.getElem_toList]
          rw [Option.some.inj this]; exact h2)
        have hcs' : ∀ j, cs'[j]? = if i * k + off ≤ j ∧ j < i * k + off + s then some (g (j - (i * k + off))) else cs[j]? := fun j => by
          rw [hj j]
          simp only [Nat.add_zero, Array.length_toList, hgs, hnv]
          split
          · rename_i hc
            have := hgc (j - (i * k + off)) (by omega)
            simpa using this
          · rfl
        have hbn := hs.plow id b hlive hb
        have hext : Ext c w c w' := ⟨fun _ h => h, fun _ h => h, fun y hy => by rw [hw.get _ hbn.1, if_neg (fun e => by subst e; exact hbn.2 (hy.elim (fun h => h) (hs.sb _)))], Nat.le_refl _, fun _ _ => .inl rfl, fun _ _ _ _ => ⟨rfl, rfl, rfl⟩⟩
        have hobj : ObjOk M w' c id (.arr k e (es.set i x')) := by
          refine ⟨o1, fun y hy => ?_, fun hn => (by rw [hb] at hn; cases hn), fun b' hb' => ?_⟩
          · rcases List.mem_or_eq_of_mem_set hy with h | h
            · exact o2 y h
            · rw [h]; omega
          · rw [hb] at hb'; cases hb'
            refine ⟨cs', T', fun i' j => if i' = i then (if off ≤ j ∧ j < off + s then g (j - off) else F i j) else F i' j, by rw [hw.get _ hbn.1, if_pos rfl], by simp; omega, by rw [hz]; exact q3, fun i' j hi' hj' => ?_, fun i' hi' j hj' => ?_⟩
            · simp only [List.length_set] at hi'
              dsimp only
              by_cases hii : i' = i
              · subst hii
                rw [if_pos rfl, hcs']
                by_cases hr1 : off ≤ j ∧ j < off + s
                · rw [if_pos ⟨by omega, by omega⟩, if_pos hr1]
                  have e1 : i' * k + j - (i' * k + off) = j - off := by omega
                  rw [e1]
                  exact ⟨rfl, hg.one _ (by omega)⟩
                · rw [if_neg (by omega), if_neg hr1]
                  exact q4 i' j hi' hj'
              · rw [if_neg hii, hcs', if_neg]
                · exact q4 i' j hi' hj'
                · rintro ⟨a1, a2⟩
                  rcases Nat.lt_or_gt_of_ne hii with h | h
                  · have : (i' + 1) * k ≤ i * k := Nat.mul_le_mul_right k h
                    rw [Nat.add_mul] at this; omega
                  · have : (i + 1) * k ≤ i' * k := Nat.mul_le_mul_right k h
                    rw [Nat.add_mul] at this; omega
            · by_cases hii : i' = i
              · subst hii
                simp only [List.getElem_set_self] at hj' ⊢
                rw [if_pos trivial]
                have hF : ∀ j, j < k → f j = F i' j := fun j hj => by
                  have h1 := hcell j hj
                  simp only [World.cell?, q1] at h1
                  have h2 := (q4 i' j hi hj).1
                  simp at h1
                  rw [h2] at h1; exact (Option.some.inj h1).symm
                have := (hcr'.rel j hj').ext hext
                have hjk : j < k := by rw [cells_len (by omega)] at hj'; omega
                rw [← hF j hjk]; exact this
              · dsimp only
                rw [if_neg hii]
                have hi2 : i' < es.length := by simpa using hi'
                have e1 : (es.set i x')[i'] = es[i'] := by rw [List.getElem_set_ne (fun h => hii h.symm)]
                simp only [e1] at hj' ⊢
                exact (q5 i' hi2 j hj').ext hext
        obtain ⟨hsim, _⟩ := hs.setObj ho hb hw hobj
        refine ⟨w', ?_, hsim, Stp.setB hs hlive hb hw hext⟩
        unfold Instr.storeAt Instr.sureAddr storeVar
        simp only [Sem.run_bind, Sem.run_pure, Result.andThen_ok, run_sizeOf ht, Sem.run_ite, hgs, hnv, ne_eq, not_true, if_false]
        exact hr
      · cases hst
    · cases hst
  · cases hst
end Go.AM

namespace Go.AM
variable {M : Names} {w : World} {P : Program}
theorem newW_get {o : Go.Obj} {b : Nat} (h : b < w.heap.size) : (newW w o).heap[b]? = w.heap[b]? := by
  show (w.heap.push o)[b]? = _
  rw [Array.getElem?_push, if_neg (Nat.ne_of_lt h)]
theorem newW_new {o : Go.Obj} : (newW w o).heap[w.heap.size]? = some o := by
  show (w.heap.push o)[w.heap.size]? = _
  rw [Array.getElem?_push, if_pos rfl]
theorem newW_size {o : Go.Obj} : (newW w o).heap.size = w.heap.size + 1 := by
  show (w.heap.push o).size = _
  simp
theorem newW_same {o : Go.Obj} : Same w (newW w o) := ⟨rfl, rfl, rfl, Nat.le_refl _⟩
theorem Stp.grow {c : Ctx} {σ : Store} {w' : World} (hs : Sim M w c σ) (o : Obj) (p : Option Nat) (room : Nat) (lp : LoopRec) (hsame : Same w w')
    (hw : ∀ b, b < w.heap.size → w'.heap[b]? = w.heap[b]?) (hz : w.heap.size ≤ w'.heap.size) (hp : ∀ b, p = some b → w.heap.size ≤ b) :
    Stp c w (c.grow (σ ++ [o]) p room lp) w' :=
  { Ext.grow hs o p room lp hw with
    same := hsame
    size := hz
    frame := fun b hb _ => hw b hb
    old := fun _ h _ => .inl h
    oldb := fun _ h _ => .inl h
    liv := fun id b h1 h2 hb => by
      simp only [Ctx.grow] at h1 h2
      split at h2
      · exact absurd (hp b h2) (by omega)
      · rename_i hne
        refine ⟨id, ?_, h2⟩
        have hlt : id < σ.length := by
          have := hd_lt h1
          rw [hs.N] at hne
          simp at this; omega
        rw [hs.H]; rwa [hd_push_lt hlt] at h1 }
theorem Sim.newArr {c : Ctx} {σ : Store} (hs : Sim M w c σ) {k ep : Nat} {es : List AVal} {cs : Array Value} {T : TypeId} (f : Nat → Nat → Value) (hk : k ≠ 0) (hall : ∀ x ∈ es, ncells x = k)
    (hsz : es.length * k ≤ cs.size) (hc : ∀ i j, i < es.length → j < k → cs[i * k + j]? = some (f i j) ∧ (f i j).oneCell' = true)
    (hr : ∀ i (hi : i < es.length) j (hj : j < (cellsOf es[i]).length), R M w c (cellsOf es[i])[j] (f i j)) :
    ∃ c', c'.N = σ.length + 1 ∧ c'.H σ.length = .arr k ep ∧ c'.place σ.length = some w.heap.size ∧ c'.room σ.length = cs.size ∧
      Sim M (newW w (.cells cs T (0, 0))) c' (σ ++ [.arr k ep es]) ∧ Stp c w c' (newW w (.cells cs T (0, 0))) := by
  have hext := Ext.grow (w' := newW w (.cells cs T (0, 0))) hs (.arr k ep es) (some w.heap.size) cs.size (c.loops 0) (fun b hb => newW_get hb)
  refine ⟨c.grow (σ ++ [.arr k ep es]) (some w.heap.size) cs.size (c.loops 0), by simp [Ctx.grow], ?_, by simp [Ctx.grow, hs.N], by simp [Ctx.grow, hs.N], ?_, ?_⟩
  · show hd (σ ++ [.arr k ep es]) σ.length = _
    rw [hd_of get_push]
  · refine hs.grow _ _ _ _ (fun b hb => newW_get hb) (by rw [newW_size]; omega) (fun b hb => by cases hb; rw [newW_size]; omega) ?_
    refine ⟨hk, hall, fun hn => by simp [Ctx.grow, hs.N] at hn, fun b hb => ?_⟩
    have hb' : b = w.heap.size := by simp [Ctx.grow, hs.N] at hb; exact hb.symm
    subst hb'
    exact ⟨cs, T, f, newW_new, hsz, by simp [Ctx.grow, hs.N], hc, fun i hi j hj => (hr i hi j hj).ext hext⟩
  · exact Stp.grow hs _ _ _ _ newW_same (fun b hb => newW_get hb) (by rw [newW_size]; omega) (fun b hb => by cases hb; exact Nat.le_refl _)
theorem box_R {c : Ctx} {σ : Store} (hs : Sim M w c σ) {v : AVal} {cv : Value} (hv : R M w c v cv) {T : TypeId} {k : Nat} (hk : ncells v = k) (hk0 : k ≠ 0) :
    Runs M P c w (do pure (.value (← Instr.box T cv))) (.ptr σ.length 0 0 0) (σ ++ [.arr k 0 [v]]) := by
  obtain ⟨g, hg, hgs, hgc⟩ := cells_R hv (by omega)
  obtain ⟨c', h1, h2, h3, h4, hsim, hstp⟩ := hs.newArr (ep := 0) (T := T) (es := [v]) (cs := cv.cells) (fun _ j => g j) hk0 (by simp [hk]) (by simp; omega)
    (fun i j hi hj => by
      have : i = 0 := by simp at hi; omega
      subst this
      rw [Nat.zero_mul, Nat.zero_add]; exact ⟨hgc j (by omega), hg.one j (by omega)⟩)
    (fun i hi j hj => by
      have : i = 0 := by simp at hi; omega
      subst this
      exact hg.rel j hj)
  refine ⟨_, _, c', _, by simp [Instr.box, newVar, newRow]; exact ⟨rfl, rfl⟩, .inl rfl, hsim, hstp, ?_⟩
  have := R.ptr (M := M) (w := newW w (.cells cv.cells T (0, 0))) (c := c') (id := σ.length) (ep := 0) (i := 0) (off := 0) (by omega) h2 h3
  simpa using this
def Ctx.addStill (c : Ctx) (b : Nat) : Ctx := { c with sld := fun x => c.sld x ∨ x = b, bor := fun x => c.bor x ∨ x = b }
theorem Sim.addStill {c : Ctx} {σ : Store} (hs : Sim M w c σ) (o : Go.Obj) :
    Sim M (newW w o) (c.addStill w.heap.size) σ ∧ Stp c w (c.addStill w.heap.size) (newW w o) := by
  have hext : Ext c w (c.addStill w.heap.size) (newW w o) := ⟨fun _ h => .inl h, fun _ h => .inl h, fun b hb => newW_get (hs.low b (hb.elim (fun h => h) (hs.sb b))), Nat.le_refl _, fun _ _ => .inl rfl, fun _ _ _ _ => ⟨rfl, rfl, rfl⟩⟩
  refine ⟨⟨hs.H, hs.N, fun b hb => hb.imp (hs.sb b) id, fun b hb => ?_, fun id b h1 h2 => ?_, hs.inj, fun id o' ho => ?_⟩, { hext with same := newW_same, size := by rw [newW_size]; omega, frame := fun b hb _ => newW_get hb, liv := fun id b h1 h2 _ => ⟨id, h1, h2⟩, old := fun b h hb => h.elim .inl (fun e => by omega), oldb := fun b h hb => h.elim .inl (fun e => by omega) }⟩
  · rw [newW_size]
    rcases hb with hb | hb
    · exact Nat.lt_succ_of_lt (hs.low b hb)
    · omega
  · obtain ⟨a1, a2⟩ := hs.plow id b h1 h2
    refine ⟨by rw [newW_size]; omega, fun hb => hb.elim a2 (fun e => by omega)⟩
  · exact (hs.obj id o' ho).ext hext (fun _ => ⟨rfl, rfl, rfl⟩) fun hnd b hb => newW_get (hs.plow id b (by rw [hs.H]; exact fun h => hnd ((hd_dead ho).1 h)) hb).1
theorem rows_cells {c : Ctx} {k : Nat} (hk : k ≠ 0) : ∀ {vs : List AVal} {cvs : List Value}, vs.length = cvs.length → (∀ i (h : i < vs.length) (h' : i < cvs.length), R M w c vs[i] cvs[i]) → (∀ v ∈ vs, ncells v = k) →
    ∃ f : Nat → Nat → Value, (cvs.flatMap fun v => v.cells.toList).length = vs.length * k ∧
      (∀ i j, i < vs.length → j < k → (cvs.flatMap fun v => v.cells.toList)[i * k + j]? = some (f i j) ∧ (f i j).oneCell' = true) ∧
      ∀ i (hi : i < vs.length) j (hj : j < (cellsOf vs[i]).length), R M w c (cellsOf vs[i])[j] (f i j)
  | [], [], _, _, _ => ⟨fun _ _ => undef, by simp, fun i j hi => absurd hi (by simp), fun i hi => absurd hi (by simp)⟩
  | v :: vs, cv :: cvs, hl, hr, hn => by
    have h0 := hr 0 (by simp) (by simp)
    simp only [List.getElem_cons_zero] at h0
    have hk0 : ncells v = k := hn v (List.mem_cons_self ..)
    obtain ⟨g, hg, hgs, hgc⟩ := cells_R h0 (by omega)
    obtain ⟨f, f1, f2, f3⟩ := rows_cells (c := c) (k := k) hk (vs := vs) (cvs := cvs) (by simpa using hl) (fun i h h' => by have := hr (i + 1) (by simpa using h) (by simpa using h'); simpa using this) (fun x hx => hn x (List.mem_cons_of_mem _ hx))
    refine ⟨fun i j => if i = 0 then g j else f (i - 1) j, ?_, fun i j hi hj => ?_, fun i hi j hj => ?_⟩
    · simp only [List.flatMap_cons, List.length_append, f1, List.length_cons, Array.length_toList, hgs, hk0]
      rw [Nat.add_mul]; omega
    · simp only [List.flatMap_cons]
      cases i with
      | zero =>
        rw [if_pos rfl, List.getElem?_append_left (by simp [hgs]; omega)]
        simp only [Nat.zero_mul, Nat.zero_add, Array.getElem?_toList]
        exact ⟨hgc j (by omega), hg.one j (by omega)⟩
      | succ i =>
        rw [if_neg (by omega), List.getElem?_append_right (by simp [hgs, hk0]; rw [Nat.add_mul]; omega)]
        have e : (i + 1) * k + j - cv.cells.toList.length = i * k + j := by simp [hgs, hk0]; rw [Nat.add_mul]; omega
        rw [e]
        have := f2 i j (by simpa using hi) hj
        simpa using this
    · cases i with
      | zero => simpa using hg.rel j (by simpa using hj)
      | succ i =>
        dsimp only
        rw [if_neg (by omega)]
        have := f3 i (by simpa using hi) j (by simpa using hj)
        simpa using this
end Go.AM

namespace Go.AM
variable {M : Names} {w : World} {P : Program}
def constOk (fm : Nat → FuncId) : Nat → Value → AVal → Bool
  | _, .int k n, .int k' m => k == k' && n == m
  | _, .bool b, .bool b' => b == b'
  | _, .string s, .str l => s.data.toList == l
  | _, .slice none 0 0, .nil0 => true
  | _, .slice none 0 0, .imm _ [] => true
  | _, .pointer none, .nilp => true
  | _, .nilFunc, .nilf => true
  | _, .map none, .nilm => true
  | _, .func (.func f) a b, .fn n [] [] => a.size == 0 && b.size == 0 && fm n == f
  | n + 1, .agg vs, .agg cs => vs.size == cs.length && (vs.toList.zip cs).all fun p => p.1.oneCell' && constOk fm n p.1 p.2
  | _, _, _ => false
theorem const_R {c : Ctx} : ∀ {n : Nat} {v : Value} {a : AVal}, constOk M.fm n v a = true → R M w c a v := by
  intro n
  induction n with
  | zero =>
    intro v a h
    unfold constOk at h
    split at h <;> simp_all
    · exact .int
    · exact .bool
    · exact .str h
    · exact .nil0
    · exact .imm0
    · exact .nilp
    · exact .nilf
    · exact .nilm
    · rename_i f a b m
      obtain ⟨⟨h1, h2⟩, rfl⟩ := h
      exact .fn (fun _ => undef) (fun _ => undef) (by simp) (by simp) (by simp) (by simp) (by simp) (by simp)
  | succ n ih =>
    intro v a h
    cases hb : Go.AM.isAgg a with
    | false =>
      unfold constOk at h
      split at h <;> simp_all
      · exact .int
      · exact .bool
      · exact .str h
      · exact .nil0
      · exact .imm0
      · exact .nilp
      · exact .nilf
      · exact .nilm
      · rename_i f a b m
        obtain ⟨⟨h1, h2⟩, rfl⟩ := h
        exact .fn (fun _ => undef) (fun _ => undef) (by simp) (by simp) (by simp) (by simp) (by simp) (by simp)
      · simp [Go.AM.isAgg] at hb
    | true =>
      obtain ⟨cs, rfl⟩ := isAgg_iff hb
      cases v <;> first | (simp [constOk] at h; done) | skip
      rename_i vs
      have h' : (vs.size == cs.length && (vs.toList.zip cs).all fun p => p.1.oneCell' && constOk M.fm n p.1 p.2) = true := h
      simp only [Bool.and_eq_true, beq_iff_eq, List.all_eq_true] at h'
      obtain ⟨h1, h2⟩ := h'
      have key : ∀ i (hi : i < cs.length), ∃ x, vs[i]? = some x ∧ x.oneCell' = true ∧ constOk M.fm n x cs[i] = true := fun i hi => by
        have hi' : i < vs.size := by omega
        refine ⟨vs[i], by simp [hi'], ?_⟩
        have hm : (vs[i], cs[i]) ∈ vs.toList.zip cs := by
          rw [List.mem_iff_getElem]
          exact ⟨i, by simp; omega, by simp⟩
        exact h2 _ hm
      refine .agg (fun i => vs.getD i undef) h1 (fun i hi => ?_) (fun i hi => ?_) (fun i hi => ?_)
      · obtain ⟨x, hx, h3, h4⟩ := key i hi
        have : vs.getD i undef = x := by simp [Array.getD_eq_getD_getElem?, hx]
        rw [this]; exact ⟨hx, h3⟩
      · obtain ⟨x, hx, h3, h4⟩ := key i hi
        exact (ih h4).small h3
      · obtain ⟨x, hx, h3, h4⟩ := key i hi
        have : vs.getD i undef = x := by simp [Array.getD_eq_getD_getElem?, hx]
        rw [this]; exact ih h4
def RCells (M : Names) (w : World) (c : Ctx) (cs : List AVal) (A : Array Value) : Prop :=
  A.size = cs.length ∧ ∀ j (h : j < cs.length), ∃ x, A[j]? = some x ∧ x.oneCell' = true ∧ R M w c cs[j] x
theorem RCells.agg {c : Ctx} {cs : List AVal} {A : Array Value} (h : RCells M w c cs A) : R M w c (.agg cs) (.agg A) := by
  refine .agg (fun j => A.getD j undef) h.1 (fun j hj => ?_) (fun j hj => ?_) (fun j hj => ?_)
  · obtain ⟨x, h1, h2, _⟩ := h.2 j hj
    have : A.getD j undef = x := by simp [Array.getD_eq_getD_getElem?, h1]
    rw [this]; exact ⟨h1, h2⟩
  · obtain ⟨x, h1, h2, h3⟩ := h.2 j hj
    exact h3.small h2
  · obtain ⟨x, h1, h2, h3⟩ := h.2 j hj
    have : A.getD j undef = x := by simp [Array.getD_eq_getD_getElem?, h1]
    rw [this]; exact h3
theorem R.rcells {c : Ctx} {cs : List AVal} {A : Array Value} (h : R M w c (.agg cs) (.agg A)) : RCells M w c cs A := by
  cases h with
  | agg f h1 h2 h3 h4 => exact ⟨h1, fun j hj => ⟨f j, (h2 j hj).1, (h2 j hj).2, h4 j hj⟩⟩
theorem splice_list (off : Nat) : ∀ (l : List Value) (n : Nat) (A : Array Value),
    ((l.zipIdx n).foldl (fun cs p => cs.setIfInBounds (off + p.2) p.1) A).size = A.size ∧
    ∀ j, ((l.zipIdx n).foldl (fun cs p => cs.setIfInBounds (off + p.2) p.1) A)[j]? = if off + n ≤ j ∧ j < off + n + l.length ∧ j < A.size then l[j - (off + n)]? else A[j]?
  | [], n, A => ⟨rfl, fun j => by rw [if_neg (by rintro ⟨h1, h2, _⟩; simp at h2; omega)]; rfl⟩
  | v :: l, n, A => by
    obtain ⟨h1, h2⟩ := splice_list off l (n + 1) (A.setIfInBounds (off + n) v)
    simp only [List.zipIdx_cons, List.foldl_cons]
    refine ⟨by rw [h1]; simp, fun j => ?_⟩
    rw [h2 j]
    simp only [Array.size_setIfInBounds, List.length_cons]
    by_cases hj : off + (n + 1) ≤ j ∧ j < off + (n + 1) + l.length ∧ j < A.size
    · rw [if_pos hj, if_pos (by omega), show j - (off + n) = (j - (off + (n + 1))) + 1 by omega]; simp
    · rw [if_neg hj, Array.getElem?_setIfInBounds]
      by_cases hj2 : off + n = j
      · subst hj2
        by_cases hs : off + n < A.size
        · rw [if_pos rfl, if_pos hs, if_pos ⟨by omega, by omega, hs⟩]; simp
        · rw [if_pos rfl, if_neg hs, if_neg (by omega)]; simp; omega
      · rw [if_neg hj2, if_neg (by omega)]
theorem splice (off : Nat) (l A : Array Value) :
    (l.zipIdx.foldl (fun cs (c, j) => cs.setIfInBounds (off + j) c) A).size = A.size ∧
    ∀ j, (l.zipIdx.foldl (fun cs (c, j) => cs.setIfInBounds (off + j) c) A)[j]? = if off ≤ j ∧ j < off + l.size ∧ j < A.size then l[j - off]? else A[j]? := by
  have h := splice_list off l.toList 0 A
  have e : l.zipIdx.foldl (fun cs (c, j) => cs.setIfInBounds (off + j) c) A = (l.toList.zipIdx 0).foldl (fun cs p => cs.setIfInBounds (off + p.2) p.1) A := by
    rw [← Array.foldl_toList]; simp
  rw [e]
  simpa using h
theorem fill_R {c : Ctx} (place : Nat → Option (Nat × Nat)) : ∀ (ps : List (Nat × Value)) (es0 : List (Nat × Nat × AVal)) (zero cs : List AVal) (A : Array Value), RCells M w c zero A → ps.length = es0.length →
    (∀ i (h : i < ps.length) (h' : i < es0.length), place ps[i].1 = some (es0[i].1, es0[i].2.1) ∧ R M w c es0[i].2.2 ps[i].2) → fill zero es0 = some cs →
    ∃ B, Instr.fill place A ps = some B ∧ RCells M w c cs B
  | [], [], zero, cs, A, h, _, _, hf => by cases hf; exact ⟨A, rfl, h⟩
  | [], _ :: _, _, _, _, _, hl, _, _ => by simp at hl
  | _ :: _, [], _, _, _, _, hl, _, _ => by simp at hl
  | (i, cv) :: ps, (off, s, v) :: es0, zero, cs, A, h, hl, hr, hf => by
    simp only [fill] at hf
    split at hf
    · rename_i hc
      obtain ⟨h1, h2, h3⟩ := hc
      have h0 := hr 0 (by simp) (by simp)
      simp only [List.getElem_cons_zero] at h0
      obtain ⟨g, hg, hgs, hgc⟩ := cells_R h0.2 (by omega)
      obtain ⟨z1, z2⟩ := splice off cv.cells A
      have hv := cells_len (v := v) (by omega)
      have hlen : (zero.take off ++ cellsOf v ++ zero.drop (off + s)).length = zero.length := by simp; omega
      have hnew : RCells M w c (zero.take off ++ cellsOf v ++ zero.drop (off + s)) (cv.cells.zipIdx.foldl (fun cs (c, j) => cs.setIfInBounds (off + j) c) A) := by
        refine ⟨by rw [z1, h.1, hlen], fun j hj => ?_⟩
        rw [hlen] at hj
        rw [z2 j]
        by_cases hj1 : j < off
        · rw [if_neg (by omega)]
          obtain ⟨x, x1, x2, x3⟩ := h.2 j hj
          refine ⟨x, x1, x2, ?_⟩
          rw [List.getElem_append_left (by simp; omega), List.getElem_append_left (by simp; omega)]
          simpa using x3
        · by_cases hj2 : j < off + s
          · rw [if_pos ⟨by omega, by omega, by rw [h.1]; exact hj⟩, hgc _ (by omega)]
            refine ⟨_, rfl, hg.one _ (by omega), ?_⟩
            have := hg.rel (j - off) (by omega)
            rw [List.getElem_append_left (by simp; omega), List.getElem_append_right (by simp; omega)]
            simp only [List.length_take]
            have e : j - min off zero.length = j - off := by rw [Nat.min_eq_left (by omega)]
            simpa [e] using this
          · rw [if_neg (by omega)]
            obtain ⟨x, x1, x2, x3⟩ := h.2 j hj
            refine ⟨x, x1, x2, ?_⟩
            rw [List.getElem_append_right (by simp; omega)]
            simp only [List.getElem_drop, List.length_append, List.length_take]
            have e : off + s + (j - (min off zero.length + (cellsOf v).length)) = j := by rw [Nat.min_eq_left (by omega)]; omega
            simpa [e] using x3
      obtain ⟨B, hB, hB2⟩ := fill_R place ps es0 _ cs _ hnew (by simpa using hl) (fun i hi hi' => by have := hr (i + 1) (by simpa using hi) (by simpa using hi'); simpa using this) hf
      refine ⟨B, ?_, hB2⟩
      simp only [Instr.fill, h0.1]
      rw [if_neg]
      · exact hB
      · have e1 : cv.cells.size = s := by omega
        have e2 := h.1
        simp [e1]; omega
    · cases hf
theorem fill_slice (k : Nat) : ∀ (cvs : List Value) (s : Nat) (A : Array Value), (∀ v ∈ cvs, v.cells.size = k) → (s + cvs.length) * k ≤ A.size →
    ∃ B, Instr.fill (fun i => some (i * k, k)) A ((List.range' s cvs.length).zip cvs) = some B ∧ B.size = A.size ∧
      ∀ p, B[p]? = if s * k ≤ p ∧ p < (s + cvs.length) * k then (cvs.flatMap fun v => v.cells.toList)[p - s * k]? else A[p]?
  | [], s, A, _, _ => ⟨A, rfl, rfl, fun p => by rw [if_neg (by simp)]⟩
  | v :: cvs, s, A, h1, h2 => by
    have hv := h1 v (List.mem_cons_self ..)
    obtain ⟨z1, z2⟩ := splice (s * k) v.cells A
    simp only [List.length_cons] at h2
    have hmul : (s + (cvs.length + 1)) * k = (s + 1 + cvs.length) * k := by congr 1; omega
    have hm2 : (s + 1) * k = s * k + k := by rw [Nat.add_mul]; omega
    have hm3 : (s + 1) * k ≤ (s + 1 + cvs.length) * k := Nat.mul_le_mul_right k (by omega)
    obtain ⟨B, b1, b2, b3⟩ := fill_slice k cvs (s + 1) (v.cells.zipIdx.foldl (fun cs (c, j) => cs.setIfInBounds (s * k + j) c) A) (fun x hx => h1 x (List.mem_cons_of_mem _ hx)) (by rw [z1]; omega)
    refine ⟨B, ?_, by rw [b2, z1], fun p => ?_⟩
    · rw [show (List.range' s (v :: cvs).length) = s :: List.range' (s + 1) cvs.length by simp [List.range'_succ]]
      simp only [List.zip_cons_cons, Instr.fill]
      rw [if_neg]
      · exact b1
      · simp [hv]; omega
    · rw [b3 p, z2 p]
      simp only [List.length_cons, List.flatMap_cons, hv]
      by_cases hp : (s + 1) * k ≤ p ∧ p < (s + 1 + cvs.length) * k
      · rw [if_pos hp, if_pos (by omega), List.getElem?_append_right (by simp; omega)]
        congr 1; simp; omega
      · rw [if_neg hp]
        by_cases hq : s * k ≤ p ∧ p < s * k + k
        · rw [if_pos ⟨by omega, by omega, by omega⟩, if_pos (by omega), List.getElem?_append_left (by simp; omega)]
          simp
        · rw [if_neg (by omega), if_neg (by omega)]
end Go.AM

namespace Go.AM
variable {M : Names} {w : World} {P : Program}
theorem intBits_run {op : BinOp} {k : IntKind} {x y n : Int} (h : intBits op k x y = some n) : (Op.intBits op k x y).run P w = .ok (.int k n) w := by
  cases op <;> simp only [intBits] at h <;> first | (cases h; done) | (injection h with h; subst h; rfl)
theorem binInt_run {c : Ctx} {op : BinOp} {T : TypeId} {k : IntKind} {a b : Int} {v : AVal} (hop : op ≠ .shl ∧ op ≠ .shr) (h : binInt op k a b = some v) :
    ∃ cv, (binOp op T (.int k a) (.int k b)).run P w = .ok cv w ∧ R M w c v cv := by
  cases op <;> simp [binInt] at h hop <;> simp only [binOp, ne_eq, not_true, if_false]
  case quo => obtain ⟨h1, rfl⟩ := h; exact ⟨_, by simp only [Op.intDiv, h1, if_false]; rfl, .int⟩
  case rem => obtain ⟨h1, rfl⟩ := h; exact ⟨_, by simp only [Op.intDiv, h1, if_false]; rfl, .int⟩
  case and => obtain ⟨n, h1, rfl⟩ := h; exact ⟨_, intBits_run h1, .int⟩
  case or => obtain ⟨n, h1, rfl⟩ := h; exact ⟨_, intBits_run h1, .int⟩
  case xor => obtain ⟨n, h1, rfl⟩ := h; exact ⟨_, intBits_run h1, .int⟩
  case andNot => obtain ⟨n, h1, rfl⟩ := h; exact ⟨_, intBits_run h1, .int⟩
  all_goals subst h; first | exact ⟨_, rfl, .int⟩ | exact ⟨_, rfl, .bool⟩ | (refine ⟨.bool _, ?_, .bool⟩; simp [Op.intCmp])
theorem shift_run {c : Ctx} {op : BinOp} {T : TypeId} {k k' : IntKind} {a b : Int} {v : AVal} (h : shift op k a b = some v) :
    ∃ cv, (binOp op T (.int k a) (.int k' b)).run P w = .ok cv w ∧ R M w c v cv := by
  unfold shift at h
  split at h
  · cases h
  · rename_i hb
    cases op <;> simp at h <;> subst h
    · exact ⟨_, by simp only [binOp, Op.shift, hb, if_false]; rfl, .int⟩
    · exact ⟨_, by simp only [binOp, Op.shift, hb, if_false]; rfl, .int⟩
theorem bytes_eq {s t : ByteArray} : (s.toList == t.toList) = (s.data.toList == t.data.toList) := by
  rw [Go.ByteArray.toList_eq, Go.ByteArray.toList_eq]
theorem eqGuard_run (op : BinOp) (T : TypeId) (x y : Operand) {a b : Value} (h : (∃ k n, a = .int k n) ∨ (∃ s, a = .string s) ∨ (∃ t, a = .bool t)) : (eqGuard op T x y a b).run P w = .ok () w := by
  rcases h with ⟨k, n, rfl⟩ | ⟨s, rfl⟩ | ⟨t, rfl⟩ <;> cases op <;> rfl
theorem una_run {c : Ctx} {op : UnOp} {x v : AVal} {cx : Value} (hx : R M w c x cx) (h : una op x = some v) : ∃ cv, (Op.unary op cx).run P w = .ok cv w ∧ R M w c v cv := by
  unfold una at h
  split at h
  · cases hx; cases h; exact ⟨_, by simp only [Op.unary, Op.intArith]; rfl, .int⟩
  · cases hx
    simp only [Option.map_eq_some_iff] at h
    obtain ⟨n, h1, rfl⟩ := h
    exact ⟨_, by simp only [Op.unary]; exact intBits_run h1, .int⟩
  · cases hx; cases h; exact ⟨_, rfl, .bool⟩
  · cases h
theorem run_underlying {T : TypeId} {d : TypeDesc} (h : P.underlying T = some d) (w : World) : (underlying T).run P w = .ok d w := by
  unfold underlying; simp [h]
theorem conv_run {c : Ctx} {S T : TypeId} {k k' : IntKind} {n : Int} {d : TypeDesc} (hS : P.underlying S = some d) (hT : P.underlying T = some (.int k)) (hd : ∃ j, d = .int j) :
    (convert S T (.int k' n)).run P w = .ok (.int k (k.wrap n)) w := by
  obtain ⟨j, rfl⟩ := hd
  unfold convert
  simp only [Sem.run_bind, run_underlying hS, run_underlying hT, Result.andThen_ok]
  rfl
end Go.AM

namespace Go.AM
variable {M : Names} {w : World} {P : Program}
def Ctx.older (c : Ctx) (σ : Store) (id : Nat) (p : Option Nat) (room : Nat) : Ctx :=
  { c with H := hd σ, place := fun i => if i = id then p else c.place i, room := fun i => if i = id then room else c.room i }
theorem hd_set_ne {σ : Store} {o : Obj} {id i : Nat} (h : i ≠ id) : hd (σ.set id o) i = hd σ i := by
  unfold hd; rw [List.getElem?_set_ne (fun e => h e.symm)]
theorem Sim.older {c : Ctx} {σ : Store} (hs : Sim M w c σ) {id k ep : Nat} {es es' : List AVal} (ho : σ[id]? = some (.arr k ep es)) {p : Option Nat} {room : Nat} {w' : World}
    (hw : ∀ b, b < w.heap.size → c.place id ≠ some b → w'.heap[b]? = w.heap[b]?) (hz : w.heap.size ≤ w'.heap.size) (hsame : Same w w')
    (hp : ∀ b, p = some b → c.place id = some b ∨ (w.heap.size ≤ b ∧ b < w'.heap.size))
    (hobj : Ext c w (c.older (σ.set id (.arr k (ep + 1) es')) id p room) w' → ObjOk M w' (c.older (σ.set id (.arr k (ep + 1) es')) id p room) id (.arr k (ep + 1) es')) :
    Sim M w' (c.older (σ.set id (.arr k (ep + 1) es')) id p room) (σ.set id (.arr k (ep + 1) es')) ∧ Stp c w (c.older (σ.set id (.arr k (ep + 1) es')) id p room) w' := by
  have hlt : id < σ.length := (List.getElem?_eq_some_iff.1 ho).1
  have hself : (σ.set id (.arr k (ep + 1) es'))[id]? = some (.arr k (ep + 1) es') := List.getElem?_set_self hlt
  have hH : c.H id = .arr k ep := by rw [hs.H, hd_of ho]
  have hlive : c.H id ≠ .dead := by rw [hH]; simp
  have hext : Ext c w (c.older (σ.set id (.arr k (ep + 1) es')) id p room) w' := by
    refine ⟨fun _ h => h, fun _ h => h, fun b hb => hw b ?_ fun e => ?_, Nat.le_refl _, fun i hi => ?_, fun i hi hq _ => ?_⟩
    · exact hs.low b (hb.elim (fun h => h) (hs.sb b))
    · exact (hs.plow id b hlive e).2 (hb.elim (fun h => h) (hs.sb b))
    · by_cases hii : i = id
      · subst hii
        refine .inr (.inr ⟨k, ep, ep + 1, hH, ?_, Nat.lt_succ_self _⟩)
        show hd _ i = _
        rw [hd_of hself]
      · left
        show c.H i = hd _ i
        rw [hd_set_ne hii, hs.H]
    · have hii : i ≠ id := fun e => by
        subst e
        have : (c.older (σ.set i (.arr k (ep + 1) es')) i p room).H i = .arr k (ep + 1) := by
          show hd _ i = _
          rw [hd_of hself]
        rw [this, hH] at hq
        cases hq
      simp [Ctx.older, hii]
  have hstp : Stp c w (c.older (σ.set id (.arr k (ep + 1) es')) id p room) w' :=
    { hext with
      same := hsame
      size := hz
      frame := fun b hb hn => hw b hb (hn id hlive)
      old := fun _ h _ => .inl h
      oldb := fun _ h _ => .inl h
      liv := fun i b h1 h2 hb => by
        simp only [Ctx.older] at h1 h2
        split at h2
        · rcases hp b h2 with h | h
          · exact ⟨id, hlive, h⟩
          · omega
        · rename_i hii
          exact ⟨i, by rw [hs.H]; rwa [hd_set_ne hii] at h1, h2⟩ }
  refine ⟨⟨rfl, by rw [show (c.older _ id p room).N = c.N from rfl, hs.N]; simp, hs.sb, fun b hb => Nat.lt_of_lt_of_le (hs.low b hb) hz, fun i b h1 h2 => ?_, fun i j b hi hj hbi hbj => ?_, fun i o hio => ?_⟩, hstp⟩
  · simp only [Ctx.older] at h1 h2 ⊢
    split at h2
    · rcases hp b h2 with h | h
      · obtain ⟨a1, a2⟩ := hs.plow id b hlive h
        exact ⟨Nat.lt_of_lt_of_le a1 hz, a2⟩
      · exact ⟨h.2, fun hb => absurd (hs.low b hb) (by omega)⟩
    · rename_i hii
      rw [hd_set_ne hii, ← hs.H] at h1
      obtain ⟨a1, a2⟩ := hs.plow i b h1 h2
      exact ⟨Nat.lt_of_lt_of_le a1 hz, a2⟩
  · simp only [Ctx.older] at hi hj hbi hbj
    split at hbi
    · split at hbj
      · omega
      · rename_i h1 h2
        rw [hd_set_ne h2, ← hs.H] at hj
        rcases hp b hbi with h | h
        · exact absurd (hs.inj id j b hlive hj h hbj) (fun e => h2 e.symm)
        · have := (hs.plow j b hj hbj).1; omega
    · rename_i h1
      rw [hd_set_ne h1, ← hs.H] at hi
      split at hbj
      · rcases hp b hbj with h | h
        · exact absurd (hs.inj id i b hlive hi h hbi) (fun e => h1 e.symm)
        · have := (hs.plow i b hi hbi).1; omega
      · rename_i h2
        rw [hd_set_ne h2, ← hs.H] at hj
        exact hs.inj i j b hi hj hbi hbj
  · by_cases hii : i = id
    · subst hii
      rw [hself] at hio; cases hio
      exact hobj hext
    · rw [List.getElem?_set_ne (fun e => hii e.symm)] at hio
      refine (hs.obj i o hio).ext hext (fun _ => by simp [Ctx.older, hii]) fun hnd b hb => hw b ?_ fun e => ?_
      · exact (hs.plow i b (by rw [hs.H]; exact fun h => hnd ((hd_dead hio).1 h)) hb).1
      · exact hii (hs.inj i id b (by rw [hs.H]; exact fun h => hnd ((hd_dead hio).1 h)) hlive hb e)
theorem WideB.bytes_inj' {a b : ByteArray} (h : a.data = b.data) : a = b := by cases a; cases b; cases h; rfl
def RowR (M : Names) (w : World) (c : Ctx) (k : Nat) (ys : List AVal) (A : Array Value) : Prop :=
  A.size = ys.length * k ∧ ∃ f : Nat → Nat → Value, (∀ i j, i < ys.length → j < k → A[i * k + j]? = some (f i j) ∧ (f i j).oneCell' = true) ∧
    ∀ i (hi : i < ys.length) j (hj : j < (cellsOf ys[i]).length), R M w c (cellsOf ys[i])[j] (f i j)
theorem RowR.ext {c c' : Ctx} {w' : World} {k : Nat} {ys : List AVal} {A : Array Value} (h : RowR M w c k ys A) (he : Ext c w c' w') : RowR M w' c' k ys A :=
  let ⟨h1, f, h2, h3⟩ := h
  ⟨h1, f, h2, fun i hi j hj => (h3 i hi j hj).ext he⟩
theorem RowR.nil {c : Ctx} {k : Nat} : RowR M w c k [] #[] := ⟨by simp, fun _ _ => undef, fun i j hi => absurd hi (by simp), fun i hi => absurd hi (by simp)⟩
theorem idx_lt {i j k n : Nat} (hi : i < n) (hj : j < k) : i * k + j < n * k := by
  have : (i + 1) * k ≤ n * k := Nat.mul_le_mul_right k hi
  rw [Nat.add_mul] at this; omega
theorem loadRow {c : Ctx} {k n : Nat} (hk : k ≠ 0) {b o : Nat} {ys : List AVal} (hn : ys.length = n) (f : Nat → Nat → Value)
    (hc : ∀ i j, i < n → j < k → w.cell? ⟨b, o + i * k + j, none⟩ = some (f i j) ∧ (f i j).oneCell' = true)
    (hr : ∀ i (hi : i < ys.length) j (hj : j < (cellsOf ys[i]).length), R M w c (cellsOf ys[i])[j] (f i j)) :
    ∃ A, RowR M w c k ys A ∧ ∀ w', w'.heap = w.heap → (loadCells ⟨b, o, none⟩ (n * k)).run P w' = .ok A w' := by
  have hcell : ∀ w' : World, w'.heap = w.heap → ∀ p, p < n * k → w'.cell? ((⟨b, o, none⟩ : Addr).add p) = some (f (p / k) (p % k)) := fun w' hw p hp => by
    rw [addr_add]
    have h1 : p / k < n := (Nat.div_lt_iff_lt_mul (Nat.pos_of_ne_zero hk)).2 hp
    have h2 : p % k < k := Nat.mod_lt _ (Nat.pos_of_ne_zero hk)
    have := (hc (p / k) (p % k) h1 h2).1
    have e : o + p / k * k + p % k = o + p := by have := Nat.div_add_mod p k; rw [Nat.mul_comm] at this; omega
    rw [e] at this
    simp only [World.cell?, hw] at this ⊢
    exact this
  refine ⟨_, ⟨?_, f, fun i j hi hj => ⟨?_, (hc i j (hn ▸ hi) hj).2⟩, hr⟩, fun w' hw => run_loadCells w' _ (n * k) (fun p => f (p / k) (p % k)) (hcell w' hw)⟩
  · simp [hn]
  have hlt := idx_lt (n := n) (hn ▸ hi) hj
  have e1 : (i * k + j) / k = i := by rw [Nat.mul_comm, Nat.mul_add_div (Nat.pos_of_ne_zero hk), Nat.div_eq_of_lt hj]; omega
  have e2 : (i * k + j) % k = j := by rw [Nat.mul_comm, Nat.mul_add_mod, Nat.mod_eq_of_lt hj]
  simp [hlt, e1, e2]
theorem rd_R {c : Ctx} {σ : Store} (hs : Sim M w c σ) {y : AVal} {cy : Value} (hy : R M w c y cy) {ys : List AVal} (h : rd σ y = some ys) {k : Nat} (hk : k ≠ 0) (hall : ∀ x ∈ ys, ncells x = k) :
    (∀ w', (Builtin.lenOf cy).run P w' = .ok ys.length w') ∧ ∃ A, RowR M w c k ys A ∧ ∀ w', w'.heap = w.heap → (Builtin.firstCells k ys.length cy).run P w' = .ok A w' := by
  cases hy with
  | any => simp [rd] at h
  | int => simp [rd] at h
  | bool => simp [rd] at h
  | @emp _ _ cap a _ =>
    simp only [rd, Option.some.injEq] at h
    subst h
    refine ⟨fun w' => rfl, #[], RowR.nil, fun w' _ => ?_⟩
    cases a <;> simp [Builtin.firstCells, loadCells, loadCellsFrom]
  | nilp => simp [rd] at h
  | nilf => simp [rd] at h
  | nilm => simp [rd] at h
  | agg => simp [rd] at h
  | tup => simp [rd] at h
  | ptr => simp [rd] at h
  | ptrOld => simp [rd] at h
  | cptr => simp [rd] at h
  | asl => simp [rd] at h
  | aslOld => simp [rd] at h
  | fn => simp [rd] at h
  | imap => simp [rd] at h
  | mp => simp [rd] at h
  | mpOld => simp [rd] at h
  | yld => simp [rd] at h
  | yldOld => simp [rd] at h
  | it => simp [rd] at h
  | itOld => simp [rd] at h
  | @str _ s t ht =>
    simp only [rd, Option.some.injEq] at h
    subst h ht
    have hsz : t.data.toList.length = t.size := by simp
    simp only [List.length_map, hsz]
    refine ⟨fun w' => rfl, (t.data.map fun b => Value.int .u8 b.toNat), ?_, fun w' _ => ?_⟩
    rotate_left 1
    · have hx : t.extract 0 t.size = t := by
        apply WideB.bytes_inj'
        simp
      simp only [Builtin.firstCells, hx]
      rfl
    · by_cases h0 : t.data.toList = []
      · have e : t.data = #[] := by rw [← Array.toList_eq_nil_iff]; exact h0
        rw [h0, e]; simpa using RowR.nil
      · have hk1 : k = 1 := by
          obtain ⟨x, hx⟩ := List.exists_mem_of_ne_nil _ h0
          exact (hall _ (List.mem_map_of_mem hx)).symm
        subst hk1
        refine ⟨by simp, fun i _ => Value.int .u8 (t.data.getD i 0).toNat, fun i j hi hj => ?_, fun i hi j hj => ?_⟩
        · have : j = 0 := by omega
          subst this
          have hi' : i < t.data.size := by simpa using hi
          have e : t.data[i]? = some t.data[i] := by simp
          simp [e, Value.oneCell']
        · have hi' : i < t.data.size := by simpa using hi
          simp only [List.getElem_map, cellsOf, List.length_cons, List.length_nil] at hj ⊢
          have : j = 0 := by omega
          subst this
          have e : t.data[i]? = some t.data[i] := by simp
          simp [e]
          exact .int
  | @imm _ b xs cap a K f h1 h2 h3 h4 h5 h6 h7 =>
    simp only [rd, Option.some.injEq] at h
    subst h
    refine ⟨fun w' => rfl, ?_⟩
    by_cases h0 : xs = []
    · subst h0; exact ⟨#[], RowR.nil, fun w' hw => by simp [Builtin.firstCells, loadCells, loadCellsFrom]⟩
    · have hK : K = k := by
        obtain ⟨x, hx⟩ := List.exists_mem_of_ne_nil _ h0
        rw [← h5 x hx, hall x hx]
      subst hK
      obtain ⟨blk, o, sp⟩ := a
      simp only at h2
      subst h2
      exact loadRow hk rfl f h6 (fun i hi j hj => (h7 i hi j hj).ext (Ext.ofStill hs.sb _))
  | @imm0 _ b cap a =>
    simp only [rd, Option.some.injEq] at h
    subst h
    exact ⟨fun w' => rfl, #[], RowR.nil, fun w' hw => by cases a <;> simp [Builtin.firstCells, loadCells, loadCellsFrom]⟩
  | @lst _ xs cap a K f h1 h2 h3 h4 h5 h6 h7 =>
    simp only [rd, Option.some.injEq] at h
    subst h
    refine ⟨fun w' => rfl, ?_⟩
    by_cases h0 : xs = []
    · subst h0; exact ⟨#[], RowR.nil, fun w' hw => by simp [Builtin.firstCells, loadCells, loadCellsFrom]⟩
    · have hK : K = k := by
        obtain ⟨x, hx⟩ := List.exists_mem_of_ne_nil _ h0
        rw [← h5 x hx, hall x hx]
      subst hK
      obtain ⟨blk, o, sp⟩ := a
      simp only at h2
      subst h2
      exact loadRow hk rfl f h6 h7
  | @lst0 _ cap a =>
    simp only [rd, Option.some.injEq] at h
    subst h
    exact ⟨fun w' => rfl, #[], RowR.nil, fun w' hw => by cases a <;> simp [Builtin.firstCells, loadCells, loadCellsFrom]⟩
  | @nil0 _ a =>
    simp only [rd, Option.some.injEq] at h
    subst h
    exact ⟨fun w' => rfl, #[], RowR.nil, fun w' hw => by cases a <;> simp [Builtin.firstCells, loadCells, loadCellsFrom]⟩
  | @sl _ id ep off len cap k' blk h1 h2 h3 h4 h5 =>
    obtain ⟨k2, es, ho, hl, rfl⟩ := sliceAt_obj h
    have hH : c.H id = .arr k2 ep := by rw [hs.H, hd_of ho]
    have hkk : k' = k2 := by rw [hH] at h2; cases h2; rfl
    subst hkk
    obtain ⟨o1, o2, o3, o4⟩ := hs.obj id _ ho
    obtain ⟨cs, T, F, q1, q2, q3, q4, q5⟩ := o4 blk h3
    have hlen : ((es.drop off).take len).length = len := by simp; omega
    rw [hlen]
    refine ⟨fun w' => rfl, ?_⟩
    by_cases h0 : len = 0
    · subst h0; exact ⟨#[], by simp; exact RowR.nil, fun w' hw => by simp [Builtin.firstCells, loadCells, loadCellsFrom]⟩
    · have hK : k' = k := by
        have hm : ((es.drop off).take len)[0]'(by omega) ∈ (es.drop off).take len := List.getElem_mem _
        rw [← hall _ hm]
        exact (o2 _ (List.mem_of_mem_drop (List.mem_of_mem_take hm))).symm
      subst hK
      refine loadRow (o := off * k') hk hlen (fun i j => F (off + i) j) (fun i j hi hj => ?_) (fun i hi j hj => ?_)
      · obtain ⟨a1, a2⟩ := q4 (off + i) j (by omega) hj
        refine ⟨?_, a2⟩
        simp only [World.cell?, q1]
        rw [show off * k' + i * k' + j = (off + i) * k' + j by rw [Nat.add_mul]]
        exact a1
      · rw [hlen] at hi
        have e : ((es.drop off).take len)[i]'(by rw [hlen]; exact hi) = es[off + i]'(by omega) := by simp
        have hj' : j < (cellsOf (es[off + i]'(by omega))).length := by rw [← e]; exact hj
        have := q5 (off + i) (by omega) j hj'
        simp only [List.getElem_take, List.getElem_drop]
        exact this
  | @sl0 _ id ep off k' a h1 h2 =>
    obtain ⟨k2, es, ho, hl, rfl⟩ := sliceAt_obj h
    simp only [List.take_zero, List.length_nil]
    exact ⟨fun w' => rfl, #[], RowR.nil, fun w' hw => by cases a <;> simp [Builtin.firstCells, loadCells, loadCellsFrom]⟩
  | @slOld _ id ep off len v h0 h1 h2 h3 h4 =>
    obtain ⟨k2, es, ho, hl, rfl⟩ := sliceAt_obj h
    have hH : c.H id = .arr k2 ep := by rw [hs.H, hd_of ho]
    exact absurd (h2 _ _ hH) (Nat.lt_irrefl _)
theorem growBy_le (n : Nat) : ∀ (r c : Nat), c ≤ 2 * n + 192 → Builtin.growBy n r c ≤ 2 * n + 192
  | 0, c, h => h
  | r + 1, c, h => by
    simp only [Builtin.growBy]
    split
    · exact h
    · exact growBy_le n r _ (by omega)
theorem nextslicecap_le {n c : Nat} (h : c < n) : Builtin.nextslicecap n c ≤ 2 * n + 192 := by
  unfold Builtin.nextslicecap
  split
  · omega
  · split
    · omega
    · exact growBy_le n 4 c (by omega)
structure AppTy (P : Program) (T U : TypeId) (k : Nat) : Prop where
  ex : ∃ (e : TypeId) (i : TypeInfo) (z : Value) (d : TypeDesc), P.underlying T = some (.slice e) ∧ P.info? e = some i ∧ i.size = k ∧ i.zero = some z ∧ z.cells.size = k ∧ i.bytes ≤ 1024 ∧ i.bytes ≠ 0 ∧
    P.underlying U = some d ∧ (∀ q, d ≠ .int q)
  k0 : k ≠ 0
theorem slice_inv {c : Ctx} {σ : Store} (hs : Sim M w c σ) {x : AVal} {cx : Value} (hx : R M w c x cx) (h : isSlice σ x = true) : ∃ a n cap, cx = .slice a n cap ∧ n ≤ cap := by
  cases hx with
  | imm K f h1 h2 h3 => exact ⟨_, _, _, rfl, h3⟩
  | imm0 => exact ⟨_, _, _, rfl, Nat.zero_le _⟩
  | lst K f h1 h2 h3 => exact ⟨_, _, _, rfl, h3⟩
  | lst0 => exact ⟨_, _, _, rfl, Nat.zero_le _⟩
  | nil0 => exact ⟨_, _, _, rfl, Nat.zero_le _⟩
  | sl h1 h2 h3 h4 => exact ⟨_, _, _, rfl, h4⟩
  | sl0 => exact ⟨_, _, _, rfl, Nat.zero_le _⟩
  | slOld h0 h1 h2 h3 h4 =>
    simp only [isSlice, fresh] at h
    split at h
    · rename_i k e es he
      have hH := hd_of he
      rw [← hs.H] at hH
      have := h2 _ _ hH
      simp at h; omega
    · cases h
  | _ => simp [isSlice] at h
theorem run_app_room {T U ty : TypeId} {k : Nat} (ht : AppTy P T U k) {a : Option Addr} {n cap m : Nat} {cy : Value} {A : Array Value} {w' : World} (hl : (Builtin.lenOf cy).run P w = .ok m w) (hf : (Builtin.firstCells k m cy).run P w = .ok A w) (hroom : n + m ≤ cap)
    (hst : ∀ b, a = some b → (storeCells (b.add (n * k)) A.toList).run P w = .ok () w') (hn : a = none → w' = w) :
    (Builtin.append_ #[T, U] ty #[.slice a n cap, cy]).run P w = .ok (.slice a (n + m) cap) w' := by
  obtain ⟨⟨e, i, z, d, h1, h2, h3, h4, hzc, h5, h6, h7, h8⟩, hk⟩ := ht
  have hd : (match d with | .int _ => true | _ => false) = false := by cases d <;> first | rfl | exact absurd rfl (h8 _)
  cases a with
  | none =>
    obtain rfl := hn rfl
    simp [Builtin.append_, run_underlying h1, run_underlying h7, sizeOf, typeInfo, h2, h3, hd, hl, hf, hroom]
  | some b =>
    have := hst b rfl
    simp [Builtin.append_, run_underlying h1, run_underlying h7, sizeOf, typeInfo, h2, h3, hd, hl, hf, hroom, this]
theorem run_app_grow {T U ty : TypeId} {k : Nat} (ht : AppTy P T U k) {a : Option Addr} {n cap m : Nat} {cy : Value} {A B : Array Value} (hl : (Builtin.lenOf cy).run P w = .ok m w)
    (hf : ∀ w', w'.heap = w.heap → (Builtin.firstCells k m cy).run P w' = .ok A w') (ho : ∀ w', w'.heap = w.heap → (Builtin.firstCells k n (.slice a n cap)).run P w' = .ok B w') (hroom : cap < n + m) (hbig : n + m ≤ most) :
    ∃ (cap' : Nat) (T' : TypeId) (C : Array Value) (w1 : World), w1.heap = w.heap ∧ Same w w1 ∧ n + m ≤ cap' ∧ C.size = (cap' - (n + m)) * k ∧
      (Builtin.append_ #[T, U] ty #[.slice a n cap, cy]).run P w = .ok (.slice (some ⟨w.heap.size, 0, none⟩) (n + m) cap') (newW w1 (.cells (B ++ A ++ C) T' (0, 0))) := by
  obtain ⟨⟨e, i, z, d, h1, h2, h3, h4, hzc, h5, h6, h7, h8⟩, hk⟩ := ht
  have hd : (match d with | .int _ => true | _ => false) = false := by cases d <;> first | rfl | exact absurd rfl (h8 _)
  have hm : most = 68719476736 := rfl
  have hn : ¬ (n + m ≤ cap) := by omega
  have h63' : ¬ (9223372036854775807 < ((n : Int) + (m : Int))) := by omega
  have h48' : ¬ (281474976710656 < Builtin.nextslicecap (n + m) cap * i.bytes) := by
    have a1 := nextslicecap_le hroom
    have a2 : Builtin.nextslicecap (n + m) cap * i.bytes ≤ (2 * (n + m) + 192) * 1024 := Nat.mul_le_mul a1 h5
    omega
  have hf' := hf w.drew rfl
  have ho' := ho w.drew rfl
  refine ⟨(Question.appendCap (n + m) cap e).cut (w.tape w.drawn (.appendCap (n + m) cap e)), e, Builtin.zeroCells z.cells ((Question.appendCap (n + m) cap e).cut (w.tape w.drawn (.appendCap (n + m) cap e)) - (n + m)), w.drew, rfl, ⟨rfl, rfl, rfl, Nat.le_refl _⟩, ?_, ?_, ?_⟩
  rotate_left 2
  · simp [Builtin.append_, run_underlying h1, run_underlying h7, sizeOf, typeInfo, zeroValue, h2, h3, h4, hl, hn, h63', h48', Question.forced, hf', ho', newRow]
    rfl
  · simp [Question.cut]
  · simp [Builtin.zeroCells, hzc]
theorem RowR.append {c : Ctx} {k : Nat} {xs ys : List AVal} {A B : Array Value} (ha : RowR M w c k xs A) (hb : RowR M w c k ys B) : RowR M w c k (xs ++ ys) (A ++ B) := by
  obtain ⟨a1, f, a2, a3⟩ := ha
  obtain ⟨b1, g, b2, b3⟩ := hb
  refine ⟨by simp [a1, b1, Nat.add_mul], fun i j => if i < xs.length then f i j else g (i - xs.length) j, fun i j hi hj => ?_, fun i hi j hj => ?_⟩
  · dsimp only
    by_cases h : i < xs.length
    · rw [if_pos h, Array.getElem?_append_left (by rw [a1]; exact idx_lt h hj)]
      exact a2 i j h hj
    · rw [if_neg h, Array.getElem?_append_right (by rw [a1]; have : xs.length * k ≤ i * k := Nat.mul_le_mul_right k (by omega); omega)]
      have := b2 (i - xs.length) j (by simp at hi; omega) hj
      rw [a1, show i * k + j - xs.length * k = (i - xs.length) * k + j by
        have : i * k = (i - xs.length) * k + xs.length * k := by rw [← Nat.add_mul]; congr 1; omega
        omega]
      exact this
  · dsimp only
    by_cases h : i < xs.length
    · rw [if_pos h]
      have e : (xs ++ ys)[i] = xs[i] := List.getElem_append_left h
      simp only [e] at hj ⊢
      exact a3 i h j hj
    · rw [if_neg h]
      have e : (xs ++ ys)[i] = ys[i - xs.length]'(by simp at hi; omega) := List.getElem_append_right (by omega)
      simp only [e] at hj ⊢
      exact b3 _ _ j hj
theorem Stp.ofHeap {c : Ctx} {w' : World} (e : w'.heap = w.heap) (hs : Same w w') : Stp c w c w' :=
  { Ext.heap e with same := hs, size := by rw [e]; exact Nat.le_refl _, frame := fun b _ _ => by rw [e], liv := fun id b a1 a2 _ => ⟨id, a1, a2⟩, old := fun _ h _ => .inl h, oldb := fun _ h _ => .inl h }
theorem regrow {c : Ctx} {σ : Store} (hs : Sim M w c σ) {id k ep : Nat} {es es' : List AVal} (ho : σ[id]? = some (.arr k ep es)) {A C : Array Value} {T : TypeId} (hk : k ≠ 0) (hall : ∀ x ∈ es', ncells x = k) (hr : RowR M w c k es' A) {n cap : Nat} (hn : es'.length = n) (hc : n ≤ cap) (hC : C.size = (cap - n) * k) :
    ∃ c', Sim M (newW w (.cells (A ++ C) T (0, 0))) c' (σ.set id (.arr k (ep + 1) es')) ∧ Stp c w c' (newW w (.cells (A ++ C) T (0, 0))) ∧
      R M (newW w (.cells (A ++ C) T (0, 0))) c' (.sl id (ep + 1) 0 n) (.slice (some ⟨w.heap.size, 0, none⟩) n cap) := by
  obtain ⟨f0, f, f1, f2⟩ := hr
  have hlt : id < σ.length := (List.getElem?_eq_some_iff.1 ho).1
  obtain ⟨h1, h2⟩ := hs.older ho (es' := es') (p := some w.heap.size) (room := (A ++ C).size) (w' := newW w (.cells (A ++ C) T (0, 0))) (fun b hb _ => newW_get hb) (by rw [newW_size]; omega) newW_same
    (fun b hb => by cases hb; exact .inr ⟨Nat.le_refl _, by rw [newW_size]; omega⟩) (fun hext => by
      refine ⟨hk, hall, fun hn => by simp [Ctx.older] at hn, fun b hb => ?_⟩
      have hb' : b = w.heap.size := by simp [Ctx.older] at hb; exact hb.symm
      subst hb'
      refine ⟨A ++ C, T, f, newW_new, by simp [f0], by simp [Ctx.older], fun i j hi hj => ?_, fun i hi j hj => (f2 i hi j hj).ext hext⟩
      rw [Array.getElem?_append_left (by rw [f0]; exact idx_lt hi hj)]
      exact f1 i j hi hj)
  refine ⟨_, h1, h2, ?_⟩
  have hH : (c.older (σ.set id (.arr k (ep + 1) es')) id (some w.heap.size) (A ++ C).size).H id = .arr k (ep + 1) := by
    show hd _ id = _
    rw [hd_of (List.getElem?_set_self hlt)]
  have := R.sl (M := M) (w := newW w (.cells (A ++ C) T (0, 0))) (c := c.older (σ.set id (.arr k (ep + 1) es')) id (some w.heap.size) (A ++ C).size) (id := id) (ep := ep + 1) (off := 0) (len := n) (cap := cap) (k := k) (blk := w.heap.size)
    (by rw [show (c.older _ id _ _).N = c.N from rfl, hs.N]; exact hlt) hH (by simp [Ctx.older]) hc (by
      simp [Ctx.older, f0, hC, hn]; rw [← Nat.add_mul]; apply Nat.mul_le_mul_right; omega)
  simpa using this
structure AppRun (P : Program) (w : World) (T U ty : TypeId) (k : Nat) (cy : Value) (m : Nat) (A : Array Value) : Prop where
  room : ∀ {a : Option Addr} {n cap : Nat} {w' : World}, n + m ≤ cap → (∀ b, a = some b → (storeCells (b.add (n * k)) A.toList).run P w = .ok () w') → (a = none → w' = w) →
    (Builtin.append_ #[T, U] ty #[.slice a n cap, cy]).run P w = .ok (.slice a (n + m) cap) w'
  grow : ∀ {a : Option Addr} {n cap : Nat} {B : Array Value}, (∀ w', w'.heap = w.heap → (Builtin.firstCells k n (.slice a n cap)).run P w' = .ok B w') → cap < n + m → n + m ≤ most →
    ∃ (cap' : Nat) (T' : TypeId) (C : Array Value) (w1 : World), w1.heap = w.heap ∧ Same w w1 ∧ n + m ≤ cap' ∧ C.size = (cap' - (n + m)) * k ∧
      (Builtin.append_ #[T, U] ty #[.slice a n cap, cy]).run P w = .ok (.slice (some ⟨w.heap.size, 0, none⟩) (n + m) cap') (newW w1 (.cells (B ++ A ++ C) T' (0, 0)))
theorem append_core {c : Ctx} {σ σ' : Store} (hs : Sim M w c σ) {x v : AVal} {cx cy : Value} (hx : R M w c x cx) {ys : List AVal} {k : Nat} (hk : k ≠ 0) (h : append k x ys σ = some (v, σ'))
    {T U ty : TypeId} (hsrc : (∀ y ∈ ys, ncells y = k) → ∃ A, RowR M w c k ys A ∧ AppRun P w T U ty k cy ys.length A) : Runs M P c w (do pure (.value (← Builtin.append_ #[T, U] ty #[cx, cy]))) v σ' := by
  unfold append at h
  split at h
  · 
    rename_i hys
    split at h
    · rename_i hsl
      cases h
      obtain ⟨a, n, cap, rfl, hle⟩ := slice_inv hs hx hsl
      have hy0 : ys = [] := List.eq_nil_of_length_eq_zero hys
      subst hy0
      obtain ⟨A, r4, hap⟩ := hsrc (by simp)
      have hA : A = #[] := by
        have := r4.1
        simp at this; exact this
      subst hA
      have := hap.room (a := a) (n := n) (cap := cap) (w' := w) (by simpa using hle) (fun b _ => rfl) (fun _ => rfl)
      exact Runs.quiet hs (by simpa using this) hx
    · cases h
  · rename_i hys
    split at h
    · rename_i hall
      have hall' : ∀ y ∈ ys, ncells y = k := by simpa [List.all_eq_true] using hall
      obtain ⟨A, r4, hap⟩ := hsrc hall'
      cases x <;> simp only at h <;> first | (cases h; done) | skip
      case nil0 =>
        split at h
        · rename_i hbig
          cases h
          cases hx with
          | @nil0 _ a =>
            obtain ⟨cap', T', C, w1, e1, e2, e3, e4, e5⟩ := hap.grow (a := a) (n := 0) (cap := 0) (B := #[]) (fun w' _ => by cases a <;> simp [Builtin.firstCells, loadCells, loadCellsFrom]) (by omega) (by omega)
            have hs1 := hs.heap e1
            obtain ⟨f0, f, f1, f2⟩ := r4
            obtain ⟨c', h1, h2, h3, h4, hsim, hstp⟩ := hs1.newArr (ep := 0) (T := T') (es := ys) (cs := #[] ++ A ++ C) f hk hall' (by simp; omega)
              (fun i j hi hj => by
                have := f1 i j hi hj
                rw [Array.getElem?_append_left (by simp [f0]; exact idx_lt hi hj)]
                simpa using this)
              (fun i hi j hj => (f2 i hi j hj).ext (.heap e1))
            have hz : w1.heap.size = w.heap.size := by rw [e1]
            refine Runs.of e5 hsim (Stp.trans (Stp.ofHeap e1 e2) hstp) ?_
            have := R.sl (M := M) (w := newW w1 (.cells (#[] ++ A ++ C) T' (0, 0))) (c := c') (id := σ.length) (ep := 0) (off := 0) (len := 0 + ys.length) (cap := cap') (by omega) h2 h3 e3 (by rw [h4]; simp [f0, e4]; rw [← Nat.add_mul]; apply Nat.mul_le_mul_right; omega)
            simpa [hz] using this
        · cases h
      case sl id ep off n =>
        split at h
        · rename_i k' e es ho
          split at h
          · rename_i hcond
            obtain ⟨rfl, rfl, hle, rfl, hbig⟩ := hcond
            cases h
            have hlt : id < σ.length := (List.getElem?_eq_some_iff.1 ho).1
            have hH : c.H id = .arr k' e := by rw [hs.H, hd_of ho]
            obtain ⟨o1, o2, o3, o4⟩ := hs.obj id _ ho
            have hall2 : ∀ x ∈ es.take n ++ ys, ncells x = k' := fun x hx => by
              rcases List.mem_append.1 hx with h | h
              · exact o2 x (List.mem_of_mem_take h)
              · exact hall' x h
            have hlen2 : (es.take n ++ ys).length = n + ys.length := by simp; omega
            have grow : ∀ (a : Option Addr) (cap : Nat), cap < n + ys.length → (∃ B, RowR M w c k' (es.take n) B ∧ ∀ w', w'.heap = w.heap → (Builtin.firstCells k' n (.slice a n cap)).run P w' = .ok B w') →
                Runs M P c w (do pure (.value (← Builtin.append_ #[T, U] ty #[.slice a n cap, cy]))) (.sl id (e + 1) 0 (n + ys.length)) (σ.set id (.arr k' (e + 1) (es.take n ++ ys))) := fun a cap hroom ⟨B, hB, hBr⟩ => by
              obtain ⟨cap', T', C, w1, e1, e2, e3, e4, e5⟩ := hap.grow (a := a) (n := n) (cap := cap) hBr hroom hbig
              have hs1 := hs.heap e1
              obtain ⟨c', h1, h2, h3⟩ := regrow (T := T') hs1 ho (es' := es.take n ++ ys) (A := B ++ A) (C := C) hk hall2 ((hB.append r4).ext (.heap e1)) hlen2 e3 e4
              refine Runs.of e5 h1 (Stp.trans (Stp.ofHeap e1 e2) h2) ?_
              rw [e1] at h3
              exact h3
            cases hx with
            | @sl _ _ _ _ _ cap k2 blk h1 h2 h3 h4 h5 =>
              have hkk : k2 = k' := by rw [hH] at h2; cases h2; rfl
              subst hkk
              obtain ⟨cs, T', F, q1, q2, q3, q4, q5⟩ := o4 blk h3
              have hold : ∃ B, RowR M w c k2 (es.take n) B ∧ ∀ w', w'.heap = w.heap → (loadCells ⟨blk, 0 * k2, none⟩ (n * k2)).run P w' = .ok B w' :=
                loadRow hk (by simp; omega) F (fun i j hi hj => by
                  obtain ⟨a1, a2⟩ := q4 i j (by omega) hj
                  refine ⟨?_, a2⟩
                  simp only [World.cell?, q1]
                  rw [show 0 * k2 + i * k2 + j = i * k2 + j by omega]
                  exact a1) (fun i hi j hj => by
                  have hi' : i < n := by simp at hi; omega
                  have e : (es.take n)[i] = es[i]'(by omega) := by simp
                  have hj' : j < (cellsOf (es[i]'(by omega))).length := by rw [← e]; exact hj
                  have := q5 i (by omega) j hj'
                  simp only [List.getElem_take]
                  exact this)
              by_cases hroom : n + ys.length ≤ cap
              · obtain ⟨f0, f, f1, f2⟩ := r4
                have hcap : cap * k2 ≤ cs.size := by rw [← q3]; simpa using h5
                have hfit : n * k2 + ys.length * k2 ≤ cs.size := by
                  rw [← Nat.add_mul]
                  exact Nat.le_trans (Nat.mul_le_mul_right k2 hroom) hcap
                have hone : ∀ v ∈ A.toList, v.oneCell' = true := fun v hv => by
                  obtain ⟨p, hp, rfl⟩ := List.mem_iff_getElem.1 hv
                  have hp' : p < ys.length * k2 := by simpa [f0] using hp
                  have hj := Nat.mod_lt p (Nat.pos_of_ne_zero hk)
                  have hi : p / k2 < ys.length := (Nat.div_lt_iff_lt_mul (Nat.pos_of_ne_zero hk)).2 hp'
                  obtain ⟨a1, a2⟩ := f1 (p / k2) (p % k2) hi hj
                  have e : p / k2 * k2 + p % k2 = p := by rw [Nat.mul_comm]; exact Nat.div_add_mod p k2
                  rw [e] at a1
                  have : A.toList[p] = f (p / k2) (p % k2) := by
                    rw [Array.getElem?_eq_getElem (by simpa using hp)] at a1
                    simpa using Option.some.inj a1
                  rw [this]; exact a2
                obtain ⟨w', cs', g1, g2, g3, g4⟩ := run_storeCells (P := P) blk (n * k2) T' A.toList 0 cs w q1 (by simp [f0]; omega) hone
                have hbs := (hs.plow id blk (by rw [hH]; simp) h3).1
                have hcs' : ∀ i j, i < (es.take n ++ ys).length → j < k2 → cs'[i * k2 + j]? = some (if i < n then F i j else f (i - n) j) ∧ (if i < n then F i j else f (i - n) j).oneCell' = true := fun i j hi hj => by
                  rw [hlen2] at hi
                  rw [g4]
                  simp only [Nat.add_zero, Array.length_toList, f0]
                  by_cases hin : i < n
                  · have := idx_lt hin hj
                    rw [if_pos hin, if_neg (by omega)]
                    exact q4 i j (by omega) hj
                  · have hi2 : i - n < ys.length := by omega
                    have := idx_lt hi2 hj
                    have e : i * k2 = (i - n) * k2 + n * k2 := by rw [← Nat.add_mul]; congr 1; omega
                    rw [if_neg hin, if_pos (by omega)]
                    have := f1 (i - n) j hi2 hj
                    simp only [Array.getElem?_toList]
                    rw [show i * k2 + j - n * k2 = (i - n) * k2 + j by omega]
                    exact this
                obtain ⟨h6, h7⟩ := hs.older ho (es' := es.take n ++ ys) (p := some blk) (room := c.room id) (w' := w') (fun b hb hnb => by rw [g2.get _ hbs, if_neg (fun e => hnb (by rw [e]; exact h3))]) (by rw [g2.size]; exact Nat.le_refl _) g2.toSame
                  (fun b hb => by cases hb; exact .inl h3) (fun hext => by
                    refine ⟨hk, hall2, fun hn => by simp [Ctx.older] at hn, fun b hb => ?_⟩
                    have hb' : b = blk := by simp [Ctx.older] at hb; exact hb.symm
                    subst hb'
                    refine ⟨cs', T', fun i j => if i < n then F i j else f (i - n) j, by rw [g2.get _ hbs, if_pos rfl], by rw [hlen2, g3, Nat.add_mul]; exact hfit, by simp [Ctx.older, g3, q3], hcs', fun i hi j hj => ?_⟩
                    dsimp only
                    by_cases hin : i < n
                    · rw [if_pos hin]
                      have e : (es.take n ++ ys)[i] = es[i]'(by omega) := by rw [List.getElem_append_left (by simp; omega)]; simp
                      have hj' : j < (cellsOf (es[i]'(by omega))).length := by rw [← e]; exact hj
                      have := (q5 i (by omega) j hj').ext hext
                      simp only [e]
                      exact this
                    · rw [if_neg hin]
                      have hi2 : i - n < ys.length := by rw [hlen2] at hi; omega
                      have e : (es.take n ++ ys)[i] = ys[i - n]'hi2 := by
                        rw [List.getElem_append_right (by simp; omega)]
                        congr 1; simp; omega
                      have hj' : j < (cellsOf (ys[i - n]'hi2)).length := by rw [← e]; exact hj
                      have := (f2 (i - n) hi2 j hj').ext hext
                      simp only [e]
                      exact this)
                have hrun := hap.room (a := some ⟨blk, 0 * k2, none⟩) (n := n) (cap := cap) (w' := w') hroom (fun b hb => by cases hb; rw [addr_add, Nat.zero_mul, Nat.zero_add]; exact g1) (fun h => by cases h)
                refine Runs.of hrun h6 h7 ?_
                have hH2 : (c.older (σ.set id (.arr k2 (e + 1) (es.take n ++ ys))) id (some blk) (c.room id)).H id = .arr k2 (e + 1) := by
                  show hd _ id = _
                  rw [hd_of (List.getElem?_set_self hlt)]
                exact R.sl (by rw [show (c.older _ id _ _).N = c.N from rfl, hs.N]; exact hlt) hH2 (by simp [Ctx.older]) hroom (by simpa [Ctx.older] using h5)
              · exact grow _ _ (by omega) (by obtain ⟨B, b1, b2⟩ := hold; exact ⟨B, b1, fun w' hw' => b2 w' hw'⟩)
            | @sl0 _ _ _ _ k2 a h1 h2 =>
              exact grow a 0 (by omega) ⟨#[], by simp; exact RowR.nil, fun w' _ => by cases a <;> simp [Builtin.firstCells, loadCells, loadCellsFrom]⟩
            | slOld h0 h1 h2 => exact absurd (h2 _ _ hH) (Nat.lt_irrefl _)
          · cases h
        · cases h
    · cases h
theorem append_R {c : Ctx} {σ σ' : Store} (hs : Sim M w c σ) {x y v : AVal} {cx cy : Value} (hx : R M w c x cx) (hy : R M w c y cy) {ys : List AVal} {k : Nat} (hrd : rd σ y = some ys) (h : append k x ys σ = some (v, σ'))
    {T U ty : TypeId} (ht : AppTy P T U k) : Runs M P c w (do pure (.value (← Builtin.append_ #[T, U] ty #[cx, cy]))) v σ' :=
  append_core hs hx ht.k0 h fun hall =>
    let ⟨r1, A, r4, hf⟩ := rd_R hs hy hrd ht.k0 hall
    ⟨A, r4, fun h1 h2 h3 => run_app_room ht (r1 w) (hf w rfl) h1 h2 h3, fun h1 h2 h3 => run_app_grow ht (r1 w) hf h1 h2 h3⟩
structure AppzTy (P : Program) (T U : TypeId) (k : Nat) (e : TypeId) (i : TypeInfo) (z : Value) : Prop where
  sl : P.underlying T = some (.slice e)
  info : P.info? e = some i
  size : i.size = k
  zero : i.zero = some z
  cells : z.cells.size = k
  small : i.bytes ≤ 1024
  some_ : i.bytes ≠ 0
  int : ∃ q, P.underlying U = some (.int q)
  k0 : k ≠ 0
theorem appz_run {T U ty e : TypeId} {k : Nat} {i : TypeInfo} {z : Value} (ht : AppzTy P T U k e i z) {q : IntKind} {m : Nat} (hm : m ≤ most) : AppRun P w T U ty k (.int q m) m (Builtin.zeroCells z.cells m) := by
  obtain ⟨h1, h2, h3, h4, h5, h6, h7, ⟨q', h8⟩, h9⟩ := ht
  have hmost : most = 68719476736 := rfl
  have hw : IntKind.i64.wrap (m : Int) = m := by
    simp [IntKind.wrap, IntKind.bits, IntKind.signed]; omega
  have hneg : ¬ ((m : Int) < 0) := by omega
  have hby : ¬ (281474976710656 < (m : Int) * (i.bytes : Int)) := by
    have : m * i.bytes ≤ m * 1024 := Nat.mul_le_mul_left m h6
    have : m * i.bytes ≤ 281474976710656 := by omega
    have := Int.ofNat_le.2 this
    rw [Int.natCast_mul] at this
    omega
  have hz : ∀ w', (if m * i.size = 0 then (pure #[] : Sem (Array Value)) else do pure (Builtin.zeroCells (← zeroValue e).cells m)).run P w' = .ok (Builtin.zeroCells z.cells m) w' := fun w' => by
    by_cases h0 : m * i.size = 0
    · rw [if_pos h0]
      have : m = 0 := by
        rcases Nat.mul_eq_zero.1 h0 with h | h
        · exact h
        · omega
      subst this
      simp [Builtin.zeroCells]
    · rw [if_neg h0]
      simp [zeroValue, typeInfo, h2, h4]
  have hA : ∀ w', m * i.size ≠ 0 → (zeroValue e).run P w' = .ok z w' := fun w' _ => by simp [zeroValue, typeInfo, h2, h4]
  have hA0 : m * i.size = 0 → Builtin.zeroCells z.cells m = #[] := fun h0 => by
    have : m = 0 := by
      rcases Nat.mul_eq_zero.1 h0 with h | h
      · exact h
      · omega
    subst this
    simp [Builtin.zeroCells]
  refine ⟨fun {a n cap w'} hroom hst hn => ?_, fun {a n cap B} ho hroom hbig => ?_⟩
  · cases a with
    | none =>
      obtain rfl := hn rfl
      by_cases h0 : m * i.size = 0
      · simp [Builtin.append_, run_underlying h1, run_underlying h8, sizeOf, typeInfo, h2, asInt, asIntOf, hw, hneg, hby, hroom, h0]
      · simp [Builtin.append_, run_underlying h1, run_underlying h8, sizeOf, typeInfo, h2, asInt, asIntOf, hw, hneg, hby, hroom, h0, zeroValue, h4]
    | some b =>
      have := hst b rfl
      rw [← h3] at this
      by_cases h0 : m * i.size = 0
      · have this' : ((storeCells (b.add (n * i.size)) []).run P w) = .ok () w' := by rw [hA0 h0] at this; exact this
        simp [Builtin.append_, run_underlying h1, run_underlying h8, sizeOf, typeInfo, h2, asInt, asIntOf, hw, hneg, hby, hroom, h0, this']
      · simp [Builtin.append_, run_underlying h1, run_underlying h8, sizeOf, typeInfo, h2, asInt, asIntOf, hw, hneg, hby, hroom, h0, zeroValue, h4, this]
  · have hn : ¬ (n + m ≤ cap) := by omega
    have h63' : ¬ (9223372036854775807 < ((n : Int) + (m : Int))) := by omega
    have h48' : ¬ (281474976710656 < Builtin.nextslicecap (n + m) cap * i.bytes) := by
      have a1 := nextslicecap_le hroom
      have a2 : Builtin.nextslicecap (n + m) cap * i.bytes ≤ (2 * (n + m) + 192) * 1024 := Nat.mul_le_mul a1 h6
      omega
    have ho' := ho w.drew rfl
    refine ⟨(Question.appendCap (n + m) cap e).cut (w.tape w.drawn (.appendCap (n + m) cap e)), e, Builtin.zeroCells z.cells ((Question.appendCap (n + m) cap e).cut (w.tape w.drawn (.appendCap (n + m) cap e)) - (n + m)), w.drew, rfl, ⟨rfl, rfl, rfl, Nat.le_refl _⟩, ?_, ?_, ?_⟩
    rotate_left 2
    · rw [← h3] at ho'
      by_cases h0 : m * i.size = 0
      · simp [Builtin.append_, run_underlying h1, run_underlying h8, sizeOf, typeInfo, h2, asInt, asIntOf, hw, hneg, hby, hn, h63', h48', Question.forced, ho', newRow, h0, zeroValue, h4, hA0 h0]
        rfl
      · simp [Builtin.append_, run_underlying h1, run_underlying h8, sizeOf, typeInfo, h2, asInt, asIntOf, hw, hneg, hby, hn, h63', h48', Question.forced, ho', newRow, h0, zeroValue, h4]
        rfl
    · simp [Question.cut]
    · simp [Builtin.zeroCells, h5]
end Go.AM

namespace Go.AM
variable {M : Names} {w : World} {P : Program}
theorem fresh_iff {c : Ctx} {σ : Store} (hs : Sim M w c σ) {id ep : Nat} (h : fresh σ id ep = true) : ∃ k es, σ[id]? = some (.arr k ep es) ∧ c.H id = .arr k ep := by
  unfold fresh at h
  split at h
  · rename_i k e es he
    have : e = ep := by simpa using h
    subst this
    exact ⟨k, es, he, by rw [hs.H, hd_of he]⟩
  · cases h
theorem ptr_fresh {c : Ctx} {σ : Store} (hs : Sim M w c σ) {id ep i o : Nat} {p : Value} (hp : R M w c (.ptr id ep i o) p) (hf : fresh σ id ep = true) :
    ∃ k b, id < c.N ∧ c.H id = .arr k ep ∧ c.place id = some b ∧ p = .pointer (some ⟨b, i * k + o, none⟩) := by
  obtain ⟨k, es, he, hH⟩ := fresh_iff hs hf
  cases hp with
  | ptr h1 h2 h3 => rw [hH] at h2; cases h2; exact ⟨_, _, h1, hH, h3, rfl⟩
  | ptrOld h0 h1 h2 => exact absurd (h2 _ _ hH) (Nat.lt_irrefl _)
theorem fieldPlace_run {f : Field} {n : Nat} (h : (P.info? f.type).map (·.size) = some n) (hn : n ≠ 0) (a : Addr) : (fieldPlace a f).run P w = .ok (a.add f.offset) w := by
  unfold fieldPlace
  simp [run_sizeOf h, hn]
theorem fld_R {c : Ctx} {σ : Store} (hs : Sim M w c σ) {p v : AVal} {cp : Value} (hp : R M w c p cp) {S : TypeId} {i off n : Nat} {fs : Array Field} {f : Field} (hS : P.underlying S = some (.struct fs)) (hf : fs[i]? = some f)
    (ho : f.offset = off) (hn : (P.info? f.type).map (·.size) = some n) (hn0 : n ≠ 0)
    (h : fldV σ off p = some v) : ∃ cv, (Instr.fieldAt S cp i).run P w = .ok cv w ∧ R M w c v cv := by
  have key : ∀ b o, (Instr.fieldAt S (.pointer (some ⟨b, o, none⟩)) i).run P w = .ok (.pointer (some ⟨b, o + off, none⟩)) w := fun b o => by
    unfold Instr.fieldAt Instr.sureAddr
    simp only [Sem.run_bind, run_underlying hS, Result.andThen_ok, hf, Sem.run_pure, fieldPlace_run hn hn0, addr_add, ho]
  cases p with
  | ptr id ep j o =>
    simp only [fldV, idxsV] at h
    split at h
    · rename_i hfr
      cases h
      obtain ⟨k, b, h1, h2, h3, rfl⟩ := ptr_fresh hs hp hfr
      exact ⟨_, key _ _, by rw [Nat.add_assoc]; exact .ptr h1 h2 h3⟩
    · cases h
  | cptr b y o =>
    cases h
    cases hp with
    | cptr f h1 h2 h3 h4 => exact ⟨_, key _ _, by rw [Nat.add_assoc]; exact .cptr f h1 h2 h3 h4⟩
  | _ => cases h
theorem asNat_R {c : Ctx} {i : AVal} {ci : Value} {n : Nat} (hi : R M w c i ci) (h : asNat i = some n) : ∃ k, ci = .int k n := by
  cases hi <;> simp only [asNat] at h <;> first | (cases h; done) | skip
  split at h
  · cases h
    rename_i h0
    exact ⟨_, by rw [Int.toNat_of_nonneg h0]⟩
  · cases h
theorem idxs_R {c : Ctx} {σ : Store} (hs : Sim M w c σ) {x v : AVal} {cx ci : Value} (hx : R M w c x cx) {n : Nat} (hi : ∃ k, ci = .int k (n : Int)) {T e : TypeId} {k : Nat} (hT : P.underlying T = some (.slice e)) (hk : (P.info? e).map (·.size) = some k) (hk0 : k ≠ 0)
    (h : idxsV σ k n x = some v) : ∃ cv, (Instr.indexAt T cx ci).run P w = .ok cv w ∧ R M w c v cv := by
  obtain ⟨ik, rfl⟩ := hi
  have key : ∀ (a : Addr) (len cap : Nat), n < len → (Instr.indexAt T (.slice (some a) len cap) (.int ik n)).run P w = .ok (.pointer (some (a.add (n * k)))) w := fun a len cap hlt => by
    unfold Instr.indexAt
    have h0 : (0 : Int) ≤ (n : Int) ∧ (n : Int) < (len : Int) := ⟨by omega, by omega⟩
    simp only [asIntOf, Sem.run_bind, Sem.run_pure, Result.andThen_ok, run_underlying hT, h0, and_self, if_true, run_sizeOf hk]
    rfl
  cases x with
  | imm b xs =>
    simp only [idxsV, Option.bind_eq_some_iff] at h
    obtain ⟨y, hy, h⟩ := h
    split at h
    · rename_i hyk
      cases h
      obtain ⟨hlt, rfl⟩ := List.getElem?_eq_some_iff.1 hy
      cases hx with
      | @imm _ _ _ cap a K f h1 h2 h3 h4 h5 h6 h7 =>
        obtain ⟨blk, o, sp⟩ := a
        simp only at h1 h2 h6
        subst h2
        have hK : K = k := by rw [← h5 _ (List.getElem_mem hlt)]; exact hyk
        subst hK
        refine ⟨_, key _ _ _ hlt, ?_⟩
        rw [addr_add]
        have := R.cptr (M := M) (w := w) (c := c) (b := b) (x := xs[n]) (off := 0) (o := o + n * K) (blk := blk) (f n) h1 (by omega) (fun j hj => h6 n j hlt (by omega)) (fun j hj => by
          cases b with
          | true => exact (h7 n hlt j hj).ext (Ext.ofStill hs.sb true)
          | false => exact h7 n hlt j hj)
        simpa using this
      | imm0 => simp at hlt
    · cases h
  | lst xs =>
    simp only [idxsV, Option.bind_eq_some_iff] at h
    obtain ⟨y, hy, h⟩ := h
    split at h
    · rename_i hyk
      cases h
      obtain ⟨hlt, rfl⟩ := List.getElem?_eq_some_iff.1 hy
      cases hx with
      | @lst _ _ cap a K f h1 h2 h3 h4 h5 h6 h7 =>
        obtain ⟨blk, o, sp⟩ := a
        simp only at h1 h2 h6
        subst h2
        have hK : K = k := by rw [← h5 _ (List.getElem_mem hlt)]; exact hyk
        subst hK
        refine ⟨_, key _ _ _ hlt, ?_⟩
        rw [addr_add]
        have := R.cptr (M := M) (w := w) (c := c) (b := true) (x := xs[n]) (off := 0) (o := o + n * K) (blk := blk) (f n) (hs.sb _ h1) (by omega) (fun j hj => h6 n j hlt (by omega)) (fun j hj => h7 n hlt j hj)
        simpa using this
      | lst0 => simp at hlt
    · cases h
  | sl id ep off m =>
    simp only [fldV, idxsV] at h
    split at h
    · rename_i hc
      obtain ⟨hlt, ha, hf⟩ := hc
      cases h
      obtain ⟨k', es, he, hH⟩ := fresh_iff hs hf
      have hkk : k' = k := by simp only [arrK, he] at ha; exact Option.some.inj ha
      subst hkk
      cases hx with
      | @sl _ _ _ _ _ cap k2 blk h1 h2 h3 h4 h5 =>
        have hkk : k2 = k' := by rw [hH] at h2; cases h2; rfl
        subst hkk
        refine ⟨_, key _ _ _ hlt, ?_⟩
        rw [addr_add, ← Nat.add_mul]
        exact R.ptr (off := 0) h1 hH h3
      | sl0 h1 h2 => omega
      | slOld h0 h1 h2 => exact absurd (h2 _ _ hH) (Nat.lt_irrefl _)
    · cases h
  | _ => cases h
theorem idxa_R {c : Ctx} {σ : Store} (hs : Sim M w c σ) {x v : AVal} {cx ci : Value} (hx : R M w c x cx) {n m s : Nat} (hi : ∃ k, ci = .int k (n : Int)) {T e : TypeId} (hT : P.underlying T = some (.array m e)) (hk : (P.info? e).map (·.size) = some s)
    (hn : n < m) (h : fldV σ (n * s) x = some v) : ∃ cv, (Instr.indexAt T cx ci).run P w = .ok cv w ∧ R M w c v cv := by
  obtain ⟨ik, rfl⟩ := hi
  have key : ∀ (b o : Nat), (Instr.indexAt T (.pointer (some ⟨b, o, none⟩)) (.int ik n)).run P w = .ok (.pointer (some ⟨b, o + n * s, none⟩)) w := fun b o => by
    unfold Instr.indexAt
    have h0 : (0 : Int) ≤ (n : Int) ∧ (n : Int) < (m : Int) := ⟨by omega, by omega⟩
    simp only [asIntOf, Sem.run_bind, Sem.run_pure, Result.andThen_ok, run_underlying hT, Instr.sureAddr, h0, and_self, if_true, run_sizeOf hk]
    rw [← addr_add]; rfl
  cases x with
  | ptr id ep j o =>
    simp only [fldV, idxsV] at h
    split at h
    · rename_i hfr
      cases h
      obtain ⟨k, b, h1, h2, h3, rfl⟩ := ptr_fresh hs hx hfr
      exact ⟨_, key _ _, by rw [Nat.add_assoc]; exact .ptr h1 h2 h3⟩
    · cases h
  | cptr b y o =>
    cases h
    cases hx with
    | cptr f h1 h2 h3 h4 => exact ⟨_, key _ _, by rw [Nat.add_assoc]; exact .cptr f h1 h2 h3 h4⟩
  | _ => cases h
theorem part_R {c : Ctx} {x v : AVal} {cx : Value} (hx : R M w c x cx) (hxa : Go.AM.isAgg x = true) (hx0 : ncells x ≠ 0) {T : TypeId} {a : Bool} {s off : Nat} (ht : tyOk P T a s = true) (h : getPart a s x off = some v) :
    ∃ A cv, cx = .agg A ∧ (part T A off).run P w = .ok cv w ∧ R M w c v cv := by
  obtain ⟨cs, rfl⟩ := isAgg_iff hxa
  cases hx with
  | @agg _ _ vs f h1 h2 h3 h4 =>
    by_cases h0 : cs = []
    · subst h0
      exact absurd rfl (hx0 : ncells (.agg []) ≠ 0)
    · have hn0 : ncells (.agg cs) ≠ 0 := by simp [ncells, h0]
      obtain ⟨hle, hr⟩ := getPart_R (f := f) (show CellsR M w c (.agg cs) f from ⟨fun j hj => (h2 j hj).2, h4⟩) hn0 h (fun ha => by subst ha; exact tyOk_one ht)
      have hle' : off + s ≤ cs.length := hle
      refine ⟨vs, _, rfl, ?_, hr⟩
      unfold part
      cases a with
      | true =>
        simp only [Sem.run_bind, run_isAgg ht, Result.andThen_ok, if_true, run_sizeOf (tyOk_size ht), Sem.run_pure]
        congr 2
        apply Array.ext
        · simp; omega
        · intro j hj1 hj2
          simp at hj2
          have := (h2 (off + j) (by omega)).1
          rw [Array.getElem?_eq_getElem (by rw [h1]; omega)] at this
          simp
          exact Option.some.inj this
      | false =>
        obtain rfl := tyOk_one ht
        simp only [Sem.run_bind, run_isAgg ht, Result.andThen_ok, Bool.false_eq_true, if_false, (h2 off (by omega)).1, Sem.run_pure]
theorem alen_R {c : Ctx} {σ : Store} (hs : Sim M w c σ) {x : AVal} {cx : Value} (hx : R M w c x cx) {n : Nat} (h : alen σ x = some n) : ∃ a cap, cx = .slice a n cap ∧ n ≤ cap := by
  cases hx with
  | imm K f h1 h2 h3 => simp only [alen, Option.some.injEq] at h; subst h; exact ⟨_, _, rfl, h3⟩
  | imm0 => simp only [alen, List.length_nil, Option.some.injEq] at h; subst h; exact ⟨_, _, rfl, Nat.zero_le _⟩
  | lst K f h1 h2 h3 => simp only [alen, Option.some.injEq] at h; subst h; exact ⟨_, _, rfl, h3⟩
  | lst0 => simp only [alen, List.length_nil, Option.some.injEq] at h; subst h; exact ⟨_, _, rfl, Nat.zero_le _⟩
  | nil0 => simp only [alen, Option.some.injEq] at h; subst h; exact ⟨_, _, rfl, Nat.zero_le _⟩
  | emp _ => simp only [alen, Option.some.injEq] at h; subst h; exact ⟨_, _, rfl, Nat.zero_le _⟩
  | sl h1 h2 h3 h4 =>
    simp only [alen] at h
    split at h
    · cases h; exact ⟨_, _, rfl, h4⟩
    · cases h
  | sl0 =>
    simp only [alen] at h
    split at h
    · cases h; exact ⟨_, _, rfl, Nat.zero_le _⟩
    · cases h
  | slOld h0 h1 h2 =>
    simp only [alen] at h
    split at h
    · rename_i hf
      obtain ⟨k, es, he, hH⟩ := fresh_iff hs hf
      exact absurd (h2 _ _ hH) (Nat.lt_irrefl _)
    · cases h
  | _ => simp [alen] at h
theorem len_R {c : Ctx} {σ : Store} (hs : Sim M w c σ) {x : AVal} {cx : Value} (hx : R M w c x cx) {n : Nat} (h : alen σ x = some n) {T ty e : TypeId} (hT : P.underlying T = some (.slice e)) :
    (Builtin.len_ #[T] ty #[cx]).run P w = .ok (.int .i64 n) w := by
  obtain ⟨a, cap, rfl, _⟩ := alen_R hs hx h
  simp [Builtin.len_, run_underlying hT, goInt]
theorem tlen_R {c : Ctx} {x : AVal} {cx : Value} (hx : R M w c x cx) {n : Nat} (h : tlen x = some n) : ∃ s t, x = .str s ∧ cx = .string t ∧ t.data.toList = s ∧ t.size = n := by
  cases hx with
  | @str _ s t ht =>
    simp only [tlen, Option.some.injEq] at h
    subst ht h
    exact ⟨_, t, rfl, rfl, rfl, by simp⟩
  | _ => simp [tlen] at h
theorem lent_R {c : Ctx} {x : AVal} {cx : Value} (hx : R M w c x cx) {n : Nat} (h : tlen x = some n) {T ty : TypeId} (hT : P.underlying T = some .string) :
    (Builtin.len_ #[T] ty #[cx]).run P w = .ok (.int .i64 n) w := by
  obtain ⟨s, t, rfl, rfl, _, hn⟩ := tlen_R hx h
  simp [Builtin.len_, run_underlying hT, goInt, hn]
theorem bound_run {k : IntKind} {n y : Nat} {code : BoundsCode} (h : n ≤ y) : (Instr.sliceBound (.int k n) y code).run P w = .ok n w := by
  rw [run_sliceBound w k n y code (by omega) (by omega)]; simp
theorem bounds_run {len cap l h : Nat} {isS : Bool} {lo hi : Option Value} (hlo : (lo = none ∧ l = 0) ∨ ∃ k, lo = some (.int k (l : Int))) (hhi : (hi = none ∧ h = len) ∨ ∃ k, hi = some (.int k (h : Int))) (h1 : l ≤ h) (h2 : h ≤ cap) :
    (Instr.sliceBounds isS len cap lo hi none).run P w = .ok (l, h, cap) w := by
  unfold Instr.sliceBounds
  rcases hlo with ⟨rfl, rfl⟩ | ⟨k, rfl⟩ <;> rcases hhi with ⟨rfl, rfl⟩ | ⟨k', rfl⟩ <;> simp [bound_run h1, bound_run h2]
theorem slice_R {c : Ctx} {σ : Store} (hs : Sim M w c σ) {x v : AVal} {cx : Value} (hx : R M w c x cx) {n l h : Nat} (hn : alen σ x = some n) {lo hi : Option Value} (hlo : (lo = none ∧ l = 0) ∨ ∃ k, lo = some (.int k (l : Int)))
    (hhi : (hi = none ∧ h = n) ∨ ∃ k, hi = some (.int k (h : Int))) {s : Nat} (hv : aslice σ s x l h = some v) {T e : TypeId} (hT : P.underlying T = some (.slice e)) (hk : (P.info? e).map (·.size) = some s) :
    ∃ cv, (Instr.sliceAt T cx lo hi none).run P w = .ok cv w ∧ R M w c v cv := by
  obtain ⟨a, cap, rfl, hcap⟩ := alen_R hs hx hn
  have hrun : l ≤ h → h ≤ n → (Instr.sliceAt T (.slice a n cap) lo hi none).run P w = .ok (.slice (if cap = l then a else a.map (·.add (l * s))) (h - l) (cap - l)) w := fun h1 h2 => by
    unfold Instr.sliceAt Instr.slice
    simp only [Sem.run_bind, run_underlying hT, Result.andThen_ok, bounds_run hlo hhi h1 (Nat.le_trans h2 hcap), run_sizeOf hk, Sem.run_pure]
  cases x with
  | imm b xs =>
    simp only [aslice] at hv
    split at hv
    · rename_i hc
      obtain ⟨c1, c2, c3⟩ := hc
      cases hv
      simp only [alen, Option.some.injEq] at hn
      subst hn
      refine ⟨_, hrun c1 c2, ?_⟩
      by_cases h0 : h = l
      · subst h0
        simp; exact .imm0
      · rw [if_neg (by omega)]
        cases hx with
        | @imm _ _ _ _ a' K f h1 h2 h3 h4 h5 h6 h7 =>
          obtain ⟨blk, o, sp⟩ := a'
          simp only at h1 h2 h6
          subst h2
          have hK : K = s := by
            have hm : xs[l]'(by omega) ∈ xs := List.getElem_mem _
            have := List.all_eq_true.1 c3 _ hm
            rw [← h5 _ hm]; simpa using this
          subst hK
          have hl2 : ((xs.drop l).take (h - l)).length = h - l := by simp; omega
          have := R.imm (M := M) (w := w) (c := c) (b := b) (xs := (xs.drop l).take (h - l)) (cap := cap - l) (a := ⟨blk, o + l * K, none⟩) K (fun i j => f (l + i) j) h1 rfl (by omega) h4 (fun y hy => h5 y (List.mem_of_mem_drop (List.mem_of_mem_take hy)))
            (fun i j hi hj => by
              have := h6 (l + i) j (by omega) hj
              rw [show o + l * K + i * K + j = o + (l + i) * K + j by rw [Nat.add_mul]; omega]
              exact this)
            (fun i hi j hj => by
              have hi' : l + i < xs.length := by omega
              have e : ((xs.drop l).take (h - l))[i] = xs[l + i] := by simp
              have hj' : j < (cellsOf xs[l + i]).length := by rw [← e]; exact hj
              have := h7 (l + i) hi' j hj'
              simp only [List.getElem_take, List.getElem_drop]
              exact this)
          rw [hl2] at this
          simpa [addr_add] using this
        | imm0 => simp at c2; omega
    · cases hv
  | lst xs =>
    simp only [aslice] at hv
    split at hv
    · rename_i hc
      obtain ⟨c1, c2, c3⟩ := hc
      cases hv
      simp only [alen, Option.some.injEq] at hn
      subst hn
      refine ⟨_, hrun c1 c2, ?_⟩
      by_cases h0 : h = l
      · subst h0
        simp; exact .lst0
      · rw [if_neg (by omega)]
        cases hx with
        | @lst _ _ _ a' K f h1 h2 h3 h4 h5 h6 h7 =>
          obtain ⟨blk, o, sp⟩ := a'
          simp only at h1 h2 h6
          subst h2
          have hK : K = s := by
            have hm : xs[l]'(by omega) ∈ xs := List.getElem_mem _
            have := List.all_eq_true.1 c3 _ hm
            rw [← h5 _ hm]; simpa using this
          subst hK
          have hl2 : ((xs.drop l).take (h - l)).length = h - l := by simp; omega
          have := R.lst (M := M) (w := w) (c := c) (xs := (xs.drop l).take (h - l)) (cap := cap - l) (a := ⟨blk, o + l * K, none⟩) K (fun i j => f (l + i) j) h1 rfl (by omega) h4 (fun y hy => h5 y (List.mem_of_mem_drop (List.mem_of_mem_take hy)))
            (fun i j hi hj => by
              have := h6 (l + i) j (by omega) hj
              rw [show o + l * K + i * K + j = o + (l + i) * K + j by rw [Nat.add_mul]; omega]
              exact this)
            (fun i hi j hj => by
              have hi' : l + i < xs.length := by omega
              have e : ((xs.drop l).take (h - l))[i] = xs[l + i] := by simp
              have hj' : j < (cellsOf xs[l + i]).length := by rw [← e]; exact hj
              have := h7 (l + i) hi' j hj'
              simp only [List.getElem_take, List.getElem_drop]
              exact this)
          rw [hl2] at this
          simpa [addr_add] using this
        | lst0 => simp at c2; omega
    · cases hv
  | nil0 =>
    simp only [aslice] at hv
    split at hv
    · rename_i hc
      obtain ⟨rfl, rfl⟩ := hc
      cases hv
      refine ⟨_, hrun (Nat.le_refl _) (Nat.zero_le _), ?_⟩
      cases hx
      simp; exact .nil0
    · cases hv
  | sl id ep off m =>
    simp only [aslice] at hv
    split at hv
    · rename_i hc
      obtain ⟨c1, c2, c3⟩ := hc
      cases hv
      simp only [alen] at hn
      split at hn
      · rename_i hf
        obtain ⟨k, es, he, hH⟩ := fresh_iff hs hf
        cases hn
        have hsk : k = s := by simp only [arrK, he] at c3; exact Option.some.inj c3
        subst hsk
        refine ⟨_, hrun c1 c2, ?_⟩
        by_cases hcl : cap = l
        · have h0 : h = l := by omega
          have hlt : id < c.N := by cases hx <;> assumption
          subst hcl h0
          simp; exact .sl0 hlt hH
        · rw [if_neg hcl]
          cases hx with
          | @sl _ _ _ _ _ _ k2 blk h1 h2 h3 h4 h5 =>
            have hkk : k2 = k := by rw [hH] at h2; cases h2; rfl
            subst hkk
            simp only [Option.map_some, addr_add, ← Nat.add_mul]
            exact .sl h1 hH h3 (by omega) (by rw [show off + l + (cap - l) = off + cap by omega]; exact h5)
          | sl0 => omega
          | slOld h0 h1 h2 => exact absurd (h2 _ _ hH) (Nat.lt_irrefl _)
      · cases hn
    · cases hv
  | _ => simp [aslice] at hv
end Go.AM

namespace Go.AM
variable {M : Names} {w : World} {P : Program}
def TmpR (M : Names) (w : World) (c : Ctx) (env ls : List AVal) (rs : Tmp → Option Opd) (tmps : Array Value) : Prop :=
  ∀ t o, rs t = some o → R M w c (o.eval env ls) (tmps.getD t undef)
theorem nth_append {ls : List AVal} {j : Nat} (h : j < ls.length) (vs : List AVal) : nth (ls ++ vs) j = nth ls j := by
  unfold nth; rw [List.getElem?_append_left h]
theorem TmpR.ext {c c' : Ctx} {w' : World} {rs : Tmp → Option Opd} {env ls : List AVal} {tmps : Array Value} (h : TmpR M w c env ls rs tmps) (he : Ext c w c' w') : TmpR M w' c' env ls rs tmps :=
  fun t o ho => (h t o ho).ext he
theorem getD_put {a : Act} {d t : Tmp} {v : Value} (hd : d < a.tmps.size) : (a.put (some d) v).tmps.getD t undef = if t = d then v else a.tmps.getD t undef := by
  simp only [Act.put, Array.getD_eq_getD_getElem?, Array.getElem?_setIfInBounds]
  by_cases h : d = t
  · subst h; simp [hd]
  · have : ¬ t = d := fun e => h e.symm
    simp [h, this]
def plainEq : AVal → AVal → Bool
  | .int k n, .int k' n' => k == k' && n == n'
  | .bool a, .bool b => a == b
  | .str a, .str b => a == b
  | .nilp, .nilp => true
  | .nilf, .nilf => true
  | .nilm, .nilm => true
  | _, _ => false
theorem plainEq_eq {a b : AVal} (h : plainEq a b = true) : a = b := by
  cases a <;> cases b <;> simp [plainEq] at h <;> first | rfl | (subst h; rfl) | (obtain ⟨h1, h2⟩ := h; subst h1 h2; rfl)
def opdEq : Opd → Opd → Bool
  | .env i, .env j => i == j
  | .loc i, .loc j => i == j
  | .val a, .val b => plainEq a b
  | _, _ => false
theorem opdEq_eq {a b : Opd} (h : opdEq a b = true) : a = b := by
  cases a <;> cases b <;> simp [opdEq] at h <;> first | rw [h] | rw [plainEq_eq h]
def litsSame (a b : AVal) : Bool := isAgg a && isAgg b && (sameCells (cellsOf a) (cellsOf b) == some true)
theorem sameCell_eq {a b : AVal} (h : sameCell a b = some true) : a = b := by
  cases a <;> cases b <;> simp [sameCell] at h
  · obtain ⟨rfl, rfl⟩ := h; rfl
  · subst h; rfl
  · subst h; rfl
theorem sameCells_eq : ∀ {a b : List AVal}, sameCells a b = some true → a = b
  | [], [], _ => rfl
  | [], _ :: _, h => by simp [sameCells] at h
  | _ :: _, [], h => by simp [sameCells] at h
  | a :: x, b :: y, h => by
    simp only [sameCells, Option.bind_eq_some_iff] at h
    obtain ⟨t, h1, h2⟩ := h
    cases t with
    | true => rw [sameCell_eq h1, sameCells_eq h2]
    | false => simp [Option.map_eq_some_iff] at h2
theorem litsSame_eq {a b : AVal} (h : litsSame a b = true) : a = b := by
  simp only [litsSame, Bool.and_eq_true, beq_iff_eq] at h
  obtain ⟨⟨h1, h2⟩, h3⟩ := h
  obtain ⟨x, rfl⟩ := isAgg_iff h1
  obtain ⟨y, rfl⟩ := isAgg_iff h2
  have h3' : sameCells x y = some true := h3
  rw [sameCells_eq h3']
def okX (M : Names) (rs : Tmp → Option Opd) : Operand → Opd → Bool
  | .tmp t, x => match rs t with
    | some o => opdEq o x
    | none => false
  | .const v, .val a => constOk M.fm 6 v a
  | .func f, .val (.fn n [] []) => M.fm n == f
  | .global g, .val (.cptr false a 0) => match M.glob g with
    | some a' => litsSame a' a
    | none => false
  | _, _ => false
def Globs (M : Names) (w : World) (c : Ctx) : Prop := ∀ g a, M.glob g = some a → R M w c (.cptr false a 0) (.pointer (some ⟨g, 0, none⟩))
theorem Globs.ext {c c' : Ctx} {w' : World} (h : Globs M w c) (he : Ext c w c' w') : Globs M w' c' := fun g a hg => (h g a hg).ext he
theorem okX_R {c : Ctx} {rs : Tmp → Option Opd} {env ls : List AVal} {a : Act} (h : TmpR M w c env ls rs a.tmps) (hg : Globs M w c) {x : Operand} {x' : Opd} (hx : okX M rs x x' = true) :
    R M w c (x'.eval env ls) (a.eval x) := by
  unfold okX at hx
  split at hx
  · split at hx
    · rename_i o ho
      have := opdEq_eq hx
      subst this
      exact h _ _ ho
    · cases hx
  · exact const_R hx
  · rename_i f n
    have : M.fm n = f := by simpa using hx
    subst this
    exact .fn (fun _ => undef) (fun _ => undef) rfl rfl (by simp) (by simp) (by simp) (by simp)
  · split at hx
    · rename_i a' ha
      have := litsSame_eq hx
      subst this
      exact hg _ _ ha
    · cases hx
  · cases hx
structure Wide (F : Fence) : Prop where
  fn : ∀ f, F.fn f
  depth : F.depth = none
  alive : F.alive = false
theorem Wide.inRound {F : Fence} (h : Wide F) (l : Nat) : Wide (F.inRound l) := ⟨h.fn, h.depth, h.alive⟩
theorem Runs.wp {F : Fence} {n : Nat} (hF : Wide F) {c : Ctx} {o : Oper} {a : Act} {v : AVal} {σ' : Store} (h : Runs M P c w (execOp a.eval o) v σ') (hd : ∀ c, o.op ≠ .defer c) {K : Act → World → Prop} {Q : Exit → Act → World → Prop}
    (hK : ∀ cv w' c', Sim M w' c' σ' → Stp c w c' w' → R M w' c' v cv → K (a.put o.dst cv) w') : o.wpIn F n P a w K Q := by
  obtain ⟨nx, w', c', cv, h1, h2, h3, h4, h5⟩ := h
  refine ⟨fun f _ => hF.fn f, ?_⟩
  rw [Oper.semAt_eq _ _ _ hd, h1]
  rcases h2 with rfl | ⟨rfl, rfl⟩
  · exact hK cv w' c' h3 h4 h5
  · exact hK undef w' c' h3 h4 h5
end Go.AM
