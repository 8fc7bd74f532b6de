/- Maps whose keys are texts, or structs of plain cells. -/
import Derived.Test.YtmkkmacbmlcfaaaGreatDoorAm03
import Derived.Laws.BytesArg
set_option linter.unusedVariables false
set_option linter.unusedSimpArgs false
set_option linter.unusedSectionVars false
namespace Go.AM
variable {M : Names} {w : World} {P : Program}
theorem eqCells_eq : ∀ {ks : List Nat} {a b : List AVal}, eqCells ks a b = some true → a.length = ks.length → b.length = ks.length → a = b
  | [], [], [], _, _, _ => rfl
  | [], _ :: _, _, _, h, _ => by simp at h
  | [], [], _ :: _, _, _, h => by simp at h
  | k :: ks, [], _, _, h, _ => by simp at h
  | k :: ks, _ :: _, [], _, _, h => by simp at h
  | k :: ks, x :: a, y :: b, h, h1, h2 => by
    simp only [eqCells] at h
    split at h
    · cases hc : sameCell x y with
      | none => rw [hc] at h; cases h
      | some t =>
        rw [hc] at h
        cases t with
        | false => simp at h
        | true =>
          simp only [Option.bind_some, if_true] at h
          rw [sameCell_eq hc, eqCells_eq h (by simpa using h1) (by simpa using h2)]
    · cases h
theorem keyFits_key {ks : List Nat} {k : AVal} (h : keyFits ks k = true) : isKey k = true := by
  cases k <;> simp_all [keyFits, isKey]
theorem keyIsK_eq {ks : List Nat} {k e : AVal} (hk : keyFits ks k = true) (h : keyIsK ks k e = some true) : k = e := by
  unfold keyIsK at h
  split at h
  · rename_i he
    split at h
    · simp only [Option.some.injEq, beq_iff_eq] at h; rw [h]
    · rename_i a b
      simp only [keyFits, Bool.and_eq_true, beq_iff_eq] at hk he
      rw [eqCells_eq h (by rw [← hk.1.2]; simp) (by rw [← he.1.2]; simp)]
    · cases h
  · cases h
theorem plain_det {c : Ctx} {k : AVal} {x y : Value} (hx : R M w c k x) (hy : R M w c k y) (h : plainCell k = true) : x = y := by
  cases k <;> simp [plainCell] at h <;> cases hx <;> cases hy
  · rfl
  · rfl
  · rename_i t h1 t' h2
    have : t.data = t'.data := by apply Array.toList_inj.1; rw [h1, h2]
    have : t = t' := by cases t; cases t'; simp_all
    rw [this]
theorem key_det {c : Ctx} {k : AVal} {x y : Value} (hx : R M w c k x) (hy : R M w c k y) (h : isKey k = true) : x = y := by
  cases k with
  | int => exact plain_det hx hy rfl
  | str => exact plain_det hx hy rfl
  | agg cs =>
    simp only [isKey, List.all_eq_true] at h
    cases hx with | agg f h1 h2 h3 h4 => cases hy with | agg g g1 g2 g3 g4 =>
    congr 1
    apply Array.ext_getElem?
    intro i
    by_cases hi : i < cs.length
    · rw [(h2 i hi).1, (g2 i hi).1, plain_det (h4 i hi) (g4 i hi) (h _ (List.getElem_mem hi))]
    · rw [Array.getElem?_eq_none (by omega), Array.getElem?_eq_none (by omega)]
  | _ => simp [isKey] at h
theorem bits_plain {c : Ctx} {k : AVal} {x : Value} (hx : R M w c k x) (h : plainCell k = true) (n : Nat) : Instr.sameBits n x x = true := by
  cases k <;> simp [plainCell] at h <;> cases hx <;> cases n <;> first | (simp [Instr.sameBits]; done) | (simp only [Instr.sameBits]; rw [bytes_beq]; simp)
theorem bits_key {c : Ctx} {k : AVal} {x : Value} (hx : R M w c k x) (h : isKey k = true) : Instr.sameBits 10000 x x = true := by
  cases k with
  | int => exact bits_plain hx rfl _
  | str => exact bits_plain hx rfl _
  | agg cs =>
    simp only [isKey, List.all_eq_true] at h
    cases hx with | @agg _ _ vs f h1 h2 h3 h4 =>
    simp only [Instr.sameBits, beq_self_eq_true, Bool.true_and, List.all_eq_true]
    rintro ⟨p, q⟩ hp
    obtain ⟨i, hi, hpi⟩ := List.mem_iff_getElem.1 hp
    simp only [List.getElem_zip, Prod.mk.injEq] at hpi
    obtain ⟨rfl, rfl⟩ := hpi
    have hi' : i < cs.length := by simp at hi; omega
    have e := (h2 i hi').1
    rw [Array.getElem?_eq_getElem (by omega)] at e
    have e' : vs.toList[i]'(by simp; omega) = f i := by simpa using e
    rw [e']
    exact bits_plain (h4 i hi') (h _ (List.getElem_mem hi')) _
  | _ => simp [isKey] at h
def keyTy (P : Program) (T : TypeId) (ks : List Nat) : Bool := match ks with
  | [] => (match P.underlying T with | some .string => true | _ => false)
  | ks => (match P.underlying T with | some (.struct fs) => !P.stoodInHeld T && fieldsOk P 0 fs.toList ks | _ => false)
theorem checkPlain {e : Bool} {n : Nat} {T : TypeId} {k : Nat} (h : scalar P T k = true) (v : Value) : (Instr.checkKey e (n + 1) T v).run P w = .ok () w := by
  unfold scalar at h
  simp only [Bool.and_eq_true] at h
  have h2 := h.2
  unfold Instr.checkKey
  cases hd : P.underlying T with
  | none => rw [hd] at h2; cases h2
  | some d =>
    simp only [Sem.run_bind, run_underlying hd, Result.andThen_ok]
    rw [hd] at h2
    cases d <;> first | (simp at h2; done) | (cases v <;> rfl)
theorem checkFields {c : Ctx} {e : Bool} {n : Nat} {cs : Array Value} : ∀ {fs : List Field} {ks : List Nat} {i : Nat} {x : List AVal}, fieldsOk P i fs ks = true → CellsFrom M w c i x cs → x.length = ks.length →
    (forIn (m := Sem) fs PUnit.unit fun f _ => (if f.name ≠ "_" then do (Instr.checkKey e (n + 1) f.type (← part f.type cs f.offset)); pure (.yield PUnit.unit) else pure (.yield PUnit.unit))).run P w = .ok PUnit.unit w
  | [], [], _, _, _, _, _ => rfl
  | [], _ :: _, _, _, h, _, _ => by simp [fieldsOk] at h
  | _ :: _, [], _, _, h, _, _ => by simp [fieldsOk] at h
  | f :: fs, k :: ks, i, [], _, _, h => by simp at h
  | f :: fs, k :: ks, i, a :: x, h, hx, hl => by
    simp only [fieldsOk, Bool.and_eq_true, bne_iff_ne, beq_iff_eq] at h
    obtain ⟨⟨⟨f1, f2⟩, f3⟩, f4⟩ := h
    have hty : tyOk P f.type false 1 = true := by unfold scalar at f3; simp only [Bool.and_eq_true] at f3; exact f3.1
    obtain ⟨v1, p1, r1⟩ := hx.head
    subst f2
    simp only [List.forIn_cons, ne_eq, f1, not_false_eq_true, if_true, Sem.run_bind, part_cell hty p1, Result.andThen_ok, checkPlain f3, Sem.run_pure]
    exact checkFields f4 hx.tail (by simpa using hl)
theorem run_checkKeyK {c : Ctx} {ks : List Nat} {k : AVal} {ck : Value} (hk : R M w c k ck) (hf : keyFits ks k = true) {T : TypeId} (hT : keyTy P T ks = true) (e : Bool) : (Instr.checkKey e 10000 T ck).run P w = .ok () w := by
  cases k with
  | str s =>
    have hks : ks = [] := by simpa [keyFits] using hf
    subst hks
    unfold keyTy at hT
    simp only at hT
    cases hd : P.underlying T with
    | none => rw [hd] at hT; cases hT
    | some d =>
      rw [hd] at hT
      cases hk
      unfold Instr.checkKey
      simp only [Sem.run_bind, run_underlying hd, Result.andThen_ok]
      cases d <;> first | (simp at hT; done) | rfl
  | agg cs =>
    simp only [keyFits, Bool.and_eq_true, bne_iff_ne, beq_iff_eq] at hf
    obtain ⟨⟨f1, f2⟩, f3⟩ := hf
    unfold keyTy at hT
    split at hT
    · exact absurd rfl f1
    · split at hT
      · rename_i fs hfs
        simp only [Bool.and_eq_true] at hT
        cases hk with | @agg _ _ vs f h1 h2 h3 h4 =>
        have hR : RCells M w c cs vs := R.rcells (.agg f h1 h2 h3 h4)
        have := checkFields (P := P) (M := M) (w := w) (e := e) (n := 9998) hT.2 hR.from (by rw [← f2]; simp)
        unfold Instr.checkKey
        simp only [Sem.run_bind, run_underlying hfs, Result.andThen_ok]
        rw [← Array.forIn_toList]
        first | exact this | (simp only [Sem.run_bind, this, Result.andThen_ok]; rfl)
      · cases hT
  | _ => simp [keyFits] at hf
theorem keyIsK_asks {c : Ctx} {ks : List Nat} {k e : AVal} {ck ce : Value} (hk : R M w c k ck) (he : R M w c e ce) {t : Bool} (h : keyIsK ks k e = some t) (hn : ks ≠ []) {T : TypeId} (hT : keyTy P T ks = true) : (Op.equal T ck ce).run P w = .ok t w := by
  unfold keyIsK at h
  split at h
  · rename_i hf
    split at h
    · simp [keyFits] at hf; exact absurd hf hn
    · rename_i a b
      unfold keyTy at hT
      split at hT
      · exact absurd rfl hn
      · split at hT
        · rename_i fs hfs
          simp only [Bool.and_eq_true] at hT
          have hst : P.stoodInHeld T = false := by simpa using hT.1
          have hff : P.fieldsOf T = fs := by unfold Program.fieldsOf; rw [hfs]
          cases hk with | @agg _ _ xs f1 a1 a2 a3 a4 => cases he with | @agg _ _ ys g1 b1 b2 b3 b4 =>
          have hxs : RCells M w c a xs := R.rcells (.agg f1 a1 a2 a3 a4)
          have hys : RCells M w c b ys := R.rcells (.agg g1 b1 b2 b3 b4)
          show (Op.equalIn 10000 T (.agg xs) (.agg ys)).run P w = _
          rw [run_equalIn_struct w 9999 T xs ys (by rw [hff]; exact hfs) hst, hff]
          exact eqFields_R 9998 _ fs.toList 0 a b t hT.2 hxs.from hys.from h
        · cases hT
    · cases h
  · cases h
theorem keyIsK_now {c : Ctx} {k e : AVal} {ck ce : Value} (hk : R M w c k ck) (he : R M w c e ce) {t : Bool} (h : keyIsK [] k e = some t) : Instr.sameNow .string ck ce = some t := by
  unfold keyIsK at h
  split at h
  · rename_i hf
    split at h
    · cases hk with | str h1 => cases he with | str h2 =>
      cases h
      simp only [Instr.sameNow]
      rw [bytes_beq, h1, h2]
    · simp [keyFits] at hf
    · cases h
  · cases h
theorem lookupNow_R {c : Ctx} {k : AVal} {ck : Value} (hk : R M w c k ck) : ∀ {es : List (AVal × AVal)} {en : List MapEntry} (n : Nat) {r : Option AVal}, EntR M w c es en → lookupK [] k es = some r →
    (r = none ∧ Instr.findNow .string ck en n = some none) ∨ ∃ v i cv, r = some v ∧ Instr.findNow .string ck en n = some (some (i, cv)) ∧ R M w c v cv
  | [], [], n, r, _, h => by simp only [lookupK, Option.some.injEq] at h; exact .inl ⟨h.symm, rfl⟩
  | [], _ :: _, _, _, h, _ => by simp [EntR] at h
  | _ :: _, [], _, _, h, _ => by simp [EntR] at h
  | x :: es, e :: en, n, r, he, h => by
    obtain ⟨_, h2, h3⟩ := he.head
    simp only [lookupK] at h
    split at h
    · rename_i hq
      have a1 := keyIsK_now hk h2 hq
      cases h
      exact .inr ⟨_, n, _, rfl, by simp [Instr.findNow, a1], h3⟩
    · rename_i hq
      have a1 := keyIsK_now hk h2 hq
      rcases lookupNow_R hk (n + 1) he.tail h with ⟨b1, b2⟩ | ⟨v, i, cv, b1, b2, b3⟩
      · exact .inl ⟨b1, by simp [Instr.findNow, a1, b2]⟩
      · exact .inr ⟨v, i, cv, b1, by simp [Instr.findNow, a1, b2], b3⟩
    · cases h
theorem lookupAsk_R {c : Ctx} {ks : List Nat} (hn : ks ≠ []) {T : TypeId} (hT : keyTy P T ks = true) {k : AVal} {ck : Value} (hk : R M w c k ck) : ∀ {es : List (AVal × AVal)} {en : List MapEntry} (n : Nat) {r : Option AVal}, EntR M w c es en → lookupK ks k es = some r →
    (r = none ∧ (Instr.findAsking T ck en n).run P w = .ok none w) ∨ ∃ v i cv, r = some v ∧ (Instr.findAsking T ck en n).run P w = .ok (some (i, cv)) w ∧ R M w c v cv
  | [], [], n, r, _, h => by simp only [lookupK, Option.some.injEq] at h; exact .inl ⟨h.symm, rfl⟩
  | [], _ :: _, _, _, h, _ => by simp [EntR] at h
  | _ :: _, [], _, _, h, _ => by simp [EntR] at h
  | x :: es, e :: en, n, r, he, h => by
    obtain ⟨_, h2, h3⟩ := he.head
    simp only [lookupK] at h
    split at h
    · rename_i hq
      have a1 := keyIsK_asks hk h2 hq hn hT
      cases h
      exact .inr ⟨_, n, _, rfl, by simp [Instr.findAsking, a1], h3⟩
    · rename_i hq
      have a1 := keyIsK_asks hk h2 hq hn hT
      rcases lookupAsk_R hn hT hk (n + 1) he.tail h with ⟨b1, b2⟩ | ⟨v, i, cv, b1, b2, b3⟩
      · exact .inl ⟨b1, by simp [Instr.findAsking, a1, b2]⟩
      · exact .inr ⟨v, i, cv, b1, by simp [Instr.findAsking, a1, b2], b3⟩
    · cases h
theorem keyTy_str {T : TypeId} (hT : keyTy P T [] = true) : P.underlying T = some .string := by
  unfold keyTy at hT
  simp only at hT
  split at hT
  · assumption
  · cases hT
theorem findKey_ask {ks : List Nat} (hn : ks ≠ []) {T : TypeId} (hT : keyTy P T ks = true) {ck : Value} {en : List MapEntry} {q : Option (Nat × Value)} (h : (Instr.findAsking T ck en 0).run P w = .ok q w) : (Instr.findKey T ck en).run P w = .ok q w := by
  unfold keyTy at hT
  split at hT
  · exact absurd rfl hn
  · split at hT
    · rename_i fs hfs
      cases en with
      | nil =>
        simp only [Instr.findAsking, Sem.run_pure] at h
        simp [Instr.findKey, run_underlying hfs, Instr.findNow, h]
      | cons e en =>
        have : Instr.findNow (.struct fs) ck (e :: en) 0 = none := by
          unfold Instr.findNow
          have : Instr.sameNow (.struct fs) ck e.key = none := by cases ck <;> rfl
          rw [this]
        simp [Instr.findKey, run_underlying hfs, this, h]
    · cases hT
theorem findKey_R {c : Ctx} {ks : List Nat} {T : TypeId} (hT : keyTy P T ks = true) {k : AVal} {ck : Value} (hk : R M w c k ck) {es : List (AVal × AVal)} {en : List MapEntry} {r : Option AVal} (he : EntR M w c es en) (h : lookupK ks k es = some r) :
    (r = none ∧ (Instr.findKey T ck en).run P w = .ok none w) ∨ ∃ v i cv, r = some v ∧ (Instr.findKey T ck en).run P w = .ok (some (i, cv)) w ∧ R M w c v cv := by
  by_cases hn : ks = []
  · subst hn
    rcases lookupNow_R hk 0 he h with ⟨a1, a2⟩ | ⟨v, i, cv, a1, a2, a3⟩
    · exact .inl ⟨a1, run_findKey' (keyTy_str hT) a2⟩
    · exact .inr ⟨v, i, cv, a1, run_findKey' (keyTy_str hT) a2, a3⟩
  · rcases lookupAsk_R hn hT hk 0 he h with ⟨a1, a2⟩ | ⟨v, i, cv, a1, a2, a3⟩
    · exact .inl ⟨a1, findKey_ask hn hT a2⟩
    · exact .inr ⟨v, i, cv, a1, findKey_ask hn hT a2, a3⟩
theorem lookk_R {c : Ctx} {σ : Store} (hs : Sim M w c σ) {ks : List Nat} {m k : AVal} {cm ck : Value} (hm : R M w c m cm) (hk : R M w c k ck) (hkk : keyFits ks k = true) {es : List (AVal × AVal)} (h : mapOf σ m = some es) {r : Option AVal} (hl : lookupK ks k es = some r)
    {T kt et : TypeId} (hT : P.underlying T = some (.map kt et)) (hkt : keyTy P kt ks = true) {zero : AVal} (hz : zeroOk M P et zero = true) (ok : Bool) :
    ∃ cv, (Instr.lookup T cm ck ok).run P w = .ok cv w ∧ R M w c (if ok then .tup [r.getD zero, .bool r.isSome] else r.getD zero) cv := by
  obtain ⟨i, z, _, _, z3, z4⟩ := zero_run hz
  have hzR : R M w c zero z := const_R z4
  have fin : ∀ (x : AVal) (cx : Value) (t : Bool), R M w c x cx → R M w c (if ok then .tup [x, .bool t] else x) (if ok then .tuple #[cx, .bool t] else cx) := fun x cx t hx => by
    cases ok with
    | false => exact hx
    | true =>
      refine .tup (fun i => if i = 0 then cx else .bool t) rfl (fun i hi => ?_) (fun i hi => ?_)
      · simp at hi
        have : i = 0 ∨ i = 1 := by omega
        rcases this with rfl | rfl <;> rfl
      · simp at hi
        have : i = 0 ∨ i = 1 := by omega
        rcases this with rfl | rfl
        · exact hx
        · exact .bool
  have hck := fun e => run_checkKeyK (P := P) hk hkk hkt e
  rcases mapOf_R hs hm h with ⟨rfl, rfl⟩ | ⟨b, en, cl, rfl, hb, he⟩
  · simp only [lookupK, Option.some.injEq] at hl
    subst hl
    have hf : (Instr.findKey kt ck []).run P w = .ok none w := by
      rcases findKey_R (es := []) (en := []) (r := none) hkt hk ⟨rfl, fun i hi => absurd hi (by simp)⟩ rfl with ⟨_, h2⟩ | ⟨_, _, _, h2, _⟩
      · exact h2
      · cases h2
    refine ⟨_, ?_, fin zero z false hzR⟩
    simp [Instr.lookup, run_underlying hT, hck, hf, z3]
  · rcases findKey_R hkt hk he hl with ⟨rfl, h2⟩ | ⟨v, i, cv, rfl, h2, h3⟩
    · refine ⟨_, ?_, fin zero z false hzR⟩
      simp [Instr.lookup, run_underlying hT, run_getMap hb, hck, h2, z3]
    · refine ⟨_, ?_, fin v cv true h3⟩
      simp [Instr.lookup, run_underlying hT, run_getMap hb, hck, h2]
theorem modifyNow {c : Ctx} {k v : AVal} {ck cv : Value} (hk : R M w c k ck) (hv : R M w c v cv) (hkk : keyFits [] k = true) (clock : Nat) : ∀ {es : List (AVal × AVal)} {en : List MapEntry} (n : Nat) {es' : List (AVal × AVal)}, EntR M w c es en → mputK [] k v es = some es' →
    (Instr.findNow .string ck en n = some none ∧ EntR M w c es' (en ++ [{ key := ck, val := cv, born := clock }])) ∨
    ∃ i e cv0, Instr.findNow .string ck en n = some (some (n + i, cv0)) ∧ en[i]? = some e ∧ e.key = ck ∧ EntR M w c es' (en.set i { e with key := ck, val := cv })
  | [], [], n, _, _, h => by
    simp only [mputK, Option.some.injEq] at h
    subst h
    refine .inl ⟨rfl, rfl, fun i hi => ?_⟩
    have : i = 0 := by simp at hi; exact hi
    subst this
    exact ⟨_, rfl, keyFits_key hkk, hk, hv⟩
  | [], _ :: _, _, _, h, _ => by simp [EntR] at h
  | _ :: _, [], _, _, h, _ => by simp [EntR] at h
  | x :: es, e :: en, n, es', he, h => by
    obtain ⟨h1, h2, h3⟩ := he.head
    simp only [mputK] at h
    split at h
    · rename_i hq
      have a1 := keyIsK_now hk h2 hq
      cases h
      have hx := keyIsK_eq hkk hq
      have hkey : e.key = ck := key_det h2 (hx ▸ hk) h1
      refine .inr ⟨0, e, e.val, by simp [Instr.findNow, a1], rfl, hkey, by simpa using he.1, fun i hi => ?_⟩
      cases i with
      | zero => exact ⟨_, rfl, h1, hx ▸ hk, hv⟩
      | succ i =>
        have := he.2 (i + 1) (by simpa using hi)
        simpa only [List.set_cons_zero, List.getElem_cons_succ, List.getElem?_cons_succ] using this
    · rename_i hq
      have a1 := keyIsK_now hk h2 hq
      simp only [Option.map_eq_some_iff] at h
      obtain ⟨es1, hes, rfl⟩ := h
      have cons : ∀ {en'}, EntR M w c es1 en' → EntR M w c (x :: es1) (e :: en') := fun {en'} hh => ⟨by simpa using hh.1, fun i hi => by
        cases i with
        | zero => exact ⟨_, rfl, h1, h2, h3⟩
        | succ i =>
          have := hh.2 i (by simpa using hi)
          simpa only [List.getElem_cons_succ, List.getElem?_cons_succ] using this⟩
      rcases modifyNow hk hv hkk clock (n + 1) he.tail hes with ⟨b1, b2⟩ | ⟨i, e', cv0, b1, b2, b3, b4⟩
      · exact .inl ⟨by simp [Instr.findNow, a1, b1], cons b2⟩
      · exact .inr ⟨i + 1, e', cv0, by simp [Instr.findNow, a1, b1]; omega, by simpa using b2, b3, by simpa using cons b4⟩
    · cases h
theorem modifyAsk {c : Ctx} {ks : List Nat} (hn : ks ≠ []) {T : TypeId} (hT : keyTy P T ks = true) {k v : AVal} {ck cv : Value} (hk : R M w c k ck) (hv : R M w c v cv) (hkk : keyFits ks k = true) (clock : Nat) : ∀ {es : List (AVal × AVal)} {en : List MapEntry} (n : Nat) {es' : List (AVal × AVal)}, EntR M w c es en → mputK ks k v es = some es' →
    ((Instr.findAsking T ck en n).run P w = .ok none w ∧ EntR M w c es' (en ++ [{ key := ck, val := cv, born := clock }])) ∨
    ∃ i e cv0, (Instr.findAsking T ck en n).run P w = .ok (some (n + i, cv0)) w ∧ en[i]? = some e ∧ e.key = ck ∧ EntR M w c es' (en.set i { e with key := ck, val := cv })
  | [], [], n, _, _, h => by
    simp only [mputK, Option.some.injEq] at h
    subst h
    refine .inl ⟨rfl, rfl, fun i hi => ?_⟩
    have : i = 0 := by simp at hi; exact hi
    subst this
    exact ⟨_, rfl, keyFits_key hkk, hk, hv⟩
  | [], _ :: _, _, _, h, _ => by simp [EntR] at h
  | _ :: _, [], _, _, h, _ => by simp [EntR] at h
  | x :: es, e :: en, n, es', he, h => by
    obtain ⟨h1, h2, h3⟩ := he.head
    simp only [mputK] at h
    split at h
    · rename_i hq
      have a1 := keyIsK_asks hk h2 hq hn hT
      cases h
      have hx := keyIsK_eq hkk hq
      have hkey : e.key = ck := key_det h2 (hx ▸ hk) h1
      refine .inr ⟨0, e, e.val, by simp [Instr.findAsking, a1], rfl, hkey, by simpa using he.1, fun i hi => ?_⟩
      cases i with
      | zero => exact ⟨_, rfl, h1, hx ▸ hk, hv⟩
      | succ i =>
        have := he.2 (i + 1) (by simpa using hi)
        simpa only [List.set_cons_zero, List.getElem_cons_succ, List.getElem?_cons_succ] using this
    · rename_i hq
      have a1 := keyIsK_asks hk h2 hq hn hT
      simp only [Option.map_eq_some_iff] at h
      obtain ⟨es1, hes, rfl⟩ := h
      have cons : ∀ {en'}, EntR M w c es1 en' → EntR M w c (x :: es1) (e :: en') := fun {en'} hh => ⟨by simpa using hh.1, fun i hi => by
        cases i with
        | zero => exact ⟨_, rfl, h1, h2, h3⟩
        | succ i =>
          have := hh.2 i (by simpa using hi)
          simpa only [List.getElem_cons_succ, List.getElem?_cons_succ] using this⟩
      rcases modifyAsk hn hT hk hv hkk clock (n + 1) he.tail hes with ⟨b1, b2⟩ | ⟨i, e', cv0, b1, b2, b3, b4⟩
      · exact .inl ⟨by simp [Instr.findAsking, a1, b1], cons b2⟩
      · exact .inr ⟨i + 1, e', cv0, by simp [Instr.findAsking, a1, b1]; omega, by simpa using b2, b3, by simpa using cons b4⟩
    · cases h
theorem modifyK {c : Ctx} {ks : List Nat} {T : TypeId} (hT : keyTy P T ks = true) {k v : AVal} {ck cv : Value} (hk : R M w c k ck) (hv : R M w c v cv) (hkk : keyFits ks k = true) (clock : Nat) {es : List (AVal × AVal)} {en : List MapEntry} {es' : List (AVal × AVal)} (he : EntR M w c es en) (h : mputK ks k v es = some es') :
    ((Instr.findKey T ck en).run P w = .ok none w ∧ EntR M w c es' (en ++ [{ key := ck, val := cv, born := clock }])) ∨
    ∃ i e cv0, (Instr.findKey T ck en).run P w = .ok (some (i, cv0)) w ∧ en[i]? = some e ∧ e.key = ck ∧ EntR M w c es' (en.set i { e with key := ck, val := cv }) := by
  by_cases hn : ks = []
  · subst hn
    rcases modifyNow hk hv hkk clock 0 he h with ⟨a1, a2⟩ | ⟨i, e, cv0, a1, a2, a3, a4⟩
    · exact .inl ⟨run_findKey' (keyTy_str hT) a1, a2⟩
    · exact .inr ⟨i, e, cv0, run_findKey' (keyTy_str hT) (by simpa using a1), a2, a3, a4⟩
  · rcases modifyAsk hn hT hk hv hkk clock 0 he h with ⟨a1, a2⟩ | ⟨i, e, cv0, a1, a2, a3, a4⟩
    · exact .inl ⟨findKey_ask hn hT a1, a2⟩
    · exact .inr ⟨i, e, cv0, findKey_ask hn hT (by simpa using a1), a2, a3, a4⟩
theorem mputk_R {c : Ctx} {σ σ' : Store} (hs : Sim M w c σ) {ks : List Nat} {m k v : AVal} {cm ck cv : Value} (hm : R M w c m cm) (hk : R M w c k ck) (hv : R M w c v cv) (h : mputKV ks σ k v m = some σ')
    {T kt et : TypeId} (hT : P.underlying T = some (.map kt et)) (hkt : keyTy P kt ks = true) :
    ∃ w', (Instr.mapUpdate T cm ck cv).run P w = .ok () w' ∧ Sim M w' c σ' ∧ Stp c w c w' := by
  unfold mputKV at h
  split at h
  · rename_i id
    simp only [Option.bind_eq_some_iff] at h
    obtain ⟨es, h1, h2⟩ := h
    split at h2
    · rename_i hkk
      simp only [Option.map_eq_some_iff] at h2
      obtain ⟨es', h3, rfl⟩ := h2
      unfold entriesAt at h1
      split at h1
      · rename_i es0 ho
        cases h1
        obtain ⟨b, cl, en, f, g, q1, q2, q3, q4, q5, q6⟩ := hs.obj id _ ho
        have hH : c.H id = .map := by rw [hs.H, hd_of ho]
        have he : EntR M w c es en.toList := ⟨by simpa using q3, fun i hi => by
          obtain ⟨e, e1, e2, e3, e4⟩ := q4 i hi
          exact ⟨e, by simpa using e1, e4.1, e2 ▸ q5 i hi, e3 ▸ q6 i hi⟩⟩
        have hB : ∀ e ∈ en.toList, e.born < cl := fun e he => by
          obtain ⟨i, hi, rfl⟩ := List.mem_iff_getElem.1 he
          obtain ⟨e', e1, _, _, _, e5⟩ := q4 i (by simpa [q3] using hi)
          rw [Array.getElem?_eq_getElem (by simpa using hi)] at e1
          cases e1
          simpa using e5
        have hcm : cm = .map (some b) := by
          cases hm with
          | mp a1 a2 a3 => rw [q1] at a3; cases a3; rfl
          | mpOld a0 a1 a2 => rw [hH] at a2; cases a2
        subst hcm
        have hlt := (List.getElem?_eq_some_iff.1 ho).1
        have fin : ∀ (en' : Array MapEntry) (cl' : Nat), EntR M w c es' en'.toList → (∀ e ∈ en'.toList, e.born < cl') → (Instr.mapUpdate T (.map (some b)) ck cv).run P w = .ok () { w with heap := w.heap.setIfInBounds b (.map en' cl') } →
            ∃ w', (Instr.mapUpdate T (.map (some b)) ck cv).run P w = .ok () w' ∧ Sim M w' c (σ.set id (.map es')) ∧ Stp c w c w' := fun en' cl' he' hb' hrun => by
          have hset : SetB w { w with heap := w.heap.setIfInBounds b (.map en' cl') } b (.map en' cl') := ⟨⟨rfl, rfl, rfl, Nat.le_refl _⟩, rfl⟩
          have hlive : c.H id ≠ .dead := by rw [hH]; simp
          have hbn := hs.plow id b hlive q1
          have hext : Ext c w c { w with heap := w.heap.setIfInBounds b (.map en' cl') } := ⟨fun _ h => h, fun _ h => h, fun y hy => by rw [hset.get _ hbn.1, if_neg (fun e => by subst e; exact hbn.2 (hy.elim (fun h => h) (hs.sb _)))], Nat.le_refl _, fun _ _ => .inl rfl, fun _ _ _ _ => ⟨rfl, rfl, rfl⟩⟩
          have hobj : ObjOk M { w with heap := w.heap.setIfInBounds b (.map en' cl') } c id (.map es') := by
            refine ⟨b, cl', en', fun i => ((en'[i]?).map (·.key)).getD undef, fun i => ((en'[i]?).map (·.val)).getD undef, q1, by rw [hset.get _ hbn.1, if_pos rfl], by simpa using he'.1, fun i hi => ?_, fun i hi => ?_, fun i hi => ?_⟩
            · obtain ⟨e, e1, e2, e3, e4⟩ := he'.2 i hi
              have e1' : en'[i]? = some e := by simpa using e1
              exact ⟨e, e1', by dsimp only; rw [e1']; rfl, by dsimp only; rw [e1']; rfl, e2, hb' e (List.mem_of_getElem? (by simpa using e1'))⟩
            · obtain ⟨e, e1, e2, e3, e4⟩ := he'.2 i hi
              have e1' : en'[i]? = some e := by simpa using e1
              dsimp only; rw [e1']; exact e3.ext hext
            · obtain ⟨e, e1, e2, e3, e4⟩ := he'.2 i hi
              have e1' : en'[i]? = some e := by simpa using e1
              dsimp only; rw [e1']; exact e4.ext hext
          obtain ⟨hsim, _⟩ := hs.setObj' ho (by simp) (by rw [hd_of (List.getElem?_set_self hlt), hd_of ho]) q1 hset hobj
          exact ⟨_, hrun, hsim, Stp.setB hs hlive q1 hset hext⟩
        have hck := fun e => run_checkKeyK (P := P) hk hkk hkt e
        rcases modifyK hkt hk hv hkk cl he h3 with ⟨b1, b2⟩ | ⟨i, e, cv0, b1, b2, b3, b4⟩
        · refine fin (en.push { key := ck, val := cv, born := cl }) (cl + 1) (by simpa using b2) (fun e he => by
            simp only [Array.toList_push, List.mem_append, List.mem_singleton] at he
            rcases he with he | rfl
            · exact Nat.lt_succ_of_lt (hB e he)
            · exact Nat.lt_succ_self _) ?_
          simp [Instr.mapUpdate, run_underlying hT, run_getMap q2, hck, b1, run_setMap _ q2]
        · have b2' : en[i]? = some e := by simpa using b2
          have hi : i < en.size := (Array.getElem?_eq_some_iff.1 b2').1
          have hei : en[i] = e := (Array.getElem?_eq_some_iff.1 b2').2
          have hmod : (en.modify i fun e => { e with key := ck, val := cv }).toList = en.toList.set i { e with key := ck, val := cv } := by
            apply List.ext_getElem?
            intro j
            simp only [Array.getElem?_toList, Array.getElem?_modify, List.getElem?_set]
            by_cases hij : i = j
            · subst hij; simp [hi, hei]
            · simp [hij]
          refine fin (en.modify i fun e => { e with key := ck, val := cv }) cl ?_ (fun x hx => by
            rw [hmod] at hx
            rcases List.mem_or_eq_of_mem_set hx with hx | rfl
            · exact hB x hx
            · exact hB e (List.mem_of_getElem? b2)) ?_
          · rw [hmod]; exact b4
          · have hkeep : (Instr.keyThatStays ck ck).run P w = .ok ck w := by simp [Instr.keyThatStays, bits_key hk (keyFits_key hkk)]
            simp [Instr.mapUpdate, run_underlying hT, run_getMap q2, hck, b1, b2', b3, hkeep, run_setMap _ q2]
      · cases h1
    · cases h2
  · cases h
end Go.AM

namespace Go.AM
variable {M : Names} {w : World} {P : Program}
theorem bytesV_ints : ∀ {ys : List AVal} {bs : List UInt8}, bytesV ys = some bs → ∃ ns : List Int, ys = ns.map (AVal.int .u8) ∧ bs = ns.map fun n => UInt8.ofNat n.toNat
  | [], bs, h => by
    simp only [bytesV, Option.some.injEq] at h
    exact ⟨[], rfl, h.symm⟩
  | x :: r, bs, h => by
    unfold bytesV at h
    split at h
    · rename_i hx; cases hx
    · rename_i n r' hx
      cases hx
      obtain ⟨b0, h1, rfl⟩ := Option.map_eq_some_iff.1 h
      obtain ⟨ns, rfl, rfl⟩ := bytesV_ints h1
      exact ⟨n :: ns, rfl, rfl⟩
    · cases h
theorem foldl_bytes : ∀ (ns : List Int) (s : ByteArray), (ns.foldl (fun r n => r.push (UInt8.ofNat n.toNat)) s).data.toList = s.data.toList ++ ns.map fun n => UInt8.ofNat n.toNat
  | [], s => by simp
  | n :: ns, s => by
    rw [List.foldl_cons, foldl_bytes ns]
    have : (s.push (UInt8.ofNat n.toNat)).data.toList = s.data.toList ++ [UInt8.ofNat n.toNat] := by
      show (s.data.push _).toList = _
      simp
    rw [this]; simp
theorem b2s_R {c : Ctx} {σ : Store} (hs : Sim M w c σ) {x v : AVal} {cx : Value} (hx : R M w c x cx) (h : b2sV σ x = some v) {S T e : TypeId} (hS : P.underlying S = some (.slice e)) (he : P.underlying e = some (.int .u8)) (hT : P.underlying T = some .string) :
    ∃ cv, (convert S T cx).run P w = .ok cv w ∧ R M w c v cv := by
  unfold b2sV at h
  split at h
  · cases h
  · rename_i hns
    obtain ⟨ys, h1, h2⟩ := Option.bind_eq_some_iff.1 h
    obtain ⟨bs, h3, rfl⟩ := Option.map_eq_some_iff.1 h2
    obtain ⟨ns, rfl, rfl⟩ := bytesV_ints h3
    obtain ⟨l1, A, hA, hrun⟩ := rd_R (P := P) hs hx h1 (k := 1) (by omega) (fun y hy => by obtain ⟨n, _, rfl⟩ := List.mem_map.1 hy; rfl)
    have hlen := l1 w
    have hr := hrun w rfl
    obtain ⟨hsz, f, hf, hR⟩ := hA
    cases cx with
    | slice a len cap =>
      have hl : len = ns.length := by simpa [Builtin.lenOf] using hlen
      subst hl
      cases a with
      | none =>
        simp only [Builtin.firstCells, Sem.run_pure, Result.ok.injEq, and_true] at hr
        subst hr
        have hn : ns = [] := by
          apply List.eq_nil_of_length_eq_zero
          simpa using hsz.symm
        subst hn
        exact ⟨.string ByteArray.empty, run_convert_bytes_nil w S e hS he _ _ _ hT, .str rfl⟩
      | some a =>
        have hl : (loadCells a ns.length).run P w = .ok (ns.map (Value.int .u8)).toArray w := by
          have hA : A = (ns.map (Value.int .u8)).toArray := by
            apply Array.ext_getElem?
            intro i
            by_cases hi : i < ns.length
            · have e1 := (hf i 0 (by simpa using hi) (by omega)).1
              rw [Nat.mul_one, Nat.add_zero] at e1
              rw [e1]
              have r1 := hR i (by simpa using hi) 0 (by simp [cellsOf])
              simp only [List.getElem_map, cellsOf, List.getElem_cons_zero] at r1
              generalize f i 0 = q at r1
              cases r1
              simp [hi]
            · have hz : A.size = ns.length := by simpa using hsz
              rw [Array.getElem?_eq_none (by omega), Array.getElem?_eq_none (by simp; omega)]
          rw [← hA]
          simpa [Builtin.firstCells] using hr
        refine ⟨_, (run_convert_bytes_string w S T e (some a) _ cap hS he hT).trans (run_bytesToString w a _ cap ns hl), .str ?_⟩
        rw [foldl_bytes]; rfl
    | string t =>
      exfalso
      cases hx with
      | any => simp [rd] at h1
      | str h => exact hns _ rfl
      | slOld a0 a1 a2 =>
        simp only [rd] at h1
        unfold sliceAt at h1
        split at h1
        · rename_i ho
          split at h1
          · rename_i hc
            have := a2 _ _ (by rw [hs.H, hd_of ho])
            omega
          · cases h1
        · cases h1
      | ptrOld => simp [rd] at h1
      | aslOld => simp [rd] at h1
      | mpOld => simp [rd] at h1
      | yldOld => simp [rd] at h1
      | itOld => simp [rd] at h1
    | _ => simp [Builtin.lenOf, stuck] at hlen
end Go.AM

namespace Go.AM
section
variable (M : Names) (P : Program) (rs : Tmp → Option Opd)
def okOp (o : Op) (ao : AOp) : Bool :=
  match o, ao with
  | .move x, .mov x' => okX M rs x x'
  | .assign x, .mov x' => okX M rs x x'
  | .assign (.const (.slice none 0 0)), .mknil k => k != 0
  | .pick c a b, .pick c' a' b' => okX M rs c c' && okX M rs a a' && okX M rs b b'
  | .alloc T, .box k (.val z) => szOk P T k && zeroOk M P T z
  | .box T x, .box k x' => szOk P T k && okX M rs x x'
  | .build T parts, .build zero parts' => zeroOk M P T (.agg zero) && (match P.underlying T with
      | some (.struct fs) => (match fs.toList.mapM (fun f => (P.info? f.type).map fun i => (f.offset, i.size)) with
        | some places => okParts M rs (places.toArray[·]?) parts.toList parts'
        | none => false)
      | some (.array _ e) => (match P.info? e with
        | some ie => okParts M rs (fun i => some (i * ie.size, ie.size)) parts.toList parts'
        | none => false)
      | _ => false)
  | .buildSlice T len parts, .mkl k xs => (match slElem P T with
      | some e => szOk P e k && hasZero P e k && decide (len * k ≤ 2 ^ 24) && len != 0 && ((parts.toList.map (·.1)) == List.range len) && okAll M rs (parts.toList.map (·.2)) xs
      | none => false)
  | .buildSlice T 0 parts, .mknil k => (match slElem P T with
      | some e => szOk P e k && parts.size == 0
      | none => false)
  | .makeSlice T l n, .make k zero l' n' => (match slElem P T with
      | some e => szOk P e k && hasZero P e k && zeroOk M P e zero && okX M rs l l' && okX M rs n n'
      | none => false)
  | .makeMap _ none, .mkmap => true
  | .lookup T m k ok, .look zero ok' m' k' => (match P.underlying T with
      | some (.map kt et) => anyInt P kt && zeroOk M P et zero && ok == ok' && okX M rs m m' && okX M rs k k'
      | _ => false)
  | .mapUpdate T m k v, .mput m' k' v' => (match P.underlying T with
      | some (.map kt _) => anyInt P kt && okX M rs m m' && okX M rs k k' && okX M rs v v'
      | _ => false)
  | .insert T m k v, .mput m' k' v' => (match P.underlying T with
      | some (.map kt _) => anyInt P kt && okX M rs m m' && okX M rs k k' && okX M rs v v'
      | _ => false)
  | .load T x, .load a s x' => tyOk P T a s && okX M rs x x'
  | .store T x v, .store s x' v' => szOk P T s && okX M rs x x' && okX M rs v v'
  | .fieldAddr S x i, .fld off x' => (match fieldOf P S i with
      | some f => f.offset == off && (match (P.info? f.type).map (·.size) with | some n => n != 0 | none => false) && okX M rs x x'
      | none => false)
  | .field S x i, .fldv a s off x' => (match fieldOf P S i with
      | some f => f.offset == off && tyOk P f.type a s && okX M rs x x'
      | none => false)
  | .indexAddr T x i, .idxs k x' i' => (match slElem P T with
      | some e => szOk P e k && okX M rs x x' && okX M rs i i'
      | none => false)
  | .indexAddr T x i, .idxa m s x' i' => (match P.underlying T with
      | some (.array m' e) => m == m' && (P.info? e).map (·.size) == some s && okX M rs x x' && okX M rs i i'
      | _ => false)
  | .index T x i, .idxv a m s x' i' => (match P.underlying T with
      | some (.array m' e) => m == m' && tyOk P e a s && okX M rs x x' && okX M rs i i'
      | _ => false)
  | .index T x i, .idxt x' i' => isStr P T && okX M rs x x' && okX M rs i i'
  | .binOp op T x y _, .eqb n x' y' => (op == if n then .neq else .eql) && (match P.underlying T with | some .bool => true | _ => false) && okX M rs x x' && okX M rs y y'
  | .binOp op T x y _, .eqa n ks x' y' => (op == if n then .neq else .eql) && eqOk P T ks && okX M rs x x' && okX M rs y y'
  | .binOp op _ x y _, .bin op' x' y' => op == op' && okX M rs x x' && okX M rs y y'
  | .unOp op _ x, .una op' x' => op == op' && okX M rs x x'
  | .convert S T x, .conv k x' => anyInt P S && isInt P T k && okX M rs x x'
  | .slice T x lo hi none, .slice k x' lo' hi' => (match slElem P T with
      | some e => szOk P e k && okX M rs x x' && okOpt M rs lo lo' && okOpt M rs hi hi'
      | none => false)
  | .slice T x lo hi none, .slicet x' lo' hi' => isStr P T && okX M rs x x' && okOpt M rs lo lo' && okOpt M rs hi hi'
  | .slice T x none none none, .aslice n x' => (match P.underlying T with
      | some (.array m e) => m == n && n != 0 && (P.info? e).map (·.size) == some 1 && okX M rs x x'
      | _ => false)
  | .extract x i, .ext i' x' => i == i' && okX M rs x x'
  | .makeFunc (.func f) first cap, .mkfn n first' cap' => M.fm n == f && okAll M rs first.toList first' && okAll M rs cap.toList cap'
  | .nilCheck x, .nilck x' => okX M rs x x'
  | .call c, .len x' => (match c.callee, c.args.toList, c.argTypes.toList with
      | .builtin .len, [x], [T] => (slElem P T).isSome && okX M rs x x'
      | _, _, _ => false)
  | .call c, .lent x' => (match c.callee, c.args.toList, c.argTypes.toList with
      | .builtin .len, [x], [T] => isStr P T && okX M rs x x'
      | _, _, _ => false)
  | .call c, .app k x' y' => (match c.callee, c.args.toList, c.argTypes.toList with
      | .builtin .append, [x, y], [T, U] => (match slElem P T with
        | some e => szOk P e k && hasZero P e k && notInt P U && okX M rs x x' && okX M rs y y'
        | none => false)
      | _, _, _ => false)
  | .call c, .cap x' => (match c.callee, c.args.toList, c.argTypes.toList with
      | .builtin .cap, [x], [T] => (slElem P T).isSome && okX M rs x x'
      | _, _, _ => false)
  | .call c, .clr zero x' => (match c.callee, c.args.toList, c.argTypes.toList with
      | .builtin .clear, [x], [T] => (match slElem P T with
        | some e => zeroOk M P e zero && okX M rs x x'
        | none => false)
      | _, _, _ => false)
  | .call c, .copy k x' y' => (match c.callee, c.args.toList, c.argTypes.toList with
      | .builtin .copy, [x, y], [T, _] => (match slElem P T with
        | some e => szOk P e k && okX M rs x x' && okX M rs y y'
        | none => false)
      | _, _, _ => false)
  | .call c, .mins x' xs' => (match c.callee, c.args.toList with
      | .builtin .min, x :: xs => okX M rs x x' && okAll M rs xs xs'
      | _, _ => false)
  | .call c, .maxs x' xs' => (match c.callee, c.args.toList with
      | .builtin .max, x :: xs => okX M rs x x' && okAll M rs xs xs'
      | _, _ => false)
  | .call c, .call n args _ => (match c.callee with
      | .value (.func f) => M.fm n == f && okAll M rs c.args.toList args
      | _ => false)
  | .call c, .callv x' args => (match c.callee with
      | .value x => okX M rs x x' && okAll M rs c.args.toList args
      | _ => false)
  | .binOp op T x (.const (.slice none 0 0)) _, .nils n x' => (op == if n then .neq else .eql) && (slElem P T).isSome && okX M rs x x'
  | .buildSlice T 0 parts, .mov (.val .nil0) => (match slElem P T with
      | some e => (P.info? e).isSome && parts.size == 0
      | none => false)
  | .call c, .appz k zero x' n' => (match c.callee, c.args.toList, c.argTypes.toList with
      | .builtin .append, [x, n], [T, U] => (match slElem P T with
        | some e => szOk P e k && hasZero P e k && zeroOk M P e zero && anyInt P U && okX M rs x x' && okX M rs n n'
        | none => false)
      | _, _, _ => false)
  | .range T x, .rngs x' => isStr P T && okX M rs x x'
  | .next x true, .nexts x' => okX M rs x x'
  | .lookup T m k ok, .lookk ks zero ok' m' k' => (match P.underlying T with
      | some (.map kt et) => keyTy P kt ks && zeroOk M P et zero && ok == ok' && okX M rs m m' && okX M rs k k'
      | _ => false)
  | .mapUpdate T m k v, .mputk ks m' k' v' => (match P.underlying T with
      | some (.map kt _) => keyTy P kt ks && okX M rs m m' && okX M rs k k' && okX M rs v v'
      | _ => false)
  | .insert T m k v, .mputk ks m' k' v' => (match P.underlying T with
      | some (.map kt _) => keyTy P kt ks && okX M rs m m' && okX M rs k k' && okX M rs v v'
      | _ => false)
  | .convert S T x, .b2s x' => (match slElem P S with
      | some e => isInt P e .u8 && isStr P T && okX M rs x x'
      | none => false)
  | .binOp op T x (.const .nilFunc) _, .isnil true n x' => (op == if n then .neq else .eql) && (match P.underlying T with | some (.func ..) => true | _ => false) && okX M rs x x'
  | .binOp op T x (.const (.pointer none)) _, .isnil false n x' => (op == if n then .neq else .eql) && (match P.underlying T with | some (.pointer _) => true | _ => false) && okX M rs x x'
  | .range T x, .rngm x' => (match P.underlying T with
      | some (.map _ _) => okX M rs x x'
      | _ => false)
  | .entry x, .entry x' => okX M rs x x'
  | .buildSlice T len parts, .mksl k xs => (match slElem P T with
      | some e => szOk P e k && hasZero P e k && decide (len * k ≤ 2 ^ 24) && len != 0 && ((parts.toList.map (·.1)) == List.range len) && okAll M rs (parts.toList.map (·.2)) xs
      | none => false)
  | _, .bad => true
  | _, _ => false
end
variable {M : Names} {w : World} {P : Program} {rs : Tmp → Option Opd}
theorem okParts_R {c : Ctx} {env ls : List AVal} {a : Act} (ht : TmpR M w c env ls rs a.tmps) (hg : Globs M w c) {place : Nat → Option (Nat × Nat)} : ∀ {ps : List (Nat × Operand)} {qs : List (Nat × Nat × Opd)}, okParts M rs place ps qs = true →
    ps.length = qs.length ∧ ∀ i (h : i < ps.length) (h' : i < qs.length), place ps[i].1 = some (qs[i].1, qs[i].2.1) ∧ R M w c (qs[i].2.2.eval env ls) (a.eval ps[i].2)
  | [], [], _ => ⟨rfl, fun i h => absurd h (by simp)⟩
  | [], _ :: _, h => by simp [okParts] at h
  | _ :: _, [], h => by simp [okParts] at h
  | (i, x) :: ps, (off, s, x') :: qs, h => by
    simp only [okParts, Bool.and_eq_true, beq_iff_eq] at h
    obtain ⟨⟨h1, h2⟩, h3⟩ := h
    obtain ⟨h4, h5⟩ := okParts_R ht hg h3
    refine ⟨by simp [h4], fun j hj hj' => ?_⟩
    cases j with
    | zero => exact ⟨h1, okX_R ht hg h2⟩
    | succ j => simpa using h5 j (by simpa using hj) (by simpa using hj')
theorem okAll_R {c : Ctx} {env ls : List AVal} {a : Act} (ht : TmpR M w c env ls rs a.tmps) (hg : Globs M w c) {xs : List Operand} {xs' : List Opd} (h : okAll M rs xs xs' = true) :
    xs.length = xs'.length ∧ ∀ i (h : i < xs'.length), ∃ x, (xs.map a.eval)[i]? = some x ∧ R M w c (xs'[i].eval env ls) x := by
  simp only [okAll, Bool.and_eq_true, beq_iff_eq] at h
  exact ⟨h.1, args_R ht hg h.1 h.2⟩
theorem opt_R {c : Ctx} {env ls : List AVal} {a : Act} (ht : TmpR M w c env ls rs a.tmps) (hg : Globs M w c) {x : Option Operand} {x' : Option Opd} (h : okOpt M rs x x' = true) {d n : Nat} (hn : opt env ls d x' = some n) :
    (x.map a.eval = none ∧ n = d) ∨ ∃ k, x.map a.eval = some (.int k (n : Int)) := by
  cases x with
  | none => cases x' with
    | none => simp only [opt, Option.some.injEq] at hn; exact .inl ⟨rfl, hn.symm⟩
    | some _ => simp [okOpt] at h
  | some x => cases x' with
    | none => simp [okOpt] at h
    | some x' =>
      simp only [okOpt] at h
      obtain ⟨k, hk⟩ := asNat_R (okX_R ht hg h) hn
      exact .inr ⟨k, by rw [Option.map_some, hk]⟩
theorem builtin_exec {ρ : Operand → Value} {c : Call} {ty : TypeId} {b : Builtin} (h : c.callee = .builtin b) : (do let d ← Go.resolve ρ c ty; invoke d.target d.args : Sem Next) = builtin b c.argTypes ty (c.args.map fun | .const _ => true | _ => false) (c.args.map ρ) := by
  unfold Go.resolve
  rw [h]
  rfl
theorem args1 {ρ : Operand → Value} {xs : Array Operand} {x : Operand} (h : xs.toList = [x]) : xs.map ρ = #[ρ x] := by
  cases xs with | mk l => simp at h; subst h; simp
theorem args2 {ρ : Operand → Value} {xs : Array Operand} {x y : Operand} (h : xs.toList = [x, y]) : xs.map ρ = #[ρ x, ρ y] := by
  cases xs with | mk l => simp at h; subst h; simp
theorem args1' {α : Type} {xs : Array α} {l : List α} (h : xs.toList = l) : xs = l.toArray := by
  cases xs with | mk l => simp at h; subst h; rfl
theorem bin_R {c : Ctx} {x y v : AVal} {cx cy : Value} (hx : R M w c x cx) (hy : R M w c y cy) {op : BinOp} (h : bin op x y = some v) {T : TypeId} (ox oy : Operand) :
    ∃ cv, (do eqGuard op T ox oy cx cy; binOp op T cx cy : Sem Value).run P w = .ok cv w ∧ R M w c v cv := by
  unfold bin at h
  split at h
  · rename_i k a k' b
    cases hx; cases hy
    simp only [Sem.run_bind, eqGuard_run op T ox oy (.inl ⟨k, a, rfl⟩), Result.andThen_ok]
    split at h
    · exact shift_run h
    · exact shift_run h
    · rename_i n1 n2
      split at h
      · rename_i hk; subst hk
        exact binInt_run ⟨fun e => n1 e, fun e => n2 e⟩ h
      · cases h
  · rename_i a b
    cases hx with | str h1 => cases hy with | str h2 =>
    simp only [Sem.run_bind, eqGuard_run op T ox oy (.inr (.inl ⟨_, rfl⟩)), Result.andThen_ok]
    exact binStr_R (by rw [h1, h2]; exact h)
  · cases h
theorem Runs.ex {c : Ctx} {σ : Store} {s : Sem Value} {v : AVal} (hs : Sim M w c σ) (h : ∃ cv, s.run P w = .ok cv w ∧ R M w c v cv) : Runs M P c w (do pure (.value (← s))) v σ :=
  let ⟨_, h1, h2⟩ := h
  .quiet hs h1 h2
theorem Runs.unit {c : Ctx} {σ' : Store} {s : Sem Unit} (h : ∃ w', s.run P w = .ok () w' ∧ Sim M w' c σ' ∧ Stp c w c w') : Runs M P c w (do s; pure .skip) .any σ' := by
  obtain ⟨w', h1, h2, h3⟩ := h
  exact ⟨.skip, w', c, undef, by simp [h1], .inr ⟨rfl, rfl⟩, h2, h3, .any⟩
theorem Runs.any {c : Ctx} {σ' : Store} {s : Sem Value} (h : ∃ cv w', s.run P w = .ok cv w' ∧ Sim M w' c σ' ∧ Stp c w c w') : Runs M P c w (do pure (.value (← s))) .any σ' := by
  obtain ⟨cv, w', h1, h2, h3⟩ := h
  exact .of h1 h2 h3 .any
theorem anyInt_iff {T : TypeId} (h : anyInt P T = true) : ∃ q, P.underlying T = some (.int q) := by
  unfold anyInt at h
  split at h
  · exact ⟨_, by assumption⟩
  · cases h
theorem isInt_iff {T : TypeId} {k : IntKind} (h : isInt P T k = true) : P.underlying T = some (.int k) := by
  unfold isInt at h
  split at h
  · rename_i j hj
    have : j = k := by simpa using h
    rw [← this]; exact hj
  · cases h
theorem isStr_iff {T : TypeId} (h : isStr P T = true) : P.underlying T = some .string := by
  unfold isStr at h
  split at h
  · assumption
  · cases h
theorem map_eq_some {α β : Type} {f : α → β} {o : Option α} {b : β} (h : o.map f = some b) : ∃ a, o = some a ∧ f a = b := by
  cases o with
  | none => cases h
  | some a => exact ⟨a, rfl, Option.some.inj h⟩
theorem bind_eq_some {α β : Type} {f : α → Option β} {o : Option α} {b : β} (h : o.bind f = some b) : ∃ a, o = some a ∧ f a = some b := by
  cases o with
  | none => cases h
  | some a => exact ⟨a, rfl, h⟩
theorem ext_R {c : Ctx} {i : Nat} {x v : AVal} {cx : Value} (hx : R M w c x cx) (h : extV i x = some v) : ∃ cv, (Instr.extract cx i).run P w = .ok cv w ∧ R M w c v cv := by
  unfold extV at h
  split at h
  · rename_i vs
    cases hx with | @tup _ _ cvs f h1 h2 h3 =>
    obtain ⟨hi, rfl⟩ := List.getElem?_eq_some_iff.1 h
    refine ⟨f i, ?_, h3 i hi⟩
    simp [Instr.extract, h2 i hi]
  · cases h
theorem fieldOf_iff {S : TypeId} {i : Nat} {f : Field} (h : fieldOf P S i = some f) : ∃ fs, P.underlying S = some (.struct fs) ∧ fs[i]? = some f := by
  unfold fieldOf at h
  split at h
  · exact ⟨_, by assumption, h⟩
  · cases h
theorem partV_R {c : Ctx} {a : Bool} {s off : Nat} {x v : AVal} {cx : Value} (hx : R M w c x cx) (h : partV a s off x = some v) {T : TypeId} (ht : tyOk P T a s = true) : ∃ A cv, cx = .agg A ∧ (part T A off).run P w = .ok cv w ∧ R M w c v cv := by
  unfold partV at h
  split at h
  · rename_i hc
    exact part_R hx hc.1 hc.2 ht h
  · cases h
theorem okAll_map {c : Ctx} {env ls : List AVal} {a : Act} (ht : TmpR M w c env ls rs a.tmps) (hg : Globs M w c) {xs : Array Operand} {xs' : List Opd} (h : okAll M rs xs.toList xs' = true) :
    (xs.map a.eval).size = xs'.length ∧ ∀ i (hi : i < (xs'.map (·.eval env ls)).length), ∃ x, (xs.map a.eval)[i]? = some x ∧ R M w c (xs'.map (·.eval env ls))[i] x := by
  obtain ⟨h1, h2⟩ := okAll_R ht hg h
  refine ⟨by simpa using h1, fun i hi => ?_⟩
  obtain ⟨x, h3, h4⟩ := h2 i (by simpa using hi)
  exact ⟨x, by simpa using h3, by simpa using h4⟩
theorem op_runs {c : Ctx} {σ σ' : Store} {env ls : List AVal} {a : Act} {C : CallF} {o : Oper} {ao : AOp} {v : AVal} (hs : Sim M w c σ) (ht : TmpR M w c env ls rs a.tmps) (hg : Globs M w c)
    (hok : okOp M P rs o.op ao = true) (hst : stepOp C env ls σ ao = some (v, σ')) (hn1 : ∀ f x m, ao ≠ .call f x m) (hn2 : ∀ f x, ao ≠ .callv f x) : Runs M P c w (execOp a.eval o) v σ' := by
  have X : ∀ {x : Operand} {x' : Opd}, okX M rs x x' = true → R M w c (x'.eval env ls) (a.eval x) := fun h => okX_R ht hg h
  unfold okOp at hok
  unfold execOp
  split at hok <;> rename_i hop <;> (try simp only [hop])
  case h_1 => cases hst; exact .now hs (X hok)
  case h_2 => cases hst; exact .now hs (X hok)
  case h_3 k =>
    cases hst
    obtain ⟨c', h1, h2, h3⟩ := mknil_R hs (show k ≠ 0 by simpa using hok) none
    exact ⟨_, w, c', _, rfl, .inl rfl, h1, h2, h3⟩
  case h_4 x y z x' y' z' =>
    simp only [Bool.and_eq_true] at hok
    obtain ⟨⟨h1, h2⟩, h3⟩ := hok
    simp only [stepOp] at hst
    obtain ⟨r, hr, he⟩ := map_eq_some hst
    cases he
    unfold pickV at hr
    have hc := X h1
    split at hr
    · rename_i t ht'
      rw [ht'] at hc
      cases hr
      generalize a.eval x = cx at hc
      cases hc
      refine ⟨.value (if t then a.eval y else a.eval z), w, c, _, by simp [asBool], .inl rfl, hs, .refl c w, ?_⟩
      cases t
      · exact X h3
      · exact X h2
    · cases hr
  case h_5 T k z =>
    simp only [Bool.and_eq_true] at hok
    obtain ⟨h1, h2⟩ := hok
    obtain ⟨h3, h4⟩ := szOk_iff h1
    obtain ⟨i, v0, i1, i2, i3, i4⟩ := zero_run h2
    have hst' : (if ncells z = k then some (AVal.ptr σ.length 0 0 0, σ ++ [.arr k 0 [z]]) else none) = some (v, σ') := hst
    split at hst'
    · rename_i hk
      cases hst'
      obtain ⟨nx, w', c', cv, b1, b2, b3, b4, b5⟩ := box_R (P := P) hs (const_R (M := M) (w := w) (c := c) i4) (T := T) hk h4
      refine ⟨nx, w', c', cv, ?_, b2, b3, b4, b5⟩
      rw [← b1]
      simp [Instr.alloc, Instr.box, i3]
    · cases hst'
  case h_6 T x k x' =>
    simp only [Bool.and_eq_true] at hok
    obtain ⟨h1, h2⟩ := hok
    obtain ⟨h3, h4⟩ := szOk_iff h1
    simp only [stepOp] at hst
    split at hst
    · rename_i hk
      cases hst
      exact box_R hs (X h2) hk h4
    · cases hst
  case h_7 T parts zero parts' =>
    simp only [Bool.and_eq_true] at hok
    obtain ⟨h1, h2⟩ := hok
    obtain ⟨i, v0, i1, i2, i3, i4⟩ := zero_run h1
    simp only [stepOp] at hst
    obtain ⟨cs, hf, he⟩ := map_eq_some hst
    cases he
    have hz : R M w c (.agg zero) v0 := const_R i4
    obtain ⟨A, rfl⟩ : ∃ A, v0 = .agg A := by cases hz; exact ⟨_, rfl⟩
    have hzr := hz.rcells
    have key : ∀ place, okParts M rs place parts.toList parts' = true → ∃ B, Instr.fill place A ((parts.map fun (i, x) => (i, a.eval x)).toList) = some B ∧ RCells M w c cs B := fun place hp => by
      obtain ⟨p1, p2⟩ := okParts_R ht hg hp
      refine fill_R place _ (parts'.map fun p => (p.1, p.2.1, p.2.2.eval env ls)) zero cs A hzr (by simp; simpa using p1) (fun i hi hi' => ?_) hf
      have := p2 i (by simpa using hi) (by simpa using hi')
      simpa using this
    have hbuilt : ∃ B, P.built T ((parts.map fun (i, x) => (i, a.eval x)).toList) = some B ∧ RCells M w c cs B := by
      split at h2
      · rename_i fs hfs
        split at h2
        · rename_i places hpl
          obtain ⟨B, b1, b2⟩ := key _ h2
          exact ⟨B, by unfold Program.built; rw [i1, hfs]; simp only [i2, hpl]; exact b1, b2⟩
        · cases h2
      · rename_i n e hfs
        split at h2
        · rename_i ie hie
          obtain ⟨B, b1, b2⟩ := key _ h2
          exact ⟨B, by unfold Program.built; rw [i1, hfs]; simp only [i2, hie]; exact b1, b2⟩
        · cases h2
      · cases h2
    obtain ⟨B, b1, b2⟩ := hbuilt
    exact .quiet hs (run_build w T _ B b1) b2.agg
  case h_8 T len parts k xs =>
    split at hok
    · rename_i e he
      simp only [Bool.and_eq_true, beq_iff_eq, bne_iff_ne, decide_eq_true_eq] at hok
      obtain ⟨⟨⟨⟨⟨h1, h2⟩, h3⟩, h4⟩, h5⟩, h6⟩ := hok
      obtain ⟨s1, s2⟩ := szOk_iff h1
      simp only [stepOp] at hst
      split at hst
      · rename_i hall
        cases hst
        obtain ⟨p1, p2⟩ := okAll_R ht hg h6
        have hlen : parts.toList.length = len := by rw [← List.length_map (f := (·.1)), h5, List.length_range]
        refine buildSlice_R (cvs := (parts.toList.map (·.2)).map a.eval) hs (slElem_iff he) s1 s2 h2 h3 ?_ ?_ ?_ ?_ h4 ?_
        · rw [List.length_map, ← p1, List.length_map, hlen]
        · rw [List.length_map, List.length_map, hlen]
        · intro i hi hi'
          obtain ⟨x, x1, x2⟩ := p2 i (by simpa using hi)
          rw [List.getElem?_eq_getElem hi'] at x1
          cases x1
          simpa using x2
        · intro v hv
          simpa using List.all_eq_true.1 hall v hv
        · rw [← h5]
          simp [List.zip_map', Function.comp_def]
      · cases hst
    · cases hok
  case h_9 T parts k =>
    split at hok
    · rename_i e he
      simp only [Bool.and_eq_true, beq_iff_eq] at hok
      obtain ⟨h1, h2⟩ := hok
      obtain ⟨s1, s2⟩ := szOk_iff h1
      cases hst
      have hp : parts = #[] := Array.eq_empty_of_size_eq_zero h2
      subst hp
      obtain ⟨h3, h4⟩ := hs.addStill (.cells #[] e (0, 0))
      obtain ⟨c', b1, b2, b3⟩ := mknil_R h3 s2 (some ⟨w.heap.size, 0, none⟩)
      refine ⟨.value (.slice (some ⟨w.heap.size, 0, none⟩) 0 0), newW w (.cells #[] e (0, 0)), c', _, ?_, .inl rfl, b1, h4.trans b2, b3⟩
      simp [Instr.buildSlice, run_underlying (slElem_iff he), run_sizeOf s1, newRow, Instr.fill, Array.range_zero']
      rfl
    · cases hok
  case h_10 T l n k zero l' n' =>
    split at hok
    · rename_i e he
      simp only [Bool.and_eq_true] at hok
      obtain ⟨⟨⟨⟨h1, h2⟩, h3⟩, h4⟩, h5⟩ := hok
      obtain ⟨s1, s2⟩ := szOk_iff h1
      simp only [stepOp] at hst
      obtain ⟨m, m1, hst⟩ := bind_eq_some hst
      obtain ⟨d, d1, hst⟩ := bind_eq_some hst
      split at hst
      · rename_i hc
        obtain ⟨rfl, hk, hm⟩ := hc
        cases hst
        obtain ⟨k1, e1⟩ := asNat_R (X h4) m1
        obtain ⟨k2, e2⟩ := asNat_R (X h5) d1
        rw [e1, e2]
        exact make_R hs (slElem_iff he) s2 h2 h3 hk hm s1
      · cases hst
    · cases hok
  case h_11 T => cases hst; exact mkmap_R hs T
  case h_12 T m k ok zero ok' m' k' =>
    split at hok
    · rename_i kt et hT
      simp only [Bool.and_eq_true, beq_iff_eq] at hok
      obtain ⟨⟨⟨⟨h1, h2⟩, rfl⟩, h4⟩, h5⟩ := hok
      obtain ⟨q, hq⟩ := anyInt_iff h1
      simp only [stepOp] at hst
      split at hst
      · rename_i hk
        obtain ⟨es, e1, hst⟩ := bind_eq_some hst
        obtain ⟨r, r1, he⟩ := map_eq_some hst
        cases he
        exact .ex hs (look_R hs (X h4) (X h5) hk e1 r1 hT hq h2 ok)
      · cases hst
    · cases hok
  case h_13 T m k v m' k' v' =>
    split at hok
    · rename_i kt et hT
      simp only [Bool.and_eq_true] at hok
      obtain ⟨⟨⟨h1, h2⟩, h3⟩, h4⟩ := hok
      obtain ⟨q, hq⟩ := anyInt_iff h1
      simp only [stepOp] at hst
      obtain ⟨σ1, r1, he⟩ := map_eq_some hst
      cases he
      exact .unit (mput_R hs (X h2) (X h3) (X h4) r1 hT hq)
    · cases hok
  case h_14 T m k v m' k' v' =>
    split at hok
    · rename_i kt et hT
      simp only [Bool.and_eq_true] at hok
      obtain ⟨⟨⟨h1, h2⟩, h3⟩, h4⟩ := hok
      obtain ⟨q, hq⟩ := anyInt_iff h1
      simp only [stepOp] at hst
      obtain ⟨σ1, r1, he⟩ := map_eq_some hst
      cases he
      exact .unit (mput_R hs (X h2) (X h3) (X h4) r1 hT hq)
    · cases hok
  case h_15 T x b s x' =>
    simp only [Bool.and_eq_true] at hok
    simp only [stepOp] at hst
    obtain ⟨r, hr, he⟩ := map_eq_some hst
    cases he
    exact .ex hs (load_R hs (X hok.2) hok.1 hr)
  case h_16 T x y s x' y' =>
    simp only [Bool.and_eq_true] at hok
    obtain ⟨⟨h1, h2⟩, h3⟩ := hok
    obtain ⟨s1, s2⟩ := szOk_iff h1
    simp only [stepOp] at hst
    obtain ⟨r, hr, he⟩ := map_eq_some hst
    cases he
    exact .unit (store_R hs (X h2) (X h3) s1 s2 hr)
  case h_17 S x i off x' =>
    split at hok
    · rename_i f hf
      simp only [Bool.and_eq_true, beq_iff_eq] at hok
      obtain ⟨⟨h1, h2⟩, h3⟩ := hok
      obtain ⟨fs, f1, f2⟩ := fieldOf_iff hf
      split at h2
      · rename_i n hn
        simp only [stepOp] at hst
        obtain ⟨r, hr, he⟩ := map_eq_some hst
        cases he
        exact .ex hs (fld_R hs (X h3) f1 f2 h1 hn (by simpa using h2) hr)
      · cases h2
    · cases hok
  case h_18 S x i b s off x' =>
    split at hok
    · rename_i f hf
      simp only [Bool.and_eq_true, beq_iff_eq] at hok
      obtain ⟨⟨h1, h2⟩, h3⟩ := hok
      obtain ⟨fs, f1, f2⟩ := fieldOf_iff hf
      simp only [stepOp] at hst
      obtain ⟨r, hr, he⟩ := map_eq_some hst
      cases he
      obtain ⟨A, cv, a1, a2, a3⟩ := partV_R (P := P) (X h3) hr h2
      refine .quiet hs ?_ a3
      subst h1
      simp [Instr.field, run_underlying f1, f2, a1, asAgg, a2]
    · cases hok
  case h_19 T x i k x' i' =>
    split at hok
    · rename_i e he
      simp only [Bool.and_eq_true] at hok
      obtain ⟨⟨h1, h2⟩, h3⟩ := hok
      obtain ⟨s1, s2⟩ := szOk_iff h1
      simp only [stepOp] at hst
      obtain ⟨n, n1, hst⟩ := bind_eq_some hst
      obtain ⟨r, hr, he'⟩ := map_eq_some hst
      cases he'
      exact .ex hs (idxs_R hs (X h2) (asNat_R (X h3) n1) (slElem_iff he) s1 s2 hr)
    · cases hok
  case h_20 T x i m s x' i' =>
    split at hok
    · rename_i m' e he
      simp only [Bool.and_eq_true, beq_iff_eq] at hok
      obtain ⟨⟨⟨rfl, h2⟩, h3⟩, h4⟩ := hok
      simp only [stepOp] at hst
      obtain ⟨n, n1, hst⟩ := bind_eq_some hst
      split at hst
      · rename_i hn
        obtain ⟨r, hr, he'⟩ := map_eq_some hst
        cases he'
        exact .ex hs (idxa_R hs (X h3) (asNat_R (X h4) n1) he h2 hn hr)
      · cases hst
    · cases hok
  case h_21 T x i b m s x' i' =>
    split at hok
    · rename_i m' e he
      simp only [Bool.and_eq_true, beq_iff_eq] at hok
      obtain ⟨⟨⟨rfl, h2⟩, h3⟩, h4⟩ := hok
      simp only [stepOp] at hst
      obtain ⟨n, n1, hst⟩ := bind_eq_some hst
      split at hst
      · rename_i hn
        obtain ⟨r, hr, he'⟩ := map_eq_some hst
        cases he'
        obtain ⟨A, cv, a1, a2, a3⟩ := partV_R (P := P) (X h3) hr h2
        obtain ⟨k, hk⟩ := asNat_R (X h4) n1
        refine .quiet hs ?_ a3
        simp [Instr.index, hk, asIntOf, run_underlying he, a1, hn, run_sizeOf (tyOk_size h2), a2]
      · cases hst
    · cases hok
  case h_22 T x i x' i' =>
    simp only [Bool.and_eq_true] at hok
    obtain ⟨⟨h1, h2⟩, h3⟩ := hok
    simp only [stepOp] at hst
    obtain ⟨n, n1, hst⟩ := bind_eq_some hst
    obtain ⟨r, hr, he'⟩ := map_eq_some hst
    cases he'
    exact .ex hs (idxt_R (X h2) (asNat_R (X h3) n1) hr (isStr_iff h1))
  case h_23 op T x y _ n x' y' =>
    simp only [Bool.and_eq_true, beq_iff_eq] at hok
    obtain ⟨⟨⟨h1, h2⟩, h3⟩, h4⟩ := hok
    simp only [stepOp] at hst
    obtain ⟨r, hr, he'⟩ := map_eq_some hst
    cases he'
    split at h2
    · rename_i hT
      exact .ex hs (eqb_R (X h3) (X h4) hr hT h1 x y)
    · cases h2
  case h_24 op T x y _ n ks x' y' =>
    simp only [Bool.and_eq_true, beq_iff_eq] at hok
    obtain ⟨⟨⟨h1, h2⟩, h3⟩, h4⟩ := hok
    simp only [stepOp] at hst
    obtain ⟨r, hr, he'⟩ := map_eq_some hst
    cases he'
    exact .ex hs (eqa_R (X h3) (X h4) hr h2 h1 x y)
  case h_25 op T x y _ op' x' y' =>
    simp only [Bool.and_eq_true, beq_iff_eq] at hok
    obtain ⟨⟨rfl, h2⟩, h3⟩ := hok
    simp only [stepOp] at hst
    obtain ⟨r, hr, he'⟩ := map_eq_some hst
    cases he'
    exact .ex hs (bin_R (X h2) (X h3) hr x y)
  case h_26 op _ x op' x' =>
    simp only [Bool.and_eq_true, beq_iff_eq] at hok
    obtain ⟨rfl, h2⟩ := hok
    simp only [stepOp] at hst
    obtain ⟨r, hr, he'⟩ := map_eq_some hst
    cases he'
    exact .ex hs (una_run (X h2) hr)
  case h_27 S T x k x' =>
    simp only [Bool.and_eq_true] at hok
    obtain ⟨⟨h1, h2⟩, h3⟩ := hok
    simp only [stepOp] at hst
    obtain ⟨r, hr, he'⟩ := map_eq_some hst
    cases he'
    have hx := X h3
    unfold convV at hr
    split at hr
    · rename_i k' n hx'
      rw [hx'] at hx
      cases hr
      obtain ⟨q, hq⟩ := anyInt_iff h1
      generalize a.eval x = cx at hx
      cases hx
      exact .quiet hs (conv_run (c := c) hq (isInt_iff h2) ⟨q, rfl⟩) .int
    · cases hr
  case h_28 T x lo hi k x' lo' hi' =>
    split at hok
    · rename_i e he
      simp only [Bool.and_eq_true] at hok
      obtain ⟨⟨⟨h1, h2⟩, h3⟩, h4⟩ := hok
      simp only [stepOp] at hst
      obtain ⟨n, n1, hst⟩ := bind_eq_some hst
      obtain ⟨l, l1, hst⟩ := bind_eq_some hst
      obtain ⟨h, hh, hst⟩ := bind_eq_some hst
      obtain ⟨r, hr, he'⟩ := map_eq_some hst
      cases he'
      exact .ex hs (slice_R hs (X h2) n1 (opt_R ht hg h3 l1) (opt_R ht hg h4 hh) hr (slElem_iff he) (szOk_iff h1).1)
    · cases hok
  case h_29 T x lo hi x' lo' hi' =>
    simp only [Bool.and_eq_true] at hok
    obtain ⟨⟨⟨h1, h2⟩, h3⟩, h4⟩ := hok
    simp only [stepOp] at hst
    obtain ⟨n, n1, hst⟩ := bind_eq_some hst
    obtain ⟨l, l1, hst⟩ := bind_eq_some hst
    obtain ⟨h, hh, hst⟩ := bind_eq_some hst
    obtain ⟨r, hr, he'⟩ := map_eq_some hst
    cases he'
    exact .ex hs (tslice_R (X h2) n1 (opt_R ht hg h3 l1) (opt_R ht hg h4 hh) hr (isStr_iff h1))
  case h_30 T x n x' =>
    split at hok
    · rename_i m e he
      simp only [Bool.and_eq_true, beq_iff_eq, bne_iff_ne] at hok
      obtain ⟨⟨⟨rfl, h2⟩, h3⟩, h4⟩ := hok
      simp only [stepOp] at hst
      obtain ⟨r, hr, he'⟩ := map_eq_some hst
      cases he'
      exact .ex hs (aslice_R hs (X h4) hr he h3 h2)
    · cases hok
  case h_31 x i i' x' =>
    simp only [Bool.and_eq_true, beq_iff_eq] at hok
    obtain ⟨rfl, h2⟩ := hok
    simp only [stepOp] at hst
    obtain ⟨r, hr, he'⟩ := map_eq_some hst
    cases he'
    exact .ex hs (ext_R (X h2) hr)
  case h_32 f first cap n first' cap' =>
    simp only [Bool.and_eq_true, beq_iff_eq] at hok
    obtain ⟨⟨h1, h2⟩, h3⟩ := hok
    cases hst
    obtain ⟨a1, a2⟩ := okAll_map ht hg h2
    obtain ⟨b1, b2⟩ := okAll_map ht hg h3
    refine .quiet hs rfl ?_
    subst h1
    refine .fn (fun i => (first.map a.eval).getD i undef) (fun i => (cap.map a.eval).getD i undef) (by rw [a1]; simp) (by rw [b1]; simp) (fun i hi => ?_) (fun i hi => ?_) (fun i hi => ?_) (fun i hi => ?_)
    · obtain ⟨x, x1, _⟩ := a2 i hi
      simp only [Array.getD_eq_getD_getElem?, x1, Option.getD_some]
    · obtain ⟨x, x1, _⟩ := b2 i hi
      simp only [Array.getD_eq_getD_getElem?, x1, Option.getD_some]
    · obtain ⟨x, x1, x2⟩ := a2 i hi
      simp only [Array.getD_eq_getD_getElem?, x1, Option.getD_some]
      exact x2
    · obtain ⟨x, x1, x2⟩ := b2 i hi
      simp only [Array.getD_eq_getD_getElem?, x1, Option.getD_some]
      exact x2
  case h_33 x x' =>
    simp only [stepOp] at hst
    obtain ⟨r, hr, he'⟩ := map_eq_some hst
    cases he'
    have hx := X hok
    unfold nilckV at hr
    split at hr
    · rename_i id ep i o' hx'
      rw [hx'] at hx
      split at hr
      · rename_i hf
        cases hr
        obtain ⟨k, b, h1, h2, h3, h4⟩ := ptr_fresh hs hx hf
        rw [h4] at hx ⊢
        exact .now hs hx
      · cases hr
    · rename_i b y o' hx'
      rw [hx'] at hx
      cases hr
      generalize a.eval x = cx at hx
      have : ∃ ad, cx = .pointer (some ad) := by cases hx; exact ⟨_, rfl⟩
      obtain ⟨ad, rfl⟩ := this
      exact .now hs hx
    · rename_i f p q hx'
      rw [hx'] at hx
      cases hr
      generalize a.eval x = cx at hx
      have : ∃ fi fs cs, cx = .func (.func fi) fs cs := by cases hx; exact ⟨_, _, _, rfl⟩
      obtain ⟨fi, fs, cs, rfl⟩ := this
      exact .now hs hx
    · cases hr
  case h_34 c' x' =>
    split at hok
    · rename_i x T h1 h2 h3
      simp only [Bool.and_eq_true] at hok
      obtain ⟨k1, k2⟩ := hok
      obtain ⟨e, he⟩ := Option.isSome_iff_exists.1 k1
      simp only [stepOp] at hst
      obtain ⟨r, hr, he'⟩ := map_eq_some hst
      cases he'
      rw [builtin_exec h1, args1 h2, args1' h3]
      exact .ex hs ⟨_, len_R hs (X k2) hr (slElem_iff he), .int⟩
    · cases hok
  case h_35 c' x' =>
    split at hok
    · rename_i x T h1 h2 h3
      simp only [Bool.and_eq_true] at hok
      obtain ⟨k1, k2⟩ := hok
      simp only [stepOp] at hst
      obtain ⟨r, hr, he'⟩ := map_eq_some hst
      cases he'
      rw [builtin_exec h1, args1 h2, args1' h3]
      exact .ex hs ⟨_, lent_R (X k2) hr (isStr_iff k1), .int⟩
    · cases hok
  case h_36 c' k x' y' =>
    split at hok
    · rename_i x y T U h1 h2 h3
      split at hok
      · rename_i e he
        simp only [Bool.and_eq_true] at hok
        obtain ⟨⟨⟨⟨k1, k2⟩, k3⟩, k4⟩, k5⟩ := hok
        obtain ⟨s1, s2⟩ := szOk_iff k1
        simp only [stepOp] at hst
        obtain ⟨ys, y1, hst⟩ := bind_eq_some hst
        rw [builtin_exec h1, args2 h2, args1' h3]
        obtain ⟨i, z, z1, z2, z3, z4, z5, _⟩ := hasZero_iff k2
        have hsz : i.size = k := by rw [z1] at s1; simpa using s1
        have hU : ∃ d, P.underlying U = some d ∧ ∀ q, d ≠ .int q := by
          unfold notInt at k3
          split at k3
          · cases k3
          · rename_i d hd hn
            exact ⟨d, hn, fun q e => hd q e⟩
          · cases k3
        obtain ⟨d, d1, d2⟩ := hU
        exact append_R hs (X k4) (X k5) y1 hst ⟨⟨e, i, z, d, slElem_iff he, z1, hsz, z2, z3, z4, z5, d1, d2⟩, s2⟩
      · cases hok
    · cases hok
  case h_37 c' x' =>
    split at hok
    · rename_i x T h1 h2 h3
      simp only [Bool.and_eq_true] at hok
      obtain ⟨k1, k2⟩ := hok
      obtain ⟨e, he⟩ := Option.isSome_iff_exists.1 k1
      simp only [stepOp] at hst
      obtain ⟨r, hr, he'⟩ := map_eq_some hst
      cases he'
      rw [builtin_exec h1, args1 h2, args1' h3]
      have hx := X k2
      unfold capV at hr
      split at hr
      · rename_i hx'
        rw [hx'] at hx
        cases hr
        generalize a.eval x = cx at hx
        cases hx
        refine .ex hs ⟨_, ?_, .int⟩
        simp [Builtin.cap_, run_underlying (slElem_iff he), goInt]
      · cases hr
    · cases hok
  case h_38 c' zero x' =>
    split at hok
    · rename_i x T h1 h2 h3
      split at hok
      · rename_i e he
        simp only [Bool.and_eq_true] at hok
        obtain ⟨k1, k2⟩ := hok
        simp only [stepOp] at hst
        obtain ⟨r, hr, he'⟩ := map_eq_some hst
        cases he'
        rw [builtin_exec h1, args1 h2, args1' h3]
        exact .any (clr_R hs (X k2) hr (slElem_iff he) k1)
      · cases hok
    · cases hok
  case h_39 c' k x' y' =>
    split at hok
    · rename_i x y T U h1 h2 h3
      split at hok
      · rename_i e he
        simp only [Bool.and_eq_true] at hok
        obtain ⟨⟨k1, k2⟩, k3⟩ := hok
        simp only [stepOp] at hst
        obtain ⟨ys, y1, hst⟩ := bind_eq_some hst
        obtain ⟨r, hr, he'⟩ := map_eq_some hst
        cases he'
        rw [builtin_exec h1, args2 h2, args1' h3]
        obtain ⟨w', c1, c2, c3⟩ := copy_R hs (X k2) (X k3) y1 hr (slElem_iff he) (szOk_iff k1).1
        exact .of c1 c2 c3 .int
      · cases hok
    · cases hok
  case h_40 c' x' xs' =>
    split at hok
    · rename_i x xs h1 h2
      simp only [Bool.and_eq_true] at hok
      obtain ⟨k1, k2⟩ := hok
      simp only [stepOp] at hst
      obtain ⟨r, hr, he'⟩ := map_eq_some hst
      cases he'
      rw [builtin_exec h1]
      obtain ⟨p1, p2⟩ := okAll_R ht hg k2
      have hargs : (c'.args.map a.eval).toList = a.eval x :: xs.map a.eval := by simp [h2]
      obtain ⟨cv, r1, r2⟩ := minmax_R (P := P) true _ (xs.map a.eval) _ _ _ (X k1) (by simpa using p1) (fun i hi hi' => by
        obtain ⟨y, y1, y2⟩ := p2 i (by simpa using hi)
        rw [List.getElem?_eq_getElem hi'] at y1
        cases y1
        simpa using y2) hr
      refine .ex hs ⟨cv, ?_, r2⟩
      unfold Builtin.min_
      rw [hargs]
      exact r1
    · cases hok
  case h_41 c' x' xs' =>
    split at hok
    · rename_i x xs h1 h2
      simp only [Bool.and_eq_true] at hok
      obtain ⟨k1, k2⟩ := hok
      simp only [stepOp] at hst
      obtain ⟨r, hr, he'⟩ := map_eq_some hst
      cases he'
      rw [builtin_exec h1]
      obtain ⟨p1, p2⟩ := okAll_R ht hg k2
      have hargs : (c'.args.map a.eval).toList = a.eval x :: xs.map a.eval := by simp [h2]
      obtain ⟨cv, r1, r2⟩ := minmax_R (P := P) false _ (xs.map a.eval) _ _ _ (X k1) (by simpa using p1) (fun i hi hi' => by
        obtain ⟨y, y1, y2⟩ := p2 i (by simpa using hi)
        rw [List.getElem?_eq_getElem hi'] at y1
        cases y1
        simpa using y2) hr
      refine .ex hs ⟨cv, ?_, r2⟩
      unfold Builtin.max_
      rw [hargs]
      exact r1
    · cases hok
  case h_42 => exact absurd rfl (hn1 _ _ _)
  case h_43 => exact absurd rfl (hn2 _ _)
  case h_44 op T x q n x' =>
    simp only [Bool.and_eq_true, beq_iff_eq] at hok
    obtain ⟨⟨h1, h2⟩, h3⟩ := hok
    obtain ⟨e, he⟩ := Option.isSome_iff_exists.1 h2
    simp only [stepOp] at hst
    obtain ⟨r, hr, he'⟩ := map_eq_some hst
    cases he'
    exact .ex hs (nils_R hs (X h3) hr (slElem_iff he) h1 _ _)
  case h_45 T parts =>
    split at hok
    · rename_i e he
      simp only [Bool.and_eq_true, beq_iff_eq] at hok
      obtain ⟨h1, h2⟩ := hok
      obtain ⟨i, hi⟩ := Option.isSome_iff_exists.1 h1
      have s1 : (P.info? e).map (·.size) = some i.size := by rw [hi]; rfl
      cases hst
      have hp : parts = #[] := Array.eq_empty_of_size_eq_zero h2
      subst hp
      obtain ⟨h3, h4⟩ := hs.addStill (.cells #[] e (0, 0))
      refine ⟨.value (.slice (some ⟨w.heap.size, 0, none⟩) 0 0), newW w (.cells #[] e (0, 0)), _, _, ?_, .inl rfl, h3, h4, .nil0⟩
      simp [Instr.buildSlice, run_underlying (slElem_iff he), run_sizeOf s1, newRow, Instr.fill, Array.range_zero']
      rfl
    · cases hok
  case h_46 c' k zero x' n' =>
    split at hok
    · rename_i x n T U g1 g2 g3
      split at hok
      · rename_i e he
        simp only [Bool.and_eq_true] at hok
        obtain ⟨⟨⟨⟨⟨k1, k2⟩, k3⟩, k4⟩, k5⟩, k6⟩ := hok
        obtain ⟨s1, s2⟩ := szOk_iff k1
        obtain ⟨i, z, z1, z2, z3, zb, zn, z4⟩ := hasZero_iff k2
        obtain ⟨i', z', y1, y2, y3, y4⟩ := zero_run k3
        rw [z1] at y1; cases y1
        rw [z2] at y2; cases y2
        have hsz : i.size = k := by rw [z1] at s1; simpa using s1
        have hzR : R M w c zero z := const_R y4
        simp only [stepOp] at hst
        obtain ⟨m, m1, hst⟩ := bind_eq_some hst
        split at hst
        · rename_i hc
          obtain ⟨kn, hkn⟩ := asNat_R (X k6) m1
          rw [builtin_exec g1]
          obtain ⟨g, hg, hgs, hgc⟩ := cells_R hzR (by omega)
          have hA : RowR M w c k (List.replicate m zero) (Builtin.zeroCells z.cells m) := by
            refine ⟨by simp [Builtin.zeroCells, z3], fun _ j => g j, fun i j hi hj => ?_, fun i hi j hj => ?_⟩
            · have hi' : i < m := by simpa using hi
              have hlt := idx_lt hi' hj
              have e1 : (i * k + j) % k = j := by rw [Nat.mul_comm, Nat.mul_add_mod, Nat.mod_eq_of_lt hj]
              have e2 := hgc j (by omega)
              have e3 : z.cells[j]! = g j := by rw [getElem!_def, e2]
              refine ⟨?_, hg.one j (by omega)⟩
              simp [Builtin.zeroCells, z3, hlt, e1, e3]
            · have e1 : (List.replicate m zero)[i] = zero := List.getElem_replicate ..
              simp only [e1] at hj ⊢
              exact hg.rel j hj
          have hap := appz_run (P := P) (w := w) (T := T) (U := U) (ty := o.type) (e := e) (k := k) (i := i) (z := z) ⟨slElem_iff he, z1, hsz, z2, z3, zb, zn, anyInt_iff k4, s2⟩ (q := kn) (m := m) hc.2
          have := append_core (P := P) (T := T) (U := U) (ty := o.type) (cy := .int kn m) hs (X k5) s2 hst fun _ => ⟨_, hA, by simpa using hap⟩
          rw [args2 g2, args1' g3]
          have hkn' : a.eval n = .int kn (m : Int) := hkn
          rw [hkn']
          exact this
        · cases hst
      · cases hok
    · cases hok
  case h_47 T x x' =>
    simp only [Bool.and_eq_true] at hok
    exact rngs_R hs (X hok.2) hst (isStr_iff hok.1)
  case h_48 x x' => exact nexts_R hs (X hok) hst
  case h_49 T m k ok ks zero ok' m' k' =>
    split at hok
    · rename_i kt et hT
      simp only [Bool.and_eq_true, beq_iff_eq] at hok
      obtain ⟨⟨⟨⟨h1, h2⟩, rfl⟩, h4⟩, h5⟩ := hok
      simp only [stepOp] at hst
      split at hst
      · rename_i hk
        obtain ⟨es, e1, hst⟩ := bind_eq_some hst
        obtain ⟨r, r1, he⟩ := map_eq_some hst
        cases he
        exact .ex hs (lookk_R hs (X h4) (X h5) hk e1 r1 hT h1 h2 ok)
      · cases hst
    · cases hok
  case h_50 T m k v ks m' k' v' =>
    split at hok
    · rename_i kt et hT
      simp only [Bool.and_eq_true] at hok
      obtain ⟨⟨⟨h1, h2⟩, h3⟩, h4⟩ := hok
      simp only [stepOp] at hst
      obtain ⟨σ1, r1, he⟩ := map_eq_some hst
      cases he
      exact .unit (mputk_R hs (X h2) (X h3) (X h4) r1 hT h1)
    · cases hok
  case h_51 T m k v ks m' k' v' =>
    split at hok
    · rename_i kt et hT
      simp only [Bool.and_eq_true] at hok
      obtain ⟨⟨⟨h1, h2⟩, h3⟩, h4⟩ := hok
      simp only [stepOp] at hst
      obtain ⟨σ1, r1, he⟩ := map_eq_some hst
      cases he
      exact .unit (mputk_R hs (X h2) (X h3) (X h4) r1 hT h1)
    · cases hok
  case h_52 S T x x' =>
    split at hok
    · rename_i e he
      simp only [Bool.and_eq_true] at hok
      obtain ⟨⟨h1, h2⟩, h3⟩ := hok
      simp only [stepOp] at hst
      obtain ⟨r, hr, he'⟩ := map_eq_some hst
      cases he'
      exact .ex hs (b2s_R hs (X h3) hr (slElem_iff he) (isInt_iff h1) (isStr_iff h2))
    · cases hok
  case h_53 op T x q n x' =>
    simp only [Bool.and_eq_true, beq_iff_eq] at hok
    obtain ⟨⟨h1, h2⟩, h3⟩ := hok
    simp only [stepOp, if_true] at hst
    split at hst
    · rename_i hf
      obtain ⟨r, hr, he'⟩ := map_eq_some hst
      cases he'
      split at h2
      · rename_i hT
        refine .ex hs (isnilf_R (X h3) hr hT ?_ h1 _ _)
        generalize x'.eval env ls = y at hf
        cases y <;> simp [isFn] at hf
        · exact .inl rfl
        · exact .inr ⟨_, _, _, rfl⟩
      · cases h2
    · cases hst
  case h_54 op T x q n x' =>
    simp only [Bool.and_eq_true, beq_iff_eq] at hok
    obtain ⟨⟨h1, h2⟩, h3⟩ := hok
    simp only [stepOp, Bool.false_eq_true, if_false] at hst
    split at hst
    · rename_i hf
      obtain ⟨r, hr, he'⟩ := map_eq_some hst
      cases he'
      split at h2
      · rename_i hT
        refine .ex hs (isnilp_R (X h3) hr hT ?_ h1 _ _)
        generalize x'.eval env ls = y at hf
        cases y <;> simp [isPtr] at hf
        · exact .inl rfl
        · exact .inr ⟨_, _, _, rfl⟩
      · cases h2
    · cases hst
  case h_55 T x x' =>
    split at hok
    · rename_i hT
      exact rngm_R hs (X hok) hst hT
    · cases hok
  case h_56 x x' =>
    simp only [stepOp] at hst
    obtain ⟨r, hr, he'⟩ := map_eq_some hst
    cases he'
    exact .ex hs (entry_R hs (X hok) hr)
  case h_57 T len parts k xs =>
    split at hok
    · rename_i e he
      simp only [Bool.and_eq_true, beq_iff_eq, bne_iff_ne, decide_eq_true_eq] at hok
      obtain ⟨⟨⟨⟨⟨h1, h2⟩, h3⟩, h4⟩, h5⟩, h6⟩ := hok
      obtain ⟨s1, s2⟩ := szOk_iff h1
      obtain ⟨p1, p2⟩ := okAll_R ht hg h6
      have hlen : parts.toList.length = len := by rw [← List.length_map (f := (·.1)), h5, List.length_range]
      have hxl : xs.length = len := by rw [← p1, List.length_map, hlen]
      have hne : ¬ (xs.map (·.eval env ls) = []) := fun e => h4 (by rw [← hxl, ← List.length_map (f := fun x : Opd => x.eval env ls), e]; rfl)
      simp only [stepOp] at hst
      rw [if_neg hne] at hst
      split at hst
      · rename_i hall
        cases hst
        have hl : (xs.map (·.eval env ls)).length = len := by rw [List.length_map, hxl]
        refine buildArr_R (len := len) (cvs := (parts.toList.map (·.2)).map a.eval) hs (slElem_iff he) s1 s2 h2 h3 hl ?_ ?_ ?_ h4 ?_
        · rw [List.length_map, List.length_map, hlen]
        · intro i hi hi'
          obtain ⟨x, x1, x2⟩ := p2 i (by simpa using hi)
          rw [List.getElem?_eq_getElem hi'] at x1
          cases x1
          simpa using x2
        · intro v hv
          simpa using List.all_eq_true.1 hall v hv
        · rw [← h5]
          simp [List.zip_map', Function.comp_def]
      · cases hst
    · cases hok
  case h_58 => cases hst
  case h_59 => cases hok
end Go.AM

namespace Go.AM
variable {M : Names} {w : World} {P : Program} {rs : Tmp → Option Opd}
theorem okAll_args {c : Ctx} {env ls : List AVal} {a : Act} (ht : TmpR M w c env ls rs a.tmps) (hg : Globs M w c) {xs : Array Operand} {xs' : List Opd} (h : okAll M rs xs.toList xs' = true) :
    ArgsR M w c (xs'.map (·.eval env ls)) (xs.map a.eval) := by
  obtain ⟨h1, h2⟩ := okAll_map ht hg h
  exact ⟨by rw [h1]; simp, h2⟩
theorem ArgsR.append {c : Ctx} {xs ys : List AVal} {A B : Array Value} (h : ArgsR M w c xs A) (k : ArgsR M w c ys B) : ArgsR M w c (xs ++ ys) (A ++ B) := by
  refine ⟨by simp [h.1, k.1], fun i hi => ?_⟩
  by_cases hl : i < xs.length
  · obtain ⟨x, h1, h2⟩ := h.2 i hl
    refine ⟨x, ?_, by rw [List.getElem_append_left hl]; exact h2⟩
    rw [Array.getElem?_append_left (by rw [h.1]; exact hl)]; exact h1
  · obtain ⟨x, h1, h2⟩ := k.2 (i - xs.length) (by simp at hi; omega)
    refine ⟨x, ?_, by rw [List.getElem_append_right (by omega)]; exact h2⟩
    rw [Array.getElem?_append_right (by rw [h.1]; omega), h.1]; exact h1
theorem argsR_fn {c : Ctx} {f : Nat} {first cap : List AVal} {cx : Value} (h : R M w c (.fn f first cap) cx) : ∃ fs cs, cx = .func (.func (M.fm f)) fs cs ∧ ArgsR M w c first fs ∧ ArgsR M w c cap cs := by
  cases h with
  | fn g1 g2 h1 h2 h3 h4 h5 h6 => exact ⟨_, _, rfl, ⟨h1, fun i hi => ⟨g1 i, h3 i hi, h5 i hi⟩⟩, h2, fun i hi => ⟨g2 i, h4 i hi, h6 i hi⟩⟩
theorem map_ok {α β : Type} {f : α → β} {o : Option α} {b : β} (h : o.map f = some b) : ∃ a, o = some a ∧ f a = b := map_eq_some h
theorem op_wp {F : Fence} {n : Nat} {c : Ctx} {σ σ' : Store} {env ls : List AVal} {a : Act} {C : CallF} {o : Oper} {ao : AOp} {v : AVal} (hF : Wide F) (hC : CallSound M P C) (hR : RoundSound M P C)
    (hs : Sim M w c σ) (ht : TmpR M w c env ls rs a.tmps) (hg : Globs M w c) (hok : okOp M P rs o.op ao = true) (hst : stepOp C env ls σ ao = some (v, σ'))
    {K : Act → World → Prop} {Q : Exit → Act → World → Prop} (hK : ∀ cv w' c', Sim M w' c' σ' → Stp c w c' w' → R M w' c' v cv → K (a.put o.dst cv) w') : o.wpIn F n P a w K Q := by
  have hdef : ∀ c, o.op ≠ .defer c := by
    intro d e
    rw [e] at hok
    cases ao <;> simp [okOp] at hok
    cases hst
  by_cases h1 : ∃ f x m, ao = .call f x m
  · obtain ⟨f, args, mat, rfl⟩ := h1
    cases hop : o.op with
    | call d =>
      rw [hop] at hok
      simp only [okOp] at hok
      split at hok
      · rename_i g hg'
        simp only [Bool.and_eq_true, beq_iff_eq] at hok
        obtain ⟨h2, h3⟩ := hok
        simp only [stepOp] at hst
        obtain ⟨⟨v0, σ0⟩, r1, he⟩ := map_ok hst
        have hinv : ∀ n, Invokes F n P (M.fm f) (d.args.map a.eval) w (CallPost M c w σ0 v0) := fun n => (hC f _ σ v0 σ0 r1 F n w c _ hF hs hg (okAll_args ht hg h3)).1
        refine Invokes.wp hF hinv ?_ hdef fun cv w' hp => ?_
        · unfold execOp
          rw [hop]
          simp only [Go.resolve, hg', Act.eval, h2]
          show callFunc g (#[] ++ d.args.map a.eval ++ #[]) = _
          simp
        · obtain ⟨c', p1, p2, p3⟩ := hp.mater mat
          rw [he] at p1 p3
          exact hK cv w' c' p1 p2 p3
      · cases hok
    | _ => rw [hop] at hok; simp [okOp] at hok
  · by_cases h2 : ∃ f x, ao = .callv f x
    · obtain ⟨f, args, rfl⟩ := h2
      cases hop : o.op with
      | call d =>
        rw [hop] at hok
        simp only [okOp] at hok
        split at hok
        · rename_i x hx
          simp only [Bool.and_eq_true] at hok
          obtain ⟨h3, h4⟩ := hok
          simp only [stepOp] at hst
          obtain ⟨⟨v0, σ0⟩, r1, he⟩ := map_ok hst
          have hxR := okX_R ht hg h3
          have hargs := okAll_args ht hg h4
          unfold callV at r1
          split at r1
          · rename_i g first cap hfe
            rw [hfe] at hxR
            obtain ⟨fs, cs, e1, e2, e3⟩ := argsR_fn hxR
            have hinv : ∀ n, Invokes F n P (M.fm g) (fs ++ d.args.map a.eval ++ cs) w (CallPost M c w σ0 v0) := fun n => (hC g _ σ v0 σ0 r1 F n w c _ hF hs hg ((e2.append hargs).append e3)).1
            refine Invokes.wp hF hinv ?_ hdef fun cv w' hp => ?_
            · unfold execOp
              rw [hop]
              simp only [Go.resolve, hx, e1]
              rfl
            · obtain ⟨c', p1, p2, p3⟩ := hp.mater false
              rw [he] at p1 p3
              exact hK cv w' c' p1 p2 p3
          · rename_i l site env' hfe
            split at r1
            · rename_i hpd
              rw [hfe] at hxR
              obtain ⟨b, tmps, w1, e1, e2, _⟩ := hR site l env' _ σ v0 σ0 r1 F n w c _ _ hF hs hg hargs hpd hxR
              have hrun : (execOp a.eval o).run P w = .ok (.round b (c.loops l).fn tmps (c.loops l).assign (c.loops l).body) w1 := by
                rw [← e2]
                unfold execOp
                rw [hop]
                simp only [Go.resolve, hx, e1]
                show (Instr.yield b (#[] ++ d.args.map a.eval)).run P w = _
                simp
              refine ⟨fun f _ => hF.fn f, ?_⟩
              rw [Oper.semAt_eq _ _ _ hdef, hrun]
              refine ⟨fun hx => absurd hx (by rw [hF.depth]; simp), ?_⟩
              obtain ⟨b', tmps', w1', e1', e2', e3'⟩ := hR site l env' _ σ v0 σ0 r1 F (n - 1) w c _ _ hF hs hg hargs hpd hxR
              rw [e1] at e1'
              cases e1'
              rw [e2] at e2'
              cases e2'
              refine e3'.mono fun e w' ⟨cv, hcv, hp⟩ => ?_
              subst hcv
              obtain ⟨c', p1, p2, p3⟩ := hp.mater false
              rw [he] at p1 p3
              exact hK cv w' c' p1 p2 p3
            · cases r1
          · cases r1
        · cases hok
      | _ => rw [hop] at hok; simp [okOp] at hok
    · exact (op_runs hs ht hg hok hst (fun f x m e => h1 ⟨f, x, m, e⟩) (fun f x e => h2 ⟨f, x, e⟩)).wp hF hdef hK
end Go.AM

namespace Go.AM
mutual
theorem same_eq : ∀ {a b : AVal}, same a b = true → a = b
  | .agg a, b, h => by
    cases b <;> simp only [same, Bool.false_eq_true] at h
    rw [sameL_eq h]
  | .tup a, b, h => by
    cases b <;> simp only [same, Bool.false_eq_true] at h
    rw [sameL_eq h]
  | .imm _ a, b, h => by
    cases b <;> simp only [same, Bool.false_eq_true, Bool.and_eq_true, beq_iff_eq] at h
    rw [sameL_eq h.2, h.1]
  | .lst a, b, h => by
    cases b <;> simp only [same, Bool.false_eq_true] at h
    rw [sameL_eq h]
  | .cptr _ x _, b, h => by
    cases b <;> simp only [same, Bool.false_eq_true, Bool.and_eq_true, beq_iff_eq] at h
    obtain ⟨⟨h1, h2⟩, h3⟩ := h
    rw [same_eq h2, h1, h3]
  | .fn _ a c, b, h => by
    cases b <;> simp only [same, Bool.false_eq_true, Bool.and_eq_true, beq_iff_eq] at h
    obtain ⟨⟨h1, h2⟩, h3⟩ := h
    rw [sameL_eq h2, sameL_eq h3, h1]
  | .imap _ a, b, h => by
    cases b <;> simp only [same, Bool.false_eq_true, Bool.and_eq_true, beq_iff_eq] at h
    rw [sameE_eq h.2, h.1]
  | .yld _ _ a, b, h => by
    cases b <;> simp only [same, Bool.false_eq_true, Bool.and_eq_true, beq_iff_eq] at h
    obtain ⟨⟨h1, h2⟩, h3⟩ := h
    rw [sameL_eq h3, h1, h2]
  | .frs _ a, b, h => by
    cases b <;> simp only [same, Bool.false_eq_true, Bool.and_eq_true, beq_iff_eq] at h
    rw [sameL_eq h.2, h.1]
  | .int .., b, h => by cases b <;> simp [same] at h <;> simp [h]
  | .bool _, b, h => by cases b <;> simp [same] at h <;> simp [h]
  | .str _, b, h => by cases b <;> simp [same] at h <;> simp [h]
  | .nilp, b, h => by cases b <;> simp [same] at h <;> rfl
  | .nilf, b, h => by cases b <;> simp [same] at h <;> rfl
  | .nilm, b, h => by cases b <;> simp [same] at h <;> rfl
  | .nil0, b, h => by cases b <;> simp [same] at h <;> rfl
  | .sl .., b, h => by cases b <;> simp [same] at h <;> simp [h]
  | .ptr .., b, h => by cases b <;> simp [same] at h <;> simp [h]
  | .asl .., b, h => by cases b <;> simp [same] at h <;> simp [h]
  | .mp _, b, h => by cases b <;> simp [same] at h <;> simp [h]
  | .emp _, b, h => by cases b <;> simp [same] at h <;> simp [h]
  | .it _, b, h => by cases b <;> simp [same] at h <;> simp [h]
  | .any, b, h => by cases b <;> simp [same] at h <;> rfl
theorem sameL_eq : ∀ {a b : List AVal}, sameL a b = true → a = b
  | [], [], _ => rfl
  | [], _ :: _, h => by simp [sameL] at h
  | _ :: _, [], h => by simp [sameL] at h
  | a :: x, b :: y, h => by
    simp only [sameL, Bool.and_eq_true] at h
    rw [same_eq h.1, sameL_eq h.2]
theorem sameE_eq : ∀ {a b : List (AVal × AVal)}, sameE a b = true → a = b
  | [], [], _ => rfl
  | [], _ :: _, h => by simp [sameE] at h
  | _ :: _, [], h => by simp [sameE] at h
  | (a, b) :: x, (a', b') :: y, h => by
    simp only [sameE, Bool.and_eq_true] at h
    obtain ⟨⟨h1, h2⟩, h3⟩ := h
    rw [same_eq h1, same_eq h2, sameE_eq h3]
end
mutual
theorem same_refl : ∀ (a : AVal), same a a = true
  | .agg a => by simp only [same]; exact sameL_refl a
  | .tup a => by simp only [same]; exact sameL_refl a
  | .imm _ a => by simp only [same, beq_self_eq_true, Bool.true_and]; exact sameL_refl a
  | .lst a => by simp only [same]; exact sameL_refl a
  | .cptr _ x _ => by simp only [same, beq_self_eq_true, Bool.true_and, Bool.and_true]; exact same_refl x
  | .fn _ a c => by simp only [same, beq_self_eq_true, Bool.true_and, Bool.and_eq_true]; exact ⟨sameL_refl a, sameL_refl c⟩
  | .imap _ a => by simp only [same, beq_self_eq_true, Bool.true_and]; exact sameE_refl a
  | .yld _ _ a => by simp only [same, beq_self_eq_true, Bool.true_and]; exact sameL_refl a
  | .frs _ a => by simp only [same, beq_self_eq_true, Bool.true_and]; exact sameL_refl a
  | .int .. => by simp [same]
  | .bool _ => by simp [same]
  | .str _ => by simp [same]
  | .nilp => by simp [same]
  | .nilf => by simp [same]
  | .nilm => by simp [same]
  | .nil0 => by simp [same]
  | .sl .. => by simp [same]
  | .ptr .. => by simp [same]
  | .asl .. => by simp [same]
  | .mp _ => by simp [same]
  | .emp _ => by simp [same]
  | .it _ => by simp [same]
  | .any => by simp [same]
theorem sameL_refl : ∀ (a : List AVal), sameL a a = true
  | [] => by simp [sameL]
  | a :: x => by simp only [sameL, Bool.and_eq_true]; exact ⟨same_refl a, sameL_refl x⟩
theorem sameE_refl : ∀ (a : List (AVal × AVal)), sameE a a = true
  | [] => by simp [sameE]
  | (a, b) :: x => by simp only [sameE, Bool.and_eq_true]; exact ⟨⟨same_refl a, same_refl b⟩, sameE_refl x⟩
end
theorem sameC_eq {a b : Option (AVal × AVal)} (h : sameC a b = true) : a = b := by
  cases a <;> cases b <;> simp only [sameC, Bool.false_eq_true, Bool.and_eq_true] at h
  · rfl
  · rename_i x y
    obtain ⟨a, b⟩ := x
    obtain ⟨c, d⟩ := y
    have e1 := same_eq h.1
    have e2 := same_eq h.2
    dsimp only at e1 e2
    rw [e1, e2]
theorem sameC_refl (a : Option (AVal × AVal)) : sameC a a = true := by
  cases a <;> simp [sameC, same_refl]
theorem sameO_eq {a b : Obj} (h : sameO a b = true) : a = b := by
  cases a <;> cases b <;> simp only [sameO, Bool.false_eq_true, Bool.and_eq_true, beq_iff_eq, decide_eq_true_eq] at h
  · obtain ⟨⟨h1, h2⟩, h3⟩ := h
    rw [h1, h2, sameL_eq h3]
  · rw [sameE_eq h]
  · rw [h.1, h.2]
  · rw [h.1, h.2]
  · rw [sameE_eq h.1.1, sameC_eq h.1.2, h.2]
  · rfl
theorem sameO_refl (a : Obj) : sameO a a = true := by
  cases a <;> simp [sameO, sameL_refl, sameE_refl, sameC_refl]
theorem sameS_eq : ∀ {a b : Store}, sameS a b = true → a = b
  | [], [], _ => rfl
  | [], _ :: _, h => by simp [sameS] at h
  | _ :: _, [], h => by simp [sameS] at h
  | a :: x, b :: y, h => by
    simp only [sameS, Bool.and_eq_true] at h
    rw [sameO_eq h.1, sameS_eq h.2]
theorem sameS_refl : ∀ (a : Store), sameS a a = true
  | [] => by simp [sameS]
  | a :: x => by simp only [sameS, Bool.and_eq_true]; exact ⟨sameO_refl a, sameS_refl x⟩
theorem sameEnd_eq {r q : Ex × St} (h : sameEnd r q = true) : r = q := by
  obtain ⟨e, env, σ⟩ := r
  obtain ⟨e', env', σ'⟩ := q
  simp only [sameEnd, Bool.and_eq_true, decide_eq_true_eq] at h
  obtain ⟨⟨h1, h2⟩, h3⟩ := h
  rw [h1, sameL_eq h2, sameS_eq h3]
theorem sameEnd_refl (r : Ex × St) : sameEnd r r = true := by simp [sameEnd, sameL_refl, sameS_refl]
end Go.AM

namespace Go.AM
variable {C : CallF} {env : List AVal}
structure Trace (C : CallF) (env : List AVal) (ins : List Ins) (ls : List AVal) (s : Nat → Store) : Prop where
  len : ls.length = ins.length
  step : ∀ n (h : n < ins.length) (h' : n < ls.length), (wanted env (ls.take n) ins[n].guard = some true ∧ stepOp C env (ls.take n) (s n) ins[n].op = some (ls[n], s (n + 1))) ∨
    (wanted env (ls.take n) ins[n].guard = some false ∧ ls[n] = .tup [] ∧ s (n + 1) = s n)
theorem execOps_trace : ∀ (ins : List Ins) (l0 : List AVal) (σ : Store) (ls : List AVal) (σ' : Store), execOps C env ins l0 σ = some (ls, σ') →
    ∃ (l1 : List AVal) (s : Nat → Store), ls = l0 ++ l1 ∧ l1.length = ins.length ∧ s 0 = σ ∧ s ins.length = σ' ∧
      ∀ n (h : n < ins.length) (h' : n < l1.length), (wanted env (l0 ++ l1.take n) ins[n].guard = some true ∧ stepOp C env (l0 ++ l1.take n) (s n) ins[n].op = some (l1[n], s (n + 1))) ∨
        (wanted env (l0 ++ l1.take n) ins[n].guard = some false ∧ l1[n] = .tup [] ∧ s (n + 1) = s n)
  | [], l0, σ, ls, σ', h => by
    simp only [execOps, Option.some.injEq, Prod.mk.injEq] at h
    obtain ⟨rfl, rfl⟩ := h
    exact ⟨[], fun _ => σ, by simp, rfl, rfl, rfl, fun n h => absurd h (by simp)⟩
  | i :: r, l0, σ, ls, σ', h => by
    simp only [execOps] at h
    have go : ∀ (x : AVal) (σ1 : Store), execOps C env r (l0 ++ [x]) σ1 = some (ls, σ') →
        ((wanted env l0 i.guard = some true ∧ stepOp C env l0 σ i.op = some (x, σ1)) ∨ (wanted env l0 i.guard = some false ∧ x = .tup [] ∧ σ1 = σ)) →
        ∃ (l1 : List AVal) (s : Nat → Store), ls = l0 ++ l1 ∧ l1.length = (i :: r).length ∧ s 0 = σ ∧ s (i :: r).length = σ' ∧
          ∀ n (h : n < (i :: r).length) (h' : n < l1.length), (wanted env (l0 ++ l1.take n) (i :: r)[n].guard = some true ∧ stepOp C env (l0 ++ l1.take n) (s n) (i :: r)[n].op = some (l1[n], s (n + 1))) ∨
            (wanted env (l0 ++ l1.take n) (i :: r)[n].guard = some false ∧ l1[n] = .tup [] ∧ s (n + 1) = s n) := fun x σ1 h1 h2 => by
      obtain ⟨l1, s, e1, e2, e3, e4, e5⟩ := execOps_trace r (l0 ++ [x]) σ1 ls σ' h1
      refine ⟨x :: l1, fun n => match n with | 0 => σ | n + 1 => s n, by rw [e1]; simp, by simp [e2], rfl, by simpa using e4, fun n hn hn' => ?_⟩
      cases n with
      | zero => simpa [e3] using h2
      | succ n =>
        have := e5 n (by simpa using hn) (by simpa using hn')
        simpa using this
    split at h
    · rename_i hw
      obtain ⟨⟨x, σ1⟩, h1, h2⟩ := bind_eq_some h
      exact go x σ1 h2 (.inl ⟨hw, h1⟩)
    · rename_i hw
      exact go (.tup []) σ h (.inr ⟨hw, rfl, rfl⟩)
    · cases h
theorem trace_of {ins : List Ins} {σ σ' : Store} {ls : List AVal} (h : execOps C env ins [] σ = some (ls, σ')) : ∃ s, Trace C env ins ls s ∧ s 0 = σ ∧ s ins.length = σ' := by
  obtain ⟨l1, s, e1, e2, e3, e4, e5⟩ := execOps_trace ins [] σ ls σ' h
  simp only [List.nil_append] at e1 e5
  subst e1
  exact ⟨s, ⟨e2, e5⟩, e3, e4⟩
theorem execT_trace : ∀ (ins : List Ins) (l0 : List AVal) (s0 : List Store) (σ : Store) (ls : List AVal) (ss : List Store) (σ' : Store), execT C env ins l0 s0 σ = some (ls, ss, σ') →
    ∃ (l1 : List AVal) (s : Nat → Store), ls = l0 ++ l1 ∧ l1.length = ins.length ∧ s 0 = σ ∧ s ins.length = σ' ∧ ss ++ [σ'] = s0 ++ (List.range (ins.length + 1)).map s ∧
      ∀ n (h : n < ins.length) (h' : n < l1.length), (wanted env (l0 ++ l1.take n) ins[n].guard = some true ∧ stepOp C env (l0 ++ l1.take n) (s n) ins[n].op = some (l1[n], s (n + 1))) ∨
        (wanted env (l0 ++ l1.take n) ins[n].guard = some false ∧ l1[n] = .tup [] ∧ s (n + 1) = s n)
  | [], l0, s0, σ, ls, ss, σ', h => by
    simp only [execT, Option.some.injEq, Prod.mk.injEq] at h
    obtain ⟨rfl, rfl, rfl⟩ := h
    exact ⟨[], fun _ => σ, by simp, rfl, rfl, rfl, by simp, fun n h => absurd h (by simp)⟩
  | i :: r, l0, s0, σ, ls, ss, σ', h => by
    simp only [execT] at h
    have go : ∀ (x : AVal) (σ1 : Store), execT C env r (l0 ++ [x]) (s0 ++ [σ]) σ1 = some (ls, ss, σ') →
        ((wanted env l0 i.guard = some true ∧ stepOp C env l0 σ i.op = some (x, σ1)) ∨ (wanted env l0 i.guard = some false ∧ x = .tup [] ∧ σ1 = σ)) →
        ∃ (l1 : List AVal) (s : Nat → Store), ls = l0 ++ l1 ∧ l1.length = (i :: r).length ∧ s 0 = σ ∧ s (i :: r).length = σ' ∧ ss ++ [σ'] = s0 ++ (List.range ((i :: r).length + 1)).map s ∧
          ∀ n (h : n < (i :: r).length) (h' : n < l1.length), (wanted env (l0 ++ l1.take n) (i :: r)[n].guard = some true ∧ stepOp C env (l0 ++ l1.take n) (s n) (i :: r)[n].op = some (l1[n], s (n + 1))) ∨
            (wanted env (l0 ++ l1.take n) (i :: r)[n].guard = some false ∧ l1[n] = .tup [] ∧ s (n + 1) = s n) := fun x σ1 h1 h2 => by
      obtain ⟨l1, s, e1, e2, e3, e4, e6, e5⟩ := execT_trace r (l0 ++ [x]) (s0 ++ [σ]) σ1 ls ss σ' h1
      refine ⟨x :: l1, fun n => match n with | 0 => σ | n + 1 => s n, by rw [e1]; simp, by simp [e2], rfl, by simpa using e4, ?_, fun n hn hn' => ?_⟩
      · rw [e6, List.length_cons, List.range_succ_eq_map (n := r.length + 1)]
        simp
      cases n with
      | zero => simpa [e3] using h2
      | succ n =>
        have := e5 n (by simpa using hn) (by simpa using hn')
        simpa using this
    split at h
    · rename_i hw
      obtain ⟨⟨x, σ1⟩, h1, h2⟩ := bind_eq_some h
      exact go x σ1 h2 (.inl ⟨hw, h1⟩)
    · rename_i hw
      exact go (.tup []) σ h (.inr ⟨hw, rfl, rfl⟩)
    · cases h
theorem chkAll_all {ls : List AVal} {ops : List Ins} {ss : List Store} : ∀ {chk : List (Nat × Nat)}, chkAll C env ls ops ss chk = some () → ∀ n j, (n, j) ∈ chk → ∃ I τ, ops[n]? = some I ∧ ss[j]? = some τ ∧ stepOp C env (ls.take n) τ I.op = some (nth ls n, τ)
  | [], _, n, j, h => by cases h
  | (n0, j0) :: r, h, n, j, hm => by
    simp only [chkAll] at h
    split at h
    · rename_i I τ e1 e2
      obtain ⟨q, h1, h2⟩ := bind_eq_some h
      split at h2
      · rename_i hs
        simp only [Bool.and_eq_true] at hs
        rcases List.mem_cons.1 hm with hm | hm
        · cases hm
          refine ⟨I, τ, e1, e2, ?_⟩
          rw [h1, ← same_eq hs.1, ← sameS_eq hs.2]
        · exact chkAll_all h2 n j hm
      · cases h2
    · cases h
theorem traceT_of {ins : List Ins} {σ σ' : Store} {ls : List AVal} {ss : List Store} {chk : List (Nat × Nat)} (h : execT C env ins [] [] σ = some (ls, ss, σ')) (hc : chkAll C env ls ins (ss ++ [σ']) chk = some ()) :
    ∃ s, Trace C env ins ls s ∧ s 0 = σ ∧ s ins.length = σ' ∧ ∀ (n j : Nat) (I : Ins), (n, j) ∈ chk → ins[n]? = some I → stepOp C env (ls.take n) (s j) I.op = some (nth ls n, s j) := by
  obtain ⟨l1, s, e1, e2, e3, e4, e6, e5⟩ := execT_trace ins [] [] σ ls ss σ' h
  simp only [List.nil_append] at e1 e5 e6
  subst e1
  refine ⟨s, ⟨e2, e5⟩, e3, e4, fun n j I hm hI => ?_⟩
  obtain ⟨I', τ, i1, i2, i3⟩ := chkAll_all hc n j hm
  rw [hI] at i1
  cases i1
  rw [e6, List.getElem?_map] at i2
  obtain ⟨j', j1, j2⟩ := map_eq_some i2
  have : j' = j := by
    obtain ⟨_, hj⟩ := List.getElem?_eq_some_iff.1 j1
    simpa using hj.symm
  subst this
  rw [j2]; exact i3
def cls (pres : Nat → Bool) : AOp → Nat
  | .mov _ | .pick .. | .build .. | .mkl .. | .fldv .. | .idxv .. | .idxt .. | .bin .. | .eqb .. | .eqa .. | .isnil .. | .una .. | .conv .. | .slicet .. | .lent _ | .cap _ | .mins .. | .maxs .. | .mkfn .. | .ext .. | .bad => 0
  | .load .. | .nils .. | .fld .. | .idxs .. | .idxa .. | .nilck _ | .slice .. | .slice0 _ | .aslice .. | .len _ | .look .. | .mlen _ | .b2s _ | .lookk .. | .entry _ => 1
  | .call f _ mat => if !mat && pres f then 1 else 2
  | _ => 2
def Keeps (pres : Nat → Bool) (C : CallF) : Prop := ∀ f args σ v σ', pres f = true → C f args σ = some (v, σ') → σ' = σ
theorem mater_false {v : AVal} {σ : Store} : (mater false (v, σ)).2 = σ := by
  unfold mater mater1
  dsimp only
  split
  · split <;> rfl
  · split <;> rfl
theorem cls_le {pres : Nat → Bool} (hp : Keeps pres C) {ls : List AVal} {o : AOp} (h : cls pres o ≤ 1) {σ σ' : Store} {v : AVal} (hs : stepOp C env ls σ o = some (v, σ')) : σ' = σ := by
  have m : ∀ {q : Option AVal}, q.map (·, σ) = some (v, σ') → σ' = σ := fun {q} h => by
    cases q with
    | none => cases h
    | some a => cases h; rfl
  have ite : ∀ {p : Prop} [Decidable p] {q : Option (AVal × Store)}, (if p then q else none) = some (v, σ') → q = some (v, σ') := fun {p} _ {q} h => by
    split at h
    · exact h
    · cases h
  cases o with
  | call f args mat =>
    simp only [cls] at h
    split at h
    · rename_i hc
      simp only [Bool.and_eq_true, Bool.not_eq_true'] at hc
      simp only [stepOp] at hs
      obtain ⟨⟨v0, σ0⟩, h1, h2⟩ := map_eq_some hs
      have := hp _ _ _ _ _ hc.2 h1
      subst this
      rw [hc.1] at h2
      have e := mater_false (v := v0) (σ := σ0)
      rw [h2] at e; exact e
    · omega
  | mov x => cases hs; rfl
  | mkl k xs => simp only [stepOp] at hs; have := ite hs; cases this; rfl
  | pick c x y => exact m hs
  | build z ps => simp only [stepOp] at hs; obtain ⟨_, _, h2⟩ := map_eq_some hs; cases h2; rfl
  | fldv => exact m hs
  | idxv => simp only [stepOp] at hs; obtain ⟨_, _, h2⟩ := bind_eq_some hs; exact m (ite h2)
  | idxt => simp only [stepOp] at hs; obtain ⟨_, _, h2⟩ := bind_eq_some hs; exact m h2
  | bin => exact m hs
  | eqb => exact m hs
  | eqa => exact m hs
  | isnil => exact m (ite hs)
  | una => exact m hs
  | conv => exact m hs
  | slicet =>
    simp only [stepOp] at hs
    obtain ⟨_, _, h2⟩ := bind_eq_some hs
    obtain ⟨_, _, h3⟩ := bind_eq_some h2
    obtain ⟨_, _, h4⟩ := bind_eq_some h3
    exact m h4
  | lent => simp only [stepOp] at hs; obtain ⟨_, _, h2⟩ := map_eq_some hs; cases h2; rfl
  | cap => exact m hs
  | mins => exact m hs
  | maxs => exact m hs
  | mkfn => cases hs; rfl
  | ext => exact m hs
  | bad => cases hs
  | load => exact m hs
  | nils => exact m hs
  | fld => exact m hs
  | idxs => simp only [stepOp] at hs; obtain ⟨_, _, h2⟩ := bind_eq_some hs; exact m h2
  | idxa => simp only [stepOp] at hs; obtain ⟨_, _, h2⟩ := bind_eq_some hs; exact m (ite h2)
  | nilck => exact m hs
  | slice =>
    simp only [stepOp] at hs
    obtain ⟨_, _, h2⟩ := bind_eq_some hs
    obtain ⟨_, _, h3⟩ := bind_eq_some h2
    obtain ⟨_, _, h4⟩ := bind_eq_some h3
    exact m h4
  | slice0 => simp only [stepOp] at hs; obtain ⟨_, _, h2⟩ := map_eq_some hs; cases h2; rfl
  | aslice => exact m hs
  | len => simp only [stepOp] at hs; obtain ⟨_, _, h2⟩ := map_eq_some hs; cases h2; rfl
  | look =>
    simp only [stepOp] at hs
    obtain ⟨_, _, h2⟩ := bind_eq_some (ite hs)
    obtain ⟨_, _, h3⟩ := map_eq_some h2
    cases h3; rfl
  | mlen => simp only [stepOp] at hs; obtain ⟨_, _, h2⟩ := map_eq_some hs; cases h2; rfl
  | b2s => exact m hs
  | entry => exact m hs
  | lookk =>
    simp only [stepOp] at hs
    obtain ⟨_, _, h2⟩ := bind_eq_some (ite hs)
    obtain ⟨_, _, h3⟩ := map_eq_some h2
    cases h3; rfl
  | _ => simp [cls] at h
theorem cls_zero {pres : Nat → Bool} {ls : List AVal} {o : AOp} (h : cls pres o = 0) {σ σ' : Store} {v : AVal} (hs : stepOp C env ls σ o = some (v, σ')) (τ : Store) : stepOp C env ls τ o = some (v, τ) := by
  have m : ∀ {q : Option AVal}, q.map (·, σ) = some (v, σ') → q.map (·, τ) = some (v, τ) := fun {q} h => by
    cases q with
    | none => cases h
    | some a => cases h; rfl
  cases o with
  | call f args mat => simp only [cls] at h; split at h <;> cases h
  | mov x => cases hs; rfl
  | mkl k xs =>
    simp only [stepOp] at hs ⊢
    split at hs
    · rename_i hc; rw [if_pos hc]; cases hs; rfl
    · cases hs
  | pick c x y => exact m hs
  | build z ps => simp only [stepOp] at hs ⊢; obtain ⟨_, h1, h2⟩ := map_eq_some hs; rw [h1]; cases h2; rfl
  | fldv => exact m hs
  | idxv =>
    simp only [stepOp] at hs ⊢
    obtain ⟨k, h1, h2⟩ := bind_eq_some hs
    rw [h1]
    simp only [Option.bind_some]
    split at h2
    · rename_i hc; rw [if_pos hc]; exact m h2
    · cases h2
  | idxt => simp only [stepOp] at hs ⊢; obtain ⟨k, h1, h2⟩ := bind_eq_some hs; rw [h1]; exact m h2
  | bin => exact m hs
  | eqb => exact m hs
  | eqa => exact m hs
  | isnil f n x =>
    simp only [stepOp] at hs ⊢
    by_cases hc : (if f = true then isFn (x.eval env ls) else isPtr (x.eval env ls)) = true
    · rw [if_pos hc] at hs ⊢; exact m hs
    · rw [if_neg hc] at hs; cases hs
  | una => exact m hs
  | conv => exact m hs
  | slicet =>
    simp only [stepOp] at hs ⊢
    obtain ⟨_, h1, h2⟩ := bind_eq_some hs
    obtain ⟨_, h3, h4⟩ := bind_eq_some h2
    obtain ⟨_, h5, h6⟩ := bind_eq_some h4
    rw [h1]; simp only [Option.bind_some]
    rw [h3]; simp only [Option.bind_some]
    rw [h5]
    exact m h6
  | lent => simp only [stepOp] at hs ⊢; obtain ⟨_, h1, h2⟩ := map_eq_some hs; rw [h1]; cases h2; rfl
  | cap => exact m hs
  | mins => exact m hs
  | maxs => exact m hs
  | mkfn => cases hs; rfl
  | ext => exact m hs
  | bad => cases hs
  | _ => simp [cls] at h
end Go.AM
