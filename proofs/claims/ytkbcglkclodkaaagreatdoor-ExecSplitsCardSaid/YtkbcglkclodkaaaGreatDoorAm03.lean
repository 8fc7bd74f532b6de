/- Each operation that is taken to be one of the model's is one. -/
import Derived.Test.YtkbcglkclodkaaaGreatDoorAm02
import Derived.Test.YtkbcglkclodkaaaGreatDoorAm00
import Derived.OrdersIn
set_option linter.unusedVariables false
set_option linter.unusedSimpArgs false
namespace Go.AM
section
variable (M : Names) (P : Program) (rs : Tmp → Option Opd)
def okOp (o : Op) (ao : AOp) : Bool :=
  match o, ao with
  | .move x, .mov x' => okX M rs x x'
  | .assign x, .mov x' => okX M rs x x'
  | .assign (.const (.slice none 0 0)), .mknil k => k != 0
  | .pick c a b, .pick c' a' b' => okX M rs c c' && okX M rs a a' && okX M rs b b'
  | .alloc T, .box k (.val z) => szOk P T k && zeroOk M P T z
  | .box T x, .box k x' => szOk P T k && okX M rs x x'
  | .build T parts, .build zero parts' => zeroOk M P T (.agg zero) && (match P.underlying T with
      | some (.struct fs) => (match fs.toList.mapM (fun f => (P.info? f.type).map fun i => (f.offset, i.size)) with
        | some places => okParts M rs (places.toArray[·]?) parts.toList parts'
        | none => false)
      | some (.array _ e) => (match P.info? e with
        | some ie => okParts M rs (fun i => some (i * ie.size, ie.size)) parts.toList parts'
        | none => false)
      | _ => false)
  | .buildSlice T len parts, .mkl k xs => (match slElem P T with
      | some e => szOk P e k && hasZero P e k && decide (len * k ≤ 2 ^ 24) && len != 0 && ((parts.toList.map (·.1)) == List.range len) && okAll M rs (parts.toList.map (·.2)) xs
      | none => false)
  | .buildSlice T 0 parts, .mknil k => (match slElem P T with
      | some e => szOk P e k && parts.size == 0
      | none => false)
  | .makeSlice T l n, .make k zero l' n' => (match slElem P T with
      | some e => szOk P e k && hasZero P e k && zeroOk M P e zero && okX M rs l l' && okX M rs n n'
      | none => false)
  | .makeMap _ none, .mkmap => true
  | .lookup T m k ok, .look zero ok' m' k' => (match P.underlying T with
      | some (.map kt et) => anyInt P kt && zeroOk M P et zero && ok == ok' && okX M rs m m' && okX M rs k k'
      | _ => false)
  | .mapUpdate T m k v, .mput m' k' v' => (match P.underlying T with
      | some (.map kt _) => anyInt P kt && okX M rs m m' && okX M rs k k' && okX M rs v v'
      | _ => false)
  | .insert T m k v, .mput m' k' v' => (match P.underlying T with
      | some (.map kt _) => anyInt P kt && okX M rs m m' && okX M rs k k' && okX M rs v v'
      | _ => false)
  | .load T x, .load a s x' => tyOk P T a s && okX M rs x x'
  | .store T x v, .store s x' v' => szOk P T s && okX M rs x x' && okX M rs v v'
  | .fieldAddr S x i, .fld off x' => (match fieldOf P S i with
      | some f => f.offset == off && (match (P.info? f.type).map (·.size) with | some n => n != 0 | none => false) && okX M rs x x'
      | none => false)
  | .field S x i, .fldv a s off x' => (match fieldOf P S i with
      | some f => f.offset == off && tyOk P f.type a s && okX M rs x x'
      | none => false)
  | .indexAddr T x i, .idxs k x' i' => (match slElem P T with
      | some e => szOk P e k && okX M rs x x' && okX M rs i i'
      | none => false)
  | .indexAddr T x i, .idxa m s x' i' => (match P.underlying T with
      | some (.array m' e) => m == m' && (P.info? e).map (·.size) == some s && okX M rs x x' && okX M rs i i'
      | _ => false)
  | .index T x i, .idxv a m s x' i' => (match P.underlying T with
      | some (.array m' e) => m == m' && tyOk P e a s && okX M rs x x' && okX M rs i i'
      | _ => false)
  | .index T x i, .idxt x' i' => isStr P T && okX M rs x x' && okX M rs i i'
  | .binOp op T x y _, .eqb n x' y' => (op == if n then .neq else .eql) && (match P.underlying T with | some .bool => true | _ => false) && okX M rs x x' && okX M rs y y'
  | .binOp op T x y _, .eqa n ks x' y' => (op == if n then .neq else .eql) && eqOk P T ks && okX M rs x x' && okX M rs y y'
  | .binOp op _ x y _, .bin op' x' y' => op == op' && okX M rs x x' && okX M rs y y'
  | .unOp op _ x, .una op' x' => op == op' && okX M rs x x'
  | .convert S T x, .conv k x' => anyInt P S && isInt P T k && okX M rs x x'
  | .slice T x lo hi none, .slice k x' lo' hi' => (match slElem P T with
      | some e => szOk P e k && okX M rs x x' && okOpt M rs lo lo' && okOpt M rs hi hi'
      | none => false)
  | .slice T x lo hi none, .slicet x' lo' hi' => isStr P T && okX M rs x x' && okOpt M rs lo lo' && okOpt M rs hi hi'
  | .slice T x none none none, .aslice n x' => (match P.underlying T with
      | some (.array m e) => m == n && n != 0 && (P.info? e).map (·.size) == some 1 && okX M rs x x'
      | _ => false)
  | .extract x i, .ext i' x' => i == i' && okX M rs x x'
  | .makeFunc (.func f) first cap, .mkfn n first' cap' => M.fm n == f && okAll M rs first.toList first' && okAll M rs cap.toList cap'
  | .nilCheck x, .nilck x' => okX M rs x x'
  | .call c, .len x' => (match c.callee, c.args.toList, c.argTypes.toList with
      | .builtin .len, [x], [T] => (slElem P T).isSome && okX M rs x x'
      | _, _, _ => false)
  | .call c, .lent x' => (match c.callee, c.args.toList, c.argTypes.toList with
      | .builtin .len, [x], [T] => isStr P T && okX M rs x x'
      | _, _, _ => false)
  | .call c, .app k x' y' => (match c.callee, c.args.toList, c.argTypes.toList with
      | .builtin .append, [x, y], [T, U] => (match slElem P T with
        | some e => szOk P e k && hasZero P e k && notInt P U && okX M rs x x' && okX M rs y y'
        | none => false)
      | _, _, _ => false)
  | .call c, .cap x' => (match c.callee, c.args.toList, c.argTypes.toList with
      | .builtin .cap, [x], [T] => (slElem P T).isSome && okX M rs x x'
      | _, _, _ => false)
  | .call c, .clr zero x' => (match c.callee, c.args.toList, c.argTypes.toList with
      | .builtin .clear, [x], [T] => (match slElem P T with
        | some e => zeroOk M P e zero && okX M rs x x'
        | none => false)
      | _, _, _ => false)
  | .call c, .copy k x' y' => (match c.callee, c.args.toList, c.argTypes.toList with
      | .builtin .copy, [x, y], [T, _] => (match slElem P T with
        | some e => szOk P e k && okX M rs x x' && okX M rs y y'
        | none => false)
      | _, _, _ => false)
  | .call c, .mins x' xs' => (match c.callee, c.args.toList with
      | .builtin .min, x :: xs => okX M rs x x' && okAll M rs xs xs'
      | _, _ => false)
  | .call c, .maxs x' xs' => (match c.callee, c.args.toList with
      | .builtin .max, x :: xs => okX M rs x x' && okAll M rs xs xs'
      | _, _ => false)
  | .call c, .call n args _ => (match c.callee with
      | .value (.func f) => M.fm n == f && okAll M rs c.args.toList args
      | _ => false)
  | .call c, .callv x' args => (match c.callee with
      | .value x => okX M rs x x' && okAll M rs c.args.toList args
      | _ => false)
  | .binOp op T x (.const (.slice none 0 0)) _, .nils n x' => (op == if n then .neq else .eql) && (slElem P T).isSome && okX M rs x x'
  | .buildSlice T 0 parts, .mov (.val .nil0) => (match slElem P T with
      | some e => (P.info? e).isSome && parts.size == 0
      | none => false)
  | .call c, .appz k zero x' n' => (match c.callee, c.args.toList, c.argTypes.toList with
      | .builtin .append, [x, n], [T, U] => (match slElem P T with
        | some e => szOk P e k && hasZero P e k && zeroOk M P e zero && anyInt P U && okX M rs x x' && okX M rs n n'
        | none => false)
      | _, _, _ => false)
  | _, .bad => true
  | _, _ => false
end
variable {M : Names} {w : World} {P : Program} {rs : Tmp → Option Opd}
theorem okParts_R {c : Ctx} {env ls : List AVal} {a : Act} (ht : TmpR M w c env ls rs a.tmps) (hg : Globs M w c) {place : Nat → Option (Nat × Nat)} : ∀ {ps : List (Nat × Operand)} {qs : List (Nat × Nat × Opd)}, okParts M rs place ps qs = true →
    ps.length = qs.length ∧ ∀ i (h : i < ps.length) (h' : i < qs.length), place ps[i].1 = some (qs[i].1, qs[i].2.1) ∧ R M w c (qs[i].2.2.eval env ls) (a.eval ps[i].2)
  | [], [], _ => ⟨rfl, fun i h => absurd h (by simp)⟩
  | [], _ :: _, h => by simp [okParts] at h
  | _ :: _, [], h => by simp [okParts] at h
  | (i, x) :: ps, (off, s, x') :: qs, h => by
    simp only [okParts, Bool.and_eq_true, beq_iff_eq] at h
    obtain ⟨⟨h1, h2⟩, h3⟩ := h
    obtain ⟨h4, h5⟩ := okParts_R ht hg h3
    refine ⟨by simp [h4], fun j hj hj' => ?_⟩
    cases j with
    | zero => exact ⟨h1, okX_R ht hg h2⟩
    | succ j => simpa using h5 j (by simpa using hj) (by simpa using hj')
theorem okAll_R {c : Ctx} {env ls : List AVal} {a : Act} (ht : TmpR M w c env ls rs a.tmps) (hg : Globs M w c) {xs : List Operand} {xs' : List Opd} (h : okAll M rs xs xs' = true) :
    xs.length = xs'.length ∧ ∀ i (h : i < xs'.length), ∃ x, (xs.map a.eval)[i]? = some x ∧ R M w c (xs'[i].eval env ls) x := by
  simp only [okAll, Bool.and_eq_true, beq_iff_eq] at h
  exact ⟨h.1, args_R ht hg h.1 h.2⟩
theorem opt_R {c : Ctx} {env ls : List AVal} {a : Act} (ht : TmpR M w c env ls rs a.tmps) (hg : Globs M w c) {x : Option Operand} {x' : Option Opd} (h : okOpt M rs x x' = true) {d n : Nat} (hn : opt env ls d x' = some n) :
    (x.map a.eval = none ∧ n = d) ∨ ∃ k, x.map a.eval = some (.int k (n : Int)) := by
  cases x with
  | none => cases x' with
    | none => simp only [opt, Option.some.injEq] at hn; exact .inl ⟨rfl, hn.symm⟩
    | some _ => simp [okOpt] at h
  | some x => cases x' with
    | none => simp [okOpt] at h
    | some x' =>
      simp only [okOpt] at h
      obtain ⟨k, hk⟩ := asNat_R (okX_R ht hg h) hn
      exact .inr ⟨k, by rw [Option.map_some, hk]⟩
theorem builtin_exec {ρ : Operand → Value} {c : Call} {ty : TypeId} {b : Builtin} (h : c.callee = .builtin b) : (do let d ← Go.resolve ρ c ty; invoke d.target d.args : Sem Next) = builtin b c.argTypes ty (c.args.map fun | .const _ => true | _ => false) (c.args.map ρ) := by
  unfold Go.resolve
  rw [h]
  rfl
theorem args1 {ρ : Operand → Value} {xs : Array Operand} {x : Operand} (h : xs.toList = [x]) : xs.map ρ = #[ρ x] := by
  cases xs with | mk l => simp at h; subst h; simp
theorem args2 {ρ : Operand → Value} {xs : Array Operand} {x y : Operand} (h : xs.toList = [x, y]) : xs.map ρ = #[ρ x, ρ y] := by
  cases xs with | mk l => simp at h; subst h; simp
theorem args1' {α : Type} {xs : Array α} {l : List α} (h : xs.toList = l) : xs = l.toArray := by
  cases xs with | mk l => simp at h; subst h; rfl
theorem bin_R {c : Ctx} {x y v : AVal} {cx cy : Value} (hx : R M w c x cx) (hy : R M w c y cy) {op : BinOp} (h : bin op x y = some v) {T : TypeId} (ox oy : Operand) :
    ∃ cv, (do eqGuard op T ox oy cx cy; binOp op T cx cy : Sem Value).run P w = .ok cv w ∧ R M w c v cv := by
  unfold bin at h
  split at h
  · rename_i k a k' b
    cases hx; cases hy
    simp only [Sem.run_bind, eqGuard_run op T ox oy (.inl ⟨k, a, rfl⟩), Result.andThen_ok]
    split at h
    · exact shift_run h
    · exact shift_run h
    · rename_i n1 n2
      split at h
      · rename_i hk; subst hk
        exact binInt_run ⟨fun e => n1 e, fun e => n2 e⟩ h
      · cases h
  · rename_i a b
    cases hx with | str h1 => cases hy with | str h2 =>
    simp only [Sem.run_bind, eqGuard_run op T ox oy (.inr (.inl ⟨_, rfl⟩)), Result.andThen_ok]
    exact binStr_R (by rw [h1, h2]; exact h)
  · cases h
theorem Runs.ex {c : Ctx} {σ : Store} {s : Sem Value} {v : AVal} (hs : Sim M w c σ) (h : ∃ cv, s.run P w = .ok cv w ∧ R M w c v cv) : Runs M P c w (do pure (.value (← s))) v σ :=
  let ⟨_, h1, h2⟩ := h
  .quiet hs h1 h2
theorem Runs.unit {c : Ctx} {σ' : Store} {s : Sem Unit} (h : ∃ w', s.run P w = .ok () w' ∧ Sim M w' c σ' ∧ Stp c w c w') : Runs M P c w (do s; pure .skip) .any σ' := by
  obtain ⟨w', h1, h2, h3⟩ := h
  exact ⟨.skip, w', c, undef, by simp [h1], .inr ⟨rfl, rfl⟩, h2, h3, .any⟩
theorem Runs.any {c : Ctx} {σ' : Store} {s : Sem Value} (h : ∃ cv w', s.run P w = .ok cv w' ∧ Sim M w' c σ' ∧ Stp c w c w') : Runs M P c w (do pure (.value (← s))) .any σ' := by
  obtain ⟨cv, w', h1, h2, h3⟩ := h
  exact .of h1 h2 h3 .any
theorem anyInt_iff {T : TypeId} (h : anyInt P T = true) : ∃ q, P.underlying T = some (.int q) := by
  unfold anyInt at h
  split at h
  · exact ⟨_, by assumption⟩
  · cases h
theorem isInt_iff {T : TypeId} {k : IntKind} (h : isInt P T k = true) : P.underlying T = some (.int k) := by
  unfold isInt at h
  split at h
  · rename_i j hj
    have : j = k := by simpa using h
    rw [← this]; exact hj
  · cases h
theorem isStr_iff {T : TypeId} (h : isStr P T = true) : P.underlying T = some .string := by
  unfold isStr at h
  split at h
  · assumption
  · cases h
theorem map_eq_some {α β : Type} {f : α → β} {o : Option α} {b : β} (h : o.map f = some b) : ∃ a, o = some a ∧ f a = b := by
  cases o with
  | none => cases h
  | some a => exact ⟨a, rfl, Option.some.inj h⟩
theorem bind_eq_some {α β : Type} {f : α → Option β} {o : Option α} {b : β} (h : o.bind f = some b) : ∃ a, o = some a ∧ f a = some b := by
  cases o with
  | none => cases h
  | some a => exact ⟨a, rfl, h⟩
theorem ext_R {c : Ctx} {i : Nat} {x v : AVal} {cx : Value} (hx : R M w c x cx) (h : extV i x = some v) : ∃ cv, (Instr.extract cx i).run P w = .ok cv w ∧ R M w c v cv := by
  unfold extV at h
  split at h
  · rename_i vs
    cases hx with | @tup _ _ cvs f h1 h2 h3 =>
    obtain ⟨hi, rfl⟩ := List.getElem?_eq_some_iff.1 h
    refine ⟨f i, ?_, h3 i hi⟩
    simp [Instr.extract, h2 i hi]
  · cases h
theorem fieldOf_iff {S : TypeId} {i : Nat} {f : Field} (h : fieldOf P S i = some f) : ∃ fs, P.underlying S = some (.struct fs) ∧ fs[i]? = some f := by
  unfold fieldOf at h
  split at h
  · exact ⟨_, by assumption, h⟩
  · cases h
theorem partV_R {c : Ctx} {a : Bool} {s off : Nat} {x v : AVal} {cx : Value} (hx : R M w c x cx) (h : partV a s off x = some v) {T : TypeId} (ht : tyOk P T a s = true) : ∃ A cv, cx = .agg A ∧ (part T A off).run P w = .ok cv w ∧ R M w c v cv := by
  unfold partV at h
  split at h
  · rename_i hc
    exact part_R hx hc.1 hc.2 ht h
  · cases h
theorem okAll_map {c : Ctx} {env ls : List AVal} {a : Act} (ht : TmpR M w c env ls rs a.tmps) (hg : Globs M w c) {xs : Array Operand} {xs' : List Opd} (h : okAll M rs xs.toList xs' = true) :
    (xs.map a.eval).size = xs'.length ∧ ∀ i (hi : i < (xs'.map (·.eval env ls)).length), ∃ x, (xs.map a.eval)[i]? = some x ∧ R M w c (xs'.map (·.eval env ls))[i] x := by
  obtain ⟨h1, h2⟩ := okAll_R ht hg h
  refine ⟨by simpa using h1, fun i hi => ?_⟩
  obtain ⟨x, h3, h4⟩ := h2 i (by simpa using hi)
  exact ⟨x, by simpa using h3, by simpa using h4⟩
theorem op_runs {c : Ctx} {σ σ' : Store} {env ls : List AVal} {a : Act} {C : CallF} {o : Oper} {ao : AOp} {v : AVal} (hs : Sim M w c σ) (ht : TmpR M w c env ls rs a.tmps) (hg : Globs M w c)
    (hok : okOp M P rs o.op ao = true) (hst : stepOp C env ls σ ao = some (v, σ')) (hn1 : ∀ f x m, ao ≠ .call f x m) (hn2 : ∀ f x, ao ≠ .callv f x) : Runs M P c w (execOp a.eval o) v σ' := by
  have X : ∀ {x : Operand} {x' : Opd}, okX M rs x x' = true → R M w c (x'.eval env ls) (a.eval x) := fun h => okX_R ht hg h
  unfold okOp at hok
  unfold execOp
  split at hok <;> rename_i hop <;> (try simp only [hop])
  case h_1 => cases hst; exact .now hs (X hok)
  case h_2 => cases hst; exact .now hs (X hok)
  case h_3 k =>
    cases hst
    obtain ⟨c', h1, h2, h3⟩ := mknil_R hs (show k ≠ 0 by simpa using hok) none
    exact ⟨_, w, c', _, rfl, .inl rfl, h1, h2, h3⟩
  case h_4 x y z x' y' z' =>
    simp only [Bool.and_eq_true] at hok
    obtain ⟨⟨h1, h2⟩, h3⟩ := hok
    simp only [stepOp] at hst
    obtain ⟨r, hr, he⟩ := map_eq_some hst
    cases he
    unfold pickV at hr
    have hc := X h1
    split at hr
    · rename_i t ht'
      rw [ht'] at hc
      cases hr
      generalize a.eval x = cx at hc
      cases hc
      refine ⟨.value (if t then a.eval y else a.eval z), w, c, _, by simp [asBool], .inl rfl, hs, .refl c w, ?_⟩
      cases t
      · exact X h3
      · exact X h2
    · cases hr
  case h_5 T k z =>
    simp only [Bool.and_eq_true] at hok
    obtain ⟨h1, h2⟩ := hok
    obtain ⟨h3, h4⟩ := szOk_iff h1
    obtain ⟨i, v0, i1, i2, i3, i4⟩ := zero_run h2
    have hst' : (if ncells z = k then some (AVal.ptr σ.length 0 0 0, σ ++ [.arr k 0 [z]]) else none) = some (v, σ') := hst
    split at hst'
    · rename_i hk
      cases hst'
      obtain ⟨nx, w', c', cv, b1, b2, b3, b4, b5⟩ := box_R (P := P) hs (const_R (M := M) (w := w) (c := c) i4) (T := T) hk h4
      refine ⟨nx, w', c', cv, ?_, b2, b3, b4, b5⟩
      rw [← b1]
      simp [Instr.alloc, Instr.box, i3]
    · cases hst'
  case h_6 T x k x' =>
    simp only [Bool.and_eq_true] at hok
    obtain ⟨h1, h2⟩ := hok
    obtain ⟨h3, h4⟩ := szOk_iff h1
    simp only [stepOp] at hst
    split at hst
    · rename_i hk
      cases hst
      exact box_R hs (X h2) hk h4
    · cases hst
  case h_7 T parts zero parts' =>
    simp only [Bool.and_eq_true] at hok
    obtain ⟨h1, h2⟩ := hok
    obtain ⟨i, v0, i1, i2, i3, i4⟩ := zero_run h1
    simp only [stepOp] at hst
    obtain ⟨cs, hf, he⟩ := map_eq_some hst
    cases he
    have hz : R M w c (.agg zero) v0 := const_R i4
    obtain ⟨A, rfl⟩ : ∃ A, v0 = .agg A := by cases hz; exact ⟨_, rfl⟩
    have hzr := hz.rcells
    have key : ∀ place, okParts M rs place parts.toList parts' = true → ∃ B, Instr.fill place A ((parts.map fun (i, x) => (i, a.eval x)).toList) = some B ∧ RCells M w c cs B := fun place hp => by
      obtain ⟨p1, p2⟩ := okParts_R ht hg hp
      refine fill_R place _ (parts'.map fun p => (p.1, p.2.1, p.2.2.eval env ls)) zero cs A hzr (by simp; simpa using p1) (fun i hi hi' => ?_) hf
      have := p2 i (by simpa using hi) (by simpa using hi')
      simpa using this
    have hbuilt : ∃ B, P.built T ((parts.map fun (i, x) => (i, a.eval x)).toList) = some B ∧ RCells M w c cs B := by
      split at h2
      · rename_i fs hfs
        split at h2
        · rename_i places hpl
          obtain ⟨B, b1, b2⟩ := key _ h2
          exact ⟨B, by unfold Program.built; rw [i1, hfs]; simp only [i2, hpl]; exact b1, b2⟩
        · cases h2
      · rename_i n e hfs
        split at h2
        · rename_i ie hie
          obtain ⟨B, b1, b2⟩ := key _ h2
          exact ⟨B, by unfold Program.built; rw [i1, hfs]; simp only [i2, hie]; exact b1, b2⟩
        · cases h2
      · cases h2
    obtain ⟨B, b1, b2⟩ := hbuilt
    exact .quiet hs (run_build w T _ B b1) b2.agg
  case h_8 T len parts k xs =>
    split at hok
    · rename_i e he
      simp only [Bool.and_eq_true, beq_iff_eq, bne_iff_ne, decide_eq_true_eq] at hok
      obtain ⟨⟨⟨⟨⟨h1, h2⟩, h3⟩, h4⟩, h5⟩, h6⟩ := hok
      obtain ⟨s1, s2⟩ := szOk_iff h1
      simp only [stepOp] at hst
      split at hst
      · rename_i hall
        cases hst
        obtain ⟨p1, p2⟩ := okAll_R ht hg h6
        have hlen : parts.toList.length = len := by rw [← List.length_map (f := (·.1)), h5, List.length_range]
        refine buildSlice_R (cvs := (parts.toList.map (·.2)).map a.eval) hs (slElem_iff he) s1 s2 h2 h3 ?_ ?_ ?_ ?_ h4 ?_
        · rw [List.length_map, ← p1, List.length_map, hlen]
        · rw [List.length_map, List.length_map, hlen]
        · intro i hi hi'
          obtain ⟨x, x1, x2⟩ := p2 i (by simpa using hi)
          rw [List.getElem?_eq_getElem hi'] at x1
          cases x1
          simpa using x2
        · intro v hv
          simpa using List.all_eq_true.1 hall v hv
        · rw [← h5]
          simp [List.zip_map', Function.comp_def]
      · cases hst
    · cases hok
  case h_9 T parts k =>
    split at hok
    · rename_i e he
      simp only [Bool.and_eq_true, beq_iff_eq] at hok
      obtain ⟨h1, h2⟩ := hok
      obtain ⟨s1, s2⟩ := szOk_iff h1
      cases hst
      have hp : parts = #[] := Array.eq_empty_of_size_eq_zero h2
      subst hp
      obtain ⟨h3, h4⟩ := hs.addStill (.cells #[] e (0, 0))
      obtain ⟨c', b1, b2, b3⟩ := mknil_R h3 s2 (some ⟨w.heap.size, 0, none⟩)
      refine ⟨.value (.slice (some ⟨w.heap.size, 0, none⟩) 0 0), newW w (.cells #[] e (0, 0)), c', _, ?_, .inl rfl, b1, h4.trans b2, b3⟩
      simp [Instr.buildSlice, run_underlying (slElem_iff he), run_sizeOf s1, newRow, Instr.fill, Array.range_zero']
      rfl
    · cases hok
  case h_10 T l n k zero l' n' =>
    split at hok
    · rename_i e he
      simp only [Bool.and_eq_true] at hok
      obtain ⟨⟨⟨⟨h1, h2⟩, h3⟩, h4⟩, h5⟩ := hok
      obtain ⟨s1, s2⟩ := szOk_iff h1
      simp only [stepOp] at hst
      obtain ⟨m, m1, hst⟩ := bind_eq_some hst
      obtain ⟨d, d1, hst⟩ := bind_eq_some hst
      split at hst
      · rename_i hc
        obtain ⟨rfl, hk, hm⟩ := hc
        cases hst
        obtain ⟨k1, e1⟩ := asNat_R (X h4) m1
        obtain ⟨k2, e2⟩ := asNat_R (X h5) d1
        rw [e1, e2]
        exact make_R hs (slElem_iff he) s2 h2 h3 hk hm s1
      · cases hst
    · cases hok
  case h_11 T => cases hst; exact mkmap_R hs T
  case h_12 T m k ok zero ok' m' k' =>
    split at hok
    · rename_i kt et hT
      simp only [Bool.and_eq_true, beq_iff_eq] at hok
      obtain ⟨⟨⟨⟨h1, h2⟩, rfl⟩, h4⟩, h5⟩ := hok
      obtain ⟨q, hq⟩ := anyInt_iff h1
      simp only [stepOp] at hst
      split at hst
      · rename_i hk
        obtain ⟨es, e1, hst⟩ := bind_eq_some hst
        obtain ⟨r, r1, he⟩ := map_eq_some hst
        cases he
        exact .ex hs (look_R hs (X h4) (X h5) hk e1 r1 hT hq h2 ok)
      · cases hst
    · cases hok
  case h_13 T m k v m' k' v' =>
    split at hok
    · rename_i kt et hT
      simp only [Bool.and_eq_true] at hok
      obtain ⟨⟨⟨h1, h2⟩, h3⟩, h4⟩ := hok
      obtain ⟨q, hq⟩ := anyInt_iff h1
      simp only [stepOp] at hst
      obtain ⟨σ1, r1, he⟩ := map_eq_some hst
      cases he
      exact .unit (mput_R hs (X h2) (X h3) (X h4) r1 hT hq)
    · cases hok
  case h_14 T m k v m' k' v' =>
    split at hok
    · rename_i kt et hT
      simp only [Bool.and_eq_true] at hok
      obtain ⟨⟨⟨h1, h2⟩, h3⟩, h4⟩ := hok
      obtain ⟨q, hq⟩ := anyInt_iff h1
      simp only [stepOp] at hst
      obtain ⟨σ1, r1, he⟩ := map_eq_some hst
      cases he
      exact .unit (mput_R hs (X h2) (X h3) (X h4) r1 hT hq)
    · cases hok
  case h_15 T x b s x' =>
    simp only [Bool.and_eq_true] at hok
    simp only [stepOp] at hst
    obtain ⟨r, hr, he⟩ := map_eq_some hst
    cases he
    exact .ex hs (load_R hs (X hok.2) hok.1 hr)
  case h_16 T x y s x' y' =>
    simp only [Bool.and_eq_true] at hok
    obtain ⟨⟨h1, h2⟩, h3⟩ := hok
    obtain ⟨s1, s2⟩ := szOk_iff h1
    simp only [stepOp] at hst
    obtain ⟨r, hr, he⟩ := map_eq_some hst
    cases he
    exact .unit (store_R hs (X h2) (X h3) s1 s2 hr)
  case h_17 S x i off x' =>
    split at hok
    · rename_i f hf
      simp only [Bool.and_eq_true, beq_iff_eq] at hok
      obtain ⟨⟨h1, h2⟩, h3⟩ := hok
      obtain ⟨fs, f1, f2⟩ := fieldOf_iff hf
      split at h2
      · rename_i n hn
        simp only [stepOp] at hst
        obtain ⟨r, hr, he⟩ := map_eq_some hst
        cases he
        exact .ex hs (fld_R hs (X h3) f1 f2 h1 hn (by simpa using h2) hr)
      · cases h2
    · cases hok
  case h_18 S x i b s off x' =>
    split at hok
    · rename_i f hf
      simp only [Bool.and_eq_true, beq_iff_eq] at hok
      obtain ⟨⟨h1, h2⟩, h3⟩ := hok
      obtain ⟨fs, f1, f2⟩ := fieldOf_iff hf
      simp only [stepOp] at hst
      obtain ⟨r, hr, he⟩ := map_eq_some hst
      cases he
      obtain ⟨A, cv, a1, a2, a3⟩ := partV_R (P := P) (X h3) hr h2
      refine .quiet hs ?_ a3
      subst h1
      simp [Instr.field, run_underlying f1, f2, a1, asAgg, a2]
    · cases hok
  case h_19 T x i k x' i' =>
    split at hok
    · rename_i e he
      simp only [Bool.and_eq_true] at hok
      obtain ⟨⟨h1, h2⟩, h3⟩ := hok
      obtain ⟨s1, s2⟩ := szOk_iff h1
      simp only [stepOp] at hst
      obtain ⟨n, n1, hst⟩ := bind_eq_some hst
      obtain ⟨r, hr, he'⟩ := map_eq_some hst
      cases he'
      exact .ex hs (idxs_R hs (X h2) (asNat_R (X h3) n1) (slElem_iff he) s1 s2 hr)
    · cases hok
  case h_20 T x i m s x' i' =>
    split at hok
    · rename_i m' e he
      simp only [Bool.and_eq_true, beq_iff_eq] at hok
      obtain ⟨⟨⟨rfl, h2⟩, h3⟩, h4⟩ := hok
      simp only [stepOp] at hst
      obtain ⟨n, n1, hst⟩ := bind_eq_some hst
      split at hst
      · rename_i hn
        obtain ⟨r, hr, he'⟩ := map_eq_some hst
        cases he'
        exact .ex hs (idxa_R hs (X h3) (asNat_R (X h4) n1) he h2 hn hr)
      · cases hst
    · cases hok
  case h_21 T x i b m s x' i' =>
    split at hok
    · rename_i m' e he
      simp only [Bool.and_eq_true, beq_iff_eq] at hok
      obtain ⟨⟨⟨rfl, h2⟩, h3⟩, h4⟩ := hok
      simp only [stepOp] at hst
      obtain ⟨n, n1, hst⟩ := bind_eq_some hst
      split at hst
      · rename_i hn
        obtain ⟨r, hr, he'⟩ := map_eq_some hst
        cases he'
        obtain ⟨A, cv, a1, a2, a3⟩ := partV_R (P := P) (X h3) hr h2
        obtain ⟨k, hk⟩ := asNat_R (X h4) n1
        refine .quiet hs ?_ a3
        simp [Instr.index, hk, asIntOf, run_underlying he, a1, hn, run_sizeOf (tyOk_size h2), a2]
      · cases hst
    · cases hok
  case h_22 T x i x' i' =>
    simp only [Bool.and_eq_true] at hok
    obtain ⟨⟨h1, h2⟩, h3⟩ := hok
    simp only [stepOp] at hst
    obtain ⟨n, n1, hst⟩ := bind_eq_some hst
    obtain ⟨r, hr, he'⟩ := map_eq_some hst
    cases he'
    exact .ex hs (idxt_R (X h2) (asNat_R (X h3) n1) hr (isStr_iff h1))
  case h_23 op T x y _ n x' y' =>
    simp only [Bool.and_eq_true, beq_iff_eq] at hok
    obtain ⟨⟨⟨h1, h2⟩, h3⟩, h4⟩ := hok
    simp only [stepOp] at hst
    obtain ⟨r, hr, he'⟩ := map_eq_some hst
    cases he'
    split at h2
    · rename_i hT
      exact .ex hs (eqb_R (X h3) (X h4) hr hT h1 x y)
    · cases h2
  case h_24 op T x y _ n ks x' y' =>
    simp only [Bool.and_eq_true, beq_iff_eq] at hok
    obtain ⟨⟨⟨h1, h2⟩, h3⟩, h4⟩ := hok
    simp only [stepOp] at hst
    obtain ⟨r, hr, he'⟩ := map_eq_some hst
    cases he'
    exact .ex hs (eqa_R (X h3) (X h4) hr h2 h1 x y)
  case h_25 op T x y _ op' x' y' =>
    simp only [Bool.and_eq_true, beq_iff_eq] at hok
    obtain ⟨⟨rfl, h2⟩, h3⟩ := hok
    simp only [stepOp] at hst
    obtain ⟨r, hr, he'⟩ := map_eq_some hst
    cases he'
    exact .ex hs (bin_R (X h2) (X h3) hr x y)
  case h_26 op _ x op' x' =>
    simp only [Bool.and_eq_true, beq_iff_eq] at hok
    obtain ⟨rfl, h2⟩ := hok
    simp only [stepOp] at hst
    obtain ⟨r, hr, he'⟩ := map_eq_some hst
    cases he'
    exact .ex hs (una_run (X h2) hr)
  case h_27 S T x k x' =>
    simp only [Bool.and_eq_true] at hok
    obtain ⟨⟨h1, h2⟩, h3⟩ := hok
    simp only [stepOp] at hst
    obtain ⟨r, hr, he'⟩ := map_eq_some hst
    cases he'
    have hx := X h3
    unfold convV at hr
    split at hr
    · rename_i k' n hx'
      rw [hx'] at hx
      cases hr
      obtain ⟨q, hq⟩ := anyInt_iff h1
      generalize a.eval x = cx at hx
      cases hx
      exact .quiet hs (conv_run (c := c) hq (isInt_iff h2) ⟨q, rfl⟩) .int
    · cases hr
  case h_28 T x lo hi k x' lo' hi' =>
    split at hok
    · rename_i e he
      simp only [Bool.and_eq_true] at hok
      obtain ⟨⟨⟨h1, h2⟩, h3⟩, h4⟩ := hok
      simp only [stepOp] at hst
      obtain ⟨n, n1, hst⟩ := bind_eq_some hst
      obtain ⟨l, l1, hst⟩ := bind_eq_some hst
      obtain ⟨h, hh, hst⟩ := bind_eq_some hst
      obtain ⟨r, hr, he'⟩ := map_eq_some hst
      cases he'
      exact .ex hs (slice_R hs (X h2) n1 (opt_R ht hg h3 l1) (opt_R ht hg h4 hh) hr (slElem_iff he) (szOk_iff h1).1)
    · cases hok
  case h_29 T x lo hi x' lo' hi' =>
    simp only [Bool.and_eq_true] at hok
    obtain ⟨⟨⟨h1, h2⟩, h3⟩, h4⟩ := hok
    simp only [stepOp] at hst
    obtain ⟨n, n1, hst⟩ := bind_eq_some hst
    obtain ⟨l, l1, hst⟩ := bind_eq_some hst
    obtain ⟨h, hh, hst⟩ := bind_eq_some hst
    obtain ⟨r, hr, he'⟩ := map_eq_some hst
    cases he'
    exact .ex hs (tslice_R (X h2) n1 (opt_R ht hg h3 l1) (opt_R ht hg h4 hh) hr (isStr_iff h1))
  case h_30 T x n x' =>
    split at hok
    · rename_i m e he
      simp only [Bool.and_eq_true, beq_iff_eq, bne_iff_ne] at hok
      obtain ⟨⟨⟨rfl, h2⟩, h3⟩, h4⟩ := hok
      simp only [stepOp] at hst
      obtain ⟨r, hr, he'⟩ := map_eq_some hst
      cases he'
      exact .ex hs (aslice_R hs (X h4) hr he h3 h2)
    · cases hok
  case h_31 x i i' x' =>
    simp only [Bool.and_eq_true, beq_iff_eq] at hok
    obtain ⟨rfl, h2⟩ := hok
    simp only [stepOp] at hst
    obtain ⟨r, hr, he'⟩ := map_eq_some hst
    cases he'
    exact .ex hs (ext_R (X h2) hr)
  case h_32 f first cap n first' cap' =>
    simp only [Bool.and_eq_true, beq_iff_eq] at hok
    obtain ⟨⟨h1, h2⟩, h3⟩ := hok
    cases hst
    obtain ⟨a1, a2⟩ := okAll_map ht hg h2
    obtain ⟨b1, b2⟩ := okAll_map ht hg h3
    refine .quiet hs rfl ?_
    subst h1
    refine .fn (fun i => (first.map a.eval).getD i undef) (fun i => (cap.map a.eval).getD i undef) (by rw [a1]; simp) (by rw [b1]; simp) (fun i hi => ?_) (fun i hi => ?_) (fun i hi => ?_) (fun i hi => ?_)
    · obtain ⟨x, x1, _⟩ := a2 i hi
      simp only [Array.getD_eq_getD_getElem?, x1, Option.getD_some]
    · obtain ⟨x, x1, _⟩ := b2 i hi
      simp only [Array.getD_eq_getD_getElem?, x1, Option.getD_some]
    · obtain ⟨x, x1, x2⟩ := a2 i hi
      simp only [Array.getD_eq_getD_getElem?, x1, Option.getD_some]
      exact x2
    · obtain ⟨x, x1, x2⟩ := b2 i hi
      simp only [Array.getD_eq_getD_getElem?, x1, Option.getD_some]
      exact x2
  case h_33 x x' =>
    simp only [stepOp] at hst
    obtain ⟨r, hr, he'⟩ := map_eq_some hst
    cases he'
    have hx := X hok
    unfold nilckV at hr
    split at hr
    · rename_i id ep i o' hx'
      rw [hx'] at hx
      split at hr
      · rename_i hf
        cases hr
        obtain ⟨k, b, h1, h2, h3, h4⟩ := ptr_fresh hs hx hf
        rw [h4] at hx ⊢
        exact .now hs hx
      · cases hr
    · rename_i b y o' hx'
      rw [hx'] at hx
      cases hr
      generalize a.eval x = cx at hx
      have : ∃ ad, cx = .pointer (some ad) := by cases hx; exact ⟨_, rfl⟩
      obtain ⟨ad, rfl⟩ := this
      exact .now hs hx
    · rename_i f p q hx'
      rw [hx'] at hx
      cases hr
      generalize a.eval x = cx at hx
      have : ∃ fi fs cs, cx = .func (.func fi) fs cs := by cases hx; exact ⟨_, _, _, rfl⟩
      obtain ⟨fi, fs, cs, rfl⟩ := this
      exact .now hs hx
    · cases hr
  case h_34 c' x' =>
    split at hok
    · rename_i x T h1 h2 h3
      simp only [Bool.and_eq_true] at hok
      obtain ⟨k1, k2⟩ := hok
      obtain ⟨e, he⟩ := Option.isSome_iff_exists.1 k1
      simp only [stepOp] at hst
      obtain ⟨r, hr, he'⟩ := map_eq_some hst
      cases he'
      rw [builtin_exec h1, args1 h2, args1' h3]
      exact .ex hs ⟨_, len_R hs (X k2) hr (slElem_iff he), .int⟩
    · cases hok
  case h_35 c' x' =>
    split at hok
    · rename_i x T h1 h2 h3
      simp only [Bool.and_eq_true] at hok
      obtain ⟨k1, k2⟩ := hok
      simp only [stepOp] at hst
      obtain ⟨r, hr, he'⟩ := map_eq_some hst
      cases he'
      rw [builtin_exec h1, args1 h2, args1' h3]
      exact .ex hs ⟨_, lent_R (X k2) hr (isStr_iff k1), .int⟩
    · cases hok
  case h_36 c' k x' y' =>
    split at hok
    · rename_i x y T U h1 h2 h3
      split at hok
      · rename_i e he
        simp only [Bool.and_eq_true] at hok
        obtain ⟨⟨⟨⟨k1, k2⟩, k3⟩, k4⟩, k5⟩ := hok
        obtain ⟨s1, s2⟩ := szOk_iff k1
        simp only [stepOp] at hst
        obtain ⟨ys, y1, hst⟩ := bind_eq_some hst
        rw [builtin_exec h1, args2 h2, args1' h3]
        obtain ⟨i, z, z1, z2, z3, z4, z5, _⟩ := hasZero_iff k2
        have hsz : i.size = k := by rw [z1] at s1; simpa using s1
        have hU : ∃ d, P.underlying U = some d ∧ ∀ q, d ≠ .int q := by
          unfold notInt at k3
          split at k3
          · cases k3
          · rename_i d hd hn
            exact ⟨d, hn, fun q e => hd q e⟩
          · cases k3
        obtain ⟨d, d1, d2⟩ := hU
        exact append_R hs (X k4) (X k5) y1 hst ⟨⟨e, i, z, d, slElem_iff he, z1, hsz, z2, z3, z4, z5, d1, d2⟩, s2⟩
      · cases hok
    · cases hok
  case h_37 c' x' =>
    split at hok
    · rename_i x T h1 h2 h3
      simp only [Bool.and_eq_true] at hok
      obtain ⟨k1, k2⟩ := hok
      obtain ⟨e, he⟩ := Option.isSome_iff_exists.1 k1
      simp only [stepOp] at hst
      obtain ⟨r, hr, he'⟩ := map_eq_some hst
      cases he'
      rw [builtin_exec h1, args1 h2, args1' h3]
      have hx := X k2
      unfold capV at hr
      split at hr
      · rename_i hx'
        rw [hx'] at hx
        cases hr
        generalize a.eval x = cx at hx
        cases hx
        refine .ex hs ⟨_, ?_, .int⟩
        simp [Builtin.cap_, run_underlying (slElem_iff he), goInt]
      · cases hr
    · cases hok
  case h_38 c' zero x' =>
    split at hok
    · rename_i x T h1 h2 h3
      split at hok
      · rename_i e he
        simp only [Bool.and_eq_true] at hok
        obtain ⟨k1, k2⟩ := hok
        simp only [stepOp] at hst
        obtain ⟨r, hr, he'⟩ := map_eq_some hst
        cases he'
        rw [builtin_exec h1, args1 h2, args1' h3]
        exact .any (clr_R hs (X k2) hr (slElem_iff he) k1)
      · cases hok
    · cases hok
  case h_39 c' k x' y' =>
    split at hok
    · rename_i x y T U h1 h2 h3
      split at hok
      · rename_i e he
        simp only [Bool.and_eq_true] at hok
        obtain ⟨⟨k1, k2⟩, k3⟩ := hok
        simp only [stepOp] at hst
        obtain ⟨ys, y1, hst⟩ := bind_eq_some hst
        obtain ⟨r, hr, he'⟩ := map_eq_some hst
        cases he'
        rw [builtin_exec h1, args2 h2, args1' h3]
        obtain ⟨w', c1, c2, c3⟩ := copy_R hs (X k2) (X k3) y1 hr (slElem_iff he) (szOk_iff k1).1
        exact .of c1 c2 c3 .int
      · cases hok
    · cases hok
  case h_40 c' x' xs' =>
    split at hok
    · rename_i x xs h1 h2
      simp only [Bool.and_eq_true] at hok
      obtain ⟨k1, k2⟩ := hok
      simp only [stepOp] at hst
      obtain ⟨r, hr, he'⟩ := map_eq_some hst
      cases he'
      rw [builtin_exec h1]
      obtain ⟨p1, p2⟩ := okAll_R ht hg k2
      have hargs : (c'.args.map a.eval).toList = a.eval x :: xs.map a.eval := by simp [h2]
      obtain ⟨cv, r1, r2⟩ := minmax_R (P := P) true _ (xs.map a.eval) _ _ _ (X k1) (by simpa using p1) (fun i hi hi' => by
        obtain ⟨y, y1, y2⟩ := p2 i (by simpa using hi)
        rw [List.getElem?_eq_getElem hi'] at y1
        cases y1
        simpa using y2) hr
      refine .ex hs ⟨cv, ?_, r2⟩
      unfold Builtin.min_
      rw [hargs]
      exact r1
    · cases hok
  case h_41 c' x' xs' =>
    split at hok
    · rename_i x xs h1 h2
      simp only [Bool.and_eq_true] at hok
      obtain ⟨k1, k2⟩ := hok
      simp only [stepOp] at hst
      obtain ⟨r, hr, he'⟩ := map_eq_some hst
      cases he'
      rw [builtin_exec h1]
      obtain ⟨p1, p2⟩ := okAll_R ht hg k2
      have hargs : (c'.args.map a.eval).toList = a.eval x :: xs.map a.eval := by simp [h2]
      obtain ⟨cv, r1, r2⟩ := minmax_R (P := P) false _ (xs.map a.eval) _ _ _ (X k1) (by simpa using p1) (fun i hi hi' => by
        obtain ⟨y, y1, y2⟩ := p2 i (by simpa using hi)
        rw [List.getElem?_eq_getElem hi'] at y1
        cases y1
        simpa using y2) hr
      refine .ex hs ⟨cv, ?_, r2⟩
      unfold Builtin.max_
      rw [hargs]
      exact r1
    · cases hok
  case h_42 => exact absurd rfl (hn1 _ _ _)
  case h_43 => exact absurd rfl (hn2 _ _)
  case h_44 op T x q n x' =>
    simp only [Bool.and_eq_true, beq_iff_eq] at hok
    obtain ⟨⟨h1, h2⟩, h3⟩ := hok
    obtain ⟨e, he⟩ := Option.isSome_iff_exists.1 h2
    simp only [stepOp] at hst
    obtain ⟨r, hr, he'⟩ := map_eq_some hst
    cases he'
    exact .ex hs (nils_R hs (X h3) hr (slElem_iff he) h1 _ _)
  case h_45 T parts =>
    split at hok
    · rename_i e he
      simp only [Bool.and_eq_true, beq_iff_eq] at hok
      obtain ⟨h1, h2⟩ := hok
      obtain ⟨i, hi⟩ := Option.isSome_iff_exists.1 h1
      have s1 : (P.info? e).map (·.size) = some i.size := by rw [hi]; rfl
      cases hst
      have hp : parts = #[] := Array.eq_empty_of_size_eq_zero h2
      subst hp
      obtain ⟨h3, h4⟩ := hs.addStill (.cells #[] e (0, 0))
      refine ⟨.value (.slice (some ⟨w.heap.size, 0, none⟩) 0 0), newW w (.cells #[] e (0, 0)), _, _, ?_, .inl rfl, h3, h4, .nil0⟩
      simp [Instr.buildSlice, run_underlying (slElem_iff he), run_sizeOf s1, newRow, Instr.fill, Array.range_zero']
      rfl
    · cases hok
  case h_46 c' k zero x' n' =>
    split at hok
    · rename_i x n T U g1 g2 g3
      split at hok
      · rename_i e he
        simp only [Bool.and_eq_true] at hok
        obtain ⟨⟨⟨⟨⟨k1, k2⟩, k3⟩, k4⟩, k5⟩, k6⟩ := hok
        obtain ⟨s1, s2⟩ := szOk_iff k1
        obtain ⟨i, z, z1, z2, z3, zb, zn, z4⟩ := hasZero_iff k2
        obtain ⟨i', z', y1, y2, y3, y4⟩ := zero_run k3
        rw [z1] at y1; cases y1
        rw [z2] at y2; cases y2
        have hsz : i.size = k := by rw [z1] at s1; simpa using s1
        have hzR : R M w c zero z := const_R y4
        simp only [stepOp] at hst
        obtain ⟨m, m1, hst⟩ := bind_eq_some hst
        split at hst
        · rename_i hc
          obtain ⟨kn, hkn⟩ := asNat_R (X k6) m1
          rw [builtin_exec g1]
          obtain ⟨g, hg, hgs, hgc⟩ := cells_R hzR (by omega)
          have hA : RowR M w c k (List.replicate m zero) (Builtin.zeroCells z.cells m) := by
            refine ⟨by simp [Builtin.zeroCells, z3], fun _ j => g j, fun i j hi hj => ?_, fun i hi j hj => ?_⟩
            · have hi' : i < m := by simpa using hi
              have hlt := idx_lt hi' hj
              have e1 : (i * k + j) % k = j := by rw [Nat.mul_comm, Nat.mul_add_mod, Nat.mod_eq_of_lt hj]
              have e2 := hgc j (by omega)
              have e3 : z.cells[j]! = g j := by rw [getElem!_def, e2]
              refine ⟨?_, hg.one j (by omega)⟩
              simp [Builtin.zeroCells, z3, hlt, e1, e3]
            · have e1 : (List.replicate m zero)[i] = zero := List.getElem_replicate ..
              simp only [e1] at hj ⊢
              exact hg.rel j hj
          have hap := appz_run (P := P) (w := w) (T := T) (U := U) (ty := o.type) (e := e) (k := k) (i := i) (z := z) ⟨slElem_iff he, z1, hsz, z2, z3, zb, zn, anyInt_iff k4, s2⟩ (q := kn) (m := m) hc.2
          have := append_core (P := P) (T := T) (U := U) (ty := o.type) (cy := .int kn m) hs (X k5) s2 hst fun _ => ⟨_, hA, by simpa using hap⟩
          rw [args2 g2, args1' g3]
          have hkn' : a.eval n = .int kn (m : Int) := hkn
          rw [hkn']
          exact this
        · cases hst
      · cases hok
    · cases hok
  case h_47 => cases hst
  case h_48 => cases hok
end Go.AM

namespace Go.AM
variable {M : Names} {w : World} {P : Program} {rs : Tmp → Option Opd}
theorem okAll_args {c : Ctx} {env ls : List AVal} {a : Act} (ht : TmpR M w c env ls rs a.tmps) (hg : Globs M w c) {xs : Array Operand} {xs' : List Opd} (h : okAll M rs xs.toList xs' = true) :
    ArgsR M w c (xs'.map (·.eval env ls)) (xs.map a.eval) := by
  obtain ⟨h1, h2⟩ := okAll_map ht hg h
  exact ⟨by rw [h1]; simp, h2⟩
theorem ArgsR.append {c : Ctx} {xs ys : List AVal} {A B : Array Value} (h : ArgsR M w c xs A) (k : ArgsR M w c ys B) : ArgsR M w c (xs ++ ys) (A ++ B) := by
  refine ⟨by simp [h.1, k.1], fun i hi => ?_⟩
  by_cases hl : i < xs.length
  · obtain ⟨x, h1, h2⟩ := h.2 i hl
    refine ⟨x, ?_, by rw [List.getElem_append_left hl]; exact h2⟩
    rw [Array.getElem?_append_left (by rw [h.1]; exact hl)]; exact h1
  · obtain ⟨x, h1, h2⟩ := k.2 (i - xs.length) (by simp at hi; omega)
    refine ⟨x, ?_, by rw [List.getElem_append_right (by omega)]; exact h2⟩
    rw [Array.getElem?_append_right (by rw [h.1]; omega), h.1]; exact h1
theorem argsR_fn {c : Ctx} {f : Nat} {first cap : List AVal} {cx : Value} (h : R M w c (.fn f first cap) cx) : ∃ fs cs, cx = .func (.func (M.fm f)) fs cs ∧ ArgsR M w c first fs ∧ ArgsR M w c cap cs := by
  cases h with
  | fn g1 g2 h1 h2 h3 h4 h5 h6 => exact ⟨_, _, rfl, ⟨h1, fun i hi => ⟨g1 i, h3 i hi, h5 i hi⟩⟩, h2, fun i hi => ⟨g2 i, h4 i hi, h6 i hi⟩⟩
theorem map_ok {α β : Type} {f : α → β} {o : Option α} {b : β} (h : o.map f = some b) : ∃ a, o = some a ∧ f a = b := map_eq_some h
theorem op_wp {F : Fence} {n : Nat} {c : Ctx} {σ σ' : Store} {env ls : List AVal} {a : Act} {C : CallF} {o : Oper} {ao : AOp} {v : AVal} (hF : Wide F) (hC : CallSound M P C) (hR : RoundSound M P C)
    (hs : Sim M w c σ) (ht : TmpR M w c env ls rs a.tmps) (hg : Globs M w c) (hok : okOp M P rs o.op ao = true) (hst : stepOp C env ls σ ao = some (v, σ'))
    {K : Act → World → Prop} {Q : Exit → Act → World → Prop} (hK : ∀ cv w' c', Sim M w' c' σ' → Stp c w c' w' → R M w' c' v cv → K (a.put o.dst cv) w') : o.wpIn F n P a w K Q := by
  have hdef : ∀ c, o.op ≠ .defer c := by
    intro d e
    rw [e] at hok
    cases ao <;> simp [okOp] at hok
    cases hst
  by_cases h1 : ∃ f x m, ao = .call f x m
  · obtain ⟨f, args, mat, rfl⟩ := h1
    cases hop : o.op with
    | call d =>
      rw [hop] at hok
      simp only [okOp] at hok
      split at hok
      · rename_i g hg'
        simp only [Bool.and_eq_true, beq_iff_eq] at hok
        obtain ⟨h2, h3⟩ := hok
        simp only [stepOp] at hst
        obtain ⟨⟨v0, σ0⟩, r1, he⟩ := map_ok hst
        have hinv : ∀ n, Invokes F n P (M.fm f) (d.args.map a.eval) w (CallPost M c w σ0 v0) := fun n => (hC f _ σ v0 σ0 r1 F n w c _ hF hs hg (okAll_args ht hg h3)).1
        refine Invokes.wp hF hinv ?_ hdef fun cv w' hp => ?_
        · unfold execOp
          rw [hop]
          simp only [Go.resolve, hg', Act.eval, h2]
          show callFunc g (#[] ++ d.args.map a.eval ++ #[]) = _
          simp
        · obtain ⟨c', p1, p2, p3⟩ := hp.mater mat
          rw [he] at p1 p3
          exact hK cv w' c' p1 p2 p3
      · cases hok
    | _ => rw [hop] at hok; simp [okOp] at hok
  · by_cases h2 : ∃ f x, ao = .callv f x
    · obtain ⟨f, args, rfl⟩ := h2
      cases hop : o.op with
      | call d =>
        rw [hop] at hok
        simp only [okOp] at hok
        split at hok
        · rename_i x hx
          simp only [Bool.and_eq_true] at hok
          obtain ⟨h3, h4⟩ := hok
          simp only [stepOp] at hst
          obtain ⟨⟨v0, σ0⟩, r1, he⟩ := map_ok hst
          have hxR := okX_R ht hg h3
          have hargs := okAll_args ht hg h4
          unfold callV at r1
          split at r1
          · rename_i g first cap hfe
            rw [hfe] at hxR
            obtain ⟨fs, cs, e1, e2, e3⟩ := argsR_fn hxR
            have hinv : ∀ n, Invokes F n P (M.fm g) (fs ++ d.args.map a.eval ++ cs) w (CallPost M c w σ0 v0) := fun n => (hC g _ σ v0 σ0 r1 F n w c _ hF hs hg ((e2.append hargs).append e3)).1
            refine Invokes.wp hF hinv ?_ hdef fun cv w' hp => ?_
            · unfold execOp
              rw [hop]
              simp only [Go.resolve, hx, e1]
              rfl
            · obtain ⟨c', p1, p2, p3⟩ := hp.mater false
              rw [he] at p1 p3
              exact hK cv w' c' p1 p2 p3
          · rename_i l site env' hfe
            split at r1
            · rename_i hpd
              rw [hfe] at hxR
              obtain ⟨b, tmps, w1, e1, e2, _⟩ := hR site l env' _ σ v0 σ0 r1 F n w c _ _ hF hs hg hargs hpd hxR
              have hrun : (execOp a.eval o).run P w = .ok (.round b (c.loops l).fn tmps (c.loops l).assign (c.loops l).body) w1 := by
                rw [← e2]
                unfold execOp
                rw [hop]
                simp only [Go.resolve, hx, e1]
                show (Instr.yield b (#[] ++ d.args.map a.eval)).run P w = _
                simp
              refine ⟨fun f _ => hF.fn f, ?_⟩
              rw [Oper.semAt_eq _ _ _ hdef, hrun]
              refine ⟨fun hx => absurd hx (by rw [hF.depth]; simp), ?_⟩
              obtain ⟨b', tmps', w1', e1', e2', e3'⟩ := hR site l env' _ σ v0 σ0 r1 F (n - 1) w c _ _ hF hs hg hargs hpd hxR
              rw [e1] at e1'
              cases e1'
              rw [e2] at e2'
              cases e2'
              refine e3'.mono fun e w' ⟨cv, hcv, hp⟩ => ?_
              subst hcv
              obtain ⟨c', p1, p2, p3⟩ := hp.mater false
              rw [he] at p1 p3
              exact hK cv w' c' p1 p2 p3
            · cases r1
          · cases r1
        · cases hok
      | _ => rw [hop] at hok; simp [okOp] at hok
    · exact (op_runs hs ht hg hok hst (fun f x m e => h1 ⟨f, x, m, e⟩) (fun f x e => h2 ⟨f, x, e⟩)).wp hF hdef hK
end Go.AM

namespace Go.AM
mutual
theorem same_eq : ∀ {a b : AVal}, same a b = true → a = b
  | .agg a, b, h => by
    cases b <;> simp only [same, Bool.false_eq_true] at h
    rw [sameL_eq h]
  | .tup a, b, h => by
    cases b <;> simp only [same, Bool.false_eq_true] at h
    rw [sameL_eq h]
  | .imm _ a, b, h => by
    cases b <;> simp only [same, Bool.false_eq_true, Bool.and_eq_true, beq_iff_eq] at h
    rw [sameL_eq h.2, h.1]
  | .lst a, b, h => by
    cases b <;> simp only [same, Bool.false_eq_true] at h
    rw [sameL_eq h]
  | .cptr _ x _, b, h => by
    cases b <;> simp only [same, Bool.false_eq_true, Bool.and_eq_true, beq_iff_eq] at h
    obtain ⟨⟨h1, h2⟩, h3⟩ := h
    rw [same_eq h2, h1, h3]
  | .fn _ a c, b, h => by
    cases b <;> simp only [same, Bool.false_eq_true, Bool.and_eq_true, beq_iff_eq] at h
    obtain ⟨⟨h1, h2⟩, h3⟩ := h
    rw [sameL_eq h2, sameL_eq h3, h1]
  | .imap _ a, b, h => by
    cases b <;> simp only [same, Bool.false_eq_true, Bool.and_eq_true, beq_iff_eq] at h
    rw [sameE_eq h.2, h.1]
  | .yld _ _ a, b, h => by
    cases b <;> simp only [same, Bool.false_eq_true, Bool.and_eq_true, beq_iff_eq] at h
    obtain ⟨⟨h1, h2⟩, h3⟩ := h
    rw [sameL_eq h3, h1, h2]
  | .frs _ a, b, h => by
    cases b <;> simp only [same, Bool.false_eq_true, Bool.and_eq_true, beq_iff_eq] at h
    rw [sameL_eq h.2, h.1]
  | .int .., b, h => by cases b <;> simp [same] at h <;> simp [h]
  | .bool _, b, h => by cases b <;> simp [same] at h <;> simp [h]
  | .str _, b, h => by cases b <;> simp [same] at h <;> simp [h]
  | .nilp, b, h => by cases b <;> simp [same] at h <;> rfl
  | .nilf, b, h => by cases b <;> simp [same] at h <;> rfl
  | .nilm, b, h => by cases b <;> simp [same] at h <;> rfl
  | .nil0, b, h => by cases b <;> simp [same] at h <;> rfl
  | .sl .., b, h => by cases b <;> simp [same] at h <;> simp [h]
  | .ptr .., b, h => by cases b <;> simp [same] at h <;> simp [h]
  | .asl .., b, h => by cases b <;> simp [same] at h <;> simp [h]
  | .mp _, b, h => by cases b <;> simp [same] at h <;> simp [h]
  | .emp _, b, h => by cases b <;> simp [same] at h <;> simp [h]
  | .any, b, h => by cases b <;> simp [same] at h <;> rfl
theorem sameL_eq : ∀ {a b : List AVal}, sameL a b = true → a = b
  | [], [], _ => rfl
  | [], _ :: _, h => by simp [sameL] at h
  | _ :: _, [], h => by simp [sameL] at h
  | a :: x, b :: y, h => by
    simp only [sameL, Bool.and_eq_true] at h
    rw [same_eq h.1, sameL_eq h.2]
theorem sameE_eq : ∀ {a b : List (AVal × AVal)}, sameE a b = true → a = b
  | [], [], _ => rfl
  | [], _ :: _, h => by simp [sameE] at h
  | _ :: _, [], h => by simp [sameE] at h
  | (a, b) :: x, (a', b') :: y, h => by
    simp only [sameE, Bool.and_eq_true] at h
    obtain ⟨⟨h1, h2⟩, h3⟩ := h
    rw [same_eq h1, same_eq h2, sameE_eq h3]
end
mutual
theorem same_refl : ∀ (a : AVal), same a a = true
  | .agg a => by simp only [same]; exact sameL_refl a
  | .tup a => by simp only [same]; exact sameL_refl a
  | .imm _ a => by simp only [same, beq_self_eq_true, Bool.true_and]; exact sameL_refl a
  | .lst a => by simp only [same]; exact sameL_refl a
  | .cptr _ x _ => by simp only [same, beq_self_eq_true, Bool.true_and, Bool.and_true]; exact same_refl x
  | .fn _ a c => by simp only [same, beq_self_eq_true, Bool.true_and, Bool.and_eq_true]; exact ⟨sameL_refl a, sameL_refl c⟩
  | .imap _ a => by simp only [same, beq_self_eq_true, Bool.true_and]; exact sameE_refl a
  | .yld _ _ a => by simp only [same, beq_self_eq_true, Bool.true_and]; exact sameL_refl a
  | .frs _ a => by simp only [same, beq_self_eq_true, Bool.true_and]; exact sameL_refl a
  | .int .. => by simp [same]
  | .bool _ => by simp [same]
  | .str _ => by simp [same]
  | .nilp => by simp [same]
  | .nilf => by simp [same]
  | .nilm => by simp [same]
  | .nil0 => by simp [same]
  | .sl .. => by simp [same]
  | .ptr .. => by simp [same]
  | .asl .. => by simp [same]
  | .mp _ => by simp [same]
  | .emp _ => by simp [same]
  | .any => by simp [same]
theorem sameL_refl : ∀ (a : List AVal), sameL a a = true
  | [] => by simp [sameL]
  | a :: x => by simp only [sameL, Bool.and_eq_true]; exact ⟨same_refl a, sameL_refl x⟩
theorem sameE_refl : ∀ (a : List (AVal × AVal)), sameE a a = true
  | [] => by simp [sameE]
  | (a, b) :: x => by simp only [sameE, Bool.and_eq_true]; exact ⟨⟨same_refl a, same_refl b⟩, sameE_refl x⟩
end
theorem sameO_eq {a b : Obj} (h : sameO a b = true) : a = b := by
  cases a <;> cases b <;> simp only [sameO, Bool.false_eq_true, Bool.and_eq_true, beq_iff_eq, decide_eq_true_eq] at h
  · obtain ⟨⟨h1, h2⟩, h3⟩ := h
    rw [h1, h2, sameL_eq h3]
  · rw [sameE_eq h]
  · rw [h.1, h.2]
  · rfl
theorem sameO_refl (a : Obj) : sameO a a = true := by
  cases a <;> simp [sameO, sameL_refl, sameE_refl]
theorem sameS_eq : ∀ {a b : Store}, sameS a b = true → a = b
  | [], [], _ => rfl
  | [], _ :: _, h => by simp [sameS] at h
  | _ :: _, [], h => by simp [sameS] at h
  | a :: x, b :: y, h => by
    simp only [sameS, Bool.and_eq_true] at h
    rw [sameO_eq h.1, sameS_eq h.2]
theorem sameS_refl : ∀ (a : Store), sameS a a = true
  | [] => by simp [sameS]
  | a :: x => by simp only [sameS, Bool.and_eq_true]; exact ⟨sameO_refl a, sameS_refl x⟩
end Go.AM

namespace Go.AM
variable {C : CallF} {env : List AVal}
structure Trace (C : CallF) (env : List AVal) (ins : List Ins) (ls : List AVal) (s : Nat → Store) : Prop where
  len : ls.length = ins.length
  step : ∀ n (h : n < ins.length) (h' : n < ls.length), (wanted env (ls.take n) ins[n].guard = some true ∧ stepOp C env (ls.take n) (s n) ins[n].op = some (ls[n], s (n + 1))) ∨
    (wanted env (ls.take n) ins[n].guard = some false ∧ ls[n] = .tup [] ∧ s (n + 1) = s n)
theorem execOps_trace : ∀ (ins : List Ins) (l0 : List AVal) (σ : Store) (ls : List AVal) (σ' : Store), execOps C env ins l0 σ = some (ls, σ') →
    ∃ (l1 : List AVal) (s : Nat → Store), ls = l0 ++ l1 ∧ l1.length = ins.length ∧ s 0 = σ ∧ s ins.length = σ' ∧
      ∀ n (h : n < ins.length) (h' : n < l1.length), (wanted env (l0 ++ l1.take n) ins[n].guard = some true ∧ stepOp C env (l0 ++ l1.take n) (s n) ins[n].op = some (l1[n], s (n + 1))) ∨
        (wanted env (l0 ++ l1.take n) ins[n].guard = some false ∧ l1[n] = .tup [] ∧ s (n + 1) = s n)
  | [], l0, σ, ls, σ', h => by
    simp only [execOps, Option.some.injEq, Prod.mk.injEq] at h
    obtain ⟨rfl, rfl⟩ := h
    exact ⟨[], fun _ => σ, by simp, rfl, rfl, rfl, fun n h => absurd h (by simp)⟩
  | i :: r, l0, σ, ls, σ', h => by
    simp only [execOps] at h
    have go : ∀ (x : AVal) (σ1 : Store), execOps C env r (l0 ++ [x]) σ1 = some (ls, σ') →
        ((wanted env l0 i.guard = some true ∧ stepOp C env l0 σ i.op = some (x, σ1)) ∨ (wanted env l0 i.guard = some false ∧ x = .tup [] ∧ σ1 = σ)) →
        ∃ (l1 : List AVal) (s : Nat → Store), ls = l0 ++ l1 ∧ l1.length = (i :: r).length ∧ s 0 = σ ∧ s (i :: r).length = σ' ∧
          ∀ n (h : n < (i :: r).length) (h' : n < l1.length), (wanted env (l0 ++ l1.take n) (i :: r)[n].guard = some true ∧ stepOp C env (l0 ++ l1.take n) (s n) (i :: r)[n].op = some (l1[n], s (n + 1))) ∨
            (wanted env (l0 ++ l1.take n) (i :: r)[n].guard = some false ∧ l1[n] = .tup [] ∧ s (n + 1) = s n) := fun x σ1 h1 h2 => by
      obtain ⟨l1, s, e1, e2, e3, e4, e5⟩ := execOps_trace r (l0 ++ [x]) σ1 ls σ' h1
      refine ⟨x :: l1, fun n => match n with | 0 => σ | n + 1 => s n, by rw [e1]; simp, by simp [e2], rfl, by simpa using e4, fun n hn hn' => ?_⟩
      cases n with
      | zero => simpa [e3] using h2
      | succ n =>
        have := e5 n (by simpa using hn) (by simpa using hn')
        simpa using this
    split at h
    · rename_i hw
      obtain ⟨⟨x, σ1⟩, h1, h2⟩ := bind_eq_some h
      exact go x σ1 h2 (.inl ⟨hw, h1⟩)
    · rename_i hw
      exact go (.tup []) σ h (.inr ⟨hw, rfl, rfl⟩)
    · cases h
theorem trace_of {ins : List Ins} {σ σ' : Store} {ls : List AVal} (h : execOps C env ins [] σ = some (ls, σ')) : ∃ s, Trace C env ins ls s ∧ s 0 = σ ∧ s ins.length = σ' := by
  obtain ⟨l1, s, e1, e2, e3, e4, e5⟩ := execOps_trace ins [] σ ls σ' h
  simp only [List.nil_append] at e1 e5
  subst e1
  exact ⟨s, ⟨e2, e5⟩, e3, e4⟩
theorem execT_trace : ∀ (ins : List Ins) (l0 : List AVal) (s0 : List Store) (σ : Store) (ls : List AVal) (ss : List Store) (σ' : Store), execT C env ins l0 s0 σ = some (ls, ss, σ') →
    ∃ (l1 : List AVal) (s : Nat → Store), ls = l0 ++ l1 ∧ l1.length = ins.length ∧ s 0 = σ ∧ s ins.length = σ' ∧ ss ++ [σ'] = s0 ++ (List.range (ins.length + 1)).map s ∧
      ∀ n (h : n < ins.length) (h' : n < l1.length), (wanted env (l0 ++ l1.take n) ins[n].guard = some true ∧ stepOp C env (l0 ++ l1.take n) (s n) ins[n].op = some (l1[n], s (n + 1))) ∨
        (wanted env (l0 ++ l1.take n) ins[n].guard = some false ∧ l1[n] = .tup [] ∧ s (n + 1) = s n)
  | [], l0, s0, σ, ls, ss, σ', h => by
    simp only [execT, Option.some.injEq, Prod.mk.injEq] at h
    obtain ⟨rfl, rfl, rfl⟩ := h
    exact ⟨[], fun _ => σ, by simp, rfl, rfl, rfl, by simp, fun n h => absurd h (by simp)⟩
  | i :: r, l0, s0, σ, ls, ss, σ', h => by
    simp only [execT] at h
    have go : ∀ (x : AVal) (σ1 : Store), execT C env r (l0 ++ [x]) (s0 ++ [σ]) σ1 = some (ls, ss, σ') →
        ((wanted env l0 i.guard = some true ∧ stepOp C env l0 σ i.op = some (x, σ1)) ∨ (wanted env l0 i.guard = some false ∧ x = .tup [] ∧ σ1 = σ)) →
        ∃ (l1 : List AVal) (s : Nat → Store), ls = l0 ++ l1 ∧ l1.length = (i :: r).length ∧ s 0 = σ ∧ s (i :: r).length = σ' ∧ ss ++ [σ'] = s0 ++ (List.range ((i :: r).length + 1)).map s ∧
          ∀ n (h : n < (i :: r).length) (h' : n < l1.length), (wanted env (l0 ++ l1.take n) (i :: r)[n].guard = some true ∧ stepOp C env (l0 ++ l1.take n) (s n) (i :: r)[n].op = some (l1[n], s (n + 1))) ∨
            (wanted env (l0 ++ l1.take n) (i :: r)[n].guard = some false ∧ l1[n] = .tup [] ∧ s (n + 1) = s n) := fun x σ1 h1 h2 => by
      obtain ⟨l1, s, e1, e2, e3, e4, e6, e5⟩ := execT_trace r (l0 ++ [x]) (s0 ++ [σ]) σ1 ls ss σ' h1
      refine ⟨x :: l1, fun n => match n with | 0 => σ | n + 1 => s n, by rw [e1]; simp, by simp [e2], rfl, by simpa using e4, ?_, fun n hn hn' => ?_⟩
      · rw [e6, List.length_cons, List.range_succ_eq_map (n := r.length + 1)]
        simp
      cases n with
      | zero => simpa [e3] using h2
      | succ n =>
        have := e5 n (by simpa using hn) (by simpa using hn')
        simpa using this
    split at h
    · rename_i hw
      obtain ⟨⟨x, σ1⟩, h1, h2⟩ := bind_eq_some h
      exact go x σ1 h2 (.inl ⟨hw, h1⟩)
    · rename_i hw
      exact go (.tup []) σ h (.inr ⟨hw, rfl, rfl⟩)
    · cases h
theorem chkAll_all {ls : List AVal} {ops : List Ins} {ss : List Store} : ∀ {chk : List (Nat × Nat)}, chkAll C env ls ops ss chk = some () → ∀ n j, (n, j) ∈ chk → ∃ I τ, ops[n]? = some I ∧ ss[j]? = some τ ∧ stepOp C env (ls.take n) τ I.op = some (nth ls n, τ)
  | [], _, n, j, h => by cases h
  | (n0, j0) :: r, h, n, j, hm => by
    simp only [chkAll] at h
    split at h
    · rename_i I τ e1 e2
      obtain ⟨q, h1, h2⟩ := bind_eq_some h
      split at h2
      · rename_i hs
        simp only [Bool.and_eq_true] at hs
        rcases List.mem_cons.1 hm with hm | hm
        · cases hm
          refine ⟨I, τ, e1, e2, ?_⟩
          rw [h1, ← same_eq hs.1, ← sameS_eq hs.2]
        · exact chkAll_all h2 n j hm
      · cases h2
    · cases h
theorem traceT_of {ins : List Ins} {σ σ' : Store} {ls : List AVal} {ss : List Store} {chk : List (Nat × Nat)} (h : execT C env ins [] [] σ = some (ls, ss, σ')) (hc : chkAll C env ls ins (ss ++ [σ']) chk = some ()) :
    ∃ s, Trace C env ins ls s ∧ s 0 = σ ∧ s ins.length = σ' ∧ ∀ (n j : Nat) (I : Ins), (n, j) ∈ chk → ins[n]? = some I → stepOp C env (ls.take n) (s j) I.op = some (nth ls n, s j) := by
  obtain ⟨l1, s, e1, e2, e3, e4, e6, e5⟩ := execT_trace ins [] [] σ ls ss σ' h
  simp only [List.nil_append] at e1 e5 e6
  subst e1
  refine ⟨s, ⟨e2, e5⟩, e3, e4, fun n j I hm hI => ?_⟩
  obtain ⟨I', τ, i1, i2, i3⟩ := chkAll_all hc n j hm
  rw [hI] at i1
  cases i1
  rw [e6, List.getElem?_map] at i2
  obtain ⟨j', j1, j2⟩ := map_eq_some i2
  have : j' = j := by
    obtain ⟨_, hj⟩ := List.getElem?_eq_some_iff.1 j1
    simpa using hj.symm
  subst this
  rw [j2]; exact i3
def cls (pres : Nat → Bool) : AOp → Nat
  | .mov _ | .pick .. | .build .. | .mkl .. | .fldv .. | .idxv .. | .idxt .. | .bin .. | .eqb .. | .eqa .. | .isnil .. | .una .. | .conv .. | .slicet .. | .lent _ | .cap _ | .mins .. | .maxs .. | .mkfn .. | .ext .. | .bad => 0
  | .load .. | .nils .. | .fld .. | .idxs .. | .idxa .. | .nilck _ | .slice .. | .slice0 _ | .aslice .. | .len _ | .look .. | .mlen _ => 1
  | .call f _ mat => if !mat && pres f then 1 else 2
  | _ => 2
def Keeps (pres : Nat → Bool) (C : CallF) : Prop := ∀ f args σ v σ', pres f = true → C f args σ = some (v, σ') → σ' = σ
theorem mater_false {v : AVal} {σ : Store} : (mater false (v, σ)).2 = σ := by
  unfold mater mater1
  dsimp only
  split
  · split <;> rfl
  · split <;> rfl
theorem cls_le {pres : Nat → Bool} (hp : Keeps pres C) {ls : List AVal} {o : AOp} (h : cls pres o ≤ 1) {σ σ' : Store} {v : AVal} (hs : stepOp C env ls σ o = some (v, σ')) : σ' = σ := by
  have m : ∀ {q : Option AVal}, q.map (·, σ) = some (v, σ') → σ' = σ := fun {q} h => by
    cases q with
    | none => cases h
    | some a => cases h; rfl
  have ite : ∀ {p : Prop} [Decidable p] {q : Option (AVal × Store)}, (if p then q else none) = some (v, σ') → q = some (v, σ') := fun {p} _ {q} h => by
    split at h
    · exact h
    · cases h
  cases o with
  | call f args mat =>
    simp only [cls] at h
    split at h
    · rename_i hc
      simp only [Bool.and_eq_true, Bool.not_eq_true'] at hc
      simp only [stepOp] at hs
      obtain ⟨⟨v0, σ0⟩, h1, h2⟩ := map_eq_some hs
      have := hp _ _ _ _ _ hc.2 h1
      subst this
      rw [hc.1] at h2
      have e := mater_false (v := v0) (σ := σ0)
      rw [h2] at e; exact e
    · omega
  | mov x => cases hs; rfl
  | mkl k xs => simp only [stepOp] at hs; have := ite hs; cases this; rfl
  | pick c x y => exact m hs
  | build z ps => simp only [stepOp] at hs; obtain ⟨_, _, h2⟩ := map_eq_some hs; cases h2; rfl
  | fldv => exact m hs
  | idxv => simp only [stepOp] at hs; obtain ⟨_, _, h2⟩ := bind_eq_some hs; exact m (ite h2)
  | idxt => simp only [stepOp] at hs; obtain ⟨_, _, h2⟩ := bind_eq_some hs; exact m h2
  | bin => exact m hs
  | eqb => exact m hs
  | eqa => exact m hs
  | isnil => exact m hs
  | una => exact m hs
  | conv => exact m hs
  | slicet =>
    simp only [stepOp] at hs
    obtain ⟨_, _, h2⟩ := bind_eq_some hs
    obtain ⟨_, _, h3⟩ := bind_eq_some h2
    obtain ⟨_, _, h4⟩ := bind_eq_some h3
    exact m h4
  | lent => simp only [stepOp] at hs; obtain ⟨_, _, h2⟩ := map_eq_some hs; cases h2; rfl
  | cap => exact m hs
  | mins => exact m hs
  | maxs => exact m hs
  | mkfn => cases hs; rfl
  | ext => exact m hs
  | bad => cases hs
  | load => exact m hs
  | nils => exact m hs
  | fld => exact m hs
  | idxs => simp only [stepOp] at hs; obtain ⟨_, _, h2⟩ := bind_eq_some hs; exact m h2
  | idxa => simp only [stepOp] at hs; obtain ⟨_, _, h2⟩ := bind_eq_some hs; exact m (ite h2)
  | nilck => exact m hs
  | slice =>
    simp only [stepOp] at hs
    obtain ⟨_, _, h2⟩ := bind_eq_some hs
    obtain ⟨_, _, h3⟩ := bind_eq_some h2
    obtain ⟨_, _, h4⟩ := bind_eq_some h3
    exact m h4
  | slice0 => simp only [stepOp] at hs; obtain ⟨_, _, h2⟩ := map_eq_some hs; cases h2; rfl
  | aslice => exact m hs
  | len => simp only [stepOp] at hs; obtain ⟨_, _, h2⟩ := map_eq_some hs; cases h2; rfl
  | look =>
    simp only [stepOp] at hs
    obtain ⟨_, _, h2⟩ := bind_eq_some (ite hs)
    obtain ⟨_, _, h3⟩ := map_eq_some h2
    cases h3; rfl
  | mlen => simp only [stepOp] at hs; obtain ⟨_, _, h2⟩ := map_eq_some hs; cases h2; rfl
  | _ => simp [cls] at h
theorem cls_zero {pres : Nat → Bool} {ls : List AVal} {o : AOp} (h : cls pres o = 0) {σ σ' : Store} {v : AVal} (hs : stepOp C env ls σ o = some (v, σ')) (τ : Store) : stepOp C env ls τ o = some (v, τ) := by
  have m : ∀ {q : Option AVal}, q.map (·, σ) = some (v, σ') → q.map (·, τ) = some (v, τ) := fun {q} h => by
    cases q with
    | none => cases h
    | some a => cases h; rfl
  cases o with
  | call f args mat => simp only [cls] at h; split at h <;> cases h
  | mov x => cases hs; rfl
  | mkl k xs =>
    simp only [stepOp] at hs ⊢
    split at hs
    · rename_i hc; rw [if_pos hc]; cases hs; rfl
    · cases hs
  | pick c x y => exact m hs
  | build z ps => simp only [stepOp] at hs ⊢; obtain ⟨_, h1, h2⟩ := map_eq_some hs; rw [h1]; cases h2; rfl
  | fldv => exact m hs
  | idxv =>
    simp only [stepOp] at hs ⊢
    obtain ⟨k, h1, h2⟩ := bind_eq_some hs
    rw [h1]
    simp only [Option.bind_some]
    split at h2
    · rename_i hc; rw [if_pos hc]; exact m h2
    · cases h2
  | idxt => simp only [stepOp] at hs ⊢; obtain ⟨k, h1, h2⟩ := bind_eq_some hs; rw [h1]; exact m h2
  | bin => exact m hs
  | eqb => exact m hs
  | eqa => exact m hs
  | isnil => exact m hs
  | una => exact m hs
  | conv => exact m hs
  | slicet =>
    simp only [stepOp] at hs ⊢
    obtain ⟨_, h1, h2⟩ := bind_eq_some hs
    obtain ⟨_, h3, h4⟩ := bind_eq_some h2
    obtain ⟨_, h5, h6⟩ := bind_eq_some h4
    rw [h1]; simp only [Option.bind_some]
    rw [h3]; simp only [Option.bind_some]
    rw [h5]
    exact m h6
  | lent => simp only [stepOp] at hs ⊢; obtain ⟨_, h1, h2⟩ := map_eq_some hs; rw [h1]; cases h2; rfl
  | cap => exact m hs
  | mins => exact m hs
  | maxs => exact m hs
  | mkfn => cases hs; rfl
  | ext => exact m hs
  | bad => cases hs
  | _ => simp [cls] at h
end Go.AM

namespace Go.AM
variable {M : Names} {P : Program}
abbrev Its := List (Opd × Option Nat)
def valOf (its : Its) (k : Nat) : Opd := ((its[k]?).map (·.1)).getD (.val .any)
def insOf (its : Its) (k : Nat) : Option Nat := (its[k]?).bind (·.2)
def wrOf (ops : List Oper) (t : Tmp) : Option Nat := ops.findIdx? fun o => o.dst == some t
def rsAt (ops : List Oper) (em : List Tmp) (its : Its) (bef : Nat → Nat) (i : Nat) (t : Tmp) : Option Opd :=
  match wrOf ops t with
  | none => (em.idxOf? t).map .env
  | some k => if (bef i).testBit k then some (valOf its k) else if k == i || (bef k).testBit i then (em.idxOf? t).map .env else none
def litOf : Value → Option AVal
  | .int k n => some (.int k n)
  | .bool b => some (.bool b)
  | .string s => some (.str s.data.toList)
  | .pointer none => some .nilp
  | .nilFunc => some .nilf
  | .map none => some .nilm
  | _ => none
theorem lit_R {w : World} {c : Ctx} {v : Value} {a : AVal} (h : litOf v = some a) : R M w c a v := by
  unfold litOf at h
  split at h <;> first | (cases h; done) | (cases h; first | exact .int | exact .bool | exact .str rfl | exact .nilp | exact .nilf | exact .nilm)
def moved : Op → Option Operand
  | .move x => some x
  | .assign x => some x
  | _ => none
def nwAt (pres : Nat → Bool) (ins : List Ins) (chk : List (Nat × Nat)) (n : Nat) : Bool := match ins[n]? with
  | some I => cls pres I.op == 2 && !chk.contains (n, n)
  | none => false
def guardOk (its : Its) (bef : Nat → Nat) (ops : List Oper) (i : Nat) : Option (Nat × Bool) → Option (Opd × Bool) → Bool
  | none, none => true
  | some (j, b), some (x, b') => b == b' && (bef i).testBit j && opdEq (valOf its j) x && ((ops[j]?).bind (·.dst)).isSome
  | _, _ => false
def elided (ops : List Oper) (em : List Tmp) (its : Its) (bef : Nat → Nat) (i : Nat) (o : Oper) : Bool := o.guard.isNone && (match moved o.op with
  | some (.tmp t) => (match rsAt ops em its bef i t with
    | some x => opdEq x (valOf its i)
    | none => false)
  | some (.const v) => (match litOf v with
    | some a => opdEq (.val a) (valOf its i)
    | none => false)
  | _ => false)
structure RegOk (M : Names) (P : Program) (pres : Nat → Bool) (ops : Array Oper) (ins : List Ins) (em : List Tmp) (its : Its) (bef : Nat → Nat) (chk : List (Nat × Nat)) (late : Option Nat) (nt : Nat) : Prop where
  size : its.length = ops.size
  dst : ∀ (i : Nat) (o : Oper) (d : Tmp), ops[i]? = some o → o.dst = some d → d < nt
  uniq : ∀ (i k : Nat) (oi ok : Oper) (d : Tmp), ops[i]? = some oi → ops[k]? = some ok → oi.dst = some d → ok.dst = some d → i = k
  low : ∀ i k, (bef i).testBit k = true → k < i
  mono : ∀ k i n m, insOf its k = some n → insOf its i = some m → k < i → n < m
  onto : ∀ n, n < ins.length → ∃ k, insOf its k = some n ∧ k < ops.size
  bound : ∀ k n, insOf its k = some n → n < ins.length
  item : ∀ (i : Nat) (o : Oper), ops[i]? = some o → (insOf its i = none ∧ elided ops.toList em its bef i o = true) ∨
    ∃ n I, insOf its i = some n ∧ ins[n]? = some I ∧ valOf its i = .loc n ∧ okOp M P (rsAt ops.toList em its bef i) o.op I.op = true ∧ guardOk its bef ops.toList i o.guard I.guard = true ∧
      (nwAt pres ins chk n = true → late ≠ some i → ∀ k m, k < i → insOf its k = some m → nwAt pres ins chk m = true → (bef i).testBit k = true) ∧
      (nwAt pres ins chk n = false → cls pres I.op = 0 ∨
        ((∃ k m, insOf its k = some m ∧ nwAt pres ins chk m = true ∧ (bef i).testBit k = true) ∨ (∀ k m, insOf its k = some m → nwAt pres ins chk m = true → ¬ m < n) ∨ (n, 0) ∈ chk) ∧
        ∀ k m, insOf its k = some m → nwAt pres ins chk m = true → (bef k).testBit i = true ∨ (∃ k' m', insOf its k' = some m' ∧ nwAt pres ins chk m' = true ∧ m < m' ∧ (bef i).testBit k' = true) ∨
          (m < n ∧ ∀ k' m', insOf its k' = some m' → nwAt pres ins chk m' = true → m < m' → ¬ m' < n) ∨ (n, m + 1) ∈ chk)
  lateOk : ∀ d, late = some d → bef d = 0 ∧ ∃ o T t n kk z, ops[d]? = some o ∧ o.op = .alloc T ∧ o.guard = none ∧ o.dst = some t ∧ insOf its d = some n ∧ ins[n]? = some ⟨.box kk (.val z), none⟩ ∧ nwAt pres ins chk n = true ∧
    (∀ j, (bef j).testBit d = true → ∀ k m, insOf its k = some m → nwAt pres ins chk m = true → m < n → (bef j).testBit k = true) ∧ ∀ j, j < ops.size → j ≠ d → rsAt ops.toList em its bef j t ≠ none → (bef j).testBit d = true
  guards : ∀ (n j : Nat) (I : Ins), (n, j) ∈ chk → ins[n]? = some I → I.guard = none
theorem wrOf_none {ops : Array Oper} {t : Tmp} (h : wrOf ops.toList t = none) {k : Nat} {o : Oper} (ho : ops[k]? = some o) : o.dst ≠ some t := by
  unfold wrOf at h
  rw [List.findIdx?_eq_none_iff] at h
  have hm : o ∈ ops.toList := by
    rw [List.mem_iff_getElem?]
    exact ⟨k, by simpa using ho⟩
  have := h o hm
  simpa using this
theorem wrOf_some {ops : Array Oper} {t : Tmp} {k : Nat} (h : wrOf ops.toList t = some k) : ∃ o, ops[k]? = some o ∧ o.dst = some t := by
  unfold wrOf at h
  rw [List.findIdx?_eq_some_iff_getElem] at h
  obtain ⟨hk, h1, _⟩ := h
  exact ⟨ops[k]'(by simpa using hk), by simp, by simpa using h1⟩
theorem R.undef {w : World} {c : Ctx} : R M w c (.tup []) undef := .tup (fun _ => .nilFunc) rfl (fun i h => absurd h (by simp)) (fun i h => absurd h (by simp))
theorem eval_take {env ls : List AVal} {x : Opd} (n : Nat) : x.eval env (ls.take n) = x.eval env ls ∨ x.eval env (ls.take n) = .any := by
  cases x with
  | env i => exact .inl rfl
  | val v => exact .inl rfl
  | loc j =>
    simp only [Opd.eval, nth, List.getElem?_take]
    by_cases h : j < n
    · simp [h]
    · simp [h]
theorem R.take {w : World} {c : Ctx} {env ls : List AVal} {x : Opd} {v : Value} (h : R M w c (x.eval env ls) v) (n : Nat) : R M w c (x.eval env (ls.take n)) v := by
  rcases eval_take (env := env) (ls := ls) (x := x) n with e | e
  · rw [e]; exact h
  · rw [e]; exact .any
section
variable {pres : Nat → Bool} {ops : Array Oper} {ins : List Ins} {em : List Tmp} {its : Its} {bef : Nat → Nat} {chk : List (Nat × Nat)} {env ls : List AVal} {s : Nat → Store} {C : CallF} {w0 : World} {c0 : Ctx} {a0 : Act}
def Cut (pres : Nat → Bool) (ins : List Ins) (its : Its) (chk : List (Nat × Nat)) (S : Nat → Prop) (p : Nat) : Prop :=
  (p = 0 ∨ ∃ k n, S k ∧ insOf its k = some n ∧ nwAt pres ins chk n = true ∧ p = n + 1) ∧
  ∀ k n, insOf its k = some n → nwAt pres ins chk n = true → (S k ↔ n < p)
def Inv (M : Names) (pres : Nat → Bool) (ops : Array Oper) (ins : List Ins) (its : Its) (bef : Nat → Nat) (chk : List (Nat × Nat)) (env ls : List AVal) (s : Nat → Store) (c0 : Ctx) (w0 : World) (a0 : Act) (x : Option (Tmp × Nat × Go.Obj)) (S : Nat → Prop) (a : Act) (w : World) : Prop :=
  (∀ i k, S i → (bef i).testBit k = true → S k) ∧ (∀ i, S i → i < ops.size) ∧ ∃ c p, Sim M w c (s p) ∧ Stp c0 w0 c w ∧ Cut pres ins its chk S p ∧
    (∀ (i : Nat) (o : Oper) (d : Tmp), S i → ops[i]? = some o → o.dst = some d → R M w c ((valOf its i).eval env ls) (a.tmps.getD d undef)) ∧
    (∀ t, (∀ (i : Nat) (o : Oper), S i → ops[i]? = some o → o.dst ≠ some t) → (∀ b ob, x ≠ some (t, b, ob)) → a.tmps.getD t undef = a0.tmps.getD t undef) ∧ a.tmps.size = a0.tmps.size ∧ a.defers = a0.defers ∧
    ∀ t b ob, x = some (t, b, ob) → a.tmps.getD t undef = .pointer (some ⟨b, 0, none⟩) ∧ w0.heap.size ≤ b ∧ w.heap[b]? = some ob ∧ ¬ c.bor b ∧ ∀ id, c.H id ≠ .dead → c.place id ≠ some b
theorem store_same (hT : Trace C env ins ls s) (hp : Keeps pres C) (hchk : ∀ (n j : Nat) (I : Ins), (n, j) ∈ chk → ins[n]? = some I → stepOp C env (ls.take n) (s j) I.op = some (nth ls n, s j)) (hgd : ∀ (n j : Nat) (I : Ins), (n, j) ∈ chk → ins[n]? = some I → I.guard = none)
    {p n : Nat} (hpn : p ≤ n) (hn : n ≤ ins.length) (h : ∀ m, p ≤ m → m < n → nwAt pres ins chk m = false) : s n = s p := by
  induction n with
  | zero => rw [show p = 0 by omega]
  | succ n ih =>
    by_cases e : p = n + 1
    · rw [e]
    · rw [← ih (by omega) (by omega) (fun m h1 h2 => h m h1 (by omega))]
      have hn' : n < ins.length := by omega
      have hnw := h n (by omega) (by omega)
      have hl := hT.len
      rcases hT.step n hn' (by omega) with ⟨h1, h2⟩ | ⟨_, _, h3⟩
      · unfold nwAt at hnw
        rw [List.getElem?_eq_getElem hn'] at hnw
        simp only [Bool.and_eq_false_iff, beq_eq_false_iff_ne, Bool.not_eq_false', List.contains_iff_mem] at hnw
        rcases hnw with h4 | h4
        · have : cls pres ins[n].op ≤ 1 := by
            have : cls pres ins[n].op ≤ 2 := by
              cases ins[n].op <;> simp [cls]
              split <;> omega
            omega
          exact cls_le hp this h2
        · have h5 := hchk n n ins[n] h4 (List.getElem?_eq_getElem hn')
          rw [h5] at h2
          simp only [Option.some.injEq, Prod.mk.injEq] at h2
          exact h2.2.symm
      · exact h3
theorem same_cut (hT : Trace C env ins ls s) (hp : Keeps pres C) (hchk : ∀ (n j : Nat) (I : Ins), (n, j) ∈ chk → ins[n]? = some I → stepOp C env (ls.take n) (s j) I.op = some (nth ls n, s j)) (hgd : ∀ (n j : Nat) (I : Ins), (n, j) ∈ chk → ins[n]? = some I → I.guard = none)
    (onto : ∀ n, n < ins.length → ∃ k, insOf its k = some n ∧ k < ops.size) {p n : Nat} (hpl : p ≤ ins.length) (hn : n ≤ ins.length)
    (h : ∀ k m, insOf its k = some m → nwAt pres ins chk m = true → (m < p ↔ m < n)) : s p = s n := by
  have nw : ∀ m, m < ins.length → nwAt pres ins chk m = true → (m < p ↔ m < n) := fun m hm hw => by
    obtain ⟨k, hk, _⟩ := onto m hm
    exact h k m hk hw
  by_cases hle : p ≤ n
  · refine (store_same hT hp hchk hgd hle hn fun m h1 h2 => ?_).symm
    cases e : nwAt pres ins chk m with
    | false => rfl
    | true => exact absurd ((nw m (by omega) e).2 h2) (by omega)
  · refine store_same hT hp hchk hgd (by omega) hpl fun m h1 h2 => ?_
    cases e : nwAt pres ins chk m with
    | false => rfl
    | true => exact absurd ((nw m (by omega) e).1 h2) (by omega)
theorem guard_R {w : World} {c : Ctx} {a : Act} {i n : Nat} {o : Oper} {g : Option (Opd × Bool)} {t : Bool} (h : guardOk its bef ops.toList i o.guard g = true) (hw : wanted env (ls.take n) g = some t)
    (hv : ∀ (j : Nat) (oj : Oper) (d : Tmp), (bef i).testBit j = true → ops[j]? = some oj → oj.dst = some d → R M w c ((valOf its j).eval env ls) (a.tmps.getD d undef)) : Region.wanted o (yielded ops a.tmps) = t := by
  unfold Region.wanted
  cases hg : o.guard with
  | none =>
    rw [hg] at h
    cases g with
    | none => simp only [wanted, Option.some.injEq] at hw; exact hw
    | some x => simp [guardOk] at h
  | some jb =>
    obtain ⟨j, b⟩ := jb
    rw [hg] at h
    cases g with
    | none => simp [guardOk] at h
    | some xb =>
      obtain ⟨x, b'⟩ := xb
      simp only [guardOk, Bool.and_eq_true, beq_iff_eq] at h
      obtain ⟨⟨⟨rfl, h2⟩, h3⟩, h4⟩ := h
      have hx := opdEq_eq h3
      obtain ⟨d, hd⟩ := Option.isSome_iff_exists.1 h4
      obtain ⟨oj, hj, hjd⟩ := bind_eq_some hd
      have hj' : ops[j]? = some oj := by simpa using hj
      have hr := hv j oj d h2 hj' hjd
      rw [hx] at hr
      simp only [wanted] at hw
      split at hw
      · rename_i t0 ht0
        simp only [Option.some.injEq] at hw
        have he : x.eval env ls = .bool t0 := by
          rcases eval_take (env := env) (ls := ls) (x := x) n with e | e
          · rw [← e]; exact ht0
          · rw [e] at ht0; cases ht0
        rw [he] at hr
        have hval : a.tmps[d]? = some (.bool t0) := by
          rw [Array.getD_eq_getD_getElem?] at hr
          cases hq : a.tmps[d]? with
          | none => rw [hq] at hr; simp [undef] at hr; cases hr
          | some v => rw [hq] at hr; simp at hr; cases hr; rfl
        have hy : yielded ops a.tmps j = some t0 := by
          unfold yielded
          simp [hj', hjd, hval]
        show (yielded ops a.tmps j == some b) = t
        rw [hy, ← hw]
        cases t0 <;> cases b <;> rfl
      · rename_i ht0
        simp only [Option.some.injEq] at hw
        have he : x.eval env ls = .tup [] := by
          rcases eval_take (env := env) (ls := ls) (x := x) n with e | e
          · rw [← e]; exact ht0
          · rw [e] at ht0; cases ht0
        rw [he] at hr
        show (yielded ops a.tmps j == some b) = t
        have hy : yielded ops a.tmps j = none := by
          unfold yielded
          rw [Array.getD_eq_getD_getElem?] at hr
          simp only [hj', Option.bind_some, hjd]
          cases hq : a.tmps[d]? with
          | none => rfl
          | some v =>
            rw [hq] at hr
            simp only [Option.getD_some] at hr
            cases hr
            rfl
        rw [hy, ← hw]
        cases b <;> rfl
      · cases hw
end
end Go.AM

namespace Go.AM
variable {M : Names} {P : Program}
variable {pres : Nat → Bool} {ops : Array Oper} {ins : List Ins} {em : List Tmp} {its : Its} {bef : Nat → Nat} {chk : List (Nat × Nat)} {late : Option Nat} {nt : Nat} {env ls : List AVal} {s : Nat → Store} {C : CallF} {w0 : World} {c0 : Ctx} {a0 : Act}
theorem nth_get {ls : List AVal} {n : Nat} (h : n < ls.length) : nth ls n = ls[n] := by
  unfold nth; rw [List.getElem?_eq_getElem h]; rfl
theorem step_op (hok : RegOk M P pres ops ins em its bef chk late nt) (hT : Trace C env ins ls s) (hp : Keeps pres C) (hchk : ∀ (n j : Nat) (I : Ins), (n, j) ∈ chk → ins[n]? = some I → stepOp C env (ls.take n) (s j) I.op = some (nth ls n, s j))
    (hC : CallSound M P C) (hR : RoundSound M P C) {F : Fence} {n0 : Nat} (hF : Wide F) (hg : Globs M w0 c0) (ht0 : TmpR M w0 c0 env [] (fun t => (em.idxOf? t).map .env) a0.tmps) (hsz : nt ≤ a0.tmps.size)
    {Q : Exit → Act → World → Prop} {i : Nat} {o : Oper} (ho : ops[i]? = some o) {x : Option (Tmp × Nat × Go.Obj)} (hxr : ∀ t b ob, x = some (t, b, ob) → rsAt ops.toList em its bef i t = none ∧ o.dst ≠ some t) {S : Nat → Prop} (hi : ¬ S i) (hall : ∀ n, insOf its i = some n → nwAt pres ins chk n = true → ∀ k m, k < i → insOf its k = some m → nwAt pres ins chk m = true → S k) (hb : ∀ k, (bef i).testBit k = true → S k) {a : Act} {w : World}
    (hinv : Inv M pres ops ins its bef chk env ls s c0 w0 a0 x S a w) :
    wpOpIn F n0 P ops Q i (Inv M pres ops ins its bef chk env ls s c0 w0 a0 x fun j => S j ∨ j = i) a w := by
  obtain ⟨cl, lt, c, p, hs, hst, hcut, hv, hun, hts, hdf, hhid⟩ := hinv
  have hio : i < ops.size := (Array.getElem?_eq_some_iff.1 ho).1
  have hg' : Globs M w c := hg.ext hst.toExt
  have hT1 : TmpR M w c env ls (rsAt ops.toList em its bef i) a.tmps := by
    intro t x' hx
    have hxt : ∀ b ob, x ≠ some (t, b, ob) := fun b ob e => by rw [(hxr t b ob e).1] at hx; cases hx
    unfold rsAt at hx
    have base : (em.idxOf? t).map Opd.env = some x' → (∀ (i : Nat) (o : Oper), S i → ops[i]? = some o → o.dst ≠ some t) → R M w c (x'.eval env ls) (a.tmps.getD t undef) := fun h1 h2 => by
      rw [hun t h2 hxt]
      have := (ht0 t x' h1).ext hst.toExt
      obtain ⟨j, _, rfl⟩ := map_eq_some h1
      exact this
    split at hx
    · rename_i hw
      exact base hx fun k ok _ hk => wrOf_none hw hk
    · rename_i k hw
      obtain ⟨ok, hk, hkd⟩ := wrOf_some hw
      split at hx
      · rename_i hbk
        cases hx
        exact hv k ok t (hb k hbk) hk hkd
      · split at hx
        · rename_i hc
          refine base hx fun k' ok' hS hk' hd' => ?_
          have := hok.uniq k' k ok' ok t hk' hk hd' hkd
          subst this
          simp only [Bool.or_eq_true, beq_iff_eq] at hc
          rcases hc with rfl | hc
          · exact hi hS
          · exact hi (cl _ _ hS hc)
        · cases hx
  have hT2 : ∀ n, TmpR M w c env (ls.take n) (rsAt ops.toList em its bef i) a.tmps := fun n t x hx => (hT1 t x hx).take n
  have upd : ∀ (cv : Value) (w' : World) (c' : Ctx) (p' : Nat), Sim M w' c' (s p') → Stp c w c' w' → Cut pres ins its chk (fun j => S j ∨ j = i) p' → R M w' c' ((valOf its i).eval env ls) cv →
      Inv M pres ops ins its bef chk env ls s c0 w0 a0 x (fun j => S j ∨ j = i) (a.put o.dst cv) w' := fun cv w' c' p' h1 h2 h3 h4 => by
    refine ⟨fun j k hj hk => ?_, fun j hj => ?_, c', p', h1, hst.trans h2, h3, fun j oj d hj hoj hd => ?_, fun t ht hxt => ?_, ?_, ?_, fun t b ob e => ?_⟩
    · rcases hj with hj | rfl
      · exact .inl (cl j k hj hk)
      · exact .inl (hb k hk)
    · rcases hj with hj | rfl
      · exact lt j hj
      · exact hio
    · by_cases e : j = i
      · subst e
        rw [ho] at hoj; cases hoj
        rw [hd, getD_put (by rw [hts]; exact Nat.lt_of_lt_of_le (hok.dst _ _ _ ho hd) hsz), if_pos rfl]
        exact h4
      · have hSj : S j := hj.resolve_right e
        have := (hv j oj d hSj hoj hd).ext h2.toExt
        cases hod : o.dst with
        | none => exact this
        | some d' =>
          have hne : ¬ d = d' := fun e2 => by
            subst e2
            exact e (hok.uniq _ _ _ _ _ hoj ho hd hod)
          rw [getD_put (by rw [hts]; exact Nat.lt_of_lt_of_le (hok.dst _ _ _ ho hod) hsz), if_neg hne]
          exact this
    · have hne : o.dst ≠ some t := ht i o (.inr rfl) ho
      have := hun t (fun j oj hj => ht j oj (.inl hj)) hxt
      cases hod : o.dst with
      | none => exact this
      | some d' =>
        have hne' : ¬ t = d' := fun e2 => hne (by rw [hod, e2])
        rw [getD_put (by rw [hts]; exact Nat.lt_of_lt_of_le (hok.dst _ _ _ ho hod) hsz), if_neg hne']
        exact this
    · cases hod : o.dst with
      | none => exact hts
      | some d => simp [Act.put, hts]
    · cases hod : o.dst with
      | none => exact hdf
      | some d => exact hdf
    · obtain ⟨y1, y2, y3, y4, y5⟩ := hhid t b ob e
      have hne := (hxr t b ob e).2
      have hbl : b < w.heap.size := (Array.getElem?_eq_some_iff.1 y3).1
      refine ⟨?_, y2, by rw [h2.frame b hbl y5]; exact y3, fun hb => ?_, fun id z1 z2 => ?_⟩
      · cases hod : o.dst with
        | none => exact y1
        | some d' =>
          have hne' : ¬ t = d' := fun e2 => hne (by rw [hod, e2])
          rw [getD_put (by rw [hts]; exact Nat.lt_of_lt_of_le (hok.dst _ _ _ ho hod) hsz), if_neg hne']
          exact y1
      · rcases h2.oldb b hb hbl with hb | ⟨q, q1, q2⟩
        · exact y4 hb
        · exact y5 q q1 q2
      · obtain ⟨q, q1, q2⟩ := h2.liv id b z1 z2 hbl
        exact y5 q q1 q2
  have hpl : p ≤ ins.length := by
    rcases hcut.1 with rfl | ⟨k, n, _, hk, _, rfl⟩
    · exact Nat.zero_le _
    · exact hok.bound k n hk
  unfold wpOpIn
  rw [ho]
  simp only
  rcases hok.item i o ho with ⟨hn, hel⟩ | ⟨n, I, hn, hI, hval, hop, hgo, hnw, hx⟩
  · 
    unfold elided at hel
    simp only [Bool.and_eq_true, Option.isNone_iff_eq_none] at hel
    obtain ⟨hgn, hel⟩ := hel
    have hw : Region.wanted o (yielded ops a.tmps) = true := by unfold Region.wanted; rw [hgn]
    rw [if_pos hw]
    have hcut' : Cut pres ins its chk (fun j => S j ∨ j = i) p := by
      refine ⟨hcut.1.imp id fun ⟨k, n, h1, h2⟩ => ⟨k, n, .inl h1, h2⟩, fun k n hk hnw => ?_⟩
      rw [← hcut.2 k n hk hnw]
      refine ⟨fun h => h.resolve_right fun e => ?_, .inl⟩
      rw [e, hn] at hk; cases hk
    have fin : ∀ y, moved o.op = some y → R M w c ((valOf its i).eval env ls) (a.eval y) → o.wpIn F n0 P a w (Inv M pres ops ins its bef chk env ls s c0 w0 a0 x fun j => S j ∨ j = i) Q := fun y hm hr => by
      refine ⟨fun f _ => hF.fn f, ?_⟩
      have hex : (execOp a.eval o) = pure (.value (a.eval y)) := by
        unfold execOp
        cases hopp : o.op <;> rw [hopp] at hm <;> simp only [moved] at hm <;> first | (cases hm; done) | (cases hm; rfl)
      rw [Oper.semAt_eq _ _ _ (fun d e => by rw [e] at hm; cases hm), hex]
      exact upd _ w c p hs (.refl c w) hcut' hr
    split at hel
    · rename_i t hm
      split at hel
      · rename_i x hx
        refine fin _ hm ?_
        have := hT1 t x hx
        rw [opdEq_eq hel] at this
        exact this
      · cases hel
    · rename_i v hm
      split at hel
      · rename_i x hx
        refine fin _ hm ?_
        rw [← opdEq_eq hel]
        exact lit_R hx
      · cases hel
    · cases hel
  · 
    obtain ⟨hnl, hIe⟩ := List.getElem?_eq_some_iff.1 hI
    have hnl' : n < ls.length := by rw [hT.len]; exact hnl
    have hvR : ∀ (j : Nat) (oj : Oper) (d : Tmp), (bef i).testBit j = true → ops[j]? = some oj → oj.dst = some d → R M w c ((valOf its j).eval env ls) (a.tmps.getD d undef) := fun j oj d hj => hv j oj d (hb j hj)
    have hvaln : (valOf its i).eval env ls = ls[n] := by
      rw [hval]
      exact nth_get hnl'
    have hcutN : nwAt pres ins chk n = true → s p = s n := fun hw => by
      refine same_cut hT hp hchk hok.guards hok.onto hpl (by omega) fun k m hk hm => ?_
      rw [← hcut.2 k m hk hm]
      rcases Nat.lt_trichotomy k i with h | h | h
      · exact ⟨fun _ => hok.mono _ _ _ _ hk hn h, fun _ => hall n hn hw k m h hk hm⟩
      · subst h
        rw [hn] at hk; cases hk
        exact ⟨fun h => absurd h hi, fun h => absurd h (Nat.lt_irrefl _)⟩
      · have hnm := hok.mono _ _ _ _ hn hk h
        refine ⟨fun hS => absurd ((hcut.2 i n hn hw).2 (by have := (hcut.2 k m hk hm).1 hS; omega)) hi, fun h2 => ?_⟩
        omega
    have cutN : nwAt pres ins chk n = true → Cut pres ins its chk (fun j => S j ∨ j = i) (n + 1) := fun hw => by
      refine ⟨.inr ⟨i, n, .inr rfl, hn, hw, rfl⟩, fun k m hk hm => ?_⟩
      rcases Nat.lt_trichotomy k i with h | h | h
      · have := hok.mono _ _ _ _ hk hn h
        exact ⟨fun _ => by omega, fun _ => .inl (hall n hn hw k m h hk hm)⟩
      · subst h
        rw [hn] at hk; cases hk
        exact ⟨fun _ => by omega, fun _ => .inr rfl⟩
      · have := hok.mono _ _ _ _ hn hk h
        refine ⟨fun hS => ?_, fun h2 => by omega⟩
        rcases hS with hS | rfl
        · exact absurd ((hcut.2 i n hn hw).2 (by have := (hcut.2 k m hk hm).1 hS; omega)) hi
        · exact absurd h (Nat.lt_irrefl _)
    have cutX : nwAt pres ins chk n = false → Cut pres ins its chk (fun j => S j ∨ j = i) p := fun hw => by
      refine ⟨hcut.1.imp id fun ⟨k, n, h1, h2⟩ => ⟨k, n, .inl h1, h2⟩, fun k m hk hm => ?_⟩
      rw [← hcut.2 k m hk hm]
      refine ⟨fun h => h.resolve_right fun e => ?_, .inl⟩
      rw [e, hn] at hk; cases hk
      rw [hw] at hm; cases hm
    rcases hT.step n hnl hnl' with ⟨h1, h2⟩ | ⟨h1, h2, h3⟩
    · 
      rw [hIe] at h1 h2
      have hw : Region.wanted o (yielded ops a.tmps) = true := guard_R hgo h1 hvR
      rw [if_pos hw]
      have run : ∀ p', stepOp C env (ls.take n) (s p) I.op = some (ls[n], s p') → Cut pres ins its chk (fun j => S j ∨ j = i) p' → o.wpIn F n0 P a w (Inv M pres ops ins its bef chk env ls s c0 w0 a0 x fun j => S j ∨ j = i) Q := fun p' hstep hc' =>
        op_wp hF hC hR hs (hT2 n) hg' hop hstep fun cv w' c' b1 b2 b3 => upd cv w' c' p' b1 b2 hc' (by rw [hvaln]; exact b3)
      cases hw2 : nwAt pres ins chk n with
      | true =>
        refine run (n + 1) ?_ (cutN hw2)
        rw [hcutN hw2]; exact h2
      | false =>
        refine run p ?_ (cutX hw2)
        have hsn : s (n + 1) = s n := store_same hT hp hchk hok.guards (Nat.le_succ n) hnl fun m a1 a2 => by
          have : m = n := by omega
          rw [this]; exact hw2
        rw [hsn] at h2
        have same : (∀ k m, insOf its k = some m → nwAt pres ins chk m = true → (m < p ↔ m < n)) → stepOp C env (ls.take n) (s p) I.op = some (ls[n], s p) := fun h => by
          rw [same_cut hT hp hchk hok.guards hok.onto hpl (by omega) h]; exact h2
        have byChk : (n, p) ∈ chk → stepOp C env (ls.take n) (s p) I.op = some (ls[n], s p) := fun h => by
          rw [hchk n p I h hI, nth_get hnl']
        rcases hx hw2 with h0 | ⟨hz, hk⟩
        · exact cls_zero h0 h2 (s p)
        · rcases hcut.1 with rfl | ⟨k, m, hS, hkm, hmw, rfl⟩
          · rcases hz with ⟨k, m, b1, b2, b3⟩ | hz | hz
            · have := (hcut.2 k m b1 b2).1 (hb k b3)
              omega
            · exact same fun k m b1 b2 => ⟨fun h => by omega, fun h => absurd h (hz k m b1 b2)⟩
            · exact byChk hz
          · rcases hk k m hkm hmw with h | ⟨k', m', b1, b2, b3, b4⟩ | ⟨b1, b2⟩ | h
            · exact absurd (cl k i hS h) hi
            · have := (hcut.2 k' m' b1 b2).1 (hb k' b4)
              omega
            · exact same fun k' m' e1 e2 => ⟨fun h => by omega, fun h => by
                by_cases e : m < m'
                · exact absurd h (b2 k' m' e1 e2 e)
                · omega⟩
            · exact byChk h
    · 
      rw [hIe] at h1
      have hw : Region.wanted o (yielded ops a.tmps) = false := guard_R hgo h1 hvR
      rw [if_neg (by rw [hw]; simp)]
      refine ⟨fun f _ => hF.fn f, ?_⟩
      have hany : R M w c ((valOf its i).eval env ls) undef := by rw [hvaln, h2]; exact R.undef
      cases hw2 : nwAt pres ins chk n with
      | true => exact upd _ w c (n + 1) (by rw [h3, ← hcutN hw2]; exact hs) (.refl c w) (cutN hw2) hany
      | false => exact upd _ w c p hs (.refl c w) (cutX hw2) hany
end Go.AM

namespace Go.AM
variable {M : Names} {P : Program} {w w' : World} {c c' : Ctx} {σ : Store}
theorem Sim.over (hs : Sim M w c σ) (h : ∀ b, b < w.heap.size → (c.bor b ∨ ∃ id, c.H id ≠ .dead ∧ c.place id = some b) → w'.heap[b]? = w.heap[b]?) (hz : w.heap.size ≤ w'.heap.size) : Sim M w' c σ ∧ Ext c w c w' := by
  have hext : Ext c w c w' := ⟨fun _ h => h, fun _ h => h, fun b hb => h b (hs.low b (hb.elim (fun h => h) (hs.sb b))) (.inl (hb.elim (fun h => h) (hs.sb b))), Nat.le_refl _, fun _ _ => .inl rfl, fun _ _ _ _ => ⟨rfl, rfl, rfl⟩⟩
  refine ⟨⟨hs.H, hs.N, hs.sb, fun b hb => Nat.lt_of_lt_of_le (hs.low b hb) hz, fun id b h1 h2 => ?_, hs.inj, fun id o ho => ?_⟩, hext⟩
  · obtain ⟨p1, p2⟩ := hs.plow id b h1 h2
    exact ⟨Nat.lt_of_lt_of_le p1 hz, p2⟩
  · refine (hs.obj id o ho).ext hext (fun _ => ⟨rfl, rfl, rfl⟩) fun hnd b hb => ?_
    have hd : c.H id ≠ .dead := by rw [hs.H]; exact fun h => hnd ((hd_dead ho).1 h)
    exact h b (hs.plow id b hd hb).1 (.inr ⟨id, hd, hb⟩)
end Go.AM
