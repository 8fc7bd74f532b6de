/- PRINTED: each operation's equation. -/
import Derived.Test.YtappfinkgehchaaGreatDoorAm08
import GoSem.ClaimData
set_option linter.unusedVariables false
set_option linter.unusedSimpArgs false
set_option linter.unusedSectionVars false
namespace Go.AM
section
variable {P : Code}
theorem s_mov (env ls : List AVal) (σ : Store) (x : Opd) : step P env ls σ (.mov x) = (some (x.eval env ls, σ)) := by
  unfold step; simp only [stepOp]; exact lim_const _
theorem s_pick (env ls : List AVal) (σ : Store) (c : Opd) (a : Opd) (b : Opd) : step P env ls σ (.pick c a b) = ((pickV (a.eval env ls) (b.eval env ls) (c.eval env ls)).map (·, σ)) := by
  unfold step; simp only [stepOp]; exact lim_const _
theorem s_box (env ls : List AVal) (σ : Store) (k : Nat) (x : Opd) : step P env ls σ (.box k x) = (let v := x.eval env ls; if ncells v = k then some (.ptr σ.length 0 0 0, σ ++ [.arr k 0 [v]]) else none) := by
  unfold step; simp only [stepOp]; exact lim_const _
theorem s_build (env ls : List AVal) (σ : Store) (zero : List AVal) (parts : List (Nat × Nat × Opd)) : step P env ls σ (.build zero parts) = ((fill zero (parts.map fun p => (p.1, p.2.1, p.2.2.eval env ls))).map fun cs => (.agg cs, σ)) := by
  unfold step; simp only [stepOp]; exact lim_const _
theorem s_mknil (env ls : List AVal) (σ : Store) (k : Nat) : step P env ls σ (.mknil k) = (some (.sl σ.length 0 0 0, σ ++ [.arr k 0 []])) := by
  unfold step; simp only [stepOp]; exact lim_const _
theorem s_mkl (env ls : List AVal) (σ : Store) (k : Nat) (xs : List Opd) : step P env ls σ (.mkl k xs) = (let vs := xs.map (·.eval env ls); if vs.all (fun v => ncells v == k) then some (.lst vs, σ) else none) := by
  unfold step; simp only [stepOp]; exact lim_const _
theorem s_mksl (env ls : List AVal) (σ : Store) (k : Nat) (xs : List Opd) : step P env ls σ (.mksl k xs) = (let vs := xs.map (·.eval env ls)
    if vs = [] then some (.nil0, σ) else
    if vs.all (fun v => ncells v == k) then some (.sl σ.length 0 0 vs.length, σ ++ [.arr k 0 vs]) else none) := by
  unfold step; simp only [stepOp]; exact lim_const _
theorem s_mkslz (env ls : List AVal) (σ : Store) (k : Nat) (zero : AVal) (n : Nat) (parts : List (Nat × Opd)) : step P env ls σ (.mkslz k zero n parts) = (let vs := setAll (List.replicate n zero) (parts.map fun p => (p.1, p.2.eval env ls))
    if vs.all (fun v => ncells v == k) then some (.sl σ.length 0 0 n, σ ++ [.arr k 0 vs]) else none) := by
  unfold step; simp only [stepOp]; exact lim_const _
theorem s_make (env ls : List AVal) (σ : Store) (k : Nat) (zero : AVal) (n : Opd) (c : Opd) : step P env ls σ (.make k zero n c) = ((asNat (n.eval env ls)).bind fun m => (asNat (c.eval env ls)).bind fun d =>
      if m = d ∧ ncells zero = k ∧ m ≤ most then some (.sl σ.length 0 0 m, σ ++ [.arr k 0 (List.replicate m zero)]) else none) := by
  unfold step; simp only [stepOp]; exact lim_const _
theorem s_load (env ls : List AVal) (σ : Store) (a : Bool) (s : Nat) (x : Opd) : step P env ls σ (.load a s x) = ((loadAt a s (x.eval env ls) σ).map (·, σ)) := by
  unfold step; simp only [stepOp]; exact lim_const _
theorem s_store (env ls : List AVal) (σ : Store) (s : Nat) (x : Opd) (v : Opd) : step P env ls σ (.store s x v) = ((storeAt s (x.eval env ls) (v.eval env ls) σ).map (.any, ·)) := by
  unfold step; simp only [stepOp]; exact lim_const _
theorem s_fld (env ls : List AVal) (σ : Store) (off : Nat) (x : Opd) : step P env ls σ (.fld off x) = ((fldV σ off (x.eval env ls)).map (·, σ)) := by
  unfold step; simp only [stepOp]; exact lim_const _
theorem s_fldv (env ls : List AVal) (σ : Store) (a : Bool) (s : Nat) (off : Nat) (x : Opd) : step P env ls σ (.fldv a s off x) = ((partV a s off (x.eval env ls)).map (·, σ)) := by
  unfold step; simp only [stepOp]; exact lim_const _
theorem s_idxs (env ls : List AVal) (σ : Store) (k : Nat) (x : Opd) (i : Opd) : step P env ls σ (.idxs k x i) = ((asNat (i.eval env ls)).bind fun n => (idxsV σ k n (x.eval env ls)).map (·, σ)) := by
  unfold step; simp only [stepOp]; exact lim_const _
theorem s_idxa (env ls : List AVal) (σ : Store) (m : Nat) (s : Nat) (x : Opd) (i : Opd) : step P env ls σ (.idxa m s x i) = ((asNat (i.eval env ls)).bind fun n => if n < m then (fldV σ (n * s) (x.eval env ls)).map (·, σ) else none) := by
  unfold step; simp only [stepOp]; exact lim_const _
theorem s_idxv (env ls : List AVal) (σ : Store) (a : Bool) (m : Nat) (s : Nat) (x : Opd) (i : Opd) : step P env ls σ (.idxv a m s x i) = ((asNat (i.eval env ls)).bind fun n => if n < m then (partV a s (n * s) (x.eval env ls)).map (·, σ) else none) := by
  unfold step; simp only [stepOp]; exact lim_const _
theorem s_idxt (env ls : List AVal) (σ : Store) (x : Opd) (i : Opd) : step P env ls σ (.idxt x i) = ((asNat (i.eval env ls)).bind fun n => (idxtV n (x.eval env ls)).map (·, σ)) := by
  unfold step; simp only [stepOp]; exact lim_const _
theorem s_bin (env ls : List AVal) (σ : Store) (op : BinOp) (x : Opd) (y : Opd) : step P env ls σ (.bin op x y) = ((bin op (x.eval env ls) (y.eval env ls)).map (·, σ)) := by
  unfold step; simp only [stepOp]; exact lim_const _
theorem s_eqb (env ls : List AVal) (σ : Store) (n : Bool) (x : Opd) (y : Opd) : step P env ls σ (.eqb n x y) = ((eqb n (x.eval env ls) (y.eval env ls)).map (·, σ)) := by
  unfold step; simp only [stepOp]; exact lim_const _
theorem s_eqa (env ls : List AVal) (σ : Store) (n : Bool) (ks : List Nat) (x : Opd) (y : Opd) : step P env ls σ (.eqa n ks x y) = ((eqa n ks (x.eval env ls) (y.eval env ls)).map (·, σ)) := by
  unfold step; simp only [stepOp]; exact lim_const _
theorem s_isnil (env ls : List AVal) (σ : Store) (f n : Bool) (x : Opd) : step P env ls σ (.isnil f n x) = (if (if f then isFn (x.eval env ls) else isPtr (x.eval env ls)) then (isnil n (x.eval env ls)).map (·, σ) else none) := by
  unfold step; simp only [stepOp]; exact lim_const _
theorem s_nils (env ls : List AVal) (σ : Store) (n : Bool) (x : Opd) : step P env ls σ (.nils n x) = ((nilsV n σ (x.eval env ls)).map (·, σ)) := by
  unfold step; simp only [stepOp]; exact lim_const _
theorem s_una (env ls : List AVal) (σ : Store) (op : UnOp) (x : Opd) : step P env ls σ (.una op x) = ((una op (x.eval env ls)).map (·, σ)) := by
  unfold step; simp only [stepOp]; exact lim_const _
theorem s_conv (env ls : List AVal) (σ : Store) (k : IntKind) (x : Opd) : step P env ls σ (.conv k x) = ((convV k (x.eval env ls)).map (·, σ)) := by
  unfold step; simp only [stepOp]; exact lim_const _
theorem s_slice (env ls : List AVal) (σ : Store) (k : Nat) (x : Opd) (lo : Option Opd) (hi : Option Opd) : step P env ls σ (.slice k x lo hi) = (let v := x.eval env ls
    (alen σ v).bind fun n => (opt env ls 0 lo).bind fun l => (opt env ls n hi).bind fun h => (aslice σ k v l h).map (·, σ)) := by
  unfold step; simp only [stepOp]; exact lim_const _
theorem s_slicet (env ls : List AVal) (σ : Store) (x : Opd) (lo : Option Opd) (hi : Option Opd) : step P env ls σ (.slicet x lo hi) = (let v := x.eval env ls
    (tlen v).bind fun n => (opt env ls 0 lo).bind fun l => (opt env ls n hi).bind fun h => (tslice v l h).map (·, σ)) := by
  unfold step; simp only [stepOp]; exact lim_const _
theorem s_slice0 (env ls : List AVal) (σ : Store) (x : Opd) : step P env ls σ (.slice0 x) = ((alen σ (x.eval env ls)).map fun _ => (.nil0, σ)) := by
  unfold step; simp only [stepOp]; exact lim_const _
theorem s_aslice (env ls : List AVal) (σ : Store) (n : Nat) (x : Opd) : step P env ls σ (.aslice n x) = ((aslV σ n (x.eval env ls)).map (·, σ)) := by
  unfold step; simp only [stepOp]; exact lim_const _
theorem s_len (env ls : List AVal) (σ : Store) (x : Opd) : step P env ls σ (.len x) = ((alen σ (x.eval env ls)).map fun (n : Nat) => (.int .i64 (n : Int), σ)) := by
  unfold step; simp only [stepOp]; exact lim_const _
theorem s_lent (env ls : List AVal) (σ : Store) (x : Opd) : step P env ls σ (.lent x) = ((tlen (x.eval env ls)).map fun (n : Nat) => (.int .i64 (n : Int), σ)) := by
  unfold step; simp only [stepOp]; exact lim_const _
theorem s_cap (env ls : List AVal) (σ : Store) (x : Opd) : step P env ls σ (.cap x) = ((capV (x.eval env ls)).map (·, σ)) := by
  unfold step; simp only [stepOp]; exact lim_const _
theorem s_app (env ls : List AVal) (σ : Store) (k : Nat) (x : Opd) (y : Opd) : step P env ls σ (.app k x y) = ((rd σ (y.eval env ls)).bind fun ys => append k (x.eval env ls) ys σ) := by
  unfold step; simp only [stepOp]; exact lim_const _
theorem s_appz (env ls : List AVal) (σ : Store) (k : Nat) (zero : AVal) (x : Opd) (n : Opd) : step P env ls σ (.appz k zero x n) = ((asNat (n.eval env ls)).bind fun m => if ncells zero = k ∧ m ≤ most then append k (x.eval env ls) (List.replicate m zero) σ else none) := by
  unfold step; simp only [stepOp]; exact lim_const _
theorem s_copy (env ls : List AVal) (σ : Store) (k : Nat) (x : Opd) (y : Opd) : step P env ls σ (.copy k x y) = ((rdMin σ (dlen (x.eval env ls)) (y.eval env ls)).bind fun ys => (copyV σ k ys (x.eval env ls)).map fun σ' => (.int .i64 (ys.length : Int), σ')) := by
  unfold step; simp only [stepOp]; exact lim_const _
theorem s_mins (env ls : List AVal) (σ : Store) (x : Opd) (xs : List Opd) : step P env ls σ (.mins x xs) = ((minmax true (x.eval env ls) (xs.map (·.eval env ls))).map (·, σ)) := by
  unfold step; simp only [stepOp]; exact lim_const _
theorem s_maxs (env ls : List AVal) (σ : Store) (x : Opd) (xs : List Opd) : step P env ls σ (.maxs x xs) = ((minmax false (x.eval env ls) (xs.map (·.eval env ls))).map (·, σ)) := by
  unfold step; simp only [stepOp]; exact lim_const _
theorem s_mkfn (env ls : List AVal) (σ : Store) (f : Nat) (first : List Opd) (cap : List Opd) : step P env ls σ (.mkfn f first cap) = (some (.fn f (first.map (·.eval env ls)) (cap.map (·.eval env ls)), σ)) := by
  unfold step; simp only [stepOp]; exact lim_const _
theorem s_ext (env ls : List AVal) (σ : Store) (i : Nat) (x : Opd) : step P env ls σ (.ext i x) = ((extV i (x.eval env ls)).map (·, σ)) := by
  unfold step; simp only [stepOp]; exact lim_const _
theorem s_nilck (env ls : List AVal) (σ : Store) (x : Opd) : step P env ls σ (.nilck x) = ((nilckV σ (x.eval env ls)).map (·, σ)) := by
  unfold step; simp only [stepOp]; exact lim_const _
theorem s_mkmap (env ls : List AVal) (σ : Store)  : step P env ls σ (.mkmap) = (some (.mp σ.length, σ ++ [.map []])) := by
  unfold step; simp only [stepOp]; exact lim_const _
theorem s_mput (env ls : List AVal) (σ : Store) (m : Opd) (k : Opd) (v : Opd) : step P env ls σ (.mput m k v) = ((mputV σ (k.eval env ls) (v.eval env ls) (m.eval env ls)).map (.any, ·)) := by
  unfold step; simp only [stepOp]; exact lim_const _
theorem s_look (env ls : List AVal) (σ : Store) (zero : AVal) (ok : Bool) (m : Opd) (k : Opd) : step P env ls σ (.look zero ok m k) = (if isIntV (k.eval env ls) then (mapOf σ (m.eval env ls)).bind fun es => (lookup (k.eval env ls) es).map fun r => (if ok then .tup [r.getD zero, .bool r.isSome] else r.getD zero, σ) else none) := by
  unfold step; simp only [stepOp]; exact lim_const _
theorem s_mlen (env ls : List AVal) (σ : Store) (m : Opd) : step P env ls σ (.mlen m) = ((mapOf σ (m.eval env ls)).map fun es => (.int .i64 (es.length : Int), σ)) := by
  unfold step; simp only [stepOp]; exact lim_const _
theorem s_clr (env ls : List AVal) (σ : Store) (zero : AVal) (x : Opd) : step P env ls σ (.clr zero x) = ((clrV σ zero (x.eval env ls)).map (.any, ·)) := by
  unfold step; simp only [stepOp]; exact lim_const _
theorem s_rngs (env ls : List AVal) (σ : Store) (x : Opd) : step P env ls σ (.rngs x) = rngV σ (x.eval env ls) := by
  unfold step; simp only [stepOp]; exact lim_const _
theorem s_nexts (env ls : List AVal) (σ : Store) (x : Opd) : step P env ls σ (.nexts x) = nextV σ (x.eval env ls) := by
  unfold step; simp only [stepOp]; exact lim_const _
theorem s_lookk (env ls : List AVal) (σ : Store) (ks : List Nat) (zero : AVal) (ok : Bool) (m k : Opd) : step P env ls σ (.lookk ks zero ok m k) = (if keyFits ks (k.eval env ls) then (mapOf σ (m.eval env ls)).bind fun es => (lookupK ks (k.eval env ls) es).map fun r => (if ok then .tup [r.getD zero, .bool r.isSome] else r.getD zero, σ) else none) := by
  unfold step; simp only [stepOp]; exact lim_const _
theorem s_mputk (env ls : List AVal) (σ : Store) (ks : List Nat) (m k v : Opd) : step P env ls σ (.mputk ks m k v) = ((mputKV ks σ (k.eval env ls) (v.eval env ls) (m.eval env ls)).map (.any, ·)) := by
  unfold step; simp only [stepOp]; exact lim_const _
theorem s_b2s (env ls : List AVal) (σ : Store) (x : Opd) : step P env ls σ (.b2s x) = ((b2sV σ (x.eval env ls)).map (·, σ)) := by
  unfold step; simp only [stepOp]; exact lim_const _
theorem s_bad (env ls : List AVal) (σ : Store)  : step P env ls σ (.bad) = (none) := by
  unfold step; simp only [stepOp]; exact lim_const _
end
end Go.AM

namespace Go.AM
def Mode.isPure : Mode → Bool
  | .pure | .fresh _ => true
  | _ => false
theorem fz_idem (σ τ : Store) : ∀ (n : Nat) (v : AVal), fz true false 0 τ n (fz true false 0 σ n v) = fz true false 0 σ n v := by
  intro n
  induction n with
  | zero => intro v; rfl
  | succ n ih =>
    intro v
    have hl : ∀ l : List AVal, (l.map (fz true false 0 σ n)).map (fz true false 0 τ n) = l.map (fz true false 0 σ n) := fun l => by
      rw [List.map_map]; exact List.map_congr_left fun x _ => ih x
    cases v with
    | agg cs => simp only [fz]; rw [hl]
    | tup cs => simp only [fz]; rw [hl]
    | fn f a c => simp only [fz]; rw [hl, hl]
    | imm b xs => cases b <;> simp [fz]
    | cptr b x o =>
      cases b
      · simp [fz]
      · by_cases h : ncells (fz true false 0 σ n x) = ncells x
        · simp [fz, cptrAt, h, ih]
        · simp [fz, cptrAt, h]
    | imap b xs => cases b <;> simp [fz]
    | lst xs =>
      by_cases h : (xs.map (fz true false 0 σ n)).map ncells = xs.map ncells
      · simp only [fz, listAt, if_pos h]; rfl
      · simp only [fz, listAt, if_neg h]
    | sl id ep off len =>
      simp only [fz, Nat.not_lt_zero, if_false]
      cases sliceAt σ id ep off len with
      | none => simp [fz]
      | some l =>
        by_cases h : (l.map (fz true false 0 σ n)).map ncells = l.map ncells
        · simp only [Option.elim, listAt, if_pos h, fz]; rfl
        · simp only [Option.elim, listAt, if_neg h, fz]
    | ptr id ep i off =>
      simp only [fz, Nat.not_lt_zero, if_false]
      cases elemAt σ id ep i with
      | none => simp [fz]
      | some x =>
        by_cases h : ncells (fz true false 0 σ n x) = ncells x
        · simp [fz, cptrAt, h, ih]
        · simp [fz, cptrAt, h]
    | asl id ep i off m => simp [fz]
    | mp id =>
      simp only [fz, Nat.not_lt_zero, if_false]
      cases entriesAt σ id <;> simp [fz]
    | yld l s e =>
      simp [fz]
    | _ => simp [fz]
theorem snap_idem (σ τ : Store) (v : AVal) : snap τ (snap σ v) = snap σ v := fz_idem σ τ fuel v
section
variable {P : Code} (hP : P.Good)
include hP
theorem acall_pureP {f : Nat} {g : AFunc} (h : P.fns f = .fn g) (hm : g.mode.isPure = true) (args : List AVal) (σ : Store) :
    acall P f args σ = ((acall P f (args.map (snap σ)) []).map (·.1)).map (·, σ) := by
  rw [acall_fn hP h, acall_fn hP h]
  have he : enter g args σ = enter g (args.map (snap σ)) [] := by
    have h1 : ((args.map (snap σ)).take g.np).map (snap []) = (args.take g.np).map (snap σ) := by
      rw [← List.map_take, List.map_map]; exact List.map_congr_left fun x _ => snap_idem σ [] x
    unfold enter
    cases hg : g.mode <;> rw [hg] at hm <;> first | exact absurd hm (by decide) | (simp only [h1])
  rw [he]
  cases run P g.body (enter g (args.map (snap σ)) []) with
  | none => rfl
  | some r =>
    obtain ⟨e, s⟩ := r
    have key : (results s g.res).map (fun v => finish g.mode σ s v) = (((results s g.res).map fun v => finish g.mode [] s v).map (·.1)).map (·, σ) := by
      cases results s g.res with
      | none => rfl
      | some v =>
        cases hg : g.mode <;> rw [hg] at hm <;> first | exact absurd hm (by decide) | rfl
    cases e with
    | ext _ => rfl
    | nrm => exact key
    | ret => exact key
theorem pcall_ofP {f : Nat} {g : AFunc} (h : P.fns f = .fn g) (hm : g.mode.isPure = true) (args : List AVal) :
    (acall P f args []).map (·.1) = (run P g.body ⟨(args.take g.np).map (snap []) ++ List.replicate (g.nenv - g.np) .any, []⟩).bind fun r => match r.1 with
      | .ext _ => none
      | _ => (results r.2 g.res).map fun v => (finish g.mode [] r.2 v).1 := by
  rw [acall_fn hP h]
  have he : enter g args [] = ⟨(args.take g.np).map (snap []) ++ List.replicate (g.nenv - g.np) .any, []⟩ := by
    unfold enter
    cases hg : g.mode <;> rw [hg] at hm <;> first | exact absurd hm (by decide) | rfl
  rw [he]
  cases run P g.body _ with
  | none => rfl
  | some r =>
    obtain ⟨e, s⟩ := r
    cases e with
    | ext _ => rfl
    | nrm => show ((results s g.res).map _).map _ = _; rw [Option.map_map]; rfl
    | ret => show ((results s g.res).map _).map _ = _; rw [Option.map_map]; rfl
end
end Go.AM
section

set_option maxRecDepth 8000
namespace Go.AM
theorem good : code.Good := prims_good
noncomputable def pcall (f : Nat) (args : List AVal) : Option AVal := (acall code f args []).map (·.1)
theorem acall_pure {f : Nat} {g : AFunc} (h : code.fns f = .fn g) (hm : g.mode.isPure = true) (args : List AVal) (σ : Store) :
    acall code f args σ = (pcall f (args.map (snap σ))).map (·, σ) := acall_pureP good h hm args σ
abbrev PureAt (f : Nat) : Prop := ∀ (args : List AVal) (σ : Store), acall code f args σ = (pcall f (args.map (snap σ))).map (·, σ)
theorem pcall_of {f : Nat} {g : AFunc} (h : code.fns f = .fn g) (hm : g.mode.isPure = true) (args : List AVal) :
    pcall f args = (run code g.body ⟨(args.take g.np).map (snap []) ++ List.replicate (g.nenv - g.np) .any, []⟩).bind fun r => match r.1 with
      | .ext _ => none
      | _ => (results r.2 g.res).map fun v => (finish g.mode [] r.2 v).1 := pcall_ofP good h hm args
theorem c_slices_Equal_api_Row_api_Value : code.fns 170 = .fn P.f_slices_Equal_api_Row_api_Value := rfl
theorem c_row_equal : code.fns 177 = .fn P.f_row_equal := rfl
theorem c_mean_May : code.fns 229 = .fn P.f_mean_May := rfl
theorem c_bref21_May : code.fns 230 = .fn P.f_bref21_May := rfl
theorem c_mean_Same : code.fns 231 = .fn P.f_mean_Same := rfl
theorem c_bref21_Same : code.fns 232 = .fn P.f_bref21_Same := rfl
theorem c_blaw21_overRows : code.fns 233 = .fn P.f_blaw21_overRows := rfl
theorem c_blaw21_MeanMay : code.fns 234 = .fn P.f_blaw21_MeanMay := rfl
theorem c_row_Same : code.fns 235 = .fn P.f_row_Same := rfl
theorem c_slices_EqualFunc_api_Row_api_Row_api_Row_api_Row : code.fns 236 = .fn P.f_slices_EqualFunc_api_Row_api_Row_api_Row_api_Row := rfl
@[simp] theorem pures_0 : PureAt 1 ∧ PureAt 2 ∧ PureAt 4 ∧ PureAt 5 ∧ PureAt 6 ∧ PureAt 7 ∧ PureAt 8 ∧ PureAt 9 ∧ PureAt 10 ∧ PureAt 13 ∧ PureAt 14 ∧ PureAt 15 ∧ PureAt 17 ∧ PureAt 18 ∧ PureAt 19 ∧ PureAt 21 ∧ PureAt 23 ∧ PureAt 27 ∧ PureAt 28 ∧ PureAt 29 ∧ PureAt 30 ∧ PureAt 31 ∧ PureAt 32 ∧ PureAt 37 ∧ PureAt 38 ∧ PureAt 41 ∧ PureAt 43 ∧ PureAt 45 ∧ PureAt 46 ∧ PureAt 47 ∧ PureAt 48 ∧ PureAt 50 ∧ PureAt 53 ∧ PureAt 54 ∧ PureAt 55 ∧ PureAt 56 ∧ PureAt 57 ∧ PureAt 58 ∧ PureAt 59 ∧ PureAt 61 := ⟨acall_pure rfl rfl, acall_pure rfl rfl, acall_pure rfl rfl, acall_pure rfl rfl, acall_pure rfl rfl, acall_pure rfl rfl, acall_pure rfl rfl, acall_pure rfl rfl, acall_pure rfl rfl, acall_pure rfl rfl, acall_pure rfl rfl, acall_pure rfl rfl, acall_pure rfl rfl, acall_pure rfl rfl, acall_pure rfl rfl, acall_pure rfl rfl, acall_pure rfl rfl, acall_pure rfl rfl, acall_pure rfl rfl, acall_pure rfl rfl, acall_pure rfl rfl, acall_pure rfl rfl, acall_pure rfl rfl, acall_pure rfl rfl, acall_pure rfl rfl, acall_pure rfl rfl, acall_pure rfl rfl, acall_pure rfl rfl, acall_pure rfl rfl, acall_pure rfl rfl, acall_pure rfl rfl, acall_pure rfl rfl, acall_pure rfl rfl, acall_pure rfl rfl, acall_pure rfl rfl, acall_pure rfl rfl, acall_pure rfl rfl, acall_pure rfl rfl, acall_pure rfl rfl, acall_pure rfl rfl⟩
@[simp] theorem pures_40 : PureAt 62 ∧ PureAt 63 ∧ PureAt 65 ∧ PureAt 66 ∧ PureAt 69 ∧ PureAt 70 ∧ PureAt 71 ∧ PureAt 72 ∧ PureAt 73 ∧ PureAt 76 ∧ PureAt 77 ∧ PureAt 78 ∧ PureAt 80 ∧ PureAt 81 ∧ PureAt 86 ∧ PureAt 92 ∧ PureAt 93 ∧ PureAt 94 ∧ PureAt 95 ∧ PureAt 96 ∧ PureAt 101 ∧ PureAt 102 ∧ PureAt 107 ∧ PureAt 110 ∧ PureAt 112 ∧ PureAt 115 ∧ PureAt 117 ∧ PureAt 118 ∧ PureAt 123 ∧ PureAt 125 ∧ PureAt 135 ∧ PureAt 138 ∧ PureAt 139 ∧ PureAt 146 ∧ PureAt 147 ∧ PureAt 148 ∧ PureAt 150 ∧ PureAt 151 ∧ PureAt 152 ∧ PureAt 153 := ⟨acall_pure rfl rfl, acall_pure rfl rfl, acall_pure rfl rfl, acall_pure rfl rfl, acall_pure rfl rfl, acall_pure rfl rfl, acall_pure rfl rfl, acall_pure rfl rfl, acall_pure rfl rfl, acall_pure rfl rfl, acall_pure rfl rfl, acall_pure rfl rfl, acall_pure rfl rfl, acall_pure rfl rfl, acall_pure rfl rfl, acall_pure rfl rfl, acall_pure rfl rfl, acall_pure rfl rfl, acall_pure rfl rfl, acall_pure rfl rfl, acall_pure rfl rfl, acall_pure rfl rfl, acall_pure rfl rfl, acall_pure rfl rfl, acall_pure rfl rfl, acall_pure rfl rfl, acall_pure rfl rfl, acall_pure rfl rfl, acall_pure rfl rfl, acall_pure rfl rfl, acall_pure rfl rfl, acall_pure rfl rfl, acall_pure rfl rfl, acall_pure rfl rfl, acall_pure rfl rfl, acall_pure rfl rfl, acall_pure rfl rfl, acall_pure rfl rfl, acall_pure rfl rfl, acall_pure rfl rfl⟩
@[simp] theorem pures_80 : PureAt 154 ∧ PureAt 159 ∧ PureAt 162 ∧ PureAt 163 ∧ PureAt 164 ∧ PureAt 170 ∧ PureAt 171 ∧ PureAt 172 ∧ PureAt 173 ∧ PureAt 175 ∧ PureAt 176 ∧ PureAt 177 ∧ PureAt 179 ∧ PureAt 180 ∧ PureAt 181 ∧ PureAt 183 ∧ PureAt 184 ∧ PureAt 186 ∧ PureAt 187 ∧ PureAt 196 ∧ PureAt 205 ∧ PureAt 206 ∧ PureAt 207 ∧ PureAt 213 ∧ PureAt 214 ∧ PureAt 215 ∧ PureAt 216 ∧ PureAt 217 ∧ PureAt 218 ∧ PureAt 219 ∧ PureAt 224 ∧ PureAt 228 ∧ PureAt 229 ∧ PureAt 230 ∧ PureAt 231 ∧ PureAt 232 ∧ PureAt 233 ∧ PureAt 234 ∧ PureAt 235 ∧ PureAt 236 := ⟨acall_pure rfl rfl, acall_pure rfl rfl, acall_pure rfl rfl, acall_pure rfl rfl, acall_pure rfl rfl, acall_pure rfl rfl, acall_pure rfl rfl, acall_pure rfl rfl, acall_pure rfl rfl, acall_pure rfl rfl, acall_pure rfl rfl, acall_pure rfl rfl, acall_pure rfl rfl, acall_pure rfl rfl, acall_pure rfl rfl, acall_pure rfl rfl, acall_pure rfl rfl, acall_pure rfl rfl, acall_pure rfl rfl, acall_pure rfl rfl, acall_pure rfl rfl, acall_pure rfl rfl, acall_pure rfl rfl, acall_pure rfl rfl, acall_pure rfl rfl, acall_pure rfl rfl, acall_pure rfl rfl, acall_pure rfl rfl, acall_pure rfl rfl, acall_pure rfl rfl, acall_pure rfl rfl, acall_pure rfl rfl, acall_pure rfl rfl, acall_pure rfl rfl, acall_pure rfl rfl, acall_pure rfl rfl, acall_pure rfl rfl, acall_pure rfl rfl, acall_pure rfl rfl, acall_pure rfl rfl⟩
end Go.AM
end

namespace Go.AM
noncomputable def thenRun (b : ACode) (r : Option (Ex × St)) : Option (Ex × St) := r.bind fun r => match r.1 with
  | .nrm => run code b r.2
  | e => some (e, r.2)
noncomputable def thenOps (env : List AVal) (is : List Ins) (ls : List AVal) (q : Option (AVal × Store)) : Option (List AVal × Store) :=
  q.bind fun q => runOps code env is (ls ++ [q.1]) q.2
noncomputable def whenOps (env : List AVal) (i : Ins) (is : List Ins) (ls : List AVal) (σ : Store) (t : Option Bool) : Option (List AVal × Store) :=
  match t with
  | some true => thenOps env is ls (step code env ls σ i.op)
  | some false => runOps code env is (ls ++ [.tup []]) σ
  | none => none
def thenOut (env : List AVal) (os : List (Nat × Opd)) (r : Option (List AVal × Store)) : Option (Ex × St) :=
  r.map fun r => (.nrm, ⟨outs env env r.1 os, r.2⟩)
def thenBlk (id : Nat) (r : Option (Ex × St)) : Option (Ex × St) := r.map fun r => match r.1 with
  | .ext j => if j = id then (.nrm, r.2) else r
  | _ => r
noncomputable def condRun (a b : ACode) (s : St) (c : AVal) : Option (Ex × St) := match c with
  | .bool true => run code a s
  | .bool false => run code b s
  | _ => none
noncomputable def thenLoop (base : Nat) (clr : List Nat) (b : ACode) (r : Option (Ex × St)) : Option (Ex × St) := r.bind fun r => match r.1 with
  | .nrm => rounds code base clr b (roundEnd base clr r.2)
  | e => some (e, r.2)
def thenRng (l : Nat) (env : List AVal) (r : Option (AVal × Store)) : Option (Ex × St) := r.bind fun r => jumped l env r.2
noncomputable def thenLift (env : List AVal) (b : ACode) (r : Option Store) : Option (Ex × St) := r.bind fun σ => run code b ⟨env, σ⟩
noncomputable def thenT (env : List AVal) (is : List Ins) (ls : List AVal) (ss : List Store) (q : Option (AVal × Store)) : Option (List AVal × List Store × Store) :=
  q.bind fun q => runT code env is (ls ++ [q.1]) ss q.2
noncomputable def whenT (env : List AVal) (i : Ins) (is : List Ins) (ls : List AVal) (ss : List Store) (σ : Store) (t : Option Bool) : Option (List AVal × List Store × Store) :=
  match t with
  | some true => thenT env is ls (ss ++ [σ]) (step code env ls σ i.op)
  | some false => runT code env is (ls ++ [.tup []]) (ss ++ [σ]) σ
  | none => none
noncomputable def thenChk (env : List AVal) (os : List (Nat × Opd)) (is : List Ins) (chk : List (Nat × Nat)) (r : Option (List AVal × List Store × Store)) : Option (Ex × St) :=
  r.bind fun r => (runChk code env r.1 is (r.2.1 ++ [r.2.2]) chk).map fun _ => (.nrm, ⟨outs env env r.1 os, r.2.2⟩)
noncomputable def chkNext (env ls : List AVal) (is : List Ins) (ss : List Store) (n : Nat) (τ : Store) (l : List (Nat × Nat)) (q : Option (AVal × Store)) : Option Unit :=
  q.bind fun q => if same q.1 (nth ls n) && sameS q.2 τ then runChk code env ls is ss l else none
noncomputable def chkAt (env ls : List AVal) (is : List Ins) (ss : List Store) (n : Nat) (l : List (Nat × Nat)) (i : Option Ins) (t : Option Store) : Option Unit :=
  match i, t with
  | some i, some τ => chkNext env ls is ss n τ l (step code env (ls.take n) τ i.op)
  | _, _ => none
def thenLeave (m : Mode) (res : List Res) (r : Option (Ex × St)) : Option AVal := r.bind fun r => match r.1 with
  | .ext _ => none
  | _ => (results r.2 res).map fun v => (finish m [] r.2 v).1
@[simp ↓] theorem R_seq (a b : ACode) (s : St) : run code (.seq a b) s = thenRun b (run code a s) := run_seq good a b s
@[simp ↓] theorem R_skip (s : St) : run code .skip s = some (.nrm, s) := run_skip good s
@[simp ↓] theorem R_exit (id : Nat) (s : St) : run code (.exit id) s = some (.ext id, s) := run_exit good id s
@[simp ↓] theorem R_ret (s : St) : run code .ret s = some (.ret, s) := run_ret good s
@[simp ↓] theorem R_reg (is : List Ins) (os : List (Nat × Opd)) (env : List AVal) (σ : Store) : run code (.reg is os) ⟨env, σ⟩ = thenOut env os (runOps code env is [] σ) := run_reg good is os _
@[simp ↓] theorem R_cond (c : Opd) (a b : ACode) (env : List AVal) (σ : Store) : run code (.cond c a b) ⟨env, σ⟩ = condRun a b ⟨env, σ⟩ (c.eval env []) := by
  rw [run_cond good]; rfl
@[simp ↓] theorem R_blk (id : Nat) (b : ACode) (s : St) : run code (.blk id b) s = thenBlk id (run code b s) := run_blk good id b s
@[simp ↓] theorem R_scope (b : ACode) (s : St) : run code (.scope b) s = run code b s := run_scope good b s
@[simp ↓] theorem R_loop (clr : List Nat) (b : ACode) (env : List AVal) (σ : Store) : run code (.loop clr b) ⟨env, σ⟩ = rounds code σ.length clr b ⟨clear env clr, σ⟩ := run_loop good clr b _
@[simp ↓] theorem R_rng (k : Nat) (f : Opd) (site : Nat) (env : List AVal) (σ : Store) : run code (.rng k f site) ⟨env, σ⟩ = if env.length = k then thenRng σ.length env (acallF code (f.eval env []) [.yld σ.length site env] (σ ++ [.pend false none])) else none := run_rng good k f site _
@[simp ↓] theorem R_lift (i off k : Nat) (b : ACode) (env : List AVal) (σ : Store) : run code (.lift i off k b) ⟨env, σ⟩ = thenLift env b (liftV (nth env i) off k σ) := run_lift good i off k b _
@[simp ↓] theorem R_regd (is : List Ins) (os : List (Nat × Opd)) (chk : List (Nat × Nat)) (env : List AVal) (σ : Store) : run code (.regd is os chk) ⟨env, σ⟩ = thenChk env os is chk (runT code env is [] [] σ) := run_regd good is os chk _
@[simp ↓] theorem T_nil (env ls : List AVal) (ss : List Store) (σ : Store) : runT code env [] ls ss σ = some (ls, ss, σ) := runT_nil good env ls ss σ
@[simp ↓] theorem T_i (env ls : List AVal) (ss : List Store) (σ : Store) (o : AOp) (is : List Ins) : runT code env (P.i o :: is) ls ss σ = thenT env is ls (ss ++ [σ]) (step code env ls σ o) := runT_cons good env _ is ls ss σ
@[simp ↓] theorem T_g (env ls : List AVal) (ss : List Store) (σ : Store) (x : Opd) (b : Bool) (o : AOp) (is : List Ins) :
    runT code env (P.g x b o :: is) ls ss σ = whenT env (P.g x b o) is ls ss σ (wanted env ls (some (x, b))) := runT_cons good env _ is ls ss σ
@[simp] theorem whenT_t (env : List AVal) (x : Opd) (b : Bool) (o : AOp) (is : List Ins) (ls : List AVal) (ss : List Store) (σ : Store) :
    whenT env (P.g x b o) is ls ss σ (some true) = thenT env is ls (ss ++ [σ]) (step code env ls σ o) := rfl
@[simp] theorem whenT_f (env : List AVal) (i : Ins) (is : List Ins) (ls : List AVal) (ss : List Store) (σ : Store) :
    whenT env i is ls ss σ (some false) = runT code env is (ls ++ [.tup []]) (ss ++ [σ]) σ := rfl
@[simp] theorem thenT_some (env : List AVal) (is : List Ins) (ls : List AVal) (ss : List Store) (v : AVal) (σ : Store) : thenT env is ls ss (some (v, σ)) = runT code env is (ls ++ [v]) ss σ := rfl
@[simp] theorem thenChk_some (env : List AVal) (os : List (Nat × Opd)) (is : List Ins) (chk : List (Nat × Nat)) (ls : List AVal) (ss : List Store) (σ : Store) :
    thenChk env os is chk (some (ls, ss, σ)) = (runChk code env ls is (ss ++ [σ]) chk).map fun _ => (.nrm, ⟨outs env env ls os, σ⟩) := rfl
@[simp ↓] theorem K_nil (env ls : List AVal) (is : List Ins) (ss : List Store) : runChk code env ls is ss [] = some () := runChk_nil good env ls is ss
@[simp ↓] theorem K_cons (env ls : List AVal) (is : List Ins) (ss : List Store) (n j : Nat) (l : List (Nat × Nat)) : runChk code env ls is ss ((n, j) :: l) = chkAt env ls is ss n l is[n]? ss[j]? := by
  rw [runChk_cons good]
  unfold chkAt chkNext
  cases is[n]? <;> cases ss[j]? <;> rfl
@[simp] theorem chkAt_some (env ls : List AVal) (is : List Ins) (ss : List Store) (n : Nat) (l : List (Nat × Nat)) (o : AOp) (τ : Store) : chkAt env ls is ss n l (some (P.i o)) (some τ) = chkNext env ls is ss n τ l (step code env (ls.take n) τ o) := rfl
@[simp] theorem chkNext_some (env ls : List AVal) (is : List Ins) (ss : List Store) (n : Nat) (τ : Store) (l : List (Nat × Nat)) (v : AVal) (σ : Store) : chkNext env ls is ss n τ l (some (v, σ)) = if same v (nth ls n) && sameS σ τ then runChk code env ls is ss l else none := rfl
@[simp] theorem thenLift_some (env : List AVal) (b : ACode) (σ : Store) : thenLift env b (some σ) = run code b ⟨env, σ⟩ := rfl
@[simp] theorem F_fn (f : Nat) (a c args : List AVal) (σ : Store) : acallF code (.fn f a c) args σ = acall code f (a ++ args ++ c) σ := rfl
attribute [simp] same_refl sameL_refl sameS_refl
@[simp ↓] theorem O_nil (env ls : List AVal) (σ : Store) : runOps code env [] ls σ = some (ls, σ) := runOps_nil good env ls σ
@[simp ↓] theorem O_i (env ls : List AVal) (σ : Store) (o : AOp) (is : List Ins) : runOps code env (P.i o :: is) ls σ = thenOps env is ls (step code env ls σ o) := runOps_cons good env _ is ls σ
@[simp ↓] theorem O_g (env ls : List AVal) (σ : Store) (x : Opd) (b : Bool) (o : AOp) (is : List Ins) :
    runOps code env (P.g x b o :: is) ls σ = whenOps env (P.g x b o) is ls σ (wanted env ls (some (x, b))) := runOps_cons good env _ is ls σ
@[simp] theorem when_t (env : List AVal) (x : Opd) (b : Bool) (o : AOp) (is : List Ins) (ls : List AVal) (σ : Store) :
    whenOps env (P.g x b o) is ls σ (some true) = thenOps env is ls (step code env ls σ o) := rfl
@[simp] theorem when_f (env : List AVal) (i : Ins) (is : List Ins) (ls : List AVal) (σ : Store) :
    whenOps env i is ls σ (some false) = runOps code env is (ls ++ [.tup []]) σ := rfl
@[simp] theorem thenRun_nrm (b : ACode) (s : St) : thenRun b (some (.nrm, s)) = run code b s := rfl
@[simp] theorem thenRun_ext (b : ACode) (s : St) (id : Nat) : thenRun b (some (.ext id, s)) = some (.ext id, s) := rfl
@[simp] theorem thenRun_ret (b : ACode) (s : St) : thenRun b (some (.ret, s)) = some (.ret, s) := rfl
@[simp] theorem thenOps_some (env : List AVal) (is : List Ins) (ls : List AVal) (v : AVal) (σ : Store) : thenOps env is ls (some (v, σ)) = runOps code env is (ls ++ [v]) σ := rfl
@[simp] theorem thenOut_some (env : List AVal) (os : List (Nat × Opd)) (ls : List AVal) (σ : Store) : thenOut env os (some (ls, σ)) = some (.nrm, ⟨outs env env ls os, σ⟩) := rfl
@[simp] theorem thenBlk_nrm (id : Nat) (s : St) : thenBlk id (some (.nrm, s)) = some (.nrm, s) := rfl
@[simp] theorem thenBlk_ret (id : Nat) (s : St) : thenBlk id (some (.ret, s)) = some (.ret, s) := rfl
@[simp] theorem thenBlk_ext (id j : Nat) (s : St) : thenBlk id (some (.ext j, s)) = some (if j = id then (.nrm, s) else (.ext j, s)) := by
  simp [thenBlk]
@[simp] theorem cond_t (a b : ACode) (s : St) : condRun a b s (.bool true) = run code a s := rfl
@[simp] theorem cond_f (a b : ACode) (s : St) : condRun a b s (.bool false) = run code b s := rfl
@[simp] theorem thenLeave_ret (m : Mode) (res : List Res) (s : St) : thenLeave m res (some (.ret, s)) = (results s res).map fun v => (finish m [] s v).1 := rfl
@[simp] theorem thenLeave_nrm (m : Mode) (res : List Res) (s : St) : thenLeave m res (some (.nrm, s)) = (results s res).map fun v => (finish m [] s v).1 := rfl
theorem pcall_eq {f : Nat} {g : AFunc} (h : code.fns f = .fn g) (hm : g.mode.isPure = true) (args : List AVal) :
    pcall f args = thenLeave g.mode g.res (run code g.body ⟨(args.take g.np).map (snap []) ++ List.replicate (g.nenv - g.np) .any, []⟩) := pcall_of h hm args
@[simp ↓] theorem S_call (env ls : List AVal) (σ : Store) (f : Nat) (args : List Opd) (mat : Bool) :
    step code env ls σ (.call f args mat) = (acall code f (args.map (·.eval env ls)) σ).map (mater mat) := step_call good env ls σ f args mat
@[simp ↓] theorem S_callv (env ls : List AVal) (σ : Store) (f : Opd) (args : List Opd) :
    step code env ls σ (.callv f args) = (acallV code (f.eval env ls) (args.map (·.eval env ls)) σ).map (mater false) := step_callv good env ls σ f args
@[simp] theorem V_fn (f : Nat) (a c args : List AVal) (σ : Store) : acallV code (.fn f a c) args σ = acall code f (a ++ args ++ c) σ := rfl
attribute [simp ↓] s_mov s_pick s_box s_build s_mknil s_mkl s_mksl s_mkslz s_make s_load s_store s_fld s_fldv s_idxs s_idxa s_idxv s_idxt s_bin s_eqb s_eqa s_isnil s_una s_conv s_slice s_slicet s_slice0 s_aslice s_len s_lent s_cap s_app s_appz s_nils s_copy s_mins s_maxs s_mkfn s_ext s_nilck s_mkmap s_mput s_look s_mlen s_clr s_rngs s_nexts s_lookk s_mputk s_b2s s_bad
attribute [simp] isFn isPtr bytesV b2sV isIntV keyFits keyIsK plainCell lookupK mputK mputKV rngV nextV eqCells kindOf nilsV emptyS liftV liftAt liftAll rdMin dlen eqb eqa isnil neg aslV copyV tlen tslice aslice partV fldV idxsV nilckV convV extV idxtV mapOf mputV clrV pickV capV fresh isSlice sliceAt elemAt arrK entriesAt getPart setPart Opd.eval nth outs clear wanted bin binInt shift una alen asNat rd loadAt storeAt results getRess getRes finish opt sameCells sameCell isNil setAll fill minmax
@[simp] theorem ncells_agg (cs : List AVal) : ncells (.agg cs) = cs.length := rfl
@[simp] theorem ncells_int (k : IntKind) (n : Int) : ncells (.int k n) = 1 := rfl
@[simp] theorem ncells_bool (b : Bool) : ncells (.bool b) = 1 := rfl
@[simp] theorem ncells_str (s : List UInt8) : ncells (.str s) = 1 := rfl
@[simp] theorem ncells_imm (b : Bool) (xs : List AVal) : ncells (.imm b xs) = 1 := rfl
@[simp] theorem ncells_lst (xs : List AVal) : ncells (.lst xs) = 1 := rfl
@[simp] theorem ncells_nil0 : ncells .nil0 = 1 := rfl
@[simp] theorem ncells_nilp : ncells .nilp = 1 := rfl
@[simp] theorem ncells_nilf : ncells .nilf = 1 := rfl
@[simp] theorem ncells_nilm : ncells .nilm = 1 := rfl
@[simp] theorem ncells_sl (a b c d : Nat) : ncells (.sl a b c d) = 1 := rfl
@[simp] theorem ncells_ptr (a b c d : Nat) : ncells (.ptr a b c d) = 1 := rfl
@[simp] theorem ncells_cptr (b : Bool) (x : AVal) (o : Nat) : ncells (.cptr b x o) = 1 := rfl
@[simp] theorem ncells_fn (f : Nat) (a c : List AVal) : ncells (.fn f a c) = 1 := rfl
@[simp] theorem ncells_mp (i : Nat) : ncells (.mp i) = 1 := rfl
@[simp] theorem ncells_imap (b : Bool) (e : List (AVal × AVal)) : ncells (.imap b e) = 1 := rfl
@[simp] theorem isAgg_agg (cs : List AVal) : isAgg (.agg cs) = true := rfl
@[simp] theorem isAgg_int (k : IntKind) (n : Int) : isAgg (.int k n) = false := rfl
@[simp] theorem isAgg_bool (b : Bool) : isAgg (.bool b) = false := rfl
@[simp] theorem isAgg_str (s : List UInt8) : isAgg (.str s) = false := rfl
@[simp] theorem isAgg_imm (b : Bool) (xs : List AVal) : isAgg (.imm b xs) = false := rfl
@[simp] theorem isAgg_lst (xs : List AVal) : isAgg (.lst xs) = false := rfl
@[simp] theorem isAgg_nil0 : isAgg .nil0 = false := rfl
@[simp] theorem isAgg_nilp : isAgg .nilp = false := rfl
@[simp] theorem isAgg_nilf : isAgg .nilf = false := rfl
@[simp] theorem isAgg_nilm : isAgg .nilm = false := rfl
@[simp] theorem isAgg_sl (a b c d : Nat) : isAgg (.sl a b c d) = false := rfl
@[simp] theorem isAgg_ptr (a b c d : Nat) : isAgg (.ptr a b c d) = false := rfl
@[simp] theorem isAgg_cptr (b : Bool) (x : AVal) (o : Nat) : isAgg (.cptr b x o) = false := rfl
@[simp] theorem isAgg_fn (f : Nat) (a c : List AVal) : isAgg (.fn f a c) = false := rfl
@[simp] theorem isAgg_mp (i : Nat) : isAgg (.mp i) = false := rfl
@[simp] theorem isAgg_imap (b : Bool) (e : List (AVal × AVal)) : isAgg (.imap b e) = false := rfl
@[simp] theorem cellsOf_agg (cs : List AVal) : cellsOf (.agg cs) = cs := rfl
@[simp] theorem cellsOf_int (k : IntKind) (n : Int) : cellsOf (.int k n) = [.int k n] := rfl
@[simp] theorem cellsOf_bool (b : Bool) : cellsOf (.bool b) = [.bool b] := rfl
@[simp] theorem cellsOf_str (s : List UInt8) : cellsOf (.str s) = [.str s] := rfl
@[simp] theorem cellsOf_imm (b : Bool) (xs : List AVal) : cellsOf (.imm b xs) = [.imm b xs] := rfl
@[simp] theorem cellsOf_sl (a b c d : Nat) : cellsOf (.sl a b c d) = [.sl a b c d] := rfl
@[simp] theorem cellsOf_nil0 : cellsOf .nil0 = [.nil0] := rfl
@[simp] theorem cellsOf_fn (f : Nat) (a c : List AVal) : cellsOf (.fn f a c) = [.fn f a c] := rfl
@[simp] theorem cellsOf_ptr (a b c d : Nat) : cellsOf (.ptr a b c d) = [.ptr a b c d] := rfl
@[simp] theorem cellsOf_cptr (b : Bool) (x : AVal) (o : Nat) : cellsOf (.cptr b x o) = [.cptr b x o] := rfl
section
variable (fl top : Bool) (base : Nat) (σ : Store) (n : Nat)
@[simp] theorem fz_int (k : IntKind) (m : Int) : fz fl top base σ (n + 1) (.int k m) = .int k m := by simp [fz]
@[simp] theorem fz_bool (b : Bool) : fz fl top base σ (n + 1) (.bool b) = .bool b := by simp [fz]
@[simp] theorem fz_str (s : List UInt8) : fz fl top base σ (n + 1) (.str s) = .str s := by simp [fz]
@[simp] theorem fz_nil0 : fz fl top base σ (n + 1) .nil0 = if !fl && top then .nil0 else .imm false [] := by simp [fz]
@[simp] theorem fz_any : fz fl top base σ (n + 1) .any = .any := by simp [fz]
@[simp] theorem fz_agg (cs : List AVal) : fz fl top base σ (n + 1) (.agg cs) = .agg (cs.map (fz fl top base σ n)) := by simp [fz]
@[simp] theorem fz_fn (f : Nat) (a c : List AVal) : fz fl top base σ (n + 1) (.fn f a c) = .fn f (a.map (fz fl top base σ n)) (c.map (fz fl top base σ n)) := by simp [fz]
@[simp] theorem fz_immt (b : Bool) (xs : List AVal) : fz true top base σ (n + 1) (.imm b xs) = .imm b xs := by simp [fz]
@[simp] theorem fz_immk (b : Bool) (xs : List AVal) : fz fl true base σ (n + 1) (.imm b xs) = .imm b xs := by simp [fz]
end
attribute [simp] listAt cptrAt arrAt frsAt
@[simp] theorem frozen_eq (σ : Store) (v : AVal) : frozen σ v = fz false false 0 σ 20 v := rfl
@[simp] theorem snap_eq (σ : Store) (v : AVal) : snap σ v = fz true false 0 σ 20 v := rfl
@[simp] theorem freeze_eq (b : Nat) (σ : Store) (v : AVal) : freeze b σ v = fz false true b σ 20 v := rfl
@[simp] theorem mater_false_1 (k : IntKind) (n : Int) (σ : Store) : mater false (.int k n, σ) = (.int k n, σ) := rfl
attribute [simp] mater mater1
theorem wrap64_id {n : Int} (h : -9223372036854775808 ≤ n ∧ n < 9223372036854775808) : IntKind.i64.wrap n = n := by
  simp [IntKind.wrap, IntKind.bits, IntKind.signed]; omega
end Go.AM

namespace Go.AM
theorem rounds_iter {base : Nat} {clr : List Nat} {b : ACode} (I : Nat → St) (n : Nat) (r : Ex × St)
    (step : ∀ k, k < n → thenLoop base clr b (run code b (I k)) = rounds code base clr b (I (k + 1))) (last : thenLoop base clr b (run code b (I n)) = some r) :
    rounds code base clr b (I 0) = some r := by
  have key : ∀ m k, k + m = n → rounds code base clr b (I k) = some r := by
    intro m
    induction m with
    | zero =>
      intro k hk
      obtain rfl : k = n := by omega
      rw [rounds_eq good]
      exact last
    | succ m ih =>
      intro k hk
      rw [rounds_eq good]
      exact (step k (by omega)).trans (ih (k + 1) (by omega))
  exact key n 0 (by omega)
@[simp] theorem thenLoop_nrm (base : Nat) (clr : List Nat) (b : ACode) (s : St) : thenLoop base clr b (some (.nrm, s)) = rounds code base clr b (roundEnd base clr s) := rfl
@[simp] theorem thenLoop_ext (base : Nat) (clr : List Nat) (b : ACode) (s : St) (i : Nat) : thenLoop base clr b (some (.ext i, s)) = some (.ext i, s) := rfl
@[simp] theorem thenLoop_ret (base : Nat) (clr : List Nat) (b : ACode) (s : St) : thenLoop base clr b (some (.ret, s)) = some (.ret, s) := rfl
end Go.AM

namespace Go.AM
structure WOk {α : Type} (c : α → α → Int) : Prop where
  anti : ∀ x y, c x y < 0 ↔ 0 < c y x
  tr : ∀ x y z, c x y ≤ 0 → c y z ≤ 0 → c x z ≤ 0
namespace WOk
variable {α : Type} {c d : α → α → Int}
theorem lt_le (h : WOk c) {x y z : α} (h1 : c x y < 0) (h2 : c y z ≤ 0) : c x z < 0 := by
  have a1 := h.anti x z
  have a2 := h.anti x y
  have a3 := h.tr y z x h2
  omega
theorem le_lt (h : WOk c) {x y z : α} (h1 : c x y ≤ 0) (h2 : c y z < 0) : c x z < 0 := by
  have a1 := h.anti x z
  have a2 := h.anti y z
  have a3 := h.tr z x y
  omega
theorem zero (h : WOk c) {x y : α} : c x y = 0 ↔ c y x = 0 := by
  have := h.anti x y; have := h.anti y x; omega
end WOk
def lex (a b : Int) : Int := if a ≠ 0 then a else b
theorem WOk.lex {α : Type} {c d : α → α → Int} (hc : WOk c) (hd : WOk d) : WOk fun x y => lex (c x y) (d x y) where
  anti x y := by
    have h1 := hc.anti x y; have h2 := hc.anti y x; have h3 := hd.anti x y
    unfold Go.AM.lex
    split <;> split <;> omega
  tr x y z h1 h2 := by
    unfold Go.AM.lex at *
    have a1 := fun h => hc.lt_le (x := x) (y := y) (z := z) h
    have a2 := fun h h' => hc.le_lt (x := x) (y := y) (z := z) h h'
    have a3 := hc.tr x y z
    have a4 := hd.tr x y z
    have a5 := hc.anti x z
    have a6 := hc.tr z y x
    have a7 := hc.anti x y; have a8 := hc.anti y z; have a9 := hc.anti y x; have b1 := hc.anti z y; have b2 := hc.anti z x
    split at h1 <;> split at h2 <;> split <;> omega
theorem WOk.on {α β : Type} {c : α → α → Int} (h : WOk c) (f : β → α) : WOk fun x y => c (f x) (f y) := ⟨fun x y => h.anti _ _, fun x y z => h.tr _ _ _⟩
theorem WOk.neg {α : Type} {c : α → α → Int} (h : WOk c) : WOk fun x y => -c x y where
  anti x y := by have := h.anti y x; have := h.anti x y; omega
  tr x y z h1 h2 := by
    have a1 := h.tr z y x; have a2 := h.anti x y; have a3 := h.anti y z; have a4 := h.anti x z
    have a5 := h.anti y x; have a6 := h.anti z y; have a7 := h.anti z x
    omega
structure Val where
  k : Int
  n : Int
  u : Int
  s : List UInt8
  deriving DecidableEq, Inhabited
section
variable {α : Type} (c : α → α → Int)
variable {c}
end
end Go.AM
section

namespace Go.AM
open P
set_option maxHeartbeats 1000000
end Go.AM
end

namespace Go.AM
end Go.AM
section

namespace Go.AM
open P
set_option maxHeartbeats 2000000
end Go.AM
end
section

namespace Go.AM
open P
set_option maxHeartbeats 2000000
set_option maxRecDepth 4000
def Plain (v : AVal) : Prop := ncells v = 4 ∧ isAgg v = true ∧ ∀ fl top base σ n, fz fl top base σ (n + 2) v = v
structure RowOk (r : List AVal) : Prop where
  vals : ∀ v ∈ r, Plain v
  clone : pcall I.slices_Clone_api_Row_api_Value [.imm false r] = some (.frs 4 r)
  right : pcall I.row_right [.imm false r] = some (.bool true)
def rowsV (rs : List (List AVal)) : List AVal := rs.map (.imm false)
@[simp] theorem rowsV_ncells (rs : List (List AVal)) : (rowsV rs).map ncells = List.replicate rs.length 1 := by
  simp only [rowsV, List.map_map]
  rw [List.eq_replicate_iff]
  exact ⟨by simp, fun x hx => by simp at hx; obtain ⟨_, _, rfl⟩ := hx; rfl⟩
end Go.AM
end
section

namespace Go.AM
open P
set_option maxHeartbeats 2000000
set_option maxRecDepth 4000
def Val.a (v : Val) : AVal := .agg [.int .i64 v.k, .int .i64 v.n, .int .u64 v.u, .str v.s]
@[simp] theorem a_ncells (v : Val) : ncells v.a = 4 := rfl
@[simp] theorem a_isAgg (v : Val) : isAgg v.a = true := rfl
end Go.AM
end
section

namespace Go.AM
open P
set_option maxHeartbeats 8000000
set_option maxRecDepth 8000
abbrev SL (α : Type) := { l : List α // l.length ≤ maxLen }
def slA {α : Type} (f : α → AVal) (l : SL α) : AVal := .imm true (l.1.map f)
theorem wrap_sl {k n : Nat} (h1 : k < n) (h2 : n ≤ maxLen) : IntKind.i64.wrap ((k : Int) + 1) = ((k + 1 : Nat) : Int) := by
  have : n ≤ 9223372036854775807 := h2
  rw [wrap64_id (by omega)]
  omega
theorem rounds_go' (base : Nat) (clr : List Nat) (b : ACode) (s : St) : rounds code base clr b s = thenLoop base clr b (run code b s) := rounds_eq good base clr b s
theorem same_diff {α : Type} [DecidableEq α] : ∀ {l m : List α}, l.length = m.length → ∃ d, d ≤ l.length ∧ (∀ k (_ : k < d) (h1 : k < l.length) (h2 : k < m.length), l[k] = m[k]) ∧
    ((d = l.length ∧ decide (l = m) = true) ∨ (∃ (h1 : d < l.length) (h2 : d < m.length), l[d] ≠ m[d] ∧ decide (l = m) = false))
  | [], [], _ => ⟨0, Nat.le_refl _, fun k h => absurd h (Nat.not_lt_zero _), .inl ⟨rfl, rfl⟩⟩
  | [], _ :: _, h => by cases h
  | _ :: _, [], h => by cases h
  | a :: l, b :: m, h => by
    by_cases hab : a = b
    · obtain ⟨d, h1, h2, h3⟩ := same_diff (l := l) (m := m) (by simpa using h)
      refine ⟨d + 1, by simpa using h1, fun k hk a1 a2 => ?_, ?_⟩
      · cases k with
        | zero => exact hab
        | succ k => exact h2 k (by omega) (by simpa using a1) (by simpa using a2)
      · rcases h3 with ⟨e1, e2⟩ | ⟨q1, q2, e1, e2⟩
        · exact .inl ⟨by simp [e1], by simpa [hab] using e2⟩
        · exact .inr ⟨by simpa using q1, by simpa using q2, by simpa using e1, by simpa [hab] using e2⟩
    · exact ⟨0, Nat.zero_le _, fun k h => absurd h (Nat.not_lt_zero _), .inr ⟨by simp, by simp, hab, by simp [hab]⟩⟩
theorem map_get {α : Type} {f : α → AVal} {l : List α} {k : Nat} (h : k < l.length) : (l.map f)[k]? = some (f l[k]) := by simp [h]
theorem bne_len {n m : Nat} (h : ¬ n = m) : (((n : Int)) != (m : Int)) = true := by simp; omega
theorem EqF_Row {α : Type} [DecidableEq α] {f : α → AVal} {g : AVal} {t t' : Bool} {l m : List α} (hn : l.length ≤ maxLen) (hf : ∀ a, ncells (f a) = 1 ∧ isAgg (f a) = false) (hg : ∀ fl top σ, (fl || top) = true → fz fl top 0 σ 20 g = g)
    (hc : ∀ a b σ, acallV code g [f a, f b] σ = some (.bool (decide (a = b)), σ)) : pcall I.slices_EqualFunc_api_Row_api_Row_api_Row_api_Row [.imm t (l.map f), .imm t' (m.map f), g] = some (.bool (decide (l = m))) := by
  rw [pcall_eq c_slices_EqualFunc_api_Row_api_Row_api_Row_api_Row rfl]
  have hg1 := hg true false [] rfl
  generalize hX : l.map f = xs
  generalize hY : m.map f = ys
  have lX : xs.length = l.length := by rw [← hX]; simp
  have lY : ys.length = m.length := by rw [← hY]; simp
  by_cases hlen : l.length = m.length
  · obtain ⟨d, h1, h2, h3⟩ := same_diff hlen
    have hstep : ∀ k, k < d → thenLoop 0 [3, 4, 5, 6, 11, 12] l_slices_EqualFunc_api_Row_api_Row_api_Row_api_Row_0 (run code l_slices_EqualFunc_api_Row_api_Row_api_Row_api_Row_0 ⟨[.imm t xs, .imm t' ys, g, .any, .any, .any, .any, .bool false, .imm t xs, .int .i64 l.length, .int .i64 k, .any, .any], []⟩) = rounds code 0 [3, 4, 5, 6, 11, 12] l_slices_EqualFunc_api_Row_api_Row_api_Row_api_Row_0 ⟨[.imm t xs, .imm t' ys, g, .any, .any, .any, .any, .bool false, .imm t xs, .int .i64 l.length, .int .i64 (k + 1 : Nat), .any, .any], []⟩ := fun k hk => by
      have a1 : k < l.length := by omega
      have a2 : k < m.length := by omega
      have e1 : xs[k]? = some (f l[k]) := by rw [← hX]; exact map_get a1
      have e2 : ys[k]? = some (f m[k]) := by rw [← hY]; exact map_get a2
      have e3 := hc l[k] m[k]
      have e4 := hf l[k]
      have e5 := hf m[k]
      have e6 := h2 k hk a1 a2
      rw [e6] at e1 e3 e4
      have i1 : ((k : Int) < (l.length : Int)) := by omega
      simp [l_slices_EqualFunc_api_Row_api_Row_api_Row_api_Row_0, e1, e2, e3, e4, e5, i1, wrap_sl a1 hn, roundEnd, hg]
    rcases h3 with ⟨e1, e2⟩ | ⟨q1, q2, e1, e2⟩
    · have hloop := rounds_iter (base := 0) (clr := [3, 4, 5, 6, 11, 12]) (b := l_slices_EqualFunc_api_Row_api_Row_api_Row_api_Row_0) (fun k => ⟨[.imm t xs, .imm t' ys, g, .any, .any, .any, .any, .bool false, .imm t xs, .int .i64 l.length, .int .i64 k, .any, .any], []⟩) d _ hstep (by
        subst e1
        simp [l_slices_EqualFunc_api_Row_api_Row_api_Row_api_Row_0]; rfl)
      simp [f_slices_EqualFunc_api_Row_api_Row_api_Row_api_Row, b_slices_EqualFunc_api_Row_api_Row_api_Row_api_Row, hg1, hlen, lX, lY]
      simp [hlen] at hloop
      rw [hloop, e2]
      simp
    · have hloop := rounds_iter (base := 0) (clr := [3, 4, 5, 6, 11, 12]) (b := l_slices_EqualFunc_api_Row_api_Row_api_Row_api_Row_0) (fun k => ⟨[.imm t xs, .imm t' ys, g, .any, .any, .any, .any, .bool false, .imm t xs, .int .i64 l.length, .int .i64 k, .any, .any], []⟩) d _ hstep (by
        have a1 : xs[d]? = some (f l[d]) := by rw [← hX]; exact map_get q1
        have a2 : ys[d]? = some (f m[d]) := by rw [← hY]; exact map_get q2
        have a3 := hc l[d] m[d]
        have e4 := hf l[d]
        have e5 := hf m[d]
        rw [decide_eq_false e1] at a3
        have i1 : ((d : Int) < (l.length : Int)) := by omega
        simp [l_slices_EqualFunc_api_Row_api_Row_api_Row_api_Row_0, a1, a2, a3, e4, e5, i1]; rfl)
      simp [f_slices_EqualFunc_api_Row_api_Row_api_Row_api_Row, b_slices_EqualFunc_api_Row_api_Row_api_Row_api_Row, hg1, hlen, lX, lY]
      simp [hlen] at hloop
      rw [hloop, e2]
      simp
  · have hne : decide (l = m) = false := decide_eq_false fun e => hlen (congrArg List.length e)
    rw [hne]
    simp [f_slices_EqualFunc_api_Row_api_Row_api_Row_api_Row, b_slices_EqualFunc_api_Row_api_Row_api_Row_api_Row, hg1, bne_len hlen, lX, lY]
theorem Eq_Val {α : Type} [DecidableEq α] {f : α → AVal} {t t' : Bool} {l m : List α} (hn : l.length ≤ maxLen) (hf : ∀ a, ncells (f a) = 4 ∧ isAgg (f a) = true)
    (hc : ∀ a b, eqa true [0, 0, 0, 2] (f a) (f b) = some (.bool (!decide (a = b)))) : pcall I.slices_Equal_api_Row_api_Value [.imm t (l.map f), .imm t' (m.map f)] = some (.bool (decide (l = m))) := by
  rw [pcall_eq c_slices_Equal_api_Row_api_Value rfl]
  generalize hX : l.map f = xs
  generalize hY : m.map f = ys
  have lX : xs.length = l.length := by rw [← hX]; simp
  have lY : ys.length = m.length := by rw [← hY]; simp
  by_cases hlen : l.length = m.length
  · obtain ⟨d, h1, h2, h3⟩ := same_diff hlen
    have hstep : ∀ k, k < d → thenLoop 0 [2, 3, 7, 8] l_slices_Equal_api_Row_api_Value_0 (run code l_slices_Equal_api_Row_api_Value_0 ⟨[.imm t xs, .imm t' ys, .any, .any, .bool false, .int .i64 l.length, .int .i64 k, .any, .any], []⟩) = rounds code 0 [2, 3, 7, 8] l_slices_Equal_api_Row_api_Value_0 ⟨[.imm t xs, .imm t' ys, .any, .any, .bool false, .int .i64 l.length, .int .i64 (k + 1 : Nat), .any, .any], []⟩ := fun k hk => by
      have a1 : k < l.length := by omega
      have a2 : k < m.length := by omega
      have e1 : xs[k]? = some (f l[k]) := by rw [← hX]; exact map_get a1
      have e2 : ys[k]? = some (f m[k]) := by rw [← hY]; exact map_get a2
      have e3 := hc l[k] m[k]
      have e4 := hf l[k]
      have e5 := hf m[k]
      have e6 := h2 k hk a1 a2
      rw [e6] at e1 e3 e4
      have i1 : ((k : Int) < (l.length : Int)) := by omega
      have i2 : bin .lss (.int .i64 (k : Int)) (.int .i64 (l.length : Int)) = some (.bool true) := by simp [i1]
      have i3 : bin .add (.int .i64 (k : Int)) (.int .i64 1) = some (.int .i64 ((k + 1 : Nat) : Int)) := by simp [wrap_sl a1 hn]
      simp [l_slices_Equal_api_Row_api_Value_0, e1, e2, -eqa,  i2, i3, e3, e4, e5, i1, wrap_sl a1 hn, roundEnd]
    rcases h3 with ⟨e1, e2⟩ | ⟨q1, q2, e1, e2⟩
    · have hloop := rounds_iter (base := 0) (clr := [2, 3, 7, 8]) (b := l_slices_Equal_api_Row_api_Value_0) (fun k => ⟨[.imm t xs, .imm t' ys, .any, .any, .bool false, .int .i64 l.length, .int .i64 k, .any, .any], []⟩) d _ hstep (by
        subst e1
        simp [l_slices_Equal_api_Row_api_Value_0]; rfl)
      simp [f_slices_Equal_api_Row_api_Value, b_slices_Equal_api_Row_api_Value, hlen, lX, lY]
      simp [hlen] at hloop
      rw [hloop, e2]
      simp
    · have hloop := rounds_iter (base := 0) (clr := [2, 3, 7, 8]) (b := l_slices_Equal_api_Row_api_Value_0) (fun k => ⟨[.imm t xs, .imm t' ys, .any, .any, .bool false, .int .i64 l.length, .int .i64 k, .any, .any], []⟩) d _ hstep (by
        have a1 : xs[d]? = some (f l[d]) := by rw [← hX]; exact map_get q1
        have a2 : ys[d]? = some (f m[d]) := by rw [← hY]; exact map_get q2
        have a3 := hc l[d] m[d]
        have e4 := hf l[d]
        have e5 := hf m[d]
        rw [decide_eq_false e1] at a3
        have i1 : ((d : Int) < (l.length : Int)) := by omega
        have i2 : bin .lss (.int .i64 (d : Int)) (.int .i64 (l.length : Int)) = some (.bool true) := by simp [i1]
        simp [l_slices_Equal_api_Row_api_Value_0, a1, a2, -eqa,  i2, a3, e4, e5, i1]; rfl)
      simp [f_slices_Equal_api_Row_api_Value, b_slices_Equal_api_Row_api_Value, hlen, lX, lY]
      simp [hlen] at hloop
      rw [hloop, e2]
      simp
  · have hne : decide (l = m) = false := decide_eq_false fun e => hlen (congrArg List.length e)
    rw [hne]
    simp [f_slices_Equal_api_Row_api_Value, b_slices_Equal_api_Row_api_Value, bne_len hlen, lX, lY]
@[simp] theorem ncells_slA {α : Type} (f : α → AVal) (l : SL α) : ncells (slA f l) = 1 := rfl
@[simp] theorem isAgg_slA {α : Type} (f : α → AVal) (l : SL α) : isAgg (slA f l) = false := rfl
@[simp] theorem cellsOf_slA {α : Type} (f : α → AVal) (l : SL α) : cellsOf (slA f l) = [slA f l] := rfl
@[simp] theorem fz_slA {α : Type} (f : α → AVal) (l : SL α) (top : Bool) (base : Nat) (σ : Store) (n : Nat) : fz true top base σ (n + 1) (slA f l) = slA f l := by simp [slA]
theorem sl_dec {α : Type} [DecidableEq α] (l m : SL α) : decide (l.1 = m.1) = decide (l = m) := by simp [Subtype.ext_iff]
theorem bq {α : Type} [BEq α] [LawfulBEq α] {a b : α} (h : ¬ a = b) : (a == b) = false := by simp [h]
abbrev RowT := SL Val
abbrev RowT.a (r : RowT) : AVal := slA Val.a r
theorem row_Same_116 (a b : RowT) : pcall I.row_equal [slA Val.a a, slA Val.a b] = some (.bool (decide (a = b))) := by
  rw [pcall_eq c_row_equal rfl, ← sl_dec]
  have := Eq_Val (f := Val.a) (t := true) (t' := true) (l := a.1) (m := b.1) a.2 (fun a => ⟨rfl, rfl⟩) (fun a b => by
    cases a; cases b
    simp [Val.a, eqa, Val.mk.injEq]
    repeat (split <;> simp_all))
  simp [f_row_equal, b_row_equal, slA, this]
theorem row_Same_44 (s : Bool) (a b : SL RowT) : pcall I.row_Same [.imm s (a.1.map RowT.a), slA RowT.a b] = some (.bool (decide (a = b))) := by
  rw [pcall_eq c_row_Same rfl, ← sl_dec]
  have : pcall I.slices_EqualFunc_api_Row_api_Row_api_Row_api_Row [.imm s (a.1.map RowT.a), slA RowT.a b, .fn I.row_equal [] []] = some (.bool (decide (a.1 = b.1))) := EqF_Row (f := RowT.a) (g := .fn I.row_equal [] []) (t := s) (t' := true) (l := a.1) (m := b.1) a.2 (fun a => ⟨rfl, rfl⟩) (fun fl top σ _ => by simp) (fun a b σ => by
    simp [row_Same_116])
  simp [f_row_Same, b_row_Same, this]
theorem bn {α : Type} [BEq α] [LawfulBEq α] {a b : α} (h : ¬ a = b) : (a != b) = true := by simp [h]
theorem eqa_val (a b : Val) : eqa true [0, 0, 0, 2] a.a b.a = some (.bool (!decide (a = b))) := by
  cases a; cases b
  simp [Val.a, eqa, Val.mk.injEq]
  repeat (split <;> simp_all)
theorem same_loop {α : Type} [DecidableEq α] {l m : List α} {base : Nat} {clr : List Nat} {b : ACode} {S : Nat → St} {E : Ex × St} {j : Nat} (hlen : l.length = m.length)
    (hst : ∀ k (h1 : k < l.length) (h2 : k < m.length), l[k] = m[k] → thenLoop base clr b (run code b (S k)) = rounds code base clr b (S (k + 1)))
    (hend : thenLoop base clr b (run code b (S l.length)) = some E)
    (hne : ∀ k (h1 : k < l.length) (h2 : k < m.length), l[k] ≠ m[k] → ∃ s, thenLoop base clr b (run code b (S k)) = some (.ret, s) ∧ s.env[j]? = some (.bool false)) :
    (l = m ∧ rounds code base clr b (S 0) = some E) ∨ (¬ l = m ∧ ∃ s, rounds code base clr b (S 0) = some (.ret, s) ∧ s.env[j]? = some (.bool false)) := by
  obtain ⟨d, h1, h2, h3⟩ := same_diff hlen
  rcases h3 with ⟨e1, e2⟩ | ⟨q1, q2, e1, e2⟩
  · refine .inl ⟨of_decide_eq_true e2, rounds_iter S d _ (fun k hk => hst k (by omega) (by omega) (h2 k hk (by omega) (by omega))) ?_⟩
    rw [e1]; exact hend
  · obtain ⟨s, a1, a2⟩ := hne d q1 q2 e1
    exact .inr ⟨of_decide_eq_false e2, s, rounds_iter S d _ (fun k hk => hst k (by omega) (by omega) (h2 k hk (by omega) (by omega))) a1, a2⟩
theorem leave_at {s : St} {j : Nat} {b : Bool} (h : s.env[j]? = some (.bool b)) : thenLeave .pure [.env j] (some (.ret, s)) = some (.bool b) := by
  simp [thenLeave, leave, h]
theorem slA_imm {α : Type} (f : α → AVal) (l : SL α) : ∃ xs, slA f l = .imm true xs ∧ xs.length = l.1.length := ⟨_, rfl, by simp⟩
theorem loop21i (s0 : Bool) (xs0 ys0 : List AVal) (k0 : Nat) (a b : SL Val) (hlen : a.1.length = b.1.length) (hx : xs0[k0]? = some (slA Val.a a)) (hy : ys0[k0]? = some (slA Val.a b)) : (a = b ∧ rounds code 0 [2, 8, 9] l_bref21_Same_0 ⟨[.imm s0 xs0, .imm true ys0, .any, .int .i64 (k0 : Nat), .int .i64 0, .bool false, .bool true, .bool false, .any, .any], []⟩ = some (.ext 2, ⟨[.imm s0 xs0, .imm true ys0, .any, .int .i64 (k0 : Nat), .int .i64 a.1.length, .bool false, .bool true, .bool false, .bool false, .any], []⟩)) ∨
    (¬ a = b ∧ ∃ s, rounds code 0 [2, 8, 9] l_bref21_Same_0 ⟨[.imm s0 xs0, .imm true ys0, .any, .int .i64 (k0 : Nat), .int .i64 0, .bool false, .bool true, .bool false, .any, .any], []⟩ = some (.ret, s) ∧ s.env[2]? = some (.bool false)) := by
  obtain ⟨l, hn⟩ := a
  obtain ⟨m, hm⟩ := b
  simp only [Subtype.mk.injEq]
  have hf : ∀ a : Val, ncells (Val.a a) = 4 ∧ isAgg (Val.a a) = true := fun a => ⟨rfl, rfl⟩
  have hz : ∀ (a : Val) (top : Bool) (base : Nat) (σ : Store) (n : Nat), fz true top base σ (n + 3) (Val.a a) = Val.a a := fun a top base σ n => by simp [Val.a]
  generalize hX : l.map Val.a = xs
  generalize hY : m.map Val.a = ys
  have hA : slA Val.a ⟨l, hn⟩ = .imm true xs := by simp [slA, hX]
  have hB : slA Val.a ⟨m, hm⟩ = .imm true ys := by simp [slA, hY]
  have lX : xs.length = l.length := by rw [← hX]; simp
  have lY : ys.length = m.length := by rw [← hY]; simp
  simp only [hA, hB] at hx hy
  simp only at hlen
  refine same_loop (S := fun k => ⟨[.imm s0 xs0, .imm true ys0, .any, .int .i64 (k0 : Nat), .int .i64 k, .bool false, .bool true, .bool false, .any, .any], []⟩) hlen (fun k a1 a2 e6 => ?_) ?_ (fun k a1 a2 e6 => ?_)
  · have e1 : xs[k]? = some (Val.a l[k]) := by rw [← hX]; exact map_get a1
    have e2 : ys[k]? = some (Val.a m[k]) := by rw [← hY]; exact map_get a2
    rw [e6] at e1
    have e4 := hf m[k]
    generalize m[k] = x at *
    have i1 : ((k : Int) < (l.length : Int)) := by omega
    have i2 : bin .lss (.int .i64 (k : Int)) (.int .i64 (l.length : Int)) = some (.bool true) := by simp [i1]
    have i3 : bin .add (.int .i64 (k : Int)) (.int .i64 1) = some (.int .i64 ((k + 1 : Nat) : Int)) := by simp [wrap_sl a1 hn]
    have e3 := eqa_val x x
    simp [l_bref21_Same_0, -eqa, e1, e2, e4, i1, i2, i3, lX, hz, wrap_sl a1 hn, roundEnd, e3, hx, hy]
  · simp [l_bref21_Same_0, lX, hx, hy]; all_goals rfl
  · have e1 : xs[k]? = some (Val.a l[k]) := by rw [← hX]; exact map_get a1
    have e2 : ys[k]? = some (Val.a m[k]) := by rw [← hY]; exact map_get a2
    have e4 := hf m[k]
    have e5 := hf l[k]
    generalize m[k] = y at *
    generalize l[k] = x at *
    have i1 : ((k : Int) < (l.length : Int)) := by omega
    have i2 : bin .lss (.int .i64 (k : Int)) (.int .i64 (l.length : Int)) = some (.bool true) := by simp [i1]
    have e3 := eqa_val x y
    refine ⟨_, by simp [l_bref21_Same_0, -eqa, e1, e2, e4, e5, e6, bn e6, bq e6, i1, i2, lX, hz, e3, hx, hy]; rfl, ?_⟩
    rfl
theorem rows_Same_431 (s0 : Bool) (a b : SL RowT) : pcall I.bref21_Same [.imm s0 (a.1.map RowT.a), slA RowT.a b] = some (.bool (decide (a = b))) := by
  rw [pcall_eq c_bref21_Same rfl, ← sl_dec]
  obtain ⟨l, hn⟩ := a
  obtain ⟨m, hm⟩ := b
  simp only [slA]
  generalize hX : l.map RowT.a = xs
  generalize hY : m.map RowT.a = ys
  have lX : xs.length = l.length := by rw [← hX]; simp
  have lY : ys.length = m.length := by rw [← hY]; simp
  by_cases hlen : l.length = m.length
  · have hloop := same_loop (l := l) (m := m) (base := 0) (clr := [2, 4, 6, 7, 8, 9]) (b := l_bref21_Same_1) (j := 2) (S := fun k => ⟨[.imm s0 xs, .imm true ys, .any, .int .i64 k, .any, .bool false, .any, .any, .any, .any], []⟩)
      (E := (.ext 0, ⟨[.imm s0 xs, .imm true ys, .any, .int .i64 l.length, .any, .bool false, .bool false, .any, .any, .any], []⟩)) hlen (fun k a1 a2 e6 => by
        have e1 : xs[k]? = some (slA Val.a l[k]) := by rw [← hX]; exact map_get a1
        have e2 : ys[k]? = some (slA Val.a m[k]) := by rw [← hY]; exact map_get a2
        have hi := loop21i s0 xs ys k l[k] m[k] (by rw [e6]) e1 e2
        rw [e6] at e1 hi
        generalize m[k] = x at *
        obtain ⟨zs, hZ, lZ⟩ := slA_imm Val.a x
        rw [hZ] at e1 e2
        have i1 : ((k : Int) < (l.length : Int)) := by omega
        rcases hi with ⟨_, hi⟩ | ⟨h, _⟩
        · simp [l_bref21_Same_1, e1, e2, i1, lX, lZ, hi, wrap_sl a1 hn, roundEnd]
        · exact absurd rfl h) (by simp [l_bref21_Same_1, lX]) (fun k a1 a2 e6 => by
        have e1 : xs[k]? = some (slA Val.a l[k]) := by rw [← hX]; exact map_get a1
        have e2 : ys[k]? = some (slA Val.a m[k]) := by rw [← hY]; exact map_get a2
        have i1 : ((k : Int) < (l.length : Int)) := by omega
        have hi : l[k].1.length = m[k].1.length → _ := fun hh => loop21i s0 xs ys k l[k] m[k] hh e1 e2
        generalize m[k] = y at *
        generalize l[k] = x at *
        obtain ⟨zs, hZ, lZ⟩ := slA_imm Val.a x
        obtain ⟨ws, hW, lW⟩ := slA_imm Val.a y
        rw [hZ] at e1
        rw [hW] at e2
        by_cases hl : x.1.length = y.1.length
        · rcases hi hl with ⟨h, _⟩ | ⟨_, s, hi, hs⟩
          · exact absurd h e6
          · exact ⟨s, by simp [l_bref21_Same_1, e1, e2, i1, lX, lZ, lW, hl, hi], hs⟩
        · refine ⟨_, by simp [l_bref21_Same_1, e1, e2, i1, lX, lZ, lW, bne_len hl]; rfl, ?_⟩
          rfl)
    rcases hloop with ⟨h, hl⟩ | ⟨h, s, hl, hs⟩
    · rw [decide_eq_true h]
      simp [hlen] at hl
      simp [f_bref21_Same, b_bref21_Same, lX, lY, hlen, hl]
    · rw [decide_eq_false h]
      simp at hl
      simp [f_bref21_Same, b_bref21_Same, lX, lY, hlen, hl, leave_at hs]
  · have hne : decide (l = m) = false := decide_eq_false fun e => hlen (congrArg List.length e)
    rw [hne]
    simp [f_bref21_Same, b_bref21_Same, lX, lY, bne_len hlen]
end Go.AM
end
section

namespace Go.AM
open P
set_option maxHeartbeats 8000000
set_option maxRecDepth 8000
theorem over_loop {n : Nat} {base : Nat} {clr : List Nat} {b : ACode} {S : Nat → St} {E : Ex × St} {j : Nat}
    (hst : ∀ k, k < n → thenLoop base clr b (run code b (S k)) = rounds code base clr b (S (k + 1)) ∨ ∃ s, thenLoop base clr b (run code b (S k)) = some (.ret, s) ∧ s.env[j]? = some (.bool true))
    (hend : thenLoop base clr b (run code b (S n)) = some E) :
    rounds code base clr b (S 0) = some E ∨ ∃ s, rounds code base clr b (S 0) = some (.ret, s) ∧ s.env[j]? = some (.bool true) := by
  have key : ∀ m k, k + m = n → rounds code base clr b (S k) = some E ∨ ∃ s, rounds code base clr b (S k) = some (.ret, s) ∧ s.env[j]? = some (.bool true) := by
    intro m
    induction m with
    | zero =>
      intro k h
      have : k = n := by omega
      subst this
      exact .inl ((rounds_go' _ _ _ _).trans hend)
    | succ m ih =>
      intro k h
      rw [rounds_go']
      rcases hst k (by omega) with h1 | ⟨s, h1, h2⟩
      · rw [h1]; exact ih (k + 1) (by omega)
      · exact .inr ⟨s, h1, h2⟩
  exact key n 0 (by omega)
theorem over421i (xs0 : List AVal) (n7 k8 : Int) (a : SL Val) : rounds code 0 [1, 3, 13, 14] l_blaw21_overRows_0 ⟨[.imm true xs0, .any, slA Val.a a, .any, .bool false, .imm true xs0, .int .i64 n7, .int .i64 k8, .bool true, .bool false, slA Val.a a, .int .i64 a.1.length, .int .i64 0, .any, .any], []⟩ = some (.ext 2, ⟨[.imm true xs0, .any, slA Val.a a, .any, .bool false, .imm true xs0, .int .i64 n7, .int .i64 k8, .bool true, .bool false, slA Val.a a, .int .i64 a.1.length, .int .i64 a.1.length, .bool false, .any], []⟩) ∨
    ∃ s, rounds code 0 [1, 3, 13, 14] l_blaw21_overRows_0 ⟨[.imm true xs0, .any, slA Val.a a, .any, .bool false, .imm true xs0, .int .i64 n7, .int .i64 k8, .bool true, .bool false, slA Val.a a, .int .i64 a.1.length, .int .i64 0, .any, .any], []⟩ = some (.ret, s) ∧ s.env[1]? = some (.bool true) := by
  obtain ⟨l, hn⟩ := a
  have hf : ∀ a : Val, ncells (Val.a a) = 4 ∧ isAgg (Val.a a) = true := fun a => ⟨rfl, rfl⟩
  have hz : ∀ (a : Val) (top : Bool) (base : Nat) (σ : Store) (n : Nat), fz true top base σ (n + 3) (Val.a a) = Val.a a := fun a top base σ n => by simp [Val.a]
  generalize hX : l.map Val.a = xs
  have hA : slA Val.a ⟨l, hn⟩ = .imm true xs := by simp [slA, hX]
  have lX : xs.length = l.length := by rw [← hX]; simp
  simp only [hA]
  refine over_loop (n := l.length) (S := fun k => ⟨[.imm true xs0, .any, .imm true xs, .any, .bool false, .imm true xs0, .int .i64 n7, .int .i64 k8, .bool true, .bool false, .imm true xs, .int .i64 l.length, .int .i64 k, .any, .any], []⟩) (fun k a1 => ?_) ?_
  · have e1 : xs[k]? = some (Val.a l[k]) := by rw [← hX]; exact map_get a1
    have e4 := hf l[k]
    generalize l[k] = x1 at *
    have i1 : ((k : Int) < (l.length : Int)) := by omega
    have i2 : bin .lss (.int .i64 (k : Int)) (.int .i64 (l.length : Int)) = some (.bool true) := by simp [i1]
    have i3 : bin .add (.int .i64 (k : Int)) (.int .i64 1) = some (.int .i64 ((k + 1 : Nat) : Int)) := by simp [wrap_sl a1 hn]
    obtain ⟨c, hc⟩ : ∃ c, decide ((100 : Int) < (x1.s.length : Int)) = c := ⟨_, rfl⟩
    cases c <;>
    first
      | (refine .inl ?_; simp [l_blaw21_overRows_0, e1, e4, i1, i2, i3, lX, hz, wrap_sl a1 hn, roundEnd, Val.a, hc, freezeObj, freeze, fuel]; done)
      | (refine .inr ⟨_, by simp [l_blaw21_overRows_0, e1, e4, i1, i2, i3, lX, hz, Val.a, hc, freezeObj, freeze, fuel]; rfl, ?_⟩; rfl)
  · simp [l_blaw21_overRows_0, lX]
theorem over421 (a : SL RowT) : rounds code 0 [1, 2, 3, 8, 9, 10, 11, 12, 13, 14] l_blaw21_overRows_1 ⟨[slA RowT.a a, .any, .any, .any, .bool false, slA RowT.a a, .int .i64 a.1.length, .int .i64 0, .any, .any, .any, .any, .any, .any, .any], []⟩ = some (.ext 0, ⟨[slA RowT.a a, .any, .any, .any, .bool false, slA RowT.a a, .int .i64 a.1.length, .int .i64 a.1.length, .bool false, .any, .any, .any, .any, .any, .any], []⟩) ∨
    ∃ s, rounds code 0 [1, 2, 3, 8, 9, 10, 11, 12, 13, 14] l_blaw21_overRows_1 ⟨[slA RowT.a a, .any, .any, .any, .bool false, slA RowT.a a, .int .i64 a.1.length, .int .i64 0, .any, .any, .any, .any, .any, .any, .any], []⟩ = some (.ret, s) ∧ s.env[1]? = some (.bool true) := by
  obtain ⟨l, hn⟩ := a
  have hf : ∀ a : RowT, ncells (RowT.a a) = 1 ∧ isAgg (RowT.a a) = false := fun a => ⟨rfl, rfl⟩
  have hz : ∀ (a : RowT) (top : Bool) (base : Nat) (σ : Store) (n : Nat), fz true top base σ (n + 3) (RowT.a a) = RowT.a a := fun a top base σ n => by simp
  generalize hX : l.map RowT.a = xs
  have hA : slA RowT.a ⟨l, hn⟩ = .imm true xs := by simp [slA, hX]
  have lX : xs.length = l.length := by rw [← hX]; simp
  simp only [hA]
  refine over_loop (n := l.length) (S := fun k => ⟨[.imm true xs, .any, .any, .any, .bool false, .imm true xs, .int .i64 l.length, .int .i64 k, .any, .any, .any, .any, .any, .any, .any], []⟩) (fun k a1 => ?_) ?_
  · have e1 : xs[k]? = some (RowT.a l[k]) := by rw [← hX]; exact map_get a1
    have e4 := hf l[k]
    generalize l[k] = x1 at *
    have i1 : ((k : Int) < (l.length : Int)) := by omega
    have i2 : bin .lss (.int .i64 (k : Int)) (.int .i64 (l.length : Int)) = some (.bool true) := by simp [i1]
    have i3 : bin .add (.int .i64 (k : Int)) (.int .i64 1) = some (.int .i64 ((k + 1 : Nat) : Int)) := by simp [wrap_sl a1 hn]
    obtain ⟨c, hc⟩ : ∃ c, decide ((20 : Int) < (x1.1.length : Int)) = c := ⟨_, rfl⟩
    have hi := over421i xs l.length k x1
    obtain ⟨zs, hZ, lZ⟩ := slA_imm Val.a x1
    simp only [hZ] at e1 hi
    clear e4
    cases c <;> rcases hi with hi | ⟨s, hi, hs⟩ <;>
    first
      | (refine .inl ?_; simp [l_blaw21_overRows_1, e1, i1, i2, i3, lX, hz, wrap_sl a1 hn, roundEnd, lZ, hi, hc, freezeObj, freeze, fuel]; done)
      | (refine .inr ⟨_, by simp [l_blaw21_overRows_1, e1, i1, i2, i3, lX, hz, lZ, hi, hc, freezeObj, freeze, fuel]; rfl, ?_⟩; rfl)
      | exact .inr ⟨s, by simp [l_blaw21_overRows_1, e1, i1, i2, i3, lX, hz, lZ, hi, hc, freezeObj, freeze, fuel], hs⟩
  · simp [l_blaw21_overRows_1, lX]
theorem overRows_421 (a : SL RowT) : ∃ c, pcall I.blaw21_overRows [slA RowT.a a] = some (.bool c) := by
  rw [pcall_eq c_blaw21_overRows rfl]
  have hl := over421 a
  obtain ⟨xs, hA, lX⟩ := slA_imm RowT.a a
  simp only [hA] at hl ⊢
  obtain ⟨c, hc⟩ : ∃ c, decide ((30 : Int) < (a.1.length : Int)) = c := ⟨_, rfl⟩
  cases c
  · rcases hl with hl | ⟨s, hl, hs⟩
    · exact ⟨false, by simp [f_blaw21_overRows, b_blaw21_overRows, lX, hc, hl]⟩
    · exact ⟨true, by simp [f_blaw21_overRows, b_blaw21_overRows, lX, hc, hl, leave_at hs]⟩
  · exact ⟨true, by simp [f_blaw21_overRows, b_blaw21_overRows, lX, hc]⟩
end Go.AM
end

namespace Go.AM
def wk0 : AVal := .tup [.agg [.imm false [.agg [.str [116], .imm false [.agg [.str [97], .int .i64 2]], .imm false []]]], .agg [.imm false [.agg [.imm false [.imm false [.imm false [.agg [.int .i64 2, .int .i64 1, .int .u64 0, .str []]], .imm false [.agg [.int .i64 2, .int .i64 3, .int .u64 0, .str []]]]]], .agg [.imm false [.imm false [.imm false [.agg [.int .i64 2, .int .i64 2, .int .u64 0, .str []]]]]]]], .agg [.imm false [.agg [.int .i64 1, .int .i64 (-1), .int .i64 (-1), .int .i64 0, .imm false [.int .i64 2], .bool false, .imm false [], .imm false [], .imm false [], .imm false [], .imm false [], .int .i64 0], .agg [.int .i64 4, .int .i64 0, .int .i64 (-1), .int .i64 0, .imm false [], .bool false, .imm false [], .imm false [], .imm false [.agg [.int .i64 3, .imm false [.agg [.int .i64 2, .int .i64 (-1), .int .i64 (-1), .int .i64 0, .int .i64 0, .int .i64 0, .int .u64 0, .str []]]]], .imm false [], .imm false [], .int .i64 0]]]]
def wk1 : AVal := .tup [.agg [.imm false [.agg [.imm false [.agg [.int .i64 1, .int .i64 (-1), .int .i64 (-1), .int .i64 0, .imm false [.int .i64 2], .bool false, .imm false [], .imm false [], .imm false [], .imm false [], .imm false [], .int .i64 0], .agg [.int .i64 10, .int .i64 0, .int .i64 (-1), .int .i64 0, .imm false [], .bool false, .imm false [], .imm false [], .imm false [.agg [.int .i64 3, .imm false [.agg [.int .i64 2, .int .i64 (-1), .int .i64 (-1), .int .i64 0, .int .i64 0, .int .i64 0, .int .u64 0, .str []]]]], .imm false [], .imm false [], .int .i64 0]], .int .i64 1, .int .i64 3, .imm false []], .agg [.imm false [.agg [.int .i64 9, .int .i64 (-1), .int .i64 (-1), .int .i64 0, .imm false [.int .i64 4], .bool false, .imm false [], .imm false [], .imm false [], .imm false [], .imm false [], .int .i64 0], .agg [.int .i64 11, .int .i64 0, .int .i64 (-1), .int .i64 0, .imm false [], .bool false, .imm false [], .imm false [], .imm false [.agg [.int .i64 3, .imm false []]], .imm false [], .imm false [], .int .i64 0]], .int .i64 2, .int .i64 4, .imm false []]]], .int .i64 0]
def wk3 : AVal := .tup [.cptr false (.agg [.imm false [.agg [.imm false [.agg [.int .i64 1, .int .i64 (-1), .int .i64 (-1), .int .i64 0, .imm false [.int .i64 2], .bool false, .imm false [], .imm false [], .imm false [], .imm false [], .imm false [], .int .i64 0], .agg [.int .i64 10, .int .i64 0, .int .i64 (-1), .int .i64 0, .imm false [], .bool false, .imm false [], .imm false [], .imm false [.agg [.int .i64 3, .imm false [.agg [.int .i64 2, .int .i64 (-1), .int .i64 (-1), .int .i64 0, .int .i64 0, .int .i64 0, .int .u64 0, .str []]]]], .imm false [], .imm false [], .int .i64 0]], .int .i64 1, .int .i64 3, .imm false []], .agg [.imm false [.agg [.int .i64 9, .int .i64 (-1), .int .i64 (-1), .int .i64 0, .imm false [.int .i64 4], .bool false, .imm false [], .imm false [], .imm false [], .imm false [], .imm false [], .int .i64 0], .agg [.int .i64 11, .int .i64 0, .int .i64 (-1), .int .i64 0, .imm false [], .bool false, .imm false [], .imm false [], .imm false [.agg [.int .i64 3, .imm false []]], .imm false [], .imm false [], .int .i64 0]], .int .i64 2, .int .i64 4, .imm false []]], .imm false [.agg [.imm false [.imm false [.imm false [.agg [.int .i64 2, .int .i64 1, .int .u64 0, .str []]], .imm false [.agg [.int .i64 2, .int .i64 3, .int .u64 0, .str []]]]]], .agg [.imm false [.imm false [.imm false [.agg [.int .i64 2, .int .i64 2, .int .u64 0, .str []]]]]]], .imap false [(.agg [.int .i64 0, .int .i64 1], .agg [.bool true, .imm false [.imm false [.agg [.int .i64 4, .int .i64 0, .int .u64 4, .str []]]], .int .i64 0, .imm false [.imm false [.imm false [.agg [.int .i64 4, .int .i64 0, .int .u64 4, .str []]]]]]), (.agg [.int .i64 0, .int .i64 2], .agg [.bool true, .imm false [.imm false [.agg [.int .i64 4, .int .i64 0, .int .u64 2, .str []]]], .int .i64 0, .imm false [.imm false [.imm false [.agg [.int .i64 4, .int .i64 0, .int .u64 2, .str []]]]]]), (.agg [.int .i64 1, .int .i64 0], .agg [.bool true, .imm false [.imm false [.agg [.int .i64 2, .int .i64 6, .int .u64 0, .str []]]], .int .i64 0, .imm false [.imm false [.imm false [.agg [.int .i64 2, .int .i64 6, .int .u64 0, .str []]]]]])]]) 0, .int .i64 0]
def tupAt (i : Nat) : AVal → AVal
  | .tup l => l.getD i .any
  | _ => .any
end Go.AM

namespace Go.AM
def callB (P : Code) (C : CallF) (n : Nat) : CallF := fun f args σ => match P.fns f with
  | .none => none
  | .prim k => P.prims k C args σ
  | .fn g => callG C n g args σ
  | .nilfn g => match args with
    | x :: rest =>
      if emptyS σ x then (callG C n g (.emp true :: rest) σ).bind fun r => (callG C n g (.emp false :: rest) σ).bind fun q => if same r.1 q.1 && sameS r.2 q.2 then some r else none
      else callG C n g args σ
    | [] => none
  | .round g => match args with
    | .frs l _ :: rest =>
      match σ[l]? with
      | some (.pend false none) =>
        if (rest.drop g.nenv).length = g.params.length then
          (exec C n g.pre ⟨putEnv (rest.take g.nenv) g.params (rest.drop g.nenv), σ⟩).bind (roundGo C n l g.body)
        else none
      | _ => none
    | _ => none
theorem callN_succ (P : Code) (n : Nat) (f : Nat) (args : List AVal) (σ : Store) : callN P (n + 1) f args σ = callB P (callN P n) n f args σ := by
  simp only [callN, callB]
  rfl
theorem callB_mono {P : Code} (hP : P.Good) {C D : CallF} {n m : Nat} (hC : CLe C D) (hm : n ≤ m) : CLe (callB P C n) (callB P D m) := fun f args σ r h => by
  unfold callB at h ⊢
  split at h
  · cases h
  · exact hP _ _ _ _ _ _ hC h
  · exact callG_mono hC hm h
  · split at h
    · split at h
      · rename_i hc
        rw [if_pos hc]
        rw [Option.bind_eq_some_iff] at h ⊢
        obtain ⟨x, hx, hr⟩ := h
        refine ⟨x, callG_mono hC hm hx, ?_⟩
        rw [Option.bind_eq_some_iff] at hr ⊢
        obtain ⟨y, hy, hr⟩ := hr
        exact ⟨y, callG_mono hC hm hy, hr⟩
      · rename_i hc
        rw [if_neg hc]
        exact callG_mono hC hm h
    · cases h
  · split at h
    · split at h
      · split at h
        · rename_i hl
          rw [if_pos hl]
          rw [Option.bind_eq_some_iff] at h ⊢
          obtain ⟨x, hx, hr⟩ := h
          exact ⟨x, exec_mono hC hm hx, roundGo_mono hC hm hr⟩
        · cases h
      · cases h
    · cases h
structure Known where
  f : Nat
  args : List AVal
  out : AVal
def known (m : List Known) (f : Nat) (args : List AVal) : Option AVal := (m.find? fun e => e.f == f && sameL e.args args).map (·.out)
def callM (P : Code) (m : List Known) : Nat → CallF
  | 0 => fun _ _ _ => none
  | n + 1 => fun f args σ => match known m f (args.map (snap σ)) with
    | some v => some (v, σ)
    | none => callB P (callM P m n) n f args σ
def isPureFn : AEntry → Bool
  | .fn g => g.mode.isPure
  | _ => false
def Known.Ok (P : Code) (N : Nat) (e : Known) : Prop := isPureFn (P.fns e.f) = true ∧ callN P N e.f e.args [] = some (e.out, [])
theorem callN_pure {P : Code} {N f : Nat} (hp : isPureFn (P.fns f) = true) {args : List AVal} {σ : Store} {v : AVal} (h : callN P N f (args.map (snap σ)) [] = some (v, [])) : callN P N f args σ = some (v, σ) := by
  cases N with
  | zero => cases h
  | succ n =>
    cases hf : P.fns f with
    | fn g =>
      rw [hf] at hp
      have hm : g.mode.isPure = true := hp
      rw [callN_succ] at h ⊢
      unfold callB at h ⊢
      rw [hf] at h ⊢
      dsimp only at h ⊢
      unfold callG at h ⊢
      have he : enter g args σ = enter g (args.map (snap σ)) [] := by
        have h1 : ((args.map (snap σ)).take g.np).map (snap []) = (args.take g.np).map (snap σ) := by
          rw [← List.map_take, List.map_map]; exact List.map_congr_left fun x _ => snap_idem σ [] x
        unfold enter
        cases hg : g.mode <;> rw [hg] at hm <;> first | exact absurd hm (by decide) | (simp only [h1])
      rw [he]
      rw [Option.bind_eq_some_iff] at h ⊢
      obtain ⟨r, hr, hl⟩ := h
      refine ⟨r, hr, ?_⟩
      obtain ⟨e, s⟩ := r
      have key : (results s g.res).map (fun v => finish g.mode [] s v) = some (v, []) → (results s g.res).map (fun v => finish g.mode σ s v) = some (v, σ) := fun h => by
        cases hq : results s g.res with
        | none => rw [hq] at h; cases h
        | some x =>
          rw [hq] at h
          cases hg : g.mode <;> rw [hg] at hm h <;> first | exact absurd hm (by decide) | (simp only [Option.map_some, Option.some.injEq, finish, Prod.mk.injEq] at h ⊢; exact ⟨h.1, trivial⟩)
      cases e with
      | ext _ => cases hl
      | nrm => exact key hl
      | ret => exact key hl
    | _ => rw [hf] at hp; cases hp
theorem callM_le {P : Code} (hP : P.Good) {m : List Known} {N : Nat} (hm : ∀ e ∈ m, e.Ok P N) : ∀ n, CLe (callM P m n) (callN P (n + N))
  | 0 => fun _ _ _ _ h => by cases h
  | n + 1 => fun f args σ r h => by
    have ih := callM_le hP hm n
    unfold callM at h
    split at h
    · rename_i v hv
      cases h
      unfold known at hv
      rw [Option.map_eq_some_iff] at hv
      obtain ⟨e, he, hv⟩ := hv
      subst hv
      have hin := List.mem_of_find?_eq_some he
      have hp := List.find?_some he
      simp only [Bool.and_eq_true, beq_iff_eq] at hp
      obtain ⟨rfl, h2⟩ := hp
      have h2 := sameL_eq h2
      obtain ⟨k1, k2⟩ := hm e hin
      rw [h2] at k2
      have := callN_pure k1 k2
      have hmo := (callN_mono hP e.f args σ).le (show N ≤ n + 1 + N by omega) this
      exact hmo
    · rw [show n + 1 + N = (n + N) + 1 by omega, callN_succ]
      exact callB_mono hP ih (Nat.le_add_right n N) f args σ r h
theorem Known.Ok.mono {N N' : Nat} {e : Known} {P : Code} (hP : P.Good) (h : e.Ok P N) (hn : N ≤ N') : e.Ok P N' := ⟨h.1, (callN_mono hP e.f e.args []).le hn h.2⟩
end Go.AM
