/- PRINTED: each operation's equation. -/
import Derived.Test.YtmkkmacbmlcfaaaGreatDoorAm10
import GoSem.ClaimData
set_option linter.unusedVariables false
set_option linter.unusedSimpArgs false
set_option linter.unusedSectionVars false
namespace Go.AM
section
variable {P : Code}
theorem s_mov (env ls : List AVal) (σ : Store) (x : Opd) : step P env ls σ (.mov x) = (some (x.eval env ls, σ)) := by
  unfold step; simp only [stepOp]; exact lim_const _
theorem s_pick (env ls : List AVal) (σ : Store) (c : Opd) (a : Opd) (b : Opd) : step P env ls σ (.pick c a b) = ((pickV (a.eval env ls) (b.eval env ls) (c.eval env ls)).map (·, σ)) := by
  unfold step; simp only [stepOp]; exact lim_const _
theorem s_box (env ls : List AVal) (σ : Store) (k : Nat) (x : Opd) : step P env ls σ (.box k x) = (let v := x.eval env ls; if ncells v = k then some (.ptr σ.length 0 0 0, σ ++ [.arr k 0 [v]]) else none) := by
  unfold step; simp only [stepOp]; exact lim_const _
theorem s_build (env ls : List AVal) (σ : Store) (zero : List AVal) (parts : List (Nat × Nat × Opd)) : step P env ls σ (.build zero parts) = ((fill zero (parts.map fun p => (p.1, p.2.1, p.2.2.eval env ls))).map fun cs => (.agg cs, σ)) := by
  unfold step; simp only [stepOp]; exact lim_const _
theorem s_mknil (env ls : List AVal) (σ : Store) (k : Nat) : step P env ls σ (.mknil k) = (some (.sl σ.length 0 0 0, σ ++ [.arr k 0 []])) := by
  unfold step; simp only [stepOp]; exact lim_const _
theorem s_mkl (env ls : List AVal) (σ : Store) (k : Nat) (xs : List Opd) : step P env ls σ (.mkl k xs) = (let vs := xs.map (·.eval env ls); if vs.all (fun v => ncells v == k) then some (.lst vs, σ) else none) := by
  unfold step; simp only [stepOp]; exact lim_const _
theorem s_mksl (env ls : List AVal) (σ : Store) (k : Nat) (xs : List Opd) : step P env ls σ (.mksl k xs) = (let vs := xs.map (·.eval env ls)
    if vs = [] then some (.nil0, σ) else
    if vs.all (fun v => ncells v == k) then some (.sl σ.length 0 0 vs.length, σ ++ [.arr k 0 vs]) else none) := by
  unfold step; simp only [stepOp]; exact lim_const _
theorem s_mkslz (env ls : List AVal) (σ : Store) (k : Nat) (zero : AVal) (n : Nat) (parts : List (Nat × Opd)) : step P env ls σ (.mkslz k zero n parts) = (let vs := setAll (List.replicate n zero) (parts.map fun p => (p.1, p.2.eval env ls))
    if vs.all (fun v => ncells v == k) then some (.sl σ.length 0 0 n, σ ++ [.arr k 0 vs]) else none) := by
  unfold step; simp only [stepOp]; exact lim_const _
theorem s_make (env ls : List AVal) (σ : Store) (k : Nat) (zero : AVal) (n : Opd) (c : Opd) : step P env ls σ (.make k zero n c) = ((asNat (n.eval env ls)).bind fun m => (asNat (c.eval env ls)).bind fun d =>
      if m = d ∧ ncells zero = k ∧ m ≤ most then some (.sl σ.length 0 0 m, σ ++ [.arr k 0 (List.replicate m zero)]) else none) := by
  unfold step; simp only [stepOp]; exact lim_const _
theorem s_load (env ls : List AVal) (σ : Store) (a : Bool) (s : Nat) (x : Opd) : step P env ls σ (.load a s x) = ((loadAt a s (x.eval env ls) σ).map (·, σ)) := by
  unfold step; simp only [stepOp]; exact lim_const _
theorem s_store (env ls : List AVal) (σ : Store) (s : Nat) (x : Opd) (v : Opd) : step P env ls σ (.store s x v) = ((storeAt s (x.eval env ls) (v.eval env ls) σ).map (.any, ·)) := by
  unfold step; simp only [stepOp]; exact lim_const _
theorem s_fld (env ls : List AVal) (σ : Store) (off : Nat) (x : Opd) : step P env ls σ (.fld off x) = ((fldV σ off (x.eval env ls)).map (·, σ)) := by
  unfold step; simp only [stepOp]; exact lim_const _
theorem s_fldv (env ls : List AVal) (σ : Store) (a : Bool) (s : Nat) (off : Nat) (x : Opd) : step P env ls σ (.fldv a s off x) = ((partV a s off (x.eval env ls)).map (·, σ)) := by
  unfold step; simp only [stepOp]; exact lim_const _
theorem s_idxs (env ls : List AVal) (σ : Store) (k : Nat) (x : Opd) (i : Opd) : step P env ls σ (.idxs k x i) = ((asNat (i.eval env ls)).bind fun n => (idxsV σ k n (x.eval env ls)).map (·, σ)) := by
  unfold step; simp only [stepOp]; exact lim_const _
theorem s_idxa (env ls : List AVal) (σ : Store) (m : Nat) (s : Nat) (x : Opd) (i : Opd) : step P env ls σ (.idxa m s x i) = ((asNat (i.eval env ls)).bind fun n => if n < m then (fldV σ (n * s) (x.eval env ls)).map (·, σ) else none) := by
  unfold step; simp only [stepOp]; exact lim_const _
theorem s_idxv (env ls : List AVal) (σ : Store) (a : Bool) (m : Nat) (s : Nat) (x : Opd) (i : Opd) : step P env ls σ (.idxv a m s x i) = ((asNat (i.eval env ls)).bind fun n => if n < m then (partV a s (n * s) (x.eval env ls)).map (·, σ) else none) := by
  unfold step; simp only [stepOp]; exact lim_const _
theorem s_idxt (env ls : List AVal) (σ : Store) (x : Opd) (i : Opd) : step P env ls σ (.idxt x i) = ((asNat (i.eval env ls)).bind fun n => (idxtV n (x.eval env ls)).map (·, σ)) := by
  unfold step; simp only [stepOp]; exact lim_const _
theorem s_bin (env ls : List AVal) (σ : Store) (op : BinOp) (x : Opd) (y : Opd) : step P env ls σ (.bin op x y) = ((bin op (x.eval env ls) (y.eval env ls)).map (·, σ)) := by
  unfold step; simp only [stepOp]; exact lim_const _
theorem s_eqb (env ls : List AVal) (σ : Store) (n : Bool) (x : Opd) (y : Opd) : step P env ls σ (.eqb n x y) = ((eqb n (x.eval env ls) (y.eval env ls)).map (·, σ)) := by
  unfold step; simp only [stepOp]; exact lim_const _
theorem s_eqa (env ls : List AVal) (σ : Store) (n : Bool) (ks : List Nat) (x : Opd) (y : Opd) : step P env ls σ (.eqa n ks x y) = ((eqa n ks (x.eval env ls) (y.eval env ls)).map (·, σ)) := by
  unfold step; simp only [stepOp]; exact lim_const _
theorem s_isnil (env ls : List AVal) (σ : Store) (f n : Bool) (x : Opd) : step P env ls σ (.isnil f n x) = (if (if f then isFn (x.eval env ls) else isPtr (x.eval env ls)) then (isnil n (x.eval env ls)).map (·, σ) else none) := by
  unfold step; simp only [stepOp]; exact lim_const _
theorem s_nils (env ls : List AVal) (σ : Store) (n : Bool) (x : Opd) : step P env ls σ (.nils n x) = ((nilsV n σ (x.eval env ls)).map (·, σ)) := by
  unfold step; simp only [stepOp]; exact lim_const _
theorem s_una (env ls : List AVal) (σ : Store) (op : UnOp) (x : Opd) : step P env ls σ (.una op x) = ((una op (x.eval env ls)).map (·, σ)) := by
  unfold step; simp only [stepOp]; exact lim_const _
theorem s_conv (env ls : List AVal) (σ : Store) (k : IntKind) (x : Opd) : step P env ls σ (.conv k x) = ((convV k (x.eval env ls)).map (·, σ)) := by
  unfold step; simp only [stepOp]; exact lim_const _
theorem s_slice (env ls : List AVal) (σ : Store) (k : Nat) (x : Opd) (lo : Option Opd) (hi : Option Opd) : step P env ls σ (.slice k x lo hi) = (let v := x.eval env ls
    (alen σ v).bind fun n => (opt env ls 0 lo).bind fun l => (opt env ls n hi).bind fun h => (aslice σ k v l h).map (·, σ)) := by
  unfold step; simp only [stepOp]; exact lim_const _
theorem s_slicet (env ls : List AVal) (σ : Store) (x : Opd) (lo : Option Opd) (hi : Option Opd) : step P env ls σ (.slicet x lo hi) = (let v := x.eval env ls
    (tlen v).bind fun n => (opt env ls 0 lo).bind fun l => (opt env ls n hi).bind fun h => (tslice v l h).map (·, σ)) := by
  unfold step; simp only [stepOp]; exact lim_const _
theorem s_slice0 (env ls : List AVal) (σ : Store) (x : Opd) : step P env ls σ (.slice0 x) = ((alen σ (x.eval env ls)).map fun _ => (.nil0, σ)) := by
  unfold step; simp only [stepOp]; exact lim_const _
theorem s_aslice (env ls : List AVal) (σ : Store) (n : Nat) (x : Opd) : step P env ls σ (.aslice n x) = ((aslV σ n (x.eval env ls)).map (·, σ)) := by
  unfold step; simp only [stepOp]; exact lim_const _
theorem s_len (env ls : List AVal) (σ : Store) (x : Opd) : step P env ls σ (.len x) = ((alen σ (x.eval env ls)).map fun (n : Nat) => (.int .i64 (n : Int), σ)) := by
  unfold step; simp only [stepOp]; exact lim_const _
theorem s_lent (env ls : List AVal) (σ : Store) (x : Opd) : step P env ls σ (.lent x) = ((tlen (x.eval env ls)).map fun (n : Nat) => (.int .i64 (n : Int), σ)) := by
  unfold step; simp only [stepOp]; exact lim_const _
theorem s_cap (env ls : List AVal) (σ : Store) (x : Opd) : step P env ls σ (.cap x) = ((capV (x.eval env ls)).map (·, σ)) := by
  unfold step; simp only [stepOp]; exact lim_const _
theorem s_app (env ls : List AVal) (σ : Store) (k : Nat) (x : Opd) (y : Opd) : step P env ls σ (.app k x y) = ((rd σ (y.eval env ls)).bind fun ys => append k (x.eval env ls) ys σ) := by
  unfold step; simp only [stepOp]; exact lim_const _
theorem s_appz (env ls : List AVal) (σ : Store) (k : Nat) (zero : AVal) (x : Opd) (n : Opd) : step P env ls σ (.appz k zero x n) = ((asNat (n.eval env ls)).bind fun m => if ncells zero = k ∧ m ≤ most then append k (x.eval env ls) (List.replicate m zero) σ else none) := by
  unfold step; simp only [stepOp]; exact lim_const _
theorem s_copy (env ls : List AVal) (σ : Store) (k : Nat) (x : Opd) (y : Opd) : step P env ls σ (.copy k x y) = ((rdMin σ (dlen (x.eval env ls)) (y.eval env ls)).bind fun ys => (copyV σ k ys (x.eval env ls)).map fun σ' => (.int .i64 (ys.length : Int), σ')) := by
  unfold step; simp only [stepOp]; exact lim_const _
theorem s_mins (env ls : List AVal) (σ : Store) (x : Opd) (xs : List Opd) : step P env ls σ (.mins x xs) = ((minmax true (x.eval env ls) (xs.map (·.eval env ls))).map (·, σ)) := by
  unfold step; simp only [stepOp]; exact lim_const _
theorem s_maxs (env ls : List AVal) (σ : Store) (x : Opd) (xs : List Opd) : step P env ls σ (.maxs x xs) = ((minmax false (x.eval env ls) (xs.map (·.eval env ls))).map (·, σ)) := by
  unfold step; simp only [stepOp]; exact lim_const _
theorem s_mkfn (env ls : List AVal) (σ : Store) (f : Nat) (first : List Opd) (cap : List Opd) : step P env ls σ (.mkfn f first cap) = (some (.fn f (first.map (·.eval env ls)) (cap.map (·.eval env ls)), σ)) := by
  unfold step; simp only [stepOp]; exact lim_const _
theorem s_ext (env ls : List AVal) (σ : Store) (i : Nat) (x : Opd) : step P env ls σ (.ext i x) = ((extV i (x.eval env ls)).map (·, σ)) := by
  unfold step; simp only [stepOp]; exact lim_const _
theorem s_nilck (env ls : List AVal) (σ : Store) (x : Opd) : step P env ls σ (.nilck x) = ((nilckV σ (x.eval env ls)).map (·, σ)) := by
  unfold step; simp only [stepOp]; exact lim_const _
theorem s_mkmap (env ls : List AVal) (σ : Store)  : step P env ls σ (.mkmap) = (some (.mp σ.length, σ ++ [.map []])) := by
  unfold step; simp only [stepOp]; exact lim_const _
theorem s_mput (env ls : List AVal) (σ : Store) (m : Opd) (k : Opd) (v : Opd) : step P env ls σ (.mput m k v) = ((mputV σ (k.eval env ls) (v.eval env ls) (m.eval env ls)).map (.any, ·)) := by
  unfold step; simp only [stepOp]; exact lim_const _
theorem s_look (env ls : List AVal) (σ : Store) (zero : AVal) (ok : Bool) (m : Opd) (k : Opd) : step P env ls σ (.look zero ok m k) = (if isIntV (k.eval env ls) then (mapOf σ (m.eval env ls)).bind fun es => (lookup (k.eval env ls) es).map fun r => (if ok then .tup [r.getD zero, .bool r.isSome] else r.getD zero, σ) else none) := by
  unfold step; simp only [stepOp]; exact lim_const _
theorem s_mlen (env ls : List AVal) (σ : Store) (m : Opd) : step P env ls σ (.mlen m) = ((mapOf σ (m.eval env ls)).map fun es => (.int .i64 (es.length : Int), σ)) := by
  unfold step; simp only [stepOp]; exact lim_const _
theorem s_clr (env ls : List AVal) (σ : Store) (zero : AVal) (x : Opd) : step P env ls σ (.clr zero x) = ((clrV σ zero (x.eval env ls)).map (.any, ·)) := by
  unfold step; simp only [stepOp]; exact lim_const _
theorem s_rngs (env ls : List AVal) (σ : Store) (x : Opd) : step P env ls σ (.rngs x) = rngV σ (x.eval env ls) := by
  unfold step; simp only [stepOp]; exact lim_const _
theorem s_nexts (env ls : List AVal) (σ : Store) (x : Opd) : step P env ls σ (.nexts x) = nextV σ (x.eval env ls) := by
  unfold step; simp only [stepOp]; exact lim_const _
theorem s_lookk (env ls : List AVal) (σ : Store) (ks : List Nat) (zero : AVal) (ok : Bool) (m k : Opd) : step P env ls σ (.lookk ks zero ok m k) = (if keyFits ks (k.eval env ls) then (mapOf σ (m.eval env ls)).bind fun es => (lookupK ks (k.eval env ls) es).map fun r => (if ok then .tup [r.getD zero, .bool r.isSome] else r.getD zero, σ) else none) := by
  unfold step; simp only [stepOp]; exact lim_const _
theorem s_mputk (env ls : List AVal) (σ : Store) (ks : List Nat) (m k v : Opd) : step P env ls σ (.mputk ks m k v) = ((mputKV ks σ (k.eval env ls) (v.eval env ls) (m.eval env ls)).map (.any, ·)) := by
  unfold step; simp only [stepOp]; exact lim_const _
theorem s_b2s (env ls : List AVal) (σ : Store) (x : Opd) : step P env ls σ (.b2s x) = ((b2sV σ (x.eval env ls)).map (·, σ)) := by
  unfold step; simp only [stepOp]; exact lim_const _
theorem s_bad (env ls : List AVal) (σ : Store)  : step P env ls σ (.bad) = (none) := by
  unfold step; simp only [stepOp]; exact lim_const _
end
end Go.AM

namespace Go.AM
def Mode.isPure : Mode → Bool
  | .pure | .fresh _ => true
  | _ => false
theorem fz_idem (σ τ : Store) : ∀ (n : Nat) (v : AVal), fz true false 0 τ n (fz true false 0 σ n v) = fz true false 0 σ n v := by
  intro n
  induction n with
  | zero => intro v; rfl
  | succ n ih =>
    intro v
    have hl : ∀ l : List AVal, (l.map (fz true false 0 σ n)).map (fz true false 0 τ n) = l.map (fz true false 0 σ n) := fun l => by
      rw [List.map_map]; exact List.map_congr_left fun x _ => ih x
    cases v with
    | agg cs => simp only [fz]; rw [hl]
    | tup cs => simp only [fz]; rw [hl]
    | fn f a c => simp only [fz]; rw [hl, hl]
    | imm b xs => cases b <;> simp [fz]
    | cptr b x o =>
      cases b
      · simp [fz]
      · by_cases h : ncells (fz true false 0 σ n x) = ncells x
        · simp [fz, cptrAt, h, ih]
        · simp [fz, cptrAt, h]
    | imap b xs => cases b <;> simp [fz]
    | lst xs =>
      by_cases h : (xs.map (fz true false 0 σ n)).map ncells = xs.map ncells
      · simp only [fz, listAt, if_pos h]; rfl
      · simp only [fz, listAt, if_neg h]
    | sl id ep off len =>
      simp only [fz, Nat.not_lt_zero, if_false]
      cases sliceAt σ id ep off len with
      | none => simp [fz]
      | some l =>
        by_cases h : (l.map (fz true false 0 σ n)).map ncells = l.map ncells
        · simp only [Option.elim, listAt, if_pos h, fz]; rfl
        · simp only [Option.elim, listAt, if_neg h, fz]
    | ptr id ep i off =>
      simp only [fz, Nat.not_lt_zero, if_false]
      cases elemAt σ id ep i with
      | none => simp [fz]
      | some x =>
        by_cases h : ncells (fz true false 0 σ n x) = ncells x
        · simp [fz, cptrAt, h, ih]
        · simp [fz, cptrAt, h]
    | asl id ep i off m => simp [fz]
    | mp id =>
      simp only [fz, Nat.not_lt_zero, if_false]
      cases entriesAt σ id <;> simp [fz]
    | yld l s e =>
      simp [fz]
    | _ => simp [fz]
theorem snap_idem (σ τ : Store) (v : AVal) : snap τ (snap σ v) = snap σ v := fz_idem σ τ fuel v
section
variable {P : Code} (hP : P.Good)
include hP
theorem acall_pureP {f : Nat} {g : AFunc} (h : P.fns f = .fn g) (hm : g.mode.isPure = true) (args : List AVal) (σ : Store) :
    acall P f args σ = ((acall P f (args.map (snap σ)) []).map (·.1)).map (·, σ) := by
  rw [acall_fn hP h, acall_fn hP h]
  have he : enter g args σ = enter g (args.map (snap σ)) [] := by
    have h1 : ((args.map (snap σ)).take g.np).map (snap []) = (args.take g.np).map (snap σ) := by
      rw [← List.map_take, List.map_map]; exact List.map_congr_left fun x _ => snap_idem σ [] x
    unfold enter
    cases hg : g.mode <;> rw [hg] at hm <;> first | exact absurd hm (by decide) | (simp only [h1])
  rw [he]
  cases run P g.body (enter g (args.map (snap σ)) []) with
  | none => rfl
  | some r =>
    obtain ⟨e, s⟩ := r
    have key : (results s g.res).map (fun v => finish g.mode σ s v) = (((results s g.res).map fun v => finish g.mode [] s v).map (·.1)).map (·, σ) := by
      cases results s g.res with
      | none => rfl
      | some v =>
        cases hg : g.mode <;> rw [hg] at hm <;> first | exact absurd hm (by decide) | rfl
    cases e with
    | ext _ => rfl
    | nrm => exact key
    | ret => exact key
theorem pcall_ofP {f : Nat} {g : AFunc} (h : P.fns f = .fn g) (hm : g.mode.isPure = true) (args : List AVal) :
    (acall P f args []).map (·.1) = (run P g.body ⟨(args.take g.np).map (snap []) ++ List.replicate (g.nenv - g.np) .any, []⟩).bind fun r => match r.1 with
      | .ext _ => none
      | _ => (results r.2 g.res).map fun v => (finish g.mode [] r.2 v).1 := by
  rw [acall_fn hP h]
  have he : enter g args [] = ⟨(args.take g.np).map (snap []) ++ List.replicate (g.nenv - g.np) .any, []⟩ := by
    unfold enter
    cases hg : g.mode <;> rw [hg] at hm <;> first | exact absurd hm (by decide) | rfl
  rw [he]
  cases run P g.body _ with
  | none => rfl
  | some r =>
    obtain ⟨e, s⟩ := r
    cases e with
    | ext _ => rfl
    | nrm => show ((results s g.res).map _).map _ = _; rw [Option.map_map]; rfl
    | ret => show ((results s g.res).map _).map _ = _; rw [Option.map_map]; rfl
end
end Go.AM
section

set_option maxRecDepth 8000
namespace Go.AM
theorem good : code.Good := prims_good
noncomputable def pcall (f : Nat) (args : List AVal) : Option AVal := (acall code f args []).map (·.1)
theorem acall_pure {f : Nat} {g : AFunc} (h : code.fns f = .fn g) (hm : g.mode.isPure = true) (args : List AVal) (σ : Store) :
    acall code f args σ = (pcall f (args.map (snap σ))).map (·, σ) := acall_pureP good h hm args σ
abbrev PureAt (f : Nat) : Prop := ∀ (args : List AVal) (σ : Store), acall code f args σ = (pcall f (args.map (snap σ))).map (·, σ)
theorem pcall_of {f : Nat} {g : AFunc} (h : code.fns f = .fn g) (hm : g.mode.isPure = true) (args : List AVal) :
    pcall f args = (run code g.body ⟨(args.take g.np).map (snap []) ++ List.replicate (g.nenv - g.np) .any, []⟩).bind fun r => match r.1 with
      | .ext _ => none
      | _ => (results r.2 g.res).map fun v => (finish g.mode [] r.2 v).1 := pcall_ofP good h hm args
theorem c_value_Check : code.fns 55 = .fn P.f_value_Check := rfl
theorem c_value_blank : code.fns 56 = .fn P.f_value_blank := rfl
theorem c_query_fits_1 : code.fns 74 = .fn P.f_query_fits_1 := rfl
theorem c_row_Check : code.fns 75 = .fn P.f_row_Check := rfl
theorem c_row_right : code.fns 76 = .fn P.f_row_right := rfl
theorem c_slices_ContainsFunc_api_Row_api_Value : code.fns 77 = .fn P.f_slices_ContainsFunc_api_Row_api_Value := rfl
theorem c_slices_IndexFunc_api_Row_api_Value : code.fns 78 = .fn P.f_slices_IndexFunc_api_Row_api_Value := rfl
theorem c_row_right_1 : code.fns 79 = .fn P.f_row_right_1 := rfl
theorem c_slices_Clone_api_Row_api_Value : code.fns 94 = .nilfn P.f_slices_Clone_api_Row_api_Value := rfl
theorem c_slices_Clone_string_string : code.fns 101 = .nilfn P.f_slices_Clone_string_string := rfl
theorem c_query_Check : code.fns 102 = .fn P.f_query_Check := rfl
theorem c_query_fits : code.fns 103 = .fn P.f_query_fits := rfl
theorem c_slices_ContainsFunc_api_Row_api_Row : code.fns 104 = .fn P.f_slices_ContainsFunc_api_Row_api_Row := rfl
theorem c_slices_IndexFunc_api_Row_api_Row : code.fns 105 = .fn P.f_slices_IndexFunc_api_Row_api_Row := rfl
theorem c_query_Rows : code.fns 129 = .fn P.f_query_Rows := rfl
theorem c_query_ends : code.fns 130 = .fn P.f_query_ends := rfl
theorem c_query_sameReport : code.fns 131 = .fn P.f_query_sameReport := rfl
theorem c_slices_Equal_string_string : code.fns 132 = .fn P.f_slices_Equal_string_string := rfl
theorem c_row_Same : code.fns 133 = .fn P.f_row_Same := rfl
theorem c_slices_EqualFunc_api_Row_api_Row_api_Row_api_Row : code.fns 134 = .fn P.f_slices_EqualFunc_api_Row_api_Row_api_Row_api_Row := rfl
theorem c_query_Rows_2 : code.fns 135 = .fn P.f_query_Rows_2 := rfl
theorem c_query_Rows_1 : code.fns 136 = .fn P.f_query_Rows_1 := rfl
theorem c_query_over : code.fns 137 = .fn P.f_query_over := rfl
theorem c_blaw27_wakes : code.fns 140 = .fn P.f_blaw27_wakes := rfl
theorem c_lower_Query : code.fns 144 = .fn P.f_lower_Query := rfl
theorem c_rewrite_Rewrite : code.fns 210 = .fn P.f_rewrite_Rewrite := rfl
theorem c_plan_Plan : code.fns 212 = .fn P.f_plan_Plan := rfl
theorem c_query_reports : code.fns 223 = .fn P.f_query_reports := rfl
theorem c_slices_Equal_api_Row_api_Value : code.fns 226 = .fn P.f_slices_Equal_api_Row_api_Value := rfl
theorem c_row_equal : code.fns 227 = .fn P.f_row_equal := rfl
theorem c_bref21_Same : code.fns 228 = .fn P.f_bref21_Same := rfl
theorem c_bref27_Fits : code.fns 229 = .fn P.f_bref27_Fits := rfl
theorem c_blaw27_QueryEnds_1 : code.fns 230 = .fn P.f_blaw27_QueryEnds_1 := rfl
theorem c_query_Cancel : code.fns 231 = .fn P.f_query_Cancel := rfl
theorem c_query_Fail : code.fns 232 = .fn P.f_query_Fail := rfl
theorem c_blaw27_over : code.fns 233 = .fn P.f_blaw27_over := rfl
theorem c_blaw27_overRows : code.fns 234 = .fn P.f_blaw27_overRows := rfl
theorem c_blaw27_QueryEnds : code.fns 235 = .fn P.f_blaw27_QueryEnds := rfl
theorem c_blaw27_overNodes : code.fns 236 = .fn P.f_blaw27_overNodes := rfl
theorem c_query_bare : code.fns 237 = .fn P.f_query_bare := rfl
theorem c_bref27_Same : code.fns 239 = .fn P.f_bref27_Same := rfl
theorem c_bref27_Right : code.fns 240 = .fn P.f_bref27_Right := rfl
theorem c_bref27_SameReport : code.fns 241 = .fn P.f_bref27_SameReport := rfl
theorem c_bref18_Same : code.fns 242 = .fn P.f_bref18_Same := rfl
theorem c_bref14_SameNames : code.fns 243 = .fn P.f_bref14_SameNames := rfl
theorem c_bref05_Right : code.fns 244 = .fn P.f_bref05_Right := rfl
theorem c_blaw27_overExpr : code.fns 245 = .fn P.f_blaw27_overExpr := rfl
theorem c_query_bare_1 : code.fns 246 = .fn P.f_query_bare_1 := rfl
theorem c_query_bare_2 : code.fns 247 = .fn P.f_query_bare_2 := rfl
theorem c_bref02_Right : code.fns 248 = .fn P.f_bref02_Right := rfl
theorem c_bref27_Over : code.fns 238 = .prim 7 := rfl
@[simp] theorem pures_0 : PureAt 2 ∧ PureAt 3 ∧ PureAt 5 ∧ PureAt 6 ∧ PureAt 7 ∧ PureAt 9 ∧ PureAt 10 ∧ PureAt 11 ∧ PureAt 12 ∧ PureAt 14 ∧ PureAt 15 ∧ PureAt 18 ∧ PureAt 20 ∧ PureAt 21 ∧ PureAt 22 ∧ PureAt 30 ∧ PureAt 31 ∧ PureAt 32 ∧ PureAt 33 ∧ PureAt 40 ∧ PureAt 42 ∧ PureAt 51 ∧ PureAt 53 ∧ PureAt 54 ∧ PureAt 55 ∧ PureAt 56 ∧ PureAt 62 ∧ PureAt 74 ∧ PureAt 75 ∧ PureAt 76 ∧ PureAt 77 ∧ PureAt 78 ∧ PureAt 79 ∧ PureAt 92 ∧ PureAt 102 ∧ PureAt 103 ∧ PureAt 104 ∧ PureAt 105 ∧ PureAt 122 ∧ PureAt 129 := ⟨acall_pure rfl rfl, acall_pure rfl rfl, acall_pure rfl rfl, acall_pure rfl rfl, acall_pure rfl rfl, acall_pure rfl rfl, acall_pure rfl rfl, acall_pure rfl rfl, acall_pure rfl rfl, acall_pure rfl rfl, acall_pure rfl rfl, acall_pure rfl rfl, acall_pure rfl rfl, acall_pure rfl rfl, acall_pure rfl rfl, acall_pure rfl rfl, acall_pure rfl rfl, acall_pure rfl rfl, acall_pure rfl rfl, acall_pure rfl rfl, acall_pure rfl rfl, acall_pure rfl rfl, acall_pure rfl rfl, acall_pure rfl rfl, acall_pure rfl rfl, acall_pure rfl rfl, acall_pure rfl rfl, acall_pure rfl rfl, acall_pure rfl rfl, acall_pure rfl rfl, acall_pure rfl rfl, acall_pure rfl rfl, acall_pure rfl rfl, acall_pure rfl rfl, acall_pure rfl rfl, acall_pure rfl rfl, acall_pure rfl rfl, acall_pure rfl rfl, acall_pure rfl rfl, acall_pure rfl rfl⟩
@[simp] theorem pures_40 : PureAt 130 ∧ PureAt 131 ∧ PureAt 132 ∧ PureAt 133 ∧ PureAt 134 ∧ PureAt 135 ∧ PureAt 136 ∧ PureAt 137 ∧ PureAt 140 ∧ PureAt 144 ∧ PureAt 210 ∧ PureAt 212 ∧ PureAt 223 ∧ PureAt 226 ∧ PureAt 227 ∧ PureAt 228 ∧ PureAt 229 ∧ PureAt 230 ∧ PureAt 231 ∧ PureAt 232 ∧ PureAt 233 ∧ PureAt 234 ∧ PureAt 235 ∧ PureAt 236 ∧ PureAt 237 ∧ PureAt 239 ∧ PureAt 240 ∧ PureAt 241 ∧ PureAt 242 ∧ PureAt 243 ∧ PureAt 244 ∧ PureAt 245 ∧ PureAt 246 ∧ PureAt 247 ∧ PureAt 248 := ⟨acall_pure rfl rfl, acall_pure rfl rfl, acall_pure rfl rfl, acall_pure rfl rfl, acall_pure rfl rfl, acall_pure rfl rfl, acall_pure rfl rfl, acall_pure rfl rfl, acall_pure rfl rfl, acall_pure rfl rfl, acall_pure rfl rfl, acall_pure rfl rfl, acall_pure rfl rfl, acall_pure rfl rfl, acall_pure rfl rfl, acall_pure rfl rfl, acall_pure rfl rfl, acall_pure rfl rfl, acall_pure rfl rfl, acall_pure rfl rfl, acall_pure rfl rfl, acall_pure rfl rfl, acall_pure rfl rfl, acall_pure rfl rfl, acall_pure rfl rfl, acall_pure rfl rfl, acall_pure rfl rfl, acall_pure rfl rfl, acall_pure rfl rfl, acall_pure rfl rfl, acall_pure rfl rfl, acall_pure rfl rfl, acall_pure rfl rfl, acall_pure rfl rfl, acall_pure rfl rfl⟩
end Go.AM
end

namespace Go.AM
noncomputable def thenRun (b : ACode) (r : Option (Ex × St)) : Option (Ex × St) := r.bind fun r => match r.1 with
  | .nrm => run code b r.2
  | e => some (e, r.2)
noncomputable def thenOps (env : List AVal) (is : List Ins) (ls : List AVal) (q : Option (AVal × Store)) : Option (List AVal × Store) :=
  q.bind fun q => runOps code env is (ls ++ [q.1]) q.2
noncomputable def whenOps (env : List AVal) (i : Ins) (is : List Ins) (ls : List AVal) (σ : Store) (t : Option Bool) : Option (List AVal × Store) :=
  match t with
  | some true => thenOps env is ls (step code env ls σ i.op)
  | some false => runOps code env is (ls ++ [.tup []]) σ
  | none => none
def thenOut (env : List AVal) (os : List (Nat × Opd)) (r : Option (List AVal × Store)) : Option (Ex × St) :=
  r.map fun r => (.nrm, ⟨outs env env r.1 os, r.2⟩)
def thenBlk (id : Nat) (r : Option (Ex × St)) : Option (Ex × St) := r.map fun r => match r.1 with
  | .ext j => if j = id then (.nrm, r.2) else r
  | _ => r
noncomputable def condRun (a b : ACode) (s : St) (c : AVal) : Option (Ex × St) := match c with
  | .bool true => run code a s
  | .bool false => run code b s
  | _ => none
noncomputable def thenLoop (base : Nat) (clr : List Nat) (b : ACode) (r : Option (Ex × St)) : Option (Ex × St) := r.bind fun r => match r.1 with
  | .nrm => rounds code base clr b (roundEnd base clr r.2)
  | e => some (e, r.2)
def thenRng (l : Nat) (env : List AVal) (r : Option (AVal × Store)) : Option (Ex × St) := r.bind fun r => jumped l env r.2
noncomputable def thenLift (env : List AVal) (b : ACode) (r : Option Store) : Option (Ex × St) := r.bind fun σ => run code b ⟨env, σ⟩
noncomputable def thenT (env : List AVal) (is : List Ins) (ls : List AVal) (ss : List Store) (q : Option (AVal × Store)) : Option (List AVal × List Store × Store) :=
  q.bind fun q => runT code env is (ls ++ [q.1]) ss q.2
noncomputable def whenT (env : List AVal) (i : Ins) (is : List Ins) (ls : List AVal) (ss : List Store) (σ : Store) (t : Option Bool) : Option (List AVal × List Store × Store) :=
  match t with
  | some true => thenT env is ls (ss ++ [σ]) (step code env ls σ i.op)
  | some false => runT code env is (ls ++ [.tup []]) (ss ++ [σ]) σ
  | none => none
noncomputable def thenChk (env : List AVal) (os : List (Nat × Opd)) (is : List Ins) (chk : List (Nat × Nat)) (r : Option (List AVal × List Store × Store)) : Option (Ex × St) :=
  r.bind fun r => (runChk code env r.1 is (r.2.1 ++ [r.2.2]) chk).map fun _ => (.nrm, ⟨outs env env r.1 os, r.2.2⟩)
noncomputable def chkNext (env ls : List AVal) (is : List Ins) (ss : List Store) (n : Nat) (τ : Store) (l : List (Nat × Nat)) (q : Option (AVal × Store)) : Option Unit :=
  q.bind fun q => if same q.1 (nth ls n) && sameS q.2 τ then runChk code env ls is ss l else none
noncomputable def chkAt (env ls : List AVal) (is : List Ins) (ss : List Store) (n : Nat) (l : List (Nat × Nat)) (i : Option Ins) (t : Option Store) : Option Unit :=
  match i, t with
  | some i, some τ => chkNext env ls is ss n τ l (step code env (ls.take n) τ i.op)
  | _, _ => none
def thenLeave (m : Mode) (res : List Res) (r : Option (Ex × St)) : Option AVal := r.bind fun r => match r.1 with
  | .ext _ => none
  | _ => (results r.2 res).map fun v => (finish m [] r.2 v).1
@[simp ↓] theorem R_seq (a b : ACode) (s : St) : run code (.seq a b) s = thenRun b (run code a s) := run_seq good a b s
@[simp ↓] theorem R_skip (s : St) : run code .skip s = some (.nrm, s) := run_skip good s
@[simp ↓] theorem R_exit (id : Nat) (s : St) : run code (.exit id) s = some (.ext id, s) := run_exit good id s
@[simp ↓] theorem R_ret (s : St) : run code .ret s = some (.ret, s) := run_ret good s
@[simp ↓] theorem R_reg (is : List Ins) (os : List (Nat × Opd)) (env : List AVal) (σ : Store) : run code (.reg is os) ⟨env, σ⟩ = thenOut env os (runOps code env is [] σ) := run_reg good is os _
@[simp ↓] theorem R_cond (c : Opd) (a b : ACode) (env : List AVal) (σ : Store) : run code (.cond c a b) ⟨env, σ⟩ = condRun a b ⟨env, σ⟩ (c.eval env []) := by
  rw [run_cond good]; rfl
@[simp ↓] theorem R_blk (id : Nat) (b : ACode) (s : St) : run code (.blk id b) s = thenBlk id (run code b s) := run_blk good id b s
@[simp ↓] theorem R_scope (b : ACode) (s : St) : run code (.scope b) s = run code b s := run_scope good b s
@[simp ↓] theorem R_loop (clr : List Nat) (b : ACode) (env : List AVal) (σ : Store) : run code (.loop clr b) ⟨env, σ⟩ = rounds code σ.length clr b ⟨clear env clr, σ⟩ := run_loop good clr b _
@[simp ↓] theorem R_rng (k : Nat) (f : Opd) (site : Nat) (env : List AVal) (σ : Store) : run code (.rng k f site) ⟨env, σ⟩ = if env.length = k then thenRng σ.length env (acallF code (f.eval env []) [.yld σ.length site env] (σ ++ [.pend false none])) else none := run_rng good k f site _
@[simp ↓] theorem R_lift (i off k : Nat) (b : ACode) (env : List AVal) (σ : Store) : run code (.lift i off k b) ⟨env, σ⟩ = thenLift env b (liftV (nth env i) off k σ) := run_lift good i off k b _
@[simp ↓] theorem R_regd (is : List Ins) (os : List (Nat × Opd)) (chk : List (Nat × Nat)) (env : List AVal) (σ : Store) : run code (.regd is os chk) ⟨env, σ⟩ = thenChk env os is chk (runT code env is [] [] σ) := run_regd good is os chk _
@[simp ↓] theorem T_nil (env ls : List AVal) (ss : List Store) (σ : Store) : runT code env [] ls ss σ = some (ls, ss, σ) := runT_nil good env ls ss σ
@[simp ↓] theorem T_i (env ls : List AVal) (ss : List Store) (σ : Store) (o : AOp) (is : List Ins) : runT code env (P.i o :: is) ls ss σ = thenT env is ls (ss ++ [σ]) (step code env ls σ o) := runT_cons good env _ is ls ss σ
@[simp ↓] theorem T_g (env ls : List AVal) (ss : List Store) (σ : Store) (x : Opd) (b : Bool) (o : AOp) (is : List Ins) :
    runT code env (P.g x b o :: is) ls ss σ = whenT env (P.g x b o) is ls ss σ (wanted env ls (some (x, b))) := runT_cons good env _ is ls ss σ
@[simp] theorem whenT_t (env : List AVal) (x : Opd) (b : Bool) (o : AOp) (is : List Ins) (ls : List AVal) (ss : List Store) (σ : Store) :
    whenT env (P.g x b o) is ls ss σ (some true) = thenT env is ls (ss ++ [σ]) (step code env ls σ o) := rfl
@[simp] theorem whenT_f (env : List AVal) (i : Ins) (is : List Ins) (ls : List AVal) (ss : List Store) (σ : Store) :
    whenT env i is ls ss σ (some false) = runT code env is (ls ++ [.tup []]) (ss ++ [σ]) σ := rfl
@[simp] theorem thenT_some (env : List AVal) (is : List Ins) (ls : List AVal) (ss : List Store) (v : AVal) (σ : Store) : thenT env is ls ss (some (v, σ)) = runT code env is (ls ++ [v]) ss σ := rfl
@[simp] theorem thenChk_some (env : List AVal) (os : List (Nat × Opd)) (is : List Ins) (chk : List (Nat × Nat)) (ls : List AVal) (ss : List Store) (σ : Store) :
    thenChk env os is chk (some (ls, ss, σ)) = (runChk code env ls is (ss ++ [σ]) chk).map fun _ => (.nrm, ⟨outs env env ls os, σ⟩) := rfl
@[simp ↓] theorem K_nil (env ls : List AVal) (is : List Ins) (ss : List Store) : runChk code env ls is ss [] = some () := runChk_nil good env ls is ss
@[simp ↓] theorem K_cons (env ls : List AVal) (is : List Ins) (ss : List Store) (n j : Nat) (l : List (Nat × Nat)) : runChk code env ls is ss ((n, j) :: l) = chkAt env ls is ss n l is[n]? ss[j]? := by
  rw [runChk_cons good]
  unfold chkAt chkNext
  cases is[n]? <;> cases ss[j]? <;> rfl
@[simp] theorem chkAt_some (env ls : List AVal) (is : List Ins) (ss : List Store) (n : Nat) (l : List (Nat × Nat)) (o : AOp) (τ : Store) : chkAt env ls is ss n l (some (P.i o)) (some τ) = chkNext env ls is ss n τ l (step code env (ls.take n) τ o) := rfl
@[simp] theorem chkNext_some (env ls : List AVal) (is : List Ins) (ss : List Store) (n : Nat) (τ : Store) (l : List (Nat × Nat)) (v : AVal) (σ : Store) : chkNext env ls is ss n τ l (some (v, σ)) = if same v (nth ls n) && sameS σ τ then runChk code env ls is ss l else none := rfl
@[simp] theorem thenLift_some (env : List AVal) (b : ACode) (σ : Store) : thenLift env b (some σ) = run code b ⟨env, σ⟩ := rfl
@[simp] theorem F_fn (f : Nat) (a c args : List AVal) (σ : Store) : acallF code (.fn f a c) args σ = acall code f (a ++ args ++ c) σ := rfl
attribute [simp] same_refl sameL_refl sameS_refl
@[simp ↓] theorem O_nil (env ls : List AVal) (σ : Store) : runOps code env [] ls σ = some (ls, σ) := runOps_nil good env ls σ
@[simp ↓] theorem O_i (env ls : List AVal) (σ : Store) (o : AOp) (is : List Ins) : runOps code env (P.i o :: is) ls σ = thenOps env is ls (step code env ls σ o) := runOps_cons good env _ is ls σ
@[simp ↓] theorem O_g (env ls : List AVal) (σ : Store) (x : Opd) (b : Bool) (o : AOp) (is : List Ins) :
    runOps code env (P.g x b o :: is) ls σ = whenOps env (P.g x b o) is ls σ (wanted env ls (some (x, b))) := runOps_cons good env _ is ls σ
@[simp] theorem when_t (env : List AVal) (x : Opd) (b : Bool) (o : AOp) (is : List Ins) (ls : List AVal) (σ : Store) :
    whenOps env (P.g x b o) is ls σ (some true) = thenOps env is ls (step code env ls σ o) := rfl
@[simp] theorem when_f (env : List AVal) (i : Ins) (is : List Ins) (ls : List AVal) (σ : Store) :
    whenOps env i is ls σ (some false) = runOps code env is (ls ++ [.tup []]) σ := rfl
@[simp] theorem thenRun_nrm (b : ACode) (s : St) : thenRun b (some (.nrm, s)) = run code b s := rfl
@[simp] theorem thenRun_ext (b : ACode) (s : St) (id : Nat) : thenRun b (some (.ext id, s)) = some (.ext id, s) := rfl
@[simp] theorem thenRun_ret (b : ACode) (s : St) : thenRun b (some (.ret, s)) = some (.ret, s) := rfl
@[simp] theorem thenOps_some (env : List AVal) (is : List Ins) (ls : List AVal) (v : AVal) (σ : Store) : thenOps env is ls (some (v, σ)) = runOps code env is (ls ++ [v]) σ := rfl
@[simp] theorem thenOut_some (env : List AVal) (os : List (Nat × Opd)) (ls : List AVal) (σ : Store) : thenOut env os (some (ls, σ)) = some (.nrm, ⟨outs env env ls os, σ⟩) := rfl
@[simp] theorem thenBlk_nrm (id : Nat) (s : St) : thenBlk id (some (.nrm, s)) = some (.nrm, s) := rfl
@[simp] theorem thenBlk_ret (id : Nat) (s : St) : thenBlk id (some (.ret, s)) = some (.ret, s) := rfl
@[simp] theorem thenBlk_ext (id j : Nat) (s : St) : thenBlk id (some (.ext j, s)) = some (if j = id then (.nrm, s) else (.ext j, s)) := by
  simp [thenBlk]
@[simp] theorem cond_t (a b : ACode) (s : St) : condRun a b s (.bool true) = run code a s := rfl
@[simp] theorem cond_f (a b : ACode) (s : St) : condRun a b s (.bool false) = run code b s := rfl
@[simp] theorem thenLeave_ret (m : Mode) (res : List Res) (s : St) : thenLeave m res (some (.ret, s)) = (results s res).map fun v => (finish m [] s v).1 := rfl
@[simp] theorem thenLeave_nrm (m : Mode) (res : List Res) (s : St) : thenLeave m res (some (.nrm, s)) = (results s res).map fun v => (finish m [] s v).1 := rfl
theorem pcall_eq {f : Nat} {g : AFunc} (h : code.fns f = .fn g) (hm : g.mode.isPure = true) (args : List AVal) :
    pcall f args = thenLeave g.mode g.res (run code g.body ⟨(args.take g.np).map (snap []) ++ List.replicate (g.nenv - g.np) .any, []⟩) := pcall_of h hm args
@[simp ↓] theorem S_call (env ls : List AVal) (σ : Store) (f : Nat) (args : List Opd) (mat : Bool) :
    step code env ls σ (.call f args mat) = (acall code f (args.map (·.eval env ls)) σ).map (mater mat) := step_call good env ls σ f args mat
@[simp ↓] theorem S_callv (env ls : List AVal) (σ : Store) (f : Opd) (args : List Opd) :
    step code env ls σ (.callv f args) = (acallV code (f.eval env ls) (args.map (·.eval env ls)) σ).map (mater false) := step_callv good env ls σ f args
@[simp] theorem V_fn (f : Nat) (a c args : List AVal) (σ : Store) : acallV code (.fn f a c) args σ = acall code f (a ++ args ++ c) σ := rfl
attribute [simp ↓] s_mov s_pick s_box s_build s_mknil s_mkl s_mksl s_mkslz s_make s_load s_store s_fld s_fldv s_idxs s_idxa s_idxv s_idxt s_bin s_eqb s_eqa s_isnil s_una s_conv s_slice s_slicet s_slice0 s_aslice s_len s_lent s_cap s_app s_appz s_nils s_copy s_mins s_maxs s_mkfn s_ext s_nilck s_mkmap s_mput s_look s_mlen s_clr s_rngs s_nexts s_lookk s_mputk s_b2s s_bad
attribute [simp] isFn isPtr bytesV b2sV isIntV keyFits keyIsK plainCell lookupK mputK mputKV rngV nextV eqCells kindOf nilsV emptyS liftV liftAt liftAll rdMin dlen eqb eqa isnil neg aslV copyV tlen tslice aslice partV fldV idxsV nilckV convV extV idxtV mapOf mputV clrV pickV capV fresh isSlice sliceAt elemAt arrK entriesAt getPart setPart Opd.eval nth outs clear wanted bin binInt shift una alen asNat rd loadAt storeAt results getRess getRes finish opt sameCells sameCell isNil setAll fill minmax
@[simp] theorem ncells_agg (cs : List AVal) : ncells (.agg cs) = cs.length := rfl
@[simp] theorem ncells_int (k : IntKind) (n : Int) : ncells (.int k n) = 1 := rfl
@[simp] theorem ncells_bool (b : Bool) : ncells (.bool b) = 1 := rfl
@[simp] theorem ncells_str (s : List UInt8) : ncells (.str s) = 1 := rfl
@[simp] theorem ncells_imm (b : Bool) (xs : List AVal) : ncells (.imm b xs) = 1 := rfl
@[simp] theorem ncells_lst (xs : List AVal) : ncells (.lst xs) = 1 := rfl
@[simp] theorem ncells_nil0 : ncells .nil0 = 1 := rfl
@[simp] theorem ncells_nilp : ncells .nilp = 1 := rfl
@[simp] theorem ncells_nilf : ncells .nilf = 1 := rfl
@[simp] theorem ncells_nilm : ncells .nilm = 1 := rfl
@[simp] theorem ncells_sl (a b c d : Nat) : ncells (.sl a b c d) = 1 := rfl
@[simp] theorem ncells_ptr (a b c d : Nat) : ncells (.ptr a b c d) = 1 := rfl
@[simp] theorem ncells_cptr (b : Bool) (x : AVal) (o : Nat) : ncells (.cptr b x o) = 1 := rfl
@[simp] theorem ncells_fn (f : Nat) (a c : List AVal) : ncells (.fn f a c) = 1 := rfl
@[simp] theorem ncells_mp (i : Nat) : ncells (.mp i) = 1 := rfl
@[simp] theorem ncells_imap (b : Bool) (e : List (AVal × AVal)) : ncells (.imap b e) = 1 := rfl
@[simp] theorem isAgg_agg (cs : List AVal) : isAgg (.agg cs) = true := rfl
@[simp] theorem isAgg_int (k : IntKind) (n : Int) : isAgg (.int k n) = false := rfl
@[simp] theorem isAgg_bool (b : Bool) : isAgg (.bool b) = false := rfl
@[simp] theorem isAgg_str (s : List UInt8) : isAgg (.str s) = false := rfl
@[simp] theorem isAgg_imm (b : Bool) (xs : List AVal) : isAgg (.imm b xs) = false := rfl
@[simp] theorem isAgg_lst (xs : List AVal) : isAgg (.lst xs) = false := rfl
@[simp] theorem isAgg_nil0 : isAgg .nil0 = false := rfl
@[simp] theorem isAgg_nilp : isAgg .nilp = false := rfl
@[simp] theorem isAgg_nilf : isAgg .nilf = false := rfl
@[simp] theorem isAgg_nilm : isAgg .nilm = false := rfl
@[simp] theorem isAgg_sl (a b c d : Nat) : isAgg (.sl a b c d) = false := rfl
@[simp] theorem isAgg_ptr (a b c d : Nat) : isAgg (.ptr a b c d) = false := rfl
@[simp] theorem isAgg_cptr (b : Bool) (x : AVal) (o : Nat) : isAgg (.cptr b x o) = false := rfl
@[simp] theorem isAgg_fn (f : Nat) (a c : List AVal) : isAgg (.fn f a c) = false := rfl
@[simp] theorem isAgg_mp (i : Nat) : isAgg (.mp i) = false := rfl
@[simp] theorem isAgg_imap (b : Bool) (e : List (AVal × AVal)) : isAgg (.imap b e) = false := rfl
@[simp] theorem cellsOf_agg (cs : List AVal) : cellsOf (.agg cs) = cs := rfl
@[simp] theorem cellsOf_int (k : IntKind) (n : Int) : cellsOf (.int k n) = [.int k n] := rfl
@[simp] theorem cellsOf_bool (b : Bool) : cellsOf (.bool b) = [.bool b] := rfl
@[simp] theorem cellsOf_str (s : List UInt8) : cellsOf (.str s) = [.str s] := rfl
@[simp] theorem cellsOf_imm (b : Bool) (xs : List AVal) : cellsOf (.imm b xs) = [.imm b xs] := rfl
@[simp] theorem cellsOf_sl (a b c d : Nat) : cellsOf (.sl a b c d) = [.sl a b c d] := rfl
@[simp] theorem cellsOf_nil0 : cellsOf .nil0 = [.nil0] := rfl
@[simp] theorem cellsOf_fn (f : Nat) (a c : List AVal) : cellsOf (.fn f a c) = [.fn f a c] := rfl
@[simp] theorem cellsOf_ptr (a b c d : Nat) : cellsOf (.ptr a b c d) = [.ptr a b c d] := rfl
@[simp] theorem cellsOf_cptr (b : Bool) (x : AVal) (o : Nat) : cellsOf (.cptr b x o) = [.cptr b x o] := rfl
section
variable (fl top : Bool) (base : Nat) (σ : Store) (n : Nat)
@[simp] theorem fz_int (k : IntKind) (m : Int) : fz fl top base σ (n + 1) (.int k m) = .int k m := by simp [fz]
@[simp] theorem fz_bool (b : Bool) : fz fl top base σ (n + 1) (.bool b) = .bool b := by simp [fz]
@[simp] theorem fz_str (s : List UInt8) : fz fl top base σ (n + 1) (.str s) = .str s := by simp [fz]
@[simp] theorem fz_nil0 : fz fl top base σ (n + 1) .nil0 = if !fl && top then .nil0 else .imm false [] := by simp [fz]
@[simp] theorem fz_nilp : fz fl top base σ (n + 1) .nilp = .nilp := by simp [fz]
@[simp] theorem fz_nilf : fz fl top base σ (n + 1) .nilf = .nilf := by simp [fz]
@[simp] theorem fz_nilm : fz fl top base σ (n + 1) .nilm = .nilm := by simp [fz]
@[simp] theorem fz_any : fz fl top base σ (n + 1) .any = .any := by simp [fz]
@[simp] theorem fz_emp (b : Bool) : fz fl top base σ (n + 1) (.emp b) = .emp b := by simp [fz]
@[simp] theorem fz_agg (cs : List AVal) : fz fl top base σ (n + 1) (.agg cs) = .agg (cs.map (fz fl top base σ n)) := by simp [fz]
@[simp] theorem fz_tup (cs : List AVal) : fz fl top base σ (n + 1) (.tup cs) = .tup (cs.map (fz fl top base σ n)) := by simp [fz]
@[simp] theorem fz_lst (cs : List AVal) : fz fl top base σ (n + 1) (.lst cs) = listAt fl cs (cs.map (fz fl false base σ n)) := by simp [fz]
@[simp] theorem fz_fn (f : Nat) (a c : List AVal) : fz fl top base σ (n + 1) (.fn f a c) = .fn f (a.map (fz fl top base σ n)) (c.map (fz fl top base σ n)) := by simp [fz]
@[simp] theorem fz_immf (xs : List AVal) : fz fl top base σ (n + 1) (.imm false xs) = .imm false xs := by simp [fz]
@[simp] theorem fz_immt (b : Bool) (xs : List AVal) : fz true top base σ (n + 1) (.imm b xs) = .imm b xs := by simp [fz]
@[simp] theorem fz_immk (b : Bool) (xs : List AVal) : fz fl true base σ (n + 1) (.imm b xs) = .imm b xs := by simp [fz]
@[simp] theorem fz_cptrf (x : AVal) (o : Nat) : fz fl top base σ (n + 1) (.cptr false x o) = .cptr false x o := by simp [fz]
@[simp] theorem fz_cptrt (x : AVal) (o : Nat) : fz true top base σ (n + 1) (.cptr true x o) = cptrAt true x (fz true false base σ n x) o := by simp [fz]
@[simp] theorem fz_cptrk (x : AVal) (o : Nat) : fz false true base σ (n + 1) (.cptr true x o) = cptrAt true x (fz false true base σ n x) o := by simp [fz]
@[simp] theorem fz_imapf (x : List (AVal × AVal)) : fz fl top base σ (n + 1) (.imap false x) = .imap false x := by simp [fz]
@[simp] theorem fz_imapt (b : Bool) (x : List (AVal × AVal)) : fz true top base σ (n + 1) (.imap b x) = .imap b x := by simp [fz]
@[simp] theorem fz_imapk (b : Bool) (x : List (AVal × AVal)) : fz fl true base σ (n + 1) (.imap b x) = .imap b x := by simp [fz]
@[simp] theorem fz_sl (id ep off len : Nat) : fz fl top base σ (n + 1) (.sl id ep off len) = if id < base then (if top then .sl id ep off len else .any) else (sliceAt σ id ep off len).elim .any fun l => listAt fl l (l.map (fz fl false base σ n)) := by simp only [fz]
@[simp] theorem fz_ptr (id ep i off : Nat) : fz fl top base σ (n + 1) (.ptr id ep i off) = if id < base then (if top then .ptr id ep i off else .any) else (elemAt σ id ep i).elim .any fun x => cptrAt fl x (fz fl false base σ n x) off := by simp only [fz]
@[simp] theorem fz_mp (id : Nat) : fz fl top base σ (n + 1) (.mp id) = if id < base then (if top then .mp id else .any) else (entriesAt σ id).elim .any fun es => .imap fl (es.map fun e => (e.1, fz fl false base σ n e.2)) := by simp only [fz]
end
theorem listAt_ok {fl : Bool} {l l' : List AVal} (h : l'.map ncells = l.map ncells) : listAt fl l l' = .imm fl l' := by unfold listAt; rw [if_pos h]
attribute [simp] listAt cptrAt arrAt frsAt
@[simp] theorem frozen_eq (σ : Store) (v : AVal) : frozen σ v = fz false false 0 σ 20 v := rfl
@[simp] theorem snap_eq (σ : Store) (v : AVal) : snap σ v = fz true false 0 σ 20 v := rfl
@[simp] theorem freeze_eq (b : Nat) (σ : Store) (v : AVal) : freeze b σ v = fz false true b σ 20 v := rfl
@[simp] theorem mater_false_1 (k : IntKind) (n : Int) (σ : Store) : mater false (.int k n, σ) = (.int k n, σ) := rfl
attribute [simp] mater mater1
theorem wrap64_id {n : Int} (h : -9223372036854775808 ≤ n ∧ n < 9223372036854775808) : IntKind.i64.wrap n = n := by
  simp [IntKind.wrap, IntKind.bits, IntKind.signed]; omega
end Go.AM

namespace Go.AM
theorem rounds_iter {base : Nat} {clr : List Nat} {b : ACode} (I : Nat → St) (n : Nat) (r : Ex × St)
    (step : ∀ k, k < n → thenLoop base clr b (run code b (I k)) = rounds code base clr b (I (k + 1))) (last : thenLoop base clr b (run code b (I n)) = some r) :
    rounds code base clr b (I 0) = some r := by
  have key : ∀ m k, k + m = n → rounds code base clr b (I k) = some r := by
    intro m
    induction m with
    | zero =>
      intro k hk
      obtain rfl : k = n := by omega
      rw [rounds_eq good]
      exact last
    | succ m ih =>
      intro k hk
      rw [rounds_eq good]
      exact (step k (by omega)).trans (ih (k + 1) (by omega))
  exact key n 0 (by omega)
@[simp] theorem thenLoop_nrm (base : Nat) (clr : List Nat) (b : ACode) (s : St) : thenLoop base clr b (some (.nrm, s)) = rounds code base clr b (roundEnd base clr s) := rfl
@[simp] theorem thenLoop_ext (base : Nat) (clr : List Nat) (b : ACode) (s : St) (i : Nat) : thenLoop base clr b (some (.ext i, s)) = some (.ext i, s) := rfl
@[simp] theorem thenLoop_ret (base : Nat) (clr : List Nat) (b : ACode) (s : St) : thenLoop base clr b (some (.ret, s)) = some (.ret, s) := rfl
theorem roundEnd_same {base : Nat} {clr : List Nat} {env : List AVal} {σ : Store} (h : σ.length = base) : roundEnd base clr ⟨env, σ⟩ = ⟨clear env clr, σ⟩ := by
  unfold roundEnd
  rw [if_pos h]
theorem wrap_lt {k n : Nat} (h1 : k < n) (h2 : n ≤ most) : IntKind.i64.wrap ((k : Int) + 1) = ((k + 1 : Nat) : Int) := by
  rw [wrap64_id (by unfold most at h2; omega)]
  omega
end Go.AM
section

namespace Go.AM
open P
set_option maxHeartbeats 8000000
set_option maxRecDepth 8000
structure Val where
  k : Int
  n : Int
  u : Int
  s : List UInt8
  deriving DecidableEq, Inhabited
def Val.a (v : Val) : AVal := .agg [.int .i64 v.k, .int .i64 v.n, .int .u64 v.u, .str v.s]
@[simp] theorem a_fz (v : Val) (fl top : Bool) (base : Nat) (σ : Store) (n : Nat) : fz fl top base σ (n + 2) v.a = v.a := by simp [Val.a]
abbrev SL (α : Type) := { l : List α // l.length ≤ maxLen }
def slA {α : Type} (f : α → AVal) (l : SL α) : AVal := .imm true (l.1.map f)
theorem wrap_sl {k n : Nat} (h1 : k < n) (h2 : n ≤ maxLen) : IntKind.i64.wrap ((k : Int) + 1) = ((k + 1 : Nat) : Int) := by
  have : n ≤ 9223372036854775807 := h2
  rw [wrap64_id (by omega)]
  omega
theorem rounds_go' (base : Nat) (clr : List Nat) (b : ACode) (s : St) : rounds code base clr b s = thenLoop base clr b (run code b s) := rounds_eq good base clr b s
theorem same_diff {α : Type} [DecidableEq α] : ∀ {l m : List α}, l.length = m.length → ∃ d, d ≤ l.length ∧ (∀ k (_ : k < d) (h1 : k < l.length) (h2 : k < m.length), l[k] = m[k]) ∧
    ((d = l.length ∧ decide (l = m) = true) ∨ (∃ (h1 : d < l.length) (h2 : d < m.length), l[d] ≠ m[d] ∧ decide (l = m) = false))
  | [], [], _ => ⟨0, Nat.le_refl _, fun k h => absurd h (Nat.not_lt_zero _), .inl ⟨rfl, rfl⟩⟩
  | [], _ :: _, h => by cases h
  | _ :: _, [], h => by cases h
  | a :: l, b :: m, h => by
    by_cases hab : a = b
    · obtain ⟨d, h1, h2, h3⟩ := same_diff (l := l) (m := m) (by simpa using h)
      refine ⟨d + 1, by simpa using h1, fun k hk a1 a2 => ?_, ?_⟩
      · cases k with
        | zero => exact hab
        | succ k => exact h2 k (by omega) (by simpa using a1) (by simpa using a2)
      · rcases h3 with ⟨e1, e2⟩ | ⟨q1, q2, e1, e2⟩
        · exact .inl ⟨by simp [e1], by simpa [hab] using e2⟩
        · exact .inr ⟨by simpa using q1, by simpa using q2, by simpa using e1, by simpa [hab] using e2⟩
    · exact ⟨0, Nat.zero_le _, fun k h => absurd h (Nat.not_lt_zero _), .inr ⟨by simp, by simp, hab, by simp [hab]⟩⟩
theorem map_get {α : Type} {f : α → AVal} {l : List α} {k : Nat} (h : k < l.length) : (l.map f)[k]? = some (f l[k]) := by simp [h]
theorem map_getE {α : Type} {f : α → AVal} {l : List α} {k : Nat} (h : k < (l.map f).length) : (l.map f)[k] = f (l[k]'(by simpa using h)) := by simp
theorem bne_len {n m : Nat} (h : ¬ n = m) : (((n : Int)) != (m : Int)) = true := by simp; omega
theorem EqF_Row {α : Type} [DecidableEq α] {f : α → AVal} {g : AVal} {t t' : Bool} {l m : List α} (hn : l.length ≤ maxLen) (hf : ∀ a, ncells (f a) = 1 ∧ isAgg (f a) = false) (hg : ∀ fl top σ, (fl || top) = true → fz fl top 0 σ 20 g = g)
    (hc : ∀ a b σ, acallV code g [f a, f b] σ = some (.bool (decide (a = b)), σ)) : pcall I.slices_EqualFunc_api_Row_api_Row_api_Row_api_Row [.imm t (l.map f), .imm t' (m.map f), g] = some (.bool (decide (l = m))) := by
  rw [pcall_eq c_slices_EqualFunc_api_Row_api_Row_api_Row_api_Row rfl]
  have hg1 := hg true false [] rfl
  generalize hX : l.map f = xs
  generalize hY : m.map f = ys
  have lX : xs.length = l.length := by rw [← hX]; simp
  have lY : ys.length = m.length := by rw [← hY]; simp
  by_cases hlen : l.length = m.length
  · obtain ⟨d, h1, h2, h3⟩ := same_diff hlen
    have hstep : ∀ k, k < d → thenLoop 0 [3, 4, 5, 6, 11, 12] l_slices_EqualFunc_api_Row_api_Row_api_Row_api_Row_0 (run code l_slices_EqualFunc_api_Row_api_Row_api_Row_api_Row_0 ⟨[.imm t xs, .imm t' ys, g, .any, .any, .any, .any, .bool false, .imm t xs, .int .i64 l.length, .int .i64 k, .any, .any], []⟩) = rounds code 0 [3, 4, 5, 6, 11, 12] l_slices_EqualFunc_api_Row_api_Row_api_Row_api_Row_0 ⟨[.imm t xs, .imm t' ys, g, .any, .any, .any, .any, .bool false, .imm t xs, .int .i64 l.length, .int .i64 (k + 1 : Nat), .any, .any], []⟩ := fun k hk => by
      have a1 : k < l.length := by omega
      have a2 : k < m.length := by omega
      have e1 : xs[k]? = some (f l[k]) := by rw [← hX]; exact map_get a1
      have e2 : ys[k]? = some (f m[k]) := by rw [← hY]; exact map_get a2
      have e3 := hc l[k] m[k]
      have e4 := hf l[k]
      have e5 := hf m[k]
      have e6 := h2 k hk a1 a2
      rw [e6] at e1 e3 e4
      have i1 : ((k : Int) < (l.length : Int)) := by omega
      simp [l_slices_EqualFunc_api_Row_api_Row_api_Row_api_Row_0, e1, e2, e3, e4, e5, i1, wrap_sl a1 hn, roundEnd, hg]
    rcases h3 with ⟨e1, e2⟩ | ⟨q1, q2, e1, e2⟩
    · have hloop := rounds_iter (base := 0) (clr := [3, 4, 5, 6, 11, 12]) (b := l_slices_EqualFunc_api_Row_api_Row_api_Row_api_Row_0) (fun k => ⟨[.imm t xs, .imm t' ys, g, .any, .any, .any, .any, .bool false, .imm t xs, .int .i64 l.length, .int .i64 k, .any, .any], []⟩) d _ hstep (by
        subst e1
        simp [l_slices_EqualFunc_api_Row_api_Row_api_Row_api_Row_0]; rfl)
      simp [f_slices_EqualFunc_api_Row_api_Row_api_Row_api_Row, b_slices_EqualFunc_api_Row_api_Row_api_Row_api_Row, hg1, hlen, lX, lY]
      simp [hlen] at hloop
      rw [hloop, e2]
      simp
    · have hloop := rounds_iter (base := 0) (clr := [3, 4, 5, 6, 11, 12]) (b := l_slices_EqualFunc_api_Row_api_Row_api_Row_api_Row_0) (fun k => ⟨[.imm t xs, .imm t' ys, g, .any, .any, .any, .any, .bool false, .imm t xs, .int .i64 l.length, .int .i64 k, .any, .any], []⟩) d _ hstep (by
        have a1 : xs[d]? = some (f l[d]) := by rw [← hX]; exact map_get q1
        have a2 : ys[d]? = some (f m[d]) := by rw [← hY]; exact map_get q2
        have a3 := hc l[d] m[d]
        have e4 := hf l[d]
        have e5 := hf m[d]
        rw [decide_eq_false e1] at a3
        have i1 : ((d : Int) < (l.length : Int)) := by omega
        simp [l_slices_EqualFunc_api_Row_api_Row_api_Row_api_Row_0, a1, a2, a3, e4, e5, i1]; rfl)
      simp [f_slices_EqualFunc_api_Row_api_Row_api_Row_api_Row, b_slices_EqualFunc_api_Row_api_Row_api_Row_api_Row, hg1, hlen, lX, lY]
      simp [hlen] at hloop
      rw [hloop, e2]
      simp
  · have hne : decide (l = m) = false := decide_eq_false fun e => hlen (congrArg List.length e)
    rw [hne]
    simp [f_slices_EqualFunc_api_Row_api_Row_api_Row_api_Row, b_slices_EqualFunc_api_Row_api_Row_api_Row_api_Row, hg1, bne_len hlen, lX, lY]
theorem Eq_Val {α : Type} [DecidableEq α] {f : α → AVal} {t t' : Bool} {l m : List α} (hn : l.length ≤ maxLen) (hf : ∀ a, ncells (f a) = 4 ∧ isAgg (f a) = true)
    (hc : ∀ a b, eqa true [0, 0, 0, 2] (f a) (f b) = some (.bool (!decide (a = b)))) : pcall I.slices_Equal_api_Row_api_Value [.imm t (l.map f), .imm t' (m.map f)] = some (.bool (decide (l = m))) := by
  rw [pcall_eq c_slices_Equal_api_Row_api_Value rfl]
  generalize hX : l.map f = xs
  generalize hY : m.map f = ys
  have lX : xs.length = l.length := by rw [← hX]; simp
  have lY : ys.length = m.length := by rw [← hY]; simp
  by_cases hlen : l.length = m.length
  · obtain ⟨d, h1, h2, h3⟩ := same_diff hlen
    have hstep : ∀ k, k < d → thenLoop 0 [2, 3, 7, 8] l_slices_Equal_api_Row_api_Value_0 (run code l_slices_Equal_api_Row_api_Value_0 ⟨[.imm t xs, .imm t' ys, .any, .any, .bool false, .int .i64 l.length, .int .i64 k, .any, .any], []⟩) = rounds code 0 [2, 3, 7, 8] l_slices_Equal_api_Row_api_Value_0 ⟨[.imm t xs, .imm t' ys, .any, .any, .bool false, .int .i64 l.length, .int .i64 (k + 1 : Nat), .any, .any], []⟩ := fun k hk => by
      have a1 : k < l.length := by omega
      have a2 : k < m.length := by omega
      have e1 : xs[k]? = some (f l[k]) := by rw [← hX]; exact map_get a1
      have e2 : ys[k]? = some (f m[k]) := by rw [← hY]; exact map_get a2
      have e3 := hc l[k] m[k]
      have e4 := hf l[k]
      have e5 := hf m[k]
      have e6 := h2 k hk a1 a2
      rw [e6] at e1 e3 e4
      have i1 : ((k : Int) < (l.length : Int)) := by omega
      have i2 : bin .lss (.int .i64 (k : Int)) (.int .i64 (l.length : Int)) = some (.bool true) := by simp [i1]
      have i3 : bin .add (.int .i64 (k : Int)) (.int .i64 1) = some (.int .i64 ((k + 1 : Nat) : Int)) := by simp [wrap_sl a1 hn]
      simp [l_slices_Equal_api_Row_api_Value_0, e1, e2, -eqa,  i2, i3, e3, e4, e5, i1, wrap_sl a1 hn, roundEnd]
    rcases h3 with ⟨e1, e2⟩ | ⟨q1, q2, e1, e2⟩
    · have hloop := rounds_iter (base := 0) (clr := [2, 3, 7, 8]) (b := l_slices_Equal_api_Row_api_Value_0) (fun k => ⟨[.imm t xs, .imm t' ys, .any, .any, .bool false, .int .i64 l.length, .int .i64 k, .any, .any], []⟩) d _ hstep (by
        subst e1
        simp [l_slices_Equal_api_Row_api_Value_0]; rfl)
      simp [f_slices_Equal_api_Row_api_Value, b_slices_Equal_api_Row_api_Value, hlen, lX, lY]
      simp [hlen] at hloop
      rw [hloop, e2]
      simp
    · have hloop := rounds_iter (base := 0) (clr := [2, 3, 7, 8]) (b := l_slices_Equal_api_Row_api_Value_0) (fun k => ⟨[.imm t xs, .imm t' ys, .any, .any, .bool false, .int .i64 l.length, .int .i64 k, .any, .any], []⟩) d _ hstep (by
        have a1 : xs[d]? = some (f l[d]) := by rw [← hX]; exact map_get q1
        have a2 : ys[d]? = some (f m[d]) := by rw [← hY]; exact map_get q2
        have a3 := hc l[d] m[d]
        have e4 := hf l[d]
        have e5 := hf m[d]
        rw [decide_eq_false e1] at a3
        have i1 : ((d : Int) < (l.length : Int)) := by omega
        have i2 : bin .lss (.int .i64 (d : Int)) (.int .i64 (l.length : Int)) = some (.bool true) := by simp [i1]
        simp [l_slices_Equal_api_Row_api_Value_0, a1, a2, -eqa,  i2, a3, e4, e5, i1]; rfl)
      simp [f_slices_Equal_api_Row_api_Value, b_slices_Equal_api_Row_api_Value, hlen, lX, lY]
      simp [hlen] at hloop
      rw [hloop, e2]
      simp
  · have hne : decide (l = m) = false := decide_eq_false fun e => hlen (congrArg List.length e)
    rw [hne]
    simp [f_slices_Equal_api_Row_api_Value, b_slices_Equal_api_Row_api_Value, bne_len hlen, lX, lY]
@[simp] theorem ncells_slA {α : Type} (f : α → AVal) (l : SL α) : ncells (slA f l) = 1 := rfl
@[simp] theorem isAgg_slA {α : Type} (f : α → AVal) (l : SL α) : isAgg (slA f l) = false := rfl
@[simp] theorem cellsOf_slA {α : Type} (f : α → AVal) (l : SL α) : cellsOf (slA f l) = [slA f l] := rfl
@[simp] theorem fz_slA {α : Type} (f : α → AVal) (l : SL α) (top : Bool) (base : Nat) (σ : Store) (n : Nat) : fz true top base σ (n + 1) (slA f l) = slA f l := by simp [slA]
@[simp] theorem fz_slA' {α : Type} (f : α → AVal) (l : SL α) (fl : Bool) (base : Nat) (σ : Store) (n : Nat) : fz fl true base σ (n + 1) (slA f l) = slA f l := by simp [slA]
theorem sl_dec {α : Type} [DecidableEq α] (l m : SL α) : decide (l.1 = m.1) = decide (l = m) := by simp [Subtype.ext_iff]
theorem bq {α : Type} [BEq α] [LawfulBEq α] {a b : α} (h : ¬ a = b) : (a == b) = false := by simp [h]
abbrev RowT := SL Val
abbrev RowT.a (r : RowT) : AVal := slA Val.a r
theorem row_Same_116 (a b : RowT) : pcall I.row_equal [slA Val.a a, slA Val.a b] = some (.bool (decide (a = b))) := by
  rw [pcall_eq c_row_equal rfl, ← sl_dec]
  have := Eq_Val (f := Val.a) (t := true) (t' := true) (l := a.1) (m := b.1) a.2 (fun a => ⟨rfl, rfl⟩) (fun a b => by
    cases a; cases b
    simp [Val.a, eqa, Val.mk.injEq]
    repeat (split <;> simp_all))
  simp [f_row_equal, b_row_equal, slA, this]
theorem row_Same_44 (s : Bool) (a b : SL RowT) : pcall I.row_Same [.imm s (a.1.map RowT.a), slA RowT.a b] = some (.bool (decide (a = b))) := by
  rw [pcall_eq c_row_Same rfl, ← sl_dec]
  have : pcall I.slices_EqualFunc_api_Row_api_Row_api_Row_api_Row [.imm s (a.1.map RowT.a), slA RowT.a b, .fn I.row_equal [] []] = some (.bool (decide (a.1 = b.1))) := EqF_Row (f := RowT.a) (g := .fn I.row_equal [] []) (t := s) (t' := true) (l := a.1) (m := b.1) a.2 (fun a => ⟨rfl, rfl⟩) (fun fl top σ _ => by simp) (fun a b σ => by
    simp [row_Same_116])
  simp [f_row_Same, b_row_Same, this]
theorem bn {α : Type} [BEq α] [LawfulBEq α] {a b : α} (h : ¬ a = b) : (a != b) = true := by simp [h]
theorem eqa_val (a b : Val) : eqa true [0, 0, 0, 2] a.a b.a = some (.bool (!decide (a = b))) := by
  cases a; cases b
  simp [Val.a, eqa, Val.mk.injEq]
  repeat (split <;> simp_all)
theorem same_loop {α : Type} [DecidableEq α] {l m : List α} {base : Nat} {clr : List Nat} {b : ACode} {S : Nat → St} {E : Ex × St} {j : Nat} (hlen : l.length = m.length)
    (hst : ∀ k (h1 : k < l.length) (h2 : k < m.length), l[k] = m[k] → thenLoop base clr b (run code b (S k)) = rounds code base clr b (S (k + 1)))
    (hend : thenLoop base clr b (run code b (S l.length)) = some E)
    (hne : ∀ k (h1 : k < l.length) (h2 : k < m.length), l[k] ≠ m[k] → ∃ s, thenLoop base clr b (run code b (S k)) = some (.ret, s) ∧ s.env[j]? = some (.bool false)) :
    (l = m ∧ rounds code base clr b (S 0) = some E) ∨ (¬ l = m ∧ ∃ s, rounds code base clr b (S 0) = some (.ret, s) ∧ s.env[j]? = some (.bool false)) := by
  obtain ⟨d, h1, h2, h3⟩ := same_diff hlen
  rcases h3 with ⟨e1, e2⟩ | ⟨q1, q2, e1, e2⟩
  · refine .inl ⟨of_decide_eq_true e2, rounds_iter S d _ (fun k hk => hst k (by omega) (by omega) (h2 k hk (by omega) (by omega))) ?_⟩
    rw [e1]; exact hend
  · obtain ⟨s, a1, a2⟩ := hne d q1 q2 e1
    exact .inr ⟨of_decide_eq_false e2, s, rounds_iter S d _ (fun k hk => hst k (by omega) (by omega) (h2 k hk (by omega) (by omega))) a1, a2⟩
theorem leave_at {s : St} {j : Nat} {b : Bool} (h : s.env[j]? = some (.bool b)) : thenLeave .pure [.env j] (some (.ret, s)) = some (.bool b) := by
  simp [thenLeave, leave, h]
theorem slA_imm {α : Type} (f : α → AVal) (l : SL α) : ∃ xs, slA f l = .imm true xs ∧ xs.length = l.1.length := ⟨_, rfl, by simp⟩
def rowC (c : Bool) (r : RowT) : AVal := .imm c (r.1.map Val.a)
theorem rowC_imm (r : RowT) : ∃ xs, (∀ c, rowC c r = .imm c xs) ∧ xs.length = r.1.length := ⟨_, fun _ => rfl, by simp⟩
theorem loop21i (s0 t0 c0 c1 : Bool) (xs0 ys0 : List AVal) (k0 : Nat) (a b : SL Val) (hlen : a.1.length = b.1.length) (hx : xs0[k0]? = some (rowC c0 a)) (hy : ys0[k0]? = some (rowC c1 b)) : (a = b ∧ rounds code 0 [2, 8, 9] l_bref21_Same_0 ⟨[.imm s0 xs0, .imm t0 ys0, .any, .int .i64 (k0 : Nat), .int .i64 0, .bool false, .bool true, .bool false, .any, .any], []⟩ = some (.ext 2, ⟨[.imm s0 xs0, .imm t0 ys0, .any, .int .i64 (k0 : Nat), .int .i64 a.1.length, .bool false, .bool true, .bool false, .bool false, .any], []⟩)) ∨
    (¬ a = b ∧ ∃ s, rounds code 0 [2, 8, 9] l_bref21_Same_0 ⟨[.imm s0 xs0, .imm t0 ys0, .any, .int .i64 (k0 : Nat), .int .i64 0, .bool false, .bool true, .bool false, .any, .any], []⟩ = some (.ret, s) ∧ s.env[2]? = some (.bool false)) := by
  obtain ⟨l, hn⟩ := a
  obtain ⟨m, hm⟩ := b
  simp only [Subtype.mk.injEq]
  have hf : ∀ a : Val, ncells (Val.a a) = 4 ∧ isAgg (Val.a a) = true := fun a => ⟨rfl, rfl⟩
  have hz : ∀ (a : Val) (top : Bool) (base : Nat) (σ : Store) (n : Nat), fz true top base σ (n + 3) (Val.a a) = Val.a a := fun a top base σ n => by simp [Val.a]
  generalize hX : l.map Val.a = xs
  generalize hY : m.map Val.a = ys
  have hA : rowC c0 ⟨l, hn⟩ = .imm c0 xs := by simp [rowC, hX]
  have hB : rowC c1 ⟨m, hm⟩ = .imm c1 ys := by simp [rowC, hY]
  have lX : xs.length = l.length := by rw [← hX]; simp
  have lY : ys.length = m.length := by rw [← hY]; simp
  simp only [hA, hB] at hx hy
  simp only at hlen
  refine same_loop (S := fun k => ⟨[.imm s0 xs0, .imm t0 ys0, .any, .int .i64 (k0 : Nat), .int .i64 k, .bool false, .bool true, .bool false, .any, .any], []⟩) hlen (fun k a1 a2 e6 => ?_) ?_ (fun k a1 a2 e6 => ?_)
  · have e1 : xs[k]? = some (Val.a l[k]) := by rw [← hX]; exact map_get a1
    have e2 : ys[k]? = some (Val.a m[k]) := by rw [← hY]; exact map_get a2
    rw [e6] at e1
    have e4 := hf m[k]
    generalize m[k] = x at *
    have i1 : ((k : Int) < (l.length : Int)) := by omega
    have i2 : bin .lss (.int .i64 (k : Int)) (.int .i64 (l.length : Int)) = some (.bool true) := by simp [i1]
    have i3 : bin .add (.int .i64 (k : Int)) (.int .i64 1) = some (.int .i64 ((k + 1 : Nat) : Int)) := by simp [wrap_sl a1 hn]
    have e3 := eqa_val x x
    simp [l_bref21_Same_0, -eqa, e1, e2, e4, i1, i2, i3, lX, hz, wrap_sl a1 hn, roundEnd, e3, hx, hy]
  · simp [l_bref21_Same_0, lX, hx, hy]; all_goals rfl
  · have e1 : xs[k]? = some (Val.a l[k]) := by rw [← hX]; exact map_get a1
    have e2 : ys[k]? = some (Val.a m[k]) := by rw [← hY]; exact map_get a2
    have e4 := hf m[k]
    have e5 := hf l[k]
    generalize m[k] = y at *
    generalize l[k] = x at *
    have i1 : ((k : Int) < (l.length : Int)) := by omega
    have i2 : bin .lss (.int .i64 (k : Int)) (.int .i64 (l.length : Int)) = some (.bool true) := by simp [i1]
    have e3 := eqa_val x y
    refine ⟨_, by simp [l_bref21_Same_0, -eqa, e1, e2, e4, e5, e6, bn e6, bq e6, i1, i2, lX, hz, e3, hx, hy]; rfl, ?_⟩
    rfl
theorem rows_Same_431 (s0 t0 c0 c1 : Bool) (a b : SL RowT) : pcall I.bref21_Same [.imm s0 (a.1.map (rowC c0)), .imm t0 (b.1.map (rowC c1))] = some (.bool (decide (a = b))) := by
  rw [pcall_eq c_bref21_Same rfl, ← sl_dec]
  obtain ⟨l, hn⟩ := a
  obtain ⟨m, hm⟩ := b
  simp only
  generalize hX : l.map (rowC c0) = xs
  generalize hY : m.map (rowC c1) = ys
  have lX : xs.length = l.length := by rw [← hX]; simp
  have lY : ys.length = m.length := by rw [← hY]; simp
  by_cases hlen : l.length = m.length
  · have hloop := same_loop (l := l) (m := m) (base := 0) (clr := [2, 4, 6, 7, 8, 9]) (b := l_bref21_Same_1) (j := 2) (S := fun k => ⟨[.imm s0 xs, .imm t0 ys, .any, .int .i64 k, .any, .bool false, .any, .any, .any, .any], []⟩)
      (E := (.ext 0, ⟨[.imm s0 xs, .imm t0 ys, .any, .int .i64 l.length, .any, .bool false, .bool false, .any, .any, .any], []⟩)) hlen (fun k a1 a2 e6 => by
        have e1 : xs[k]? = some (rowC c0 l[k]) := by rw [← hX]; exact map_get a1
        have e2 : ys[k]? = some (rowC c1 m[k]) := by rw [← hY]; exact map_get a2
        have hi := loop21i s0 t0 c0 c1 xs ys k l[k] m[k] (by rw [e6]) e1 e2
        rw [e6] at e1 hi
        generalize m[k] = x at *
        obtain ⟨zs, hZ, lZ⟩ := rowC_imm x
        rw [hZ] at e1 e2
        have i1 : ((k : Int) < (l.length : Int)) := by omega
        rcases hi with ⟨_, hi⟩ | ⟨h, _⟩
        · simp [l_bref21_Same_1, e1, e2, i1, lX, lZ, hi, wrap_sl a1 hn, roundEnd]
        · exact absurd rfl h) (by simp [l_bref21_Same_1, lX]) (fun k a1 a2 e6 => by
        have e1 : xs[k]? = some (rowC c0 l[k]) := by rw [← hX]; exact map_get a1
        have e2 : ys[k]? = some (rowC c1 m[k]) := by rw [← hY]; exact map_get a2
        have i1 : ((k : Int) < (l.length : Int)) := by omega
        have hi : l[k].1.length = m[k].1.length → _ := fun hh => loop21i s0 t0 c0 c1 xs ys k l[k] m[k] hh e1 e2
        generalize m[k] = y at *
        generalize l[k] = x at *
        obtain ⟨zs, hZ, lZ⟩ := rowC_imm x
        obtain ⟨ws, hW, lW⟩ := rowC_imm y
        rw [hZ] at e1
        rw [hW] at e2
        by_cases hl : x.1.length = y.1.length
        · rcases hi hl with ⟨h, _⟩ | ⟨_, s, hi, hs⟩
          · exact absurd h e6
          · exact ⟨s, by simp [l_bref21_Same_1, e1, e2, i1, lX, lZ, lW, hl, hi], hs⟩
        · refine ⟨_, by simp [l_bref21_Same_1, e1, e2, i1, lX, lZ, lW, bne_len hl]; rfl, ?_⟩
          rfl)
    rcases hloop with ⟨h, hl⟩ | ⟨h, s, hl, hs⟩
    · rw [decide_eq_true h]
      simp [hlen] at hl
      simp [f_bref21_Same, b_bref21_Same, lX, lY, hlen, hl]
    · rw [decide_eq_false h]
      simp at hl
      simp [f_bref21_Same, b_bref21_Same, lX, lY, hlen, hl, leave_at hs]
  · have hne : decide (l = m) = false := decide_eq_false fun e => hlen (congrArg List.length e)
    rw [hne]
    simp [f_bref21_Same, b_bref21_Same, lX, lY, bne_len hlen]
end Go.AM
end
section

namespace Go.AM
open P
set_option maxHeartbeats 8000000
set_option maxRecDepth 8000
def rowA (r : List Val) : List AVal := r.map Val.a
@[simp] theorem rowA_length (r : List Val) : (rowA r).length = r.length := by simp [rowA]
@[simp] theorem a_ncells (v : Val) : ncells v.a = 4 := rfl
@[simp] theorem a_isAgg (v : Val) : isAgg v.a = true := rfl
def blankV (v : Val) : Val :=
  if v.k = 1 then (if v.n ≠ 0 ∧ v.n ≠ 1 then v else { v with k := 0, n := 0 })
  else if v.k = 2 then { v with k := 0, n := 0 }
  else if v.k = 0 then v
  else if v.k = 3 then (if v.s.length ≤ 40 then { v with k := 0, s := [] } else v)
  else if v.k = 4 then { v with k := 0, n := 0, u := 0 }
  else v
def okV (v : Val) : Bool := blankV v == ⟨0, 0, 0, []⟩
theorem bne_t {a b : Int} (h : ¬ a = b) : (a != b) = true := by simp [h]
theorem beq_f {a b : Int} (h : ¬ a = b) : (a == b) = false := by simp [h]
theorem blank_spec (v : Val) : pcall I.value_blank [v.a] = some (blankV v).a := by
  rw [pcall_eq c_value_blank rfl]
  obtain ⟨k, n, u, s⟩ := v
  unfold blankV Val.a
  by_cases h1 : k = 1
  · subst h1
    by_cases hn : n = 0
    · subst hn; simp [f_value_blank, b_value_blank]
    · by_cases hn' : n = 1
      · subst hn'; simp [f_value_blank, b_value_blank]
      · simp [f_value_blank, b_value_blank, bne_t hn, bne_t hn', hn, hn']
  · by_cases h2 : k = 2
    · subst h2; simp [f_value_blank, b_value_blank]
    · by_cases h0 : k = 0
      · subst h0; simp [f_value_blank, b_value_blank]
      · by_cases h3 : k = 3
        · subst h3
          by_cases hs : s.length ≤ 40
          · have hs' : ((s.length : Int) ≤ 40) := by omega
            simp [f_value_blank, b_value_blank, hs, hs']
          · have hs' : ¬ ((s.length : Int) ≤ 40) := by omega
            simp [f_value_blank, b_value_blank, hs, hs']
        · by_cases h4 : k = 4
          · subst h4; simp [f_value_blank, b_value_blank]
          · simp [f_value_blank, b_value_blank, beq_f h1, beq_f h2, beq_f h0, beq_f h3, beq_f h4, h1, h2, h0, h3, h4]
theorem a_mk (k n u : Int) (s : List UInt8) : (Val.mk k n u s).a = .agg [.int .i64 k, .int .i64 n, .int .u64 u, .str s] := rfl
theorem Check_spec (v : Val) : pcall I.value_Check [v.a] = some (.int .i64 (if okV v then 0 else 120)) := by
  rw [pcall_eq c_value_Check rfl]
  have h := blank_spec v
  unfold okV
  generalize hb : blankV v = w at h
  obtain ⟨k, n, u, s⟩ := w
  by_cases hk : k = 0
  · by_cases hn : n = 0
    · by_cases hu : u = 0
      · by_cases hs : s = []
        · subst hk hn hu hs; simp [f_value_Check, b_value_Check, h, a_mk]
        · have hs' : (s == []) = false := by simp [hs]
          subst hk hn hu; simp [f_value_Check, b_value_Check, h, a_mk, hs, hs']
      · subst hk hn; simp [f_value_Check, b_value_Check, h, a_mk, hu, beq_f hu]
    · subst hk; simp [f_value_Check, b_value_Check, h, a_mk, hn, beq_f hn]
  · simp [f_value_Check, b_value_Check, h, a_mk, hk, beq_f hk]
theorem bad_spec (v : Val) : pcall I.row_right_1 [v.a] = some (.bool (!okV v)) := by
  rw [pcall_eq c_row_right_1 rfl]
  have h := Check_spec v
  cases hv : okV v <;> rw [hv] at h <;> simp [f_row_right_1, b_row_right_1, h]
def ixOf (p : AVal → Bool) (xs : List AVal) : Int := if xs.any p then (xs.findIdx p : Int) else -1
theorem findIdx_before {p : AVal → Bool} {xs : List AVal} {k : Nat} (h : k < xs.findIdx p) (hk : k < xs.length) : p xs[k] = false := by
  simpa using List.not_of_lt_findIdx h
theorem IndexVal {b : Bool} {xs : List AVal} {f : AVal} {p : AVal → Bool} (hn : xs.length ≤ maxLen) (hx : ∀ x ∈ xs, ncells x = 4 ∧ isAgg x = true) (hfs : fz true false 0 [] 20 f = f)
    (hf : ∀ x ∈ xs, acallV code f [x] [] = some (.bool (p x), [])) : pcall I.slices_IndexFunc_api_Row_api_Value [.imm b xs, f] = some (.int .i64 (ixOf p xs)) := by
  rw [pcall_eq c_slices_IndexFunc_api_Row_api_Value rfl]
  have hstep : ∀ k, k < xs.length → p xs[k]! = false → thenLoop 0 [2, 3, 6, 7] l_slices_IndexFunc_api_Row_api_Value_0 (run code l_slices_IndexFunc_api_Row_api_Value_0 ⟨[.imm b xs, f, .any, .any, .int .i64 xs.length, .int .i64 k, .any, .any], []⟩) =
      rounds code 0 [2, 3, 6, 7] l_slices_IndexFunc_api_Row_api_Value_0 ⟨[.imm b xs, f, .any, .any, .int .i64 xs.length, .int .i64 (k + 1 : Nat), .any, .any], []⟩ := fun k hk hp => by
    have h1 : xs[k]? = some xs[k] := by simp [hk]
    have h2 := hx xs[k] (List.getElem_mem hk)
    have h3 := hf xs[k] (List.getElem_mem hk)
    rw [show p xs[k] = false by simpa [hk] using hp] at h3
    have hlt : ((k : Int) < (xs.length : Int)) := by omega
    simp [l_slices_IndexFunc_api_Row_api_Value_0, h1, h2, h3, hlt, wrap_sl hk hn, roundEnd_same]
  by_cases ha : xs.any p = true
  · have hlt := List.findIdx_lt_length_of_exists (List.any_eq_true.1 ha)
    have hp : p xs[xs.findIdx p] = true := List.findIdx_getElem (w := hlt)
    have hloop := rounds_iter (base := 0) (clr := [2, 3, 6, 7]) (b := l_slices_IndexFunc_api_Row_api_Value_0) (fun k => ⟨[.imm b xs, f, .any, .any, .int .i64 xs.length, .int .i64 k, .any, .any], []⟩) (xs.findIdx p)
      (.ret, ⟨[.imm b xs, f, .int .i64 (xs.findIdx p), .int .i64 (xs.findIdx p), .int .i64 xs.length, .int .i64 (xs.findIdx p), .bool true, .bool true], []⟩)
      (fun k hk => hstep k (by omega) (by rw [getElem!_pos xs k (by omega)]; exact findIdx_before hk (by omega)))
      (by
        have h1 : xs[xs.findIdx p]? = some xs[xs.findIdx p] := List.getElem?_eq_getElem hlt
        have h2 := hx _ (List.getElem_mem hlt)
        have h3 := hf _ (List.getElem_mem hlt)
        rw [hp] at h3
        have hlt' : ((xs.findIdx p : Int) < (xs.length : Int)) := by omega
        simp [l_slices_IndexFunc_api_Row_api_Value_0, h1, h2, h3, hlt'])
    simp [f_slices_IndexFunc_api_Row_api_Value, b_slices_IndexFunc_api_Row_api_Value, hfs]
    simp at hloop
    rw [hloop]
    simp [ixOf, ha]
  · have hall : ∀ k (hk : k < xs.length), p xs[k] = false := fun k hk => by
      have := List.any_eq_false.1 (Bool.not_eq_true _ ▸ ha) xs[k] (List.getElem_mem hk)
      simpa using this
    have hloop := rounds_iter (base := 0) (clr := [2, 3, 6, 7]) (b := l_slices_IndexFunc_api_Row_api_Value_0) (fun k => ⟨[.imm b xs, f, .any, .any, .int .i64 xs.length, .int .i64 k, .any, .any], []⟩) xs.length
      (.ext 0, ⟨[.imm b xs, f, .any, .any, .int .i64 xs.length, .int .i64 xs.length, .bool false, .any], []⟩)
      (fun k hk => hstep k hk (by rw [getElem!_pos xs k hk]; exact hall k hk))
      (by simp [l_slices_IndexFunc_api_Row_api_Value_0])
    simp [f_slices_IndexFunc_api_Row_api_Value, b_slices_IndexFunc_api_Row_api_Value, hfs]
    simp at hloop
    rw [hloop]
    simp [ixOf, ha]
theorem IndexRow {b : Bool} {xs : List AVal} {f : AVal} {p : AVal → Bool} (hn : xs.length ≤ maxLen) (hx : ∀ x ∈ xs, ncells x = 1 ∧ isAgg x = false) (hfs : fz true false 0 [] 20 f = f)
    (hf : ∀ x ∈ xs, acallV code f [x] [] = some (.bool (p x), [])) : pcall I.slices_IndexFunc_api_Row_api_Row [.imm b xs, f] = some (.int .i64 (ixOf p xs)) := by
  rw [pcall_eq c_slices_IndexFunc_api_Row_api_Row rfl]
  have hstep : ∀ k, k < xs.length → p xs[k]! = false → thenLoop 0 [2, 3, 6, 7] l_slices_IndexFunc_api_Row_api_Row_0 (run code l_slices_IndexFunc_api_Row_api_Row_0 ⟨[.imm b xs, f, .any, .any, .int .i64 xs.length, .int .i64 k, .any, .any], []⟩) =
      rounds code 0 [2, 3, 6, 7] l_slices_IndexFunc_api_Row_api_Row_0 ⟨[.imm b xs, f, .any, .any, .int .i64 xs.length, .int .i64 (k + 1 : Nat), .any, .any], []⟩ := fun k hk hp => by
    have h1 : xs[k]? = some xs[k] := by simp [hk]
    have h2 := hx xs[k] (List.getElem_mem hk)
    have h3 := hf xs[k] (List.getElem_mem hk)
    rw [show p xs[k] = false by simpa [hk] using hp] at h3
    have hlt : ((k : Int) < (xs.length : Int)) := by omega
    simp [l_slices_IndexFunc_api_Row_api_Row_0, h1, h2, h3, hlt, wrap_sl hk hn, roundEnd_same]
  by_cases ha : xs.any p = true
  · have hlt := List.findIdx_lt_length_of_exists (List.any_eq_true.1 ha)
    have hp : p xs[xs.findIdx p] = true := List.findIdx_getElem (w := hlt)
    have hloop := rounds_iter (base := 0) (clr := [2, 3, 6, 7]) (b := l_slices_IndexFunc_api_Row_api_Row_0) (fun k => ⟨[.imm b xs, f, .any, .any, .int .i64 xs.length, .int .i64 k, .any, .any], []⟩) (xs.findIdx p)
      (.ret, ⟨[.imm b xs, f, .int .i64 (xs.findIdx p), .int .i64 (xs.findIdx p), .int .i64 xs.length, .int .i64 (xs.findIdx p), .bool true, .bool true], []⟩)
      (fun k hk => hstep k (by omega) (by rw [getElem!_pos xs k (by omega)]; exact findIdx_before hk (by omega)))
      (by
        have h1 : xs[xs.findIdx p]? = some xs[xs.findIdx p] := List.getElem?_eq_getElem hlt
        have h2 := hx _ (List.getElem_mem hlt)
        have h3 := hf _ (List.getElem_mem hlt)
        rw [hp] at h3
        have hlt' : ((xs.findIdx p : Int) < (xs.length : Int)) := by omega
        simp [l_slices_IndexFunc_api_Row_api_Row_0, h1, h2, h3, hlt'])
    simp [f_slices_IndexFunc_api_Row_api_Row, b_slices_IndexFunc_api_Row_api_Row, hfs]
    simp at hloop
    rw [hloop]
    simp [ixOf, ha]
  · have hall : ∀ k (hk : k < xs.length), p xs[k] = false := fun k hk => by
      have := List.any_eq_false.1 (Bool.not_eq_true _ ▸ ha) xs[k] (List.getElem_mem hk)
      simpa using this
    have hloop := rounds_iter (base := 0) (clr := [2, 3, 6, 7]) (b := l_slices_IndexFunc_api_Row_api_Row_0) (fun k => ⟨[.imm b xs, f, .any, .any, .int .i64 xs.length, .int .i64 k, .any, .any], []⟩) xs.length
      (.ext 0, ⟨[.imm b xs, f, .any, .any, .int .i64 xs.length, .int .i64 xs.length, .bool false, .any], []⟩)
      (fun k hk => hstep k hk (by rw [getElem!_pos xs k hk]; exact hall k hk))
      (by simp [l_slices_IndexFunc_api_Row_api_Row_0])
    simp [f_slices_IndexFunc_api_Row_api_Row, b_slices_IndexFunc_api_Row_api_Row, hfs]
    simp at hloop
    rw [hloop]
    simp [ixOf, ha]
theorem ContainsVal {b : Bool} {xs : List AVal} {f : AVal} {p : AVal → Bool} (hn : xs.length ≤ maxLen) (hx : ∀ x ∈ xs, ncells x = 4 ∧ isAgg x = true) (hfs : fz true false 0 [] 20 f = f)
    (hf : ∀ x ∈ xs, acallV code f [x] [] = some (.bool (p x), [])) : pcall I.slices_ContainsFunc_api_Row_api_Value [.imm b xs, f] = some (.bool (xs.any p)) := by
  rw [pcall_eq c_slices_ContainsFunc_api_Row_api_Value rfl]
  have h := IndexVal (b := b) hn hx hfs hf
  simp [f_slices_ContainsFunc_api_Row_api_Value, b_slices_ContainsFunc_api_Row_api_Value, h, hfs]
  unfold ixOf
  cases xs.any p
  · simp
  · simp
theorem ContainsRow {b : Bool} {xs : List AVal} {f : AVal} {p : AVal → Bool} (hn : xs.length ≤ maxLen) (hx : ∀ x ∈ xs, ncells x = 1 ∧ isAgg x = false) (hfs : fz true false 0 [] 20 f = f)
    (hf : ∀ x ∈ xs, acallV code f [x] [] = some (.bool (p x), [])) : pcall I.slices_ContainsFunc_api_Row_api_Row [.imm b xs, f] = some (.bool (xs.any p)) := by
  rw [pcall_eq c_slices_ContainsFunc_api_Row_api_Row rfl]
  have h := IndexRow (b := b) hn hx hfs hf
  simp [f_slices_ContainsFunc_api_Row_api_Row, b_slices_ContainsFunc_api_Row_api_Row, h, hfs]
  unfold ixOf
  cases xs.any p
  · simp
  · simp
def okR (r : List Val) : Bool := decide (r.length ≤ 16) && r.all okV
def asVal : AVal → Val
  | .agg [.int _ k, .int _ n, .int _ u, .str s] => ⟨k, n, u, s⟩
  | _ => default
def asRow : AVal → List Val
  | .imm _ xs => xs.map asVal
  | _ => []
@[simp] theorem asVal_a (v : Val) : asVal v.a = v := rfl
@[simp] theorem asRow_a (b : Bool) (r : List Val) : asRow (.imm b (rowA r)) = r := by simp [asRow, rowA, Function.comp_def]
theorem acallV_fn {f : Nat} {args cap : List AVal} {v : AVal} (h : acall code f (args ++ cap) [] = some (v, [])) : acallV code (.fn f [] cap) args [] = some (v, []) := by simpa using h
theorem not_any_not {α : Type} (p : α → Bool) (l : List α) : (!l.any fun x => !p x) = l.all p := by
  induction l with
  | nil => rfl
  | cons a l ih => simp [List.any_cons, List.all_cons, ← ih]
theorem right_spec (b : Bool) (r : List Val) : pcall I.row_right [.imm b (rowA r)] = some (.bool (okR r)) := by
  rw [pcall_eq c_row_right rfl]
  unfold okR
  by_cases h : r.length ≤ 16
  · have hi : ((r.length : Int) ≤ 16) := by omega
    have hc := fun b => ContainsVal (b := b) (xs := rowA r) (f := .fn I.row_right_1 [] []) (p := fun x => !okV (asVal x)) (by simp; unfold maxLen; omega) (fun x hx => by
        obtain ⟨v, _, rfl⟩ := List.mem_map.1 hx
        exact ⟨rfl, rfl⟩) (by simp) (fun x hx => by
        obtain ⟨v, hv, rfl⟩ := List.mem_map.1 hx
        have := bad_spec v
        simp [this])
    have e : (!(rowA r).any fun x => !okV (asVal x)) = r.all okV := by
      rw [← not_any_not, rowA, List.any_map]
      simp [Function.comp_def]
    simp [f_row_right, b_row_right, hi, hc, h, e]
  · have hi : ¬ ((r.length : Int) ≤ 16) := by omega
    simp [f_row_right, b_row_right, h, hi]
theorem rowCheck_spec (b : Bool) (r : List Val) : pcall I.row_Check [.imm b (rowA r)] = some (.int .i64 (if okR r then 0 else 150)) := by
  rw [pcall_eq c_row_Check rfl]
  have h := fun b => right_spec b r
  cases hr : okR r <;> rw [hr] at h <;> simp [f_row_Check, b_row_Check, h]
def zeroV : Val := ⟨0, 0, 0, []⟩
theorem zero_eq (v : Val) : eqCells [0, 0, 0, 2] [.int .i64 v.k, .int .i64 v.n, .int .u64 v.u, .str v.s] [.int .i64 0, .int .i64 0, .int .u64 0, .str []] = some (v == zeroV) := by
  obtain ⟨k, n, u, s⟩ := v
  unfold zeroV
  by_cases hk : k = 0
  · by_cases hn : n = 0
    · by_cases hu : u = 0
      · by_cases hs : s = []
        · subst hk hn hu hs; simp
        · have hs' : (s == []) = false := by simp [hs]
          have e : ((⟨k, n, u, s⟩ : Val) == ⟨0, 0, 0, []⟩) = false := by simp [hs]
          rw [e]; simp [hk, hn, hu, hs']
      · have e : ((⟨k, n, u, s⟩ : Val) == ⟨0, 0, 0, []⟩) = false := by simp [hu]
        rw [e]; simp [hk, hn, beq_f hu]
    · have e : ((⟨k, n, u, s⟩ : Val) == ⟨0, 0, 0, []⟩) = false := by simp [hn]
      rw [e]; simp [hk, beq_f hn]
  · have e : ((⟨k, n, u, s⟩ : Val) == ⟨0, 0, 0, []⟩) = false := by simp [hk]
    rw [e]; simp [beq_f hk]
theorem okV_is (k n u : Int) (s : List UInt8) : okV ⟨k, n, u, s⟩ = if k = 0 then (decide (n = 0) && decide (u = 0) && decide (s = [])) else if k = 1 then (decide (u = 0) && decide (s = []) && (decide (n = 0) || decide (n = 1)))
    else if k = 2 then (decide (u = 0) && decide (s = [])) else if k = 3 then (decide (n = 0) && decide (u = 0) && decide (s.length ≤ 40)) else (decide (k = 4) && decide (s = [])) := by
  rw [Bool.eq_iff_iff]
  simp only [okV, blankV, beq_iff_eq]
  by_cases h0 : k = 0
  · subst h0; simp [and_assoc]
  · by_cases h1 : k = 1
    · subst h1
      by_cases a : n = 0
      · simp [a]
      · by_cases b : n = 1
        · simp [b]
        · simp [a, b]
    · by_cases h2 : k = 2
      · subst h2; simp
      · by_cases h3 : k = 3
        · subst h3
          by_cases a : s.length ≤ 40 <;> simp [a]
        · by_cases h4 : k = 4
          · subst h4; simp
          · simp [h0, h1, h2, h3, h4]
theorem str_nil (s : List UInt8) : (s == []) = decide (s = []) := by cases s <;> rfl
theorem Right02_v (w : Val) : pcall I.bref02_Right [w.a] = some (.bool (okV w)) := by
  rw [pcall_eq c_bref02_Right rfl]
  have hz := zero_eq w
  obtain ⟨k, n, u, s⟩ := w
  simp only at hz
  rw [okV_is]
  by_cases h0 : k = 0
  · subst h0
    have e : ((⟨0, n, u, s⟩ : Val) == zeroV) = (decide (n = 0) && decide (u = 0) && decide (s = [])) := by
      rw [Bool.eq_iff_iff]; simp [zeroV, and_assoc]
    rw [e] at hz
    simp [f_bref02_Right, b_bref02_Right, Val.a, hz, -eqCells, -Bool.and_eq_true]
  · by_cases h1 : k = 1
    · subst h1
      by_cases hu : u = 0
      · by_cases hs : s = []
        · by_cases hn0 : n = 0
          · subst hu hs hn0; simp [f_bref02_Right, b_bref02_Right, Val.a, binStr]
          · by_cases hn1 : n = 1
            · subst hu hs hn1; simp [f_bref02_Right, b_bref02_Right, Val.a, binStr]
            · subst hu hs; simp [f_bref02_Right, b_bref02_Right, Val.a, binStr, beq_f hn0, beq_f hn1, hn0, hn1]
        · have hs' : (s == []) = false := by rw [str_nil]; simp [hs]
          subst hu; simp [f_bref02_Right, b_bref02_Right, Val.a, binStr, hs, hs']
      · simp [f_bref02_Right, b_bref02_Right, Val.a, binStr, hu, beq_f hu]
    · by_cases h2 : k = 2
      · subst h2
        by_cases hu : u = 0
        · by_cases hs : s = []
          · subst hu hs; simp [f_bref02_Right, b_bref02_Right, Val.a, binStr]
          · have hs' : (s == []) = false := by rw [str_nil]; simp [hs]
            subst hu; simp [f_bref02_Right, b_bref02_Right, Val.a, binStr, hs, hs']
        · simp [f_bref02_Right, b_bref02_Right, Val.a, binStr, hu, beq_f hu]
      · by_cases h3 : k = 3
        · subst h3
          by_cases hn0 : n = 0
          · by_cases hu : u = 0
            · by_cases hl : s.length ≤ 40
              · have hl' : (s.length : Int) ≤ 40 := by omega
                subst hu hn0; simp [f_bref02_Right, b_bref02_Right, Val.a, binStr, hl, hl']
              · have hl' : ¬ (s.length : Int) ≤ 40 := by omega
                subst hu hn0; simp [f_bref02_Right, b_bref02_Right, Val.a, binStr, hl, hl']
            · subst hn0; simp [f_bref02_Right, b_bref02_Right, Val.a, binStr, hu, beq_f hu]
          · simp [f_bref02_Right, b_bref02_Right, Val.a, binStr, hn0, beq_f hn0]
        · by_cases h4 : k = 4
          · subst h4
            by_cases hs : s = []
            · subst hs; simp [f_bref02_Right, b_bref02_Right, Val.a, binStr]
            · have hs' : (s == []) = false := by rw [str_nil]; simp [hs]
              simp [f_bref02_Right, b_bref02_Right, Val.a, binStr, hs, hs']
          · simp [f_bref02_Right, b_bref02_Right, binStr, Val.a, beq_f h0, beq_f h1, beq_f h2, beq_f h3, beq_f h4, h0, h1, h2, h3, h4]
end Go.AM
end
section

namespace Go.AM
open P
set_option maxHeartbeats 8000000
set_option maxRecDepth 8000
def fitR (n : Nat) (r : List Val) : Bool := decide (r.length = n) && okR r
def fitsF (n : Nat) (rs : SL RowT) : Bool := rs.1.all fun r => fitR n r.1
theorem slA_rowA (r : RowT) : slA Val.a r = .imm true (rowA r.1) := rfl
theorem fits1_v (b b' : Bool) (r : List Val) (ns : List AVal) : pcall I.query_fits_1 [.imm b (rowA r), .cptr true (.imm b' ns) 0] = some (.bool (!fitR ns.length r)) := by
  rw [pcall_eq c_query_fits_1 rfl]
  have h := fun b => rowCheck_spec b r
  unfold fitR
  by_cases hl : r.length = ns.length
  · cases hr : okR r <;> rw [hr] at h <;> simp [f_query_fits_1, b_query_fits_1, h, hl, cptrAt]
  · simp [f_query_fits_1, b_query_fits_1, hl, bne_len hl, cptrAt]
theorem fits_v (b' : Bool) (rs : SL RowT) (ns : List AVal) : pcall I.query_fits [slA RowT.a rs, .imm b' ns] = some (.bool (fitsF ns.length rs)) := by
  rw [pcall_eq c_query_fits rfl]
  have hc := fun b => ContainsRow (b := true) (xs := rs.1.map RowT.a) (f := .fn I.query_fits_1 [] [.cptr true (.imm b ns) 0]) (p := fun x => !fitR ns.length (asRow x)) (by simpa using rs.2) (fun x hx => by
    obtain ⟨r, _, rfl⟩ := List.mem_map.1 hx
    exact ⟨rfl, rfl⟩) (by simp [cptrAt]) (fun x hx => by
    obtain ⟨r, _, rfl⟩ := List.mem_map.1 hx
    have := fits1_v true b r.1 ns
    simp only [RowT.a, slA_rowA, asRow_a]
    simp [this, cptrAt])
  have e : (!(rs.1.map RowT.a).any fun x => !fitR ns.length (asRow x)) = fitsF ns.length rs := by
    unfold fitsF
    rw [← not_any_not, List.any_map]
    simp [Function.comp_def, slA_rowA]
  simp only [slA] at *
  simp [f_query_fits, b_query_fits, hc, cptrAt, -List.any_map, e]
theorem wrap_i {k n : Nat} (h1 : k < n) (h2 : n ≤ maxLen) : IntKind.i64.wrap ((k : Int) + 1) = ((k : Int) + 1) := by
  have : n ≤ 9223372036854775807 := h2
  rw [wrap64_id (by omega)]
theorem all_loop {α : Type} {l : List α} {p : α → Bool} {base : Nat} {clr : List Nat} {b : ACode} {S : Nat → St} {E : Ex × St} {j : Nat}
    (hst : ∀ k (h1 : k < l.length), p l[k] = true → thenLoop base clr b (run code b (S k)) = rounds code base clr b (S (k + 1)))
    (hend : thenLoop base clr b (run code b (S l.length)) = some E)
    (hne : ∀ k (h1 : k < l.length), p l[k] = false → ∃ s, thenLoop base clr b (run code b (S k)) = some (.ret, s) ∧ s.env[j]? = some (.bool false)) :
    (l.all p = true ∧ rounds code base clr b (S 0) = some E) ∨ (l.all p = false ∧ ∃ s, rounds code base clr b (S 0) = some (.ret, s) ∧ s.env[j]? = some (.bool false)) := by
  have key : ∀ m k, k + m = l.length → ((l.drop k).all p = true ∧ rounds code base clr b (S k) = some E) ∨ ((l.drop k).all p = false ∧ ∃ s, rounds code base clr b (S k) = some (.ret, s) ∧ s.env[j]? = some (.bool false)) := by
    intro m
    induction m with
    | zero =>
      intro k h
      have : k = l.length := by omega
      subst this
      exact .inl ⟨by simp, (rounds_go' _ _ _ _).trans hend⟩
    | succ m ih =>
      intro k h
      have hk : k < l.length := by omega
      rw [rounds_go', List.drop_eq_getElem_cons hk, List.all_cons]
      cases hp : p l[k]
      · obtain ⟨s, h1, h2⟩ := hne k hk hp
        exact .inr ⟨rfl, s, h1, h2⟩
      · rw [hst k hk hp, Bool.true_and]
        exact ih (k + 1) (by omega)
  simpa using key l.length 0 (by omega)
theorem Right05_v (b : Bool) (r : List Val) : pcall I.bref05_Right [.imm b (rowA r)] = some (.bool (okR r)) := by
  rw [pcall_eq c_bref05_Right rfl]
  unfold okR
  by_cases hn : r.length ≤ 16
  · have hn' : ¬ ((16 : Int) < (r.length : Int)) := by omega
    have hloop := all_loop (l := r) (p := okV) (base := 0) (clr := [1, 4, 5]) (b := l_bref05_Right_0) (j := 1) (E := (.ext 0, ⟨[.imm b (rowA r), .any, .int .i64 r.length, .bool false, .bool false, .any], []⟩)) (S := fun k => ⟨[.imm b (rowA r), .any, .int .i64 k, .bool false, .any, .any], []⟩) (fun k h1 hp => by
        have e1 : (rowA r)[k]? = some (Val.a r[k]) := by simp [rowA, h1]
        have e2 := Right02_v r[k]
        rw [hp] at e2
        have i1 : ((k : Int) < (r.length : Int)) := by omega
        simp [l_bref05_Right_0, e1, e2, i1, wrap_i h1 (by unfold maxLen; omega), roundEnd]) (by simp [l_bref05_Right_0]) (fun k h1 hp => by
        have e1 : (rowA r)[k]? = some (Val.a r[k]) := by simp [rowA, h1]
        have e2 := Right02_v r[k]
        rw [hp] at e2
        have i1 : ((k : Int) < (r.length : Int)) := by omega
        exact ⟨_, by simp [l_bref05_Right_0, e1, e2, i1]; rfl, rfl⟩)
    rcases hloop with ⟨h, hl⟩ | ⟨h, s, hl, hs⟩
    · simp at hl
      rw [h]
      simp [f_bref05_Right, b_bref05_Right, hn, hn', hl]
    · simp at hl
      rw [h]
      simp [f_bref05_Right, b_bref05_Right, hn, hn', hl, leave_at hs]
  · have hn' : ((16 : Int) < (r.length : Int)) := by omega
    simp [f_bref05_Right, b_bref05_Right, hn, hn']
theorem Fits27_v (b' : Bool) (rs : SL RowT) (ns : List AVal) : pcall I.bref27_Fits [slA RowT.a rs, .imm b' ns] = some (.bool (fitsF ns.length rs)) := by
  rw [pcall_eq c_bref27_Fits rfl]
  obtain ⟨l, hn⟩ := rs
  unfold fitsF
  simp only [slA]
  generalize hX : l.map RowT.a = xs
  have lX : xs.length = l.length := by rw [← hX]; simp
  have hxs : ∀ k (h1 : k < l.length), xs[k]? = some (.imm true (rowA l[k].1)) := fun k h1 => by rw [← hX]; simp [h1, slA_rowA]
  have hloop := all_loop (l := l) (p := fun r => fitR ns.length r.1) (base := 0) (clr := [2, 4, 5]) (b := l_bref27_Fits_0) (j := 2) (E := (.ext 0, ⟨[.imm true xs, .imm b' ns, .any, .int .i64 l.length, .bool false, .any], []⟩)) (S := fun k => ⟨[.imm true xs, .imm b' ns, .any, .int .i64 k, .any, .any], []⟩) (fun k h1 hp => by
      have e1 : xs[k]? = some (.imm true (rowA l[k].1)) := hxs k h1
      have e2 := fun b => Right05_v b l[k].1
      unfold fitR at hp
      simp only [Bool.and_eq_true, decide_eq_true_eq] at hp
      rw [hp.2] at e2
      have i1 : ((k : Int) < (l.length : Int)) := by omega
      simp [l_bref27_Fits_0, e1, e2, i1, lX, hp.1, wrap_i h1 hn, roundEnd]) (by simp [l_bref27_Fits_0, lX]) (fun k h1 hp => by
      have e1 : xs[k]? = some (.imm true (rowA l[k].1)) := hxs k h1
      have e2 := fun b => Right05_v b l[k].1
      have i1 : ((k : Int) < (l.length : Int)) := by omega
      unfold fitR at hp
      by_cases hl : l[k].1.length = ns.length
      · simp only [hl, decide_true, Bool.true_and] at hp
        rw [hp] at e2
        exact ⟨_, by simp [l_bref27_Fits_0, e1, e2, i1, lX, hl]; rfl, rfl⟩
      · exact ⟨_, by simp [l_bref27_Fits_0, e1, i1, lX, hl, bne_len hl]; rfl, rfl⟩)
  rcases hloop with ⟨h, hl⟩ | ⟨h, s, hl, hs⟩
  · simp at hl
    rw [h]
    simp [f_bref27_Fits, b_bref27_Fits, hl]
  · simp at hl
    rw [h]
    simp [f_bref27_Fits, b_bref27_Fits, hl, leave_at hs]
end Go.AM
end
section

namespace Go.AM
open P
set_option maxHeartbeats 8000000
set_option maxRecDepth 8000
theorem acall_of {n f : Nat} {args : List AVal} {σ : Store} {r : AVal × Store} (h : callN code n f args σ = some r) : acall code f args σ = some r := lim_of (callN_mono good f args σ) h
theorem pcall_from {n f : Nat} {args : List AVal} {v : AVal} {σ : Store} (h : callN code n f args [] = some (v, σ)) : pcall f args = some v := by
  unfold pcall
  rw [acall_of h]; rfl
theorem acallG_pure {g : AFunc} (hm : g.mode.isPure = true) (args : List AVal) (σ : Store) : acallG code g args σ = ((acallG code g (args.map (snap σ)) []).map (·.1)).map (·, σ) := by
  unfold acallG
  have he : enter g args σ = enter g (args.map (snap σ)) [] := by
    have h1 : ((args.map (snap σ)).take g.np).map (snap []) = (args.take g.np).map (snap σ) := by
      rw [← List.map_take, List.map_map]; exact List.map_congr_left fun x _ => snap_idem σ [] x
    unfold enter
    cases hg : g.mode <;> rw [hg] at hm <;> first | exact absurd hm (by decide) | (simp only [h1])
  rw [he]
  cases run code g.body (enter g (args.map (snap σ)) []) with
  | none => rfl
  | some r =>
    obtain ⟨e, s⟩ := r
    have key : (results s g.res).map (fun v => finish g.mode σ s v) = (((results s g.res).map fun v => finish g.mode [] s v).map (·.1)).map (·, σ) := by
      cases results s g.res with
      | none => rfl
      | some v =>
        cases hg : g.mode <;> rw [hg] at hm <;> first | exact absurd hm (by decide) | rfl
    cases e with
    | ext _ => rfl
    | nrm => exact key
    | ret => exact key
theorem acall_nil {f : Nat} {g : AFunc} (h : code.fns f = .nilfn g) (hm : g.mode.isPure = true) (b : Bool) (xs : List AVal) (σ : Store) :
    acall code f [.imm b xs] σ = (pcall f [.imm b xs]).map (·, σ) := by
  unfold pcall
  rw [acall_nilfn good h, acall_nilfn good h]
  have hE : emptyS σ (.imm b xs) = emptyS [] (.imm b xs) := by simp [emptyS, rd]
  rw [hE]
  have hk : ∀ (x : AVal), (∀ τ, snap τ x = x) → acallG code g [x] σ = ((acallG code g [x] []).map (·.1)).map (·, σ) := fun x hx => by
    have := acallG_pure hm [x] σ
    simpa only [List.map_cons, List.map_nil, hx] using this
  have hk0 : ∀ (x : AVal), (∀ τ, snap τ x = x) → acallG code g [x] [] = ((acallG code g [x] []).map (·.1)).map (·, ([] : Store)) := fun x hx => by
    have := acallG_pure hm [x] []
    simpa only [List.map_cons, List.map_nil, hx] using this
  have h1 : ∀ τ, snap τ (.imm b xs) = .imm b xs := fun τ => by simp
  have h2 : ∀ t τ, snap τ (.emp t) = .emp t := fun t τ => by simp
  cases emptyS [] (.imm b xs) with
  | false => simpa using hk _ h1
  | true =>
    simp only [if_true]
    rw [hk _ (h2 true), hk _ (h2 false), hk0 _ (h2 true), hk0 _ (h2 false)]
    cases acallG code g [.emp true] [] with
    | none => rfl
    | some r => cases acallG code g [.emp false] [] with
      | none => rfl
      | some q =>
        simp only [Option.map_some, Option.bind_some, sameS_refl, Bool.and_true]
        split <;> rfl
class Nc {α : Type} (f : α → AVal) (n : outParam Nat) (g : outParam Bool) : Prop where
  nc : ∀ y, ncells (f y) = n
  ag : ∀ y, isAgg (f y) = g
class Fx {α : Type} (f : α → AVal) : Prop where
  fx : ∀ fl top base σ n y, fz fl top base σ (n + 3) (f y) = f y
class Ft {α : Type} (f : α → AVal) : Prop where
  ft : ∀ fl top base σ n y, (fl || top) = true → fz fl top base σ (n + 3) (f y) = f y
abbrev i64 (n : Int) : AVal := .int .i64 n
instance : Nc (fun n => AVal.int .i64 n) 1 false := ⟨fun _ => rfl, fun _ => rfl⟩
instance : Nc (AVal.int .i64) 1 false := ⟨fun _ => rfl, fun _ => rfl⟩
instance : Fx (AVal.int .i64) := ⟨fun _ _ _ _ _ _ => rfl⟩
instance : Nc Val.a 4 true := ⟨fun _ => rfl, fun _ => rfl⟩
instance : Nc AVal.str 1 false := ⟨fun _ => rfl, fun _ => rfl⟩
instance : Fx AVal.str := ⟨fun _ _ _ _ _ _ => rfl⟩
instance : Fx Val.a := ⟨fun fl top base σ n y => a_fz y fl top base σ (n + 1)⟩
instance {α : Type} (f : α → AVal) [Fx f] : Ft f := ⟨fun fl top base σ n y _ => Fx.fx fl top base σ n y⟩
section
variable {α : Type} {f : α → AVal} {m : Nat} {g : Bool}
@[simp] theorem comp_fx [Fx f] (fl top : Bool) (base : Nat) (σ : Store) (n : Nat) (l : List α) : List.map (fz fl top base σ (n + 3) ∘ f) l = List.map f l :=
  List.map_congr_left fun y _ => Fx.fx fl top base σ n y
@[simp] theorem comp_ftT [Ft f] (top : Bool) (base : Nat) (σ : Store) (n : Nat) (l : List α) : List.map (fz true top base σ (n + 3) ∘ f) l = List.map f l :=
  List.map_congr_left fun y _ => Ft.ft true top base σ n y rfl
@[simp] theorem comp_ftF [Ft f] (fl : Bool) (base : Nat) (σ : Store) (n : Nat) (l : List α) : List.map (fz fl true base σ (n + 3) ∘ f) l = List.map f l :=
  List.map_congr_left fun y _ => Ft.ft fl true base σ n y (by simp)
@[simp] theorem comp_freeze [Ft f] (base : Nat) (σ : Store) (l : List α) : List.map (freeze base σ ∘ f) l = List.map f l :=
  List.map_congr_left fun y _ => Ft.ft false true base σ 17 y rfl
@[simp] theorem comp_nc [Nc f m g] (l : List α) : List.map (ncells ∘ f) l = List.replicate l.length m := by
  rw [List.eq_replicate_iff]
  exact ⟨by simp, fun x hx => by
    obtain ⟨y, _, rfl⟩ := List.mem_map.1 hx
    exact Nc.nc y⟩
theorem all_nc [Nc f m g] (l : List α) : ((l.map f).all fun y => ncells y == m) = true := by
  rw [List.all_eq_true]
  intro x hx
  obtain ⟨y, _, rfl⟩ := List.mem_map.1 hx
  simp [Nc.nc y]
@[simp] theorem take_map_all (l : List α) (f : α → AVal) : List.take l.length (List.map f l) = List.map f l := List.take_of_length_le (by simp)
end
theorem fresh_map {α : Type} {f : α → AVal} {m : Nat} {g : Bool} [Nc f m g] [Fx f] (l : List α) (id ep : Nat) (σ : Store) (h : σ[id]? = some (.arr m ep (l.map f))) : freshOf m σ (.sl id ep 0 l.length) = .frs m (l.map f) := by
  have h9 : (l.map f).take l.length = l.map f := List.take_of_length_le (by simp)
  have h10 : ∀ σ', (l.map f).map (frozen σ') = l.map f := fun σ' => by
    rw [List.map_map]; exact List.map_congr_left fun y _ => Fx.fx false false 0 σ' 17 y
  simp only [freshOf, h, h9, h10, frsAt]
  simp
theorem Clone_api_Row_api_Value {α : Type} {enc : α → AVal} [Nc enc 4 true] [Fx enc] (b : Bool) (l : List α) (hn : l.length ≤ most) : pcall I.slices_Clone_api_Row_api_Value [.imm b (l.map enc)] = some (.frs 4 (l.map enc)) := by
  cases l with
  | nil => cases b <;> exact pcall_from (n := 20) (σ := []) (by kernel_rfl)
  | cons v r =>
    have hall := all_nc (f := enc) (v :: r)
    have hl : ((v :: r).map enc).length = r.length + 1 := by simp
    have hne : emptyS [] (.imm b ((v :: r).map enc)) = false := rfl
    unfold pcall
    rw [acall_nilfn good c_slices_Clone_api_Row_api_Value, hne]
    simp only [Bool.false_eq_true, if_false]
    unfold acallG
    have hn' : r.length + 1 ≤ most := by simpa using hn
    have hnil : nilsV false [] (.imm b ((v :: r).map enc)) = some (.bool false) := rfl
    have hf := fresh_map (f := enc) (v :: r) 0 0 [.arr 4 0 ((v :: r).map enc)] rfl
    have hx : (v :: r).map enc ≠ [] := by simp
    have hy : ∀ x, x ∈ (v :: r).map enc → ncells x = 4 := fun x hx => by simpa using List.all_eq_true.1 hall x hx
    have ht : ((v :: r).map enc).take (r.length + 1) = (v :: r).map enc := List.take_of_length_le (by simp)
    simp only [List.length_cons] at hf
    generalize (v :: r).map enc = xs at *
    simp [f_slices_Clone_api_Row_api_Value, b_slices_Clone_api_Row_api_Value, enter, leave, append, hall, hl, hn', -nilsV, hnil, hx]
    rw [if_pos hy]
    simp [leave]
    exact hf
@[simp] theorem aClone_api_Row_api_Value {α : Type} {enc : α → AVal} [Nc enc 4 true] [Fx enc] (b : Bool) (l : List α) (hn : l.length ≤ most) (σ : Store) : acall code I.slices_Clone_api_Row_api_Value [.imm b (l.map enc)] σ = some (.frs 4 (l.map enc), σ) := by
  rw [acall_nil c_slices_Clone_api_Row_api_Value rfl, Clone_api_Row_api_Value b l hn]; rfl
theorem Clone_string_string {α : Type} {enc : α → AVal} [Nc enc 1 false] [Fx enc] (b : Bool) (l : List α) (hn : l.length ≤ most) : pcall I.slices_Clone_string_string [.imm b (l.map enc)] = some (.frs 1 (l.map enc)) := by
  cases l with
  | nil => cases b <;> exact pcall_from (n := 20) (σ := []) (by kernel_rfl)
  | cons v r =>
    have hall := all_nc (f := enc) (v :: r)
    have hl : ((v :: r).map enc).length = r.length + 1 := by simp
    have hne : emptyS [] (.imm b ((v :: r).map enc)) = false := rfl
    unfold pcall
    rw [acall_nilfn good c_slices_Clone_string_string, hne]
    simp only [Bool.false_eq_true, if_false]
    unfold acallG
    have hn' : r.length + 1 ≤ most := by simpa using hn
    have hnil : nilsV false [] (.imm b ((v :: r).map enc)) = some (.bool false) := rfl
    have hf := fresh_map (f := enc) (v :: r) 0 0 [.arr 1 0 ((v :: r).map enc)] rfl
    have hx : (v :: r).map enc ≠ [] := by simp
    have hy : ∀ x, x ∈ (v :: r).map enc → ncells x = 1 := fun x hx => by simpa using List.all_eq_true.1 hall x hx
    have ht : ((v :: r).map enc).take (r.length + 1) = (v :: r).map enc := List.take_of_length_le (by simp)
    simp only [List.length_cons] at hf
    generalize (v :: r).map enc = xs at *
    simp [f_slices_Clone_string_string, b_slices_Clone_string_string, enter, leave, append, hall, hl, hn', -nilsV, hnil, hx]
    rw [if_pos hy]
    simp [leave]
    exact hf
@[simp] theorem aClone_string_string {α : Type} {enc : α → AVal} [Nc enc 1 false] [Fx enc] (b : Bool) (l : List α) (hn : l.length ≤ most) (σ : Store) : acall code I.slices_Clone_string_string [.imm b (l.map enc)] σ = some (.frs 1 (l.map enc), σ) := by
  rw [acall_nil c_slices_Clone_string_string rfl, Clone_string_string b l hn]; rfl
theorem EqStr_v (t t' : Bool) (l m : List (List UInt8)) (hn : l.length ≤ maxLen) : pcall I.slices_Equal_string_string [.imm t (l.map .str), .imm t' (m.map .str)] = some (.bool (decide (l = m))) := by
  rw [pcall_eq c_slices_Equal_string_string rfl]
  generalize hX : l.map AVal.str = xs
  generalize hY : m.map AVal.str = ys
  have lX : xs.length = l.length := by rw [← hX]; simp
  have lY : ys.length = m.length := by rw [← hY]; simp
  by_cases hlen : l.length = m.length
  · have hloop := same_loop (l := l) (m := m) (base := 0) (clr := [2, 3, 7, 8]) (b := l_slices_Equal_string_string_0) (j := 2) (E := (.ext 0, ⟨[.imm t xs, .imm t' ys, .any, .any, .bool false, .int .i64 l.length, .int .i64 l.length, .bool false, .any], []⟩)) (S := fun k => ⟨[.imm t xs, .imm t' ys, .any, .any, .bool false, .int .i64 l.length, .int .i64 k, .any, .any], []⟩) hlen (fun k a1 a2 e6 => by
        have e1 : xs[k]? = some (.str l[k]) := by rw [← hX]; exact map_get a1
        have e2 : ys[k]? = some (.str m[k]) := by rw [← hY]; exact map_get a2
        rw [e6] at e1
        have i1 : ((k : Int) < (l.length : Int)) := by omega
        simp [l_slices_Equal_string_string_0, e1, e2, i1, wrap_sl a1 hn, roundEnd, binStr]) (by simp [l_slices_Equal_string_string_0]) (fun k a1 a2 e6 => by
        have e1 : xs[k]? = some (.str l[k]) := by rw [← hX]; exact map_get a1
        have e2 : ys[k]? = some (.str m[k]) := by rw [← hY]; exact map_get a2
        have i1 : ((k : Int) < (l.length : Int)) := by omega
        exact ⟨_, by simp [l_slices_Equal_string_string_0, e1, e2, i1, binStr, bq e6]; rfl, rfl⟩)
    rcases hloop with ⟨h, hl⟩ | ⟨h, s, hl, hs⟩
    · rw [decide_eq_true h]
      simp [hlen] at hl
      simp [f_slices_Equal_string_string, b_slices_Equal_string_string, lX, lY, hlen, hl]
    · rw [decide_eq_false h]
      simp [hlen] at hl
      simp [f_slices_Equal_string_string, b_slices_Equal_string_string, lX, lY, hlen, hl, leave_at hs]
  · have hne : decide (l = m) = false := decide_eq_false fun e => hlen (congrArg List.length e)
    rw [hne]
    simp [f_slices_Equal_string_string, b_slices_Equal_string_string, lX, lY, bne_len hlen]
theorem SameNames_v (t t' : Bool) (l m : List (List UInt8)) (hn : l.length ≤ maxLen) : pcall I.bref14_SameNames [.imm t (l.map .str), .imm t' (m.map .str)] = some (.bool (decide (l = m))) := by
  rw [pcall_eq c_bref14_SameNames rfl]
  generalize hX : l.map AVal.str = xs
  generalize hY : m.map AVal.str = ys
  have lX : xs.length = l.length := by rw [← hX]; simp
  have lY : ys.length = m.length := by rw [← hY]; simp
  by_cases hlen : l.length = m.length
  · have hloop := same_loop (l := l) (m := m) (base := 0) (clr := [2, 3, 7, 8]) (b := l_bref14_SameNames_0) (j := 2) (E := (.ext 0, ⟨[.imm t xs, .imm t' ys, .any, .any, .bool false, .int .i64 l.length, .int .i64 l.length, .bool false, .any], []⟩)) (S := fun k => ⟨[.imm t xs, .imm t' ys, .any, .any, .bool false, .int .i64 l.length, .int .i64 k, .any, .any], []⟩) hlen (fun k a1 a2 e6 => by
        have e1 : xs[k]? = some (.str l[k]) := by rw [← hX]; exact map_get a1
        have e2 : ys[k]? = some (.str m[k]) := by rw [← hY]; exact map_get a2
        rw [e6] at e1
        have i1 : ((k : Int) < (l.length : Int)) := by omega
        simp [l_bref14_SameNames_0, e1, e2, i1, wrap_sl a1 hn, roundEnd, binStr]) (by simp [l_bref14_SameNames_0]) (fun k a1 a2 e6 => by
        have e1 : xs[k]? = some (.str l[k]) := by rw [← hX]; exact map_get a1
        have e2 : ys[k]? = some (.str m[k]) := by rw [← hY]; exact map_get a2
        have i1 : ((k : Int) < (l.length : Int)) := by omega
        exact ⟨_, by simp [l_bref14_SameNames_0, e1, e2, i1, binStr, bq e6]; rfl, rfl⟩)
    rcases hloop with ⟨h, hl⟩ | ⟨h, s, hl, hs⟩
    · rw [decide_eq_true h]
      simp [hlen] at hl
      simp [f_bref14_SameNames, b_bref14_SameNames, lX, lY, hlen, hl]
    · rw [decide_eq_false h]
      simp [hlen] at hl
      simp [f_bref14_SameNames, b_bref14_SameNames, lX, lY, hlen, hl, leave_at hs]
  · have hne : decide (l = m) = false := decide_eq_false fun e => hlen (congrArg List.length e)
    rw [hne]
    simp [f_bref14_SameNames, b_bref14_SameNames, lX, lY, bne_len hlen]
end Go.AM
end
