/- PRINTED: each operation's equation. -/
import Derived.Test.YtmkdaehnmhgjmaaGreatDoorAm06
import Derived.Test.YtmkdaehnmhgjmaaGreatDoorAm00
import Derived.Test.YtmkdaehnmhgjmaaGreatDoorAm08
import Derived.Test.YtmkdaehnmhgjmaaGreatDoorAm05
set_option linter.unusedVariables false
set_option linter.unusedSimpArgs false
namespace Go.AM
section
variable {P : Code}
theorem s_mov (env ls : List AVal) (σ : Store) (x : Opd) : step P env ls σ (.mov x) = (some (x.eval env ls, σ)) := by
  unfold step; simp only [stepOp]; exact lim_const _
theorem s_pick (env ls : List AVal) (σ : Store) (c : Opd) (a : Opd) (b : Opd) : step P env ls σ (.pick c a b) = ((pickV (a.eval env ls) (b.eval env ls) (c.eval env ls)).map (·, σ)) := by
  unfold step; simp only [stepOp]; exact lim_const _
theorem s_box (env ls : List AVal) (σ : Store) (k : Nat) (x : Opd) : step P env ls σ (.box k x) = (let v := x.eval env ls; if ncells v = k then some (.ptr σ.length 0 0 0, σ ++ [.arr k 0 [v]]) else none) := by
  unfold step; simp only [stepOp]; exact lim_const _
theorem s_build (env ls : List AVal) (σ : Store) (zero : List AVal) (parts : List (Nat × Nat × Opd)) : step P env ls σ (.build zero parts) = ((fill zero (parts.map fun p => (p.1, p.2.1, p.2.2.eval env ls))).map fun cs => (.agg cs, σ)) := by
  unfold step; simp only [stepOp]; exact lim_const _
theorem s_mknil (env ls : List AVal) (σ : Store) (k : Nat) : step P env ls σ (.mknil k) = (some (.sl σ.length 0 0 0, σ ++ [.arr k 0 []])) := by
  unfold step; simp only [stepOp]; exact lim_const _
theorem s_mkl (env ls : List AVal) (σ : Store) (k : Nat) (xs : List Opd) : step P env ls σ (.mkl k xs) = (let vs := xs.map (·.eval env ls); if vs.all (fun v => ncells v == k) then some (.lst vs, σ) else none) := by
  unfold step; simp only [stepOp]; exact lim_const _
theorem s_mksl (env ls : List AVal) (σ : Store) (k : Nat) (xs : List Opd) : step P env ls σ (.mksl k xs) = (let vs := xs.map (·.eval env ls)
    if vs = [] then some (.nil0, σ) else
    if vs.all (fun v => ncells v == k) then some (.sl σ.length 0 0 vs.length, σ ++ [.arr k 0 vs]) else none) := by
  unfold step; simp only [stepOp]; exact lim_const _
theorem s_mkslz (env ls : List AVal) (σ : Store) (k : Nat) (zero : AVal) (n : Nat) (parts : List (Nat × Opd)) : step P env ls σ (.mkslz k zero n parts) = (let vs := setAll (List.replicate n zero) (parts.map fun p => (p.1, p.2.eval env ls))
    if vs.all (fun v => ncells v == k) then some (.sl σ.length 0 0 n, σ ++ [.arr k 0 vs]) else none) := by
  unfold step; simp only [stepOp]; exact lim_const _
theorem s_make (env ls : List AVal) (σ : Store) (k : Nat) (zero : AVal) (n : Opd) (c : Opd) : step P env ls σ (.make k zero n c) = ((asNat (n.eval env ls)).bind fun m => (asNat (c.eval env ls)).bind fun d =>
      if m = d ∧ ncells zero = k ∧ m ≤ most then some (.sl σ.length 0 0 m, σ ++ [.arr k 0 (List.replicate m zero)]) else none) := by
  unfold step; simp only [stepOp]; exact lim_const _
theorem s_load (env ls : List AVal) (σ : Store) (a : Bool) (s : Nat) (x : Opd) : step P env ls σ (.load a s x) = ((loadAt a s (x.eval env ls) σ).map (·, σ)) := by
  unfold step; simp only [stepOp]; exact lim_const _
theorem s_store (env ls : List AVal) (σ : Store) (s : Nat) (x : Opd) (v : Opd) : step P env ls σ (.store s x v) = ((storeAt s (x.eval env ls) (v.eval env ls) σ).map (.any, ·)) := by
  unfold step; simp only [stepOp]; exact lim_const _
theorem s_fld (env ls : List AVal) (σ : Store) (off : Nat) (x : Opd) : step P env ls σ (.fld off x) = ((fldV σ off (x.eval env ls)).map (·, σ)) := by
  unfold step; simp only [stepOp]; exact lim_const _
theorem s_fldv (env ls : List AVal) (σ : Store) (a : Bool) (s : Nat) (off : Nat) (x : Opd) : step P env ls σ (.fldv a s off x) = ((partV a s off (x.eval env ls)).map (·, σ)) := by
  unfold step; simp only [stepOp]; exact lim_const _
theorem s_idxs (env ls : List AVal) (σ : Store) (k : Nat) (x : Opd) (i : Opd) : step P env ls σ (.idxs k x i) = ((asNat (i.eval env ls)).bind fun n => (idxsV σ k n (x.eval env ls)).map (·, σ)) := by
  unfold step; simp only [stepOp]; exact lim_const _
theorem s_idxa (env ls : List AVal) (σ : Store) (m : Nat) (s : Nat) (x : Opd) (i : Opd) : step P env ls σ (.idxa m s x i) = ((asNat (i.eval env ls)).bind fun n => if n < m then (fldV σ (n * s) (x.eval env ls)).map (·, σ) else none) := by
  unfold step; simp only [stepOp]; exact lim_const _
theorem s_idxv (env ls : List AVal) (σ : Store) (a : Bool) (m : Nat) (s : Nat) (x : Opd) (i : Opd) : step P env ls σ (.idxv a m s x i) = ((asNat (i.eval env ls)).bind fun n => if n < m then (partV a s (n * s) (x.eval env ls)).map (·, σ) else none) := by
  unfold step; simp only [stepOp]; exact lim_const _
theorem s_idxt (env ls : List AVal) (σ : Store) (x : Opd) (i : Opd) : step P env ls σ (.idxt x i) = ((asNat (i.eval env ls)).bind fun n => (idxtV n (x.eval env ls)).map (·, σ)) := by
  unfold step; simp only [stepOp]; exact lim_const _
theorem s_bin (env ls : List AVal) (σ : Store) (op : BinOp) (x : Opd) (y : Opd) : step P env ls σ (.bin op x y) = ((bin op (x.eval env ls) (y.eval env ls)).map (·, σ)) := by
  unfold step; simp only [stepOp]; exact lim_const _
theorem s_eqb (env ls : List AVal) (σ : Store) (n : Bool) (x : Opd) (y : Opd) : step P env ls σ (.eqb n x y) = ((eqb n (x.eval env ls) (y.eval env ls)).map (·, σ)) := by
  unfold step; simp only [stepOp]; exact lim_const _
theorem s_eqa (env ls : List AVal) (σ : Store) (n : Bool) (ks : List Nat) (x : Opd) (y : Opd) : step P env ls σ (.eqa n ks x y) = ((eqa n ks (x.eval env ls) (y.eval env ls)).map (·, σ)) := by
  unfold step; simp only [stepOp]; exact lim_const _
theorem s_isnil (env ls : List AVal) (σ : Store) (n : Bool) (x : Opd) : step P env ls σ (.isnil n x) = ((isnil n (x.eval env ls)).map (·, σ)) := by
  unfold step; simp only [stepOp]; exact lim_const _
theorem s_nils (env ls : List AVal) (σ : Store) (n : Bool) (x : Opd) : step P env ls σ (.nils n x) = ((nilsV n σ (x.eval env ls)).map (·, σ)) := by
  unfold step; simp only [stepOp]; exact lim_const _
theorem s_una (env ls : List AVal) (σ : Store) (op : UnOp) (x : Opd) : step P env ls σ (.una op x) = ((una op (x.eval env ls)).map (·, σ)) := by
  unfold step; simp only [stepOp]; exact lim_const _
theorem s_conv (env ls : List AVal) (σ : Store) (k : IntKind) (x : Opd) : step P env ls σ (.conv k x) = ((convV k (x.eval env ls)).map (·, σ)) := by
  unfold step; simp only [stepOp]; exact lim_const _
theorem s_slice (env ls : List AVal) (σ : Store) (k : Nat) (x : Opd) (lo : Option Opd) (hi : Option Opd) : step P env ls σ (.slice k x lo hi) = (let v := x.eval env ls
    (alen σ v).bind fun n => (opt env ls 0 lo).bind fun l => (opt env ls n hi).bind fun h => (aslice σ k v l h).map (·, σ)) := by
  unfold step; simp only [stepOp]; exact lim_const _
theorem s_slicet (env ls : List AVal) (σ : Store) (x : Opd) (lo : Option Opd) (hi : Option Opd) : step P env ls σ (.slicet x lo hi) = (let v := x.eval env ls
    (tlen v).bind fun n => (opt env ls 0 lo).bind fun l => (opt env ls n hi).bind fun h => (tslice v l h).map (·, σ)) := by
  unfold step; simp only [stepOp]; exact lim_const _
theorem s_slice0 (env ls : List AVal) (σ : Store) (x : Opd) : step P env ls σ (.slice0 x) = ((alen σ (x.eval env ls)).map fun _ => (.nil0, σ)) := by
  unfold step; simp only [stepOp]; exact lim_const _
theorem s_aslice (env ls : List AVal) (σ : Store) (n : Nat) (x : Opd) : step P env ls σ (.aslice n x) = ((aslV σ n (x.eval env ls)).map (·, σ)) := by
  unfold step; simp only [stepOp]; exact lim_const _
theorem s_len (env ls : List AVal) (σ : Store) (x : Opd) : step P env ls σ (.len x) = ((alen σ (x.eval env ls)).map fun (n : Nat) => (.int .i64 (n : Int), σ)) := by
  unfold step; simp only [stepOp]; exact lim_const _
theorem s_lent (env ls : List AVal) (σ : Store) (x : Opd) : step P env ls σ (.lent x) = ((tlen (x.eval env ls)).map fun (n : Nat) => (.int .i64 (n : Int), σ)) := by
  unfold step; simp only [stepOp]; exact lim_const _
theorem s_cap (env ls : List AVal) (σ : Store) (x : Opd) : step P env ls σ (.cap x) = ((capV (x.eval env ls)).map (·, σ)) := by
  unfold step; simp only [stepOp]; exact lim_const _
theorem s_app (env ls : List AVal) (σ : Store) (k : Nat) (x : Opd) (y : Opd) : step P env ls σ (.app k x y) = ((rd σ (y.eval env ls)).bind fun ys => append k (x.eval env ls) ys σ) := by
  unfold step; simp only [stepOp]; exact lim_const _
theorem s_appz (env ls : List AVal) (σ : Store) (k : Nat) (zero : AVal) (x : Opd) (n : Opd) : step P env ls σ (.appz k zero x n) = ((asNat (n.eval env ls)).bind fun m => if ncells zero = k ∧ m ≤ most then append k (x.eval env ls) (List.replicate m zero) σ else none) := by
  unfold step; simp only [stepOp]; exact lim_const _
theorem s_copy (env ls : List AVal) (σ : Store) (k : Nat) (x : Opd) (y : Opd) : step P env ls σ (.copy k x y) = ((rd σ (y.eval env ls)).bind fun ys => (copyV σ k ys (x.eval env ls)).map fun σ' => (.any, σ')) := by
  unfold step; simp only [stepOp]; exact lim_const _
theorem s_mins (env ls : List AVal) (σ : Store) (x : Opd) (xs : List Opd) : step P env ls σ (.mins x xs) = ((minmax true (x.eval env ls) (xs.map (·.eval env ls))).map (·, σ)) := by
  unfold step; simp only [stepOp]; exact lim_const _
theorem s_maxs (env ls : List AVal) (σ : Store) (x : Opd) (xs : List Opd) : step P env ls σ (.maxs x xs) = ((minmax false (x.eval env ls) (xs.map (·.eval env ls))).map (·, σ)) := by
  unfold step; simp only [stepOp]; exact lim_const _
theorem s_mkfn (env ls : List AVal) (σ : Store) (f : Nat) (first : List Opd) (cap : List Opd) : step P env ls σ (.mkfn f first cap) = (some (.fn f (first.map (·.eval env ls)) (cap.map (·.eval env ls)), σ)) := by
  unfold step; simp only [stepOp]; exact lim_const _
theorem s_ext (env ls : List AVal) (σ : Store) (i : Nat) (x : Opd) : step P env ls σ (.ext i x) = ((extV i (x.eval env ls)).map (·, σ)) := by
  unfold step; simp only [stepOp]; exact lim_const _
theorem s_nilck (env ls : List AVal) (σ : Store) (x : Opd) : step P env ls σ (.nilck x) = ((nilckV σ (x.eval env ls)).map (·, σ)) := by
  unfold step; simp only [stepOp]; exact lim_const _
theorem s_mkmap (env ls : List AVal) (σ : Store)  : step P env ls σ (.mkmap) = (some (.mp σ.length, σ ++ [.map []])) := by
  unfold step; simp only [stepOp]; exact lim_const _
theorem s_mput (env ls : List AVal) (σ : Store) (m : Opd) (k : Opd) (v : Opd) : step P env ls σ (.mput m k v) = ((mputV σ (k.eval env ls) (v.eval env ls) (m.eval env ls)).map (.any, ·)) := by
  unfold step; simp only [stepOp]; exact lim_const _
theorem s_look (env ls : List AVal) (σ : Store) (zero : AVal) (ok : Bool) (m : Opd) (k : Opd) : step P env ls σ (.look zero ok m k) = (if isKey (k.eval env ls) then (mapOf σ (m.eval env ls)).bind fun es => (lookup (k.eval env ls) es).map fun r => (if ok then .tup [r.getD zero, .bool r.isSome] else r.getD zero, σ) else none) := by
  unfold step; simp only [stepOp]; exact lim_const _
theorem s_mlen (env ls : List AVal) (σ : Store) (m : Opd) : step P env ls σ (.mlen m) = ((mapOf σ (m.eval env ls)).map fun es => (.int .i64 (es.length : Int), σ)) := by
  unfold step; simp only [stepOp]; exact lim_const _
theorem s_clr (env ls : List AVal) (σ : Store) (zero : AVal) (x : Opd) : step P env ls σ (.clr zero x) = ((clrV σ zero (x.eval env ls)).map (.any, ·)) := by
  unfold step; simp only [stepOp]; exact lim_const _
theorem s_bad (env ls : List AVal) (σ : Store)  : step P env ls σ (.bad) = (none) := by
  unfold step; simp only [stepOp]; exact lim_const _
end
end Go.AM

namespace Go.AM
def Mode.isPure : Mode → Bool
  | .pure | .fresh _ => true
  | _ => false
theorem fz_idem (σ τ : Store) : ∀ (n : Nat) (v : AVal), fz true false 0 τ n (fz true false 0 σ n v) = fz true false 0 σ n v := by
  intro n
  induction n with
  | zero => intro v; rfl
  | succ n ih =>
    intro v
    have hl : ∀ l : List AVal, (l.map (fz true false 0 σ n)).map (fz true false 0 τ n) = l.map (fz true false 0 σ n) := fun l => by
      rw [List.map_map]; exact List.map_congr_left fun x _ => ih x
    cases v with
    | agg cs => simp only [fz]; rw [hl]
    | tup cs => simp only [fz]; rw [hl]
    | fn f a c => simp only [fz]; rw [hl, hl]
    | imm b xs => cases b <;> simp [fz]
    | cptr b x o =>
      cases b
      · simp [fz]
      · by_cases h : ncells (fz true false 0 σ n x) = ncells x
        · simp [fz, cptrAt, h, ih]
        · simp [fz, cptrAt, h]
    | imap b xs => cases b <;> simp [fz]
    | lst xs =>
      by_cases h : (xs.map (fz true false 0 σ n)).map ncells = xs.map ncells
      · simp only [fz, listAt, if_pos h]; rfl
      · simp only [fz, listAt, if_neg h]
    | sl id ep off len =>
      simp only [fz, Nat.not_lt_zero, if_false]
      cases sliceAt σ id ep off len with
      | none => simp [fz]
      | some l =>
        by_cases h : (l.map (fz true false 0 σ n)).map ncells = l.map ncells
        · simp only [Option.elim, listAt, if_pos h, fz]; rfl
        · simp only [Option.elim, listAt, if_neg h, fz]
    | ptr id ep i off =>
      simp only [fz, Nat.not_lt_zero, if_false]
      cases elemAt σ id ep i with
      | none => simp [fz]
      | some x =>
        by_cases h : ncells (fz true false 0 σ n x) = ncells x
        · simp [fz, cptrAt, h, ih]
        · simp [fz, cptrAt, h]
    | asl id ep i off m => simp [fz]
    | mp id =>
      simp only [fz, Nat.not_lt_zero, if_false]
      cases entriesAt σ id <;> simp [fz]
    | yld l s e =>
      simp [fz]
    | _ => simp [fz]
theorem snap_idem (σ τ : Store) (v : AVal) : snap τ (snap σ v) = snap σ v := fz_idem σ τ fuel v
section
variable {P : Code} (hP : P.Good)
include hP
theorem acall_pureP {f : Nat} {g : AFunc} (h : P.fns f = .fn g) (hm : g.mode.isPure = true) (args : List AVal) (σ : Store) :
    acall P f args σ = ((acall P f (args.map (snap σ)) []).map (·.1)).map (·, σ) := by
  rw [acall_fn hP h, acall_fn hP h]
  have he : enter g args σ = enter g (args.map (snap σ)) [] := by
    have h1 : ((args.map (snap σ)).take g.np).map (snap []) = (args.take g.np).map (snap σ) := by
      rw [← List.map_take, List.map_map]; exact List.map_congr_left fun x _ => snap_idem σ [] x
    unfold enter
    cases hg : g.mode <;> rw [hg] at hm <;> first | exact absurd hm (by decide) | (simp only [h1])
  rw [he]
  cases run P g.body (enter g (args.map (snap σ)) []) with
  | none => rfl
  | some r =>
    obtain ⟨e, s⟩ := r
    have key : (results s g.res).map (fun v => finish g.mode σ s v) = (((results s g.res).map fun v => finish g.mode [] s v).map (·.1)).map (·, σ) := by
      cases results s g.res with
      | none => rfl
      | some v =>
        cases hg : g.mode <;> rw [hg] at hm <;> first | exact absurd hm (by decide) | rfl
    cases e with
    | ext _ => rfl
    | nrm => exact key
    | ret => exact key
theorem pcall_ofP {f : Nat} {g : AFunc} (h : P.fns f = .fn g) (hm : g.mode.isPure = true) (args : List AVal) :
    (acall P f args []).map (·.1) = (run P g.body ⟨(args.take g.np).map (snap []) ++ List.replicate (g.nenv - g.np) .any, []⟩).bind fun r => match r.1 with
      | .ext _ => none
      | _ => (results r.2 g.res).map fun v => (finish g.mode [] r.2 v).1 := by
  rw [acall_fn hP h]
  have he : enter g args [] = ⟨(args.take g.np).map (snap []) ++ List.replicate (g.nenv - g.np) .any, []⟩ := by
    unfold enter
    cases hg : g.mode <;> rw [hg] at hm <;> first | exact absurd hm (by decide) | rfl
  rw [he]
  cases run P g.body _ with
  | none => rfl
  | some r =>
    obtain ⟨e, s⟩ := r
    cases e with
    | ext _ => rfl
    | nrm => show ((results s g.res).map _).map _ = _; rw [Option.map_map]; rfl
    | ret => show ((results s g.res).map _).map _ = _; rw [Option.map_map]; rfl
end
end Go.AM
section

set_option maxRecDepth 8000
namespace Go.AM
theorem good : code.Good := prims_good
noncomputable def pcall (f : Nat) (args : List AVal) : Option AVal := (acall code f args []).map (·.1)
theorem acall_pure {f : Nat} {g : AFunc} (h : code.fns f = .fn g) (hm : g.mode.isPure = true) (args : List AVal) (σ : Store) :
    acall code f args σ = (pcall f (args.map (snap σ))).map (·, σ) := acall_pureP good h hm args σ
theorem pcall_of {f : Nat} {g : AFunc} (h : code.fns f = .fn g) (hm : g.mode.isPure = true) (args : List AVal) :
    pcall f args = (run code g.body ⟨(args.take g.np).map (snap []) ++ List.replicate (g.nenv - g.np) .any, []⟩).bind fun r => match r.1 with
      | .ext _ => none
      | _ => (results r.2 g.res).map fun v => (finish g.mode [] r.2 v).1 := pcall_ofP good h hm args
theorem c_bref05_Same : code.fns 12 = .fn P.f_bref05_Same := rfl
@[simp] theorem a_bref05_Same (args : List AVal) (σ : Store) : acall code 12 args σ = (pcall 12 (args.map (snap σ))).map (·, σ) := acall_pure c_bref05_Same rfl args σ
theorem c_bref13_SameInts : code.fns 23 = .fn P.f_bref13_SameInts := rfl
@[simp] theorem a_bref13_SameInts (args : List AVal) (σ : Store) : acall code 23 args σ = (pcall 23 (args.map (snap σ))).map (·, σ) := acall_pure c_bref13_SameInts rfl args σ
theorem c_row_Same : code.fns 44 = .fn P.f_row_Same := rfl
@[simp] theorem a_row_Same (args : List AVal) (σ : Store) : acall code 44 args σ = (pcall 44 (args.map (snap σ))).map (·, σ) := acall_pure c_row_Same rfl args σ
theorem c_bref05_Compare : code.fns 60 = .fn P.f_bref05_Compare := rfl
@[simp] theorem a_bref05_Compare (args : List AVal) (σ : Store) : acall code 60 args σ = (pcall 60 (args.map (snap σ))).map (·, σ) := acall_pure c_bref05_Compare rfl args σ
theorem c_row_copies : code.fns 68 = .fn P.f_row_copies := rfl
@[simp] theorem a_row_copies (args : List AVal) (σ : Store) : acall code 68 args σ = (pcall 68 (args.map (snap σ))).map (·, σ) := acall_pure c_row_copies rfl args σ
theorem c_slices_IndexFunc_api_Row_api_Row : code.fns 112 = .fn P.f_slices_IndexFunc_api_Row_api_Row := rfl
@[simp] theorem a_slices_IndexFunc_api_Row_api_Row (args : List AVal) (σ : Store) : acall code 112 args σ = (pcall 112 (args.map (snap σ))).map (·, σ) := acall_pure c_slices_IndexFunc_api_Row_api_Row rfl args σ
theorem c_slices_Clone_api_Row_api_Value : code.fns 114 = .nilfn P.f_slices_Clone_api_Row_api_Value := rfl
theorem c_slices_EqualFunc_api_Row_api_Row_api_Row_api_Row : code.fns 115 = .fn P.f_slices_EqualFunc_api_Row_api_Row_api_Row_api_Row := rfl
@[simp] theorem a_slices_EqualFunc_api_Row_api_Row_api_Row_api_Row (args : List AVal) (σ : Store) : acall code 115 args σ = (pcall 115 (args.map (snap σ))).map (·, σ) := acall_pure c_slices_EqualFunc_api_Row_api_Row_api_Row_api_Row rfl args σ
theorem c_row_equal : code.fns 116 = .fn P.f_row_equal := rfl
@[simp] theorem a_row_equal (args : List AVal) (σ : Store) : acall code 116 args σ = (pcall 116 (args.map (snap σ))).map (·, σ) := acall_pure c_row_equal rfl args σ
theorem c_bref05_Value : code.fns 136 = .fn P.f_bref05_Value := rfl
@[simp] theorem a_bref05_Value (args : List AVal) (σ : Store) : acall code 136 args σ = (pcall 136 (args.map (snap σ))).map (·, σ) := acall_pure c_bref05_Value rfl args σ
theorem c_bref05_sign : code.fns 137 = .fn P.f_bref05_sign := rfl
@[simp] theorem a_bref05_sign (args : List AVal) (σ : Store) : acall code 137 args σ = (pcall 137 (args.map (snap σ))).map (·, σ) := acall_pure c_bref05_sign rfl args σ
theorem c_row_order : code.fns 140 = .fn P.f_row_order := rfl
@[simp] theorem a_row_order (args : List AVal) (σ : Store) : acall code 140 args σ = (pcall 140 (args.map (snap σ))).map (·, σ) := acall_pure c_row_order rfl args σ
theorem c_cmp_Or_int : code.fns 141 = .fn P.f_cmp_Or_int := rfl
@[simp] theorem a_cmp_Or_int (args : List AVal) (σ : Store) : acall code 141 args σ = (pcall 141 (args.map (snap σ))).map (·, σ) := acall_pure c_cmp_Or_int rfl args σ
theorem c_slices_CompareFunc_api_Row_api_Row_api_Value_api_Value : code.fns 142 = .fn P.f_slices_CompareFunc_api_Row_api_Row_api_Value_api_Value := rfl
@[simp] theorem a_slices_CompareFunc_api_Row_api_Row_api_Value_api_Value (args : List AVal) (σ : Store) : acall code 142 args σ = (pcall 142 (args.map (snap σ))).map (·, σ) := acall_pure c_slices_CompareFunc_api_Row_api_Row_api_Value_api_Value rfl args σ
theorem c_row_values : code.fns 143 = .fn P.f_row_values := rfl
@[simp] theorem a_row_values (args : List AVal) (σ : Store) : acall code 143 args σ = (pcall 143 (args.map (snap σ))).map (·, σ) := acall_pure c_row_values rfl args σ
theorem c_slices_Equal_api_Row_api_Value : code.fns 144 = .fn P.f_slices_Equal_api_Row_api_Value := rfl
@[simp] theorem a_slices_Equal_api_Row_api_Value (args : List AVal) (σ : Store) : acall code 144 args σ = (pcall 144 (args.map (snap σ))).map (·, σ) := acall_pure c_slices_Equal_api_Row_api_Value rfl args σ
theorem c_exec_fit_1 : code.fns 161 = .fn P.f_exec_fit_1 := rfl
@[simp] theorem a_exec_fit_1 (args : List AVal) (σ : Store) : acall code 161 args σ = (pcall 161 (args.map (snap σ))).map (·, σ) := acall_pure c_exec_fit_1 rfl args σ
theorem c_row_right : code.fns 163 = .fn P.f_row_right := rfl
@[simp] theorem a_row_right (args : List AVal) (σ : Store) : acall code 163 args σ = (pcall 163 (args.map (snap σ))).map (·, σ) := acall_pure c_row_right rfl args σ
theorem c_cmp_Compare_int : code.fns 242 = .fn P.f_cmp_Compare_int := rfl
@[simp] theorem a_cmp_Compare_int (args : List AVal) (σ : Store) : acall code 242 args σ = (pcall 242 (args.map (snap σ))).map (·, σ) := acall_pure c_cmp_Compare_int rfl args σ
theorem c_cmp_Compare_int64 : code.fns 243 = .fn P.f_cmp_Compare_int64 := rfl
@[simp] theorem a_cmp_Compare_int64 (args : List AVal) (σ : Store) : acall code 243 args σ = (pcall 243 (args.map (snap σ))).map (·, σ) := acall_pure c_cmp_Compare_int64 rfl args σ
theorem c_cmp_Compare_uint64 : code.fns 244 = .fn P.f_cmp_Compare_uint64 := rfl
@[simp] theorem a_cmp_Compare_uint64 (args : List AVal) (σ : Store) : acall code 244 args σ = (pcall 244 (args.map (snap σ))).map (·, σ) := acall_pure c_cmp_Compare_uint64 rfl args σ
theorem c_cmp_Compare_string : code.fns 245 = .fn P.f_cmp_Compare_string := rfl
@[simp] theorem a_cmp_Compare_string (args : List AVal) (σ : Store) : acall code 245 args σ = (pcall 245 (args.map (snap σ))).map (·, σ) := acall_pure c_cmp_Compare_string rfl args σ
theorem c_value_Check : code.fns 255 = .fn P.f_value_Check := rfl
@[simp] theorem a_value_Check (args : List AVal) (σ : Store) : acall code 255 args σ = (pcall 255 (args.map (snap σ))).map (·, σ) := acall_pure c_value_Check rfl args σ
theorem c_value_blank : code.fns 256 = .fn P.f_value_blank := rfl
@[simp] theorem a_value_blank (args : List AVal) (σ : Store) : acall code 256 args σ = (pcall 256 (args.map (snap σ))).map (·, σ) := acall_pure c_value_blank rfl args σ
theorem c_row_right_1 : code.fns 260 = .fn P.f_row_right_1 := rfl
@[simp] theorem a_row_right_1 (args : List AVal) (σ : Store) : acall code 260 args σ = (pcall 260 (args.map (snap σ))).map (·, σ) := acall_pure c_row_right_1 rfl args σ
theorem c_cmp_isNaN_int64 : code.fns 317 = .fn P.f_cmp_isNaN_int64 := rfl
@[simp] theorem a_cmp_isNaN_int64 (args : List AVal) (σ : Store) : acall code 317 args σ = (pcall 317 (args.map (snap σ))).map (·, σ) := acall_pure c_cmp_isNaN_int64 rfl args σ
theorem c_slices_IndexFunc_api_Row_api_Value : code.fns 320 = .fn P.f_slices_IndexFunc_api_Row_api_Value := rfl
@[simp] theorem a_slices_IndexFunc_api_Row_api_Value (args : List AVal) (σ : Store) : acall code 320 args σ = (pcall 320 (args.map (snap σ))).map (·, σ) := acall_pure c_slices_IndexFunc_api_Row_api_Value rfl args σ
theorem c_task_Same : code.fns 410 = .fn P.f_task_Same := rfl
@[simp] theorem a_task_Same (args : List AVal) (σ : Store) : acall code 410 args σ = (pcall 410 (args.map (snap σ))).map (·, σ) := acall_pure c_task_Same rfl args σ
theorem c_bref25_Same : code.fns 411 = .fn P.f_bref25_Same := rfl
@[simp] theorem a_bref25_Same (args : List AVal) (σ : Store) : acall code 411 args σ = (pcall 411 (args.map (snap σ))).map (·, σ) := acall_pure c_bref25_Same rfl args σ
theorem c_bref23_Same : code.fns 412 = .fn P.f_bref23_Same := rfl
@[simp] theorem a_bref23_Same (args : List AVal) (σ : Store) : acall code 412 args σ = (pcall 412 (args.map (snap σ))).map (·, σ) := acall_pure c_bref23_Same rfl args σ
theorem c_blaw25_over : code.fns 413 = .fn P.f_blaw25_over := rfl
@[simp] theorem a_blaw25_over (args : List AVal) (σ : Store) : acall code 413 args σ = (pcall 413 (args.map (snap σ))).map (·, σ) := acall_pure c_blaw25_over rfl args σ
theorem c_blaw25_wakes : code.fns 414 = .fn P.f_blaw25_wakes := rfl
@[simp] theorem a_blaw25_wakes (args : List AVal) (σ : Store) : acall code 414 args σ = (pcall 414 (args.map (snap σ))).map (·, σ) := acall_pure c_blaw25_wakes rfl args σ
theorem c_blaw25_TaskSame : code.fns 415 = .fn P.f_blaw25_TaskSame := rfl
@[simp] theorem a_blaw25_TaskSame (args : List AVal) (σ : Store) : acall code 415 args σ = (pcall 415 (args.map (snap σ))).map (·, σ) := acall_pure c_blaw25_TaskSame rfl args σ
theorem c_blaw25_overRows : code.fns 421 = .fn P.f_blaw25_overRows := rfl
@[simp] theorem a_blaw25_overRows (args : List AVal) (σ : Store) : acall code 421 args σ = (pcall 421 (args.map (snap σ))).map (·, σ) := acall_pure c_blaw25_overRows rfl args σ
theorem c_blaw25_overBatches : code.fns 422 = .fn P.f_blaw25_overBatches := rfl
@[simp] theorem a_blaw25_overBatches (args : List AVal) (σ : Store) : acall code 422 args σ = (pcall 422 (args.map (snap σ))).map (·, σ) := acall_pure c_blaw25_overBatches rfl args σ
theorem c_blaw25_overNodes : code.fns 423 = .fn P.f_blaw25_overNodes := rfl
@[simp] theorem a_blaw25_overNodes (args : List AVal) (σ : Store) : acall code 423 args σ = (pcall 423 (args.map (snap σ))).map (·, σ) := acall_pure c_blaw25_overNodes rfl args σ
theorem c_prop_Same : code.fns 424 = .fn P.f_prop_Same := rfl
@[simp] theorem a_prop_Same (args : List AVal) (σ : Store) : acall code 424 args σ = (pcall 424 (args.map (snap σ))).map (·, σ) := acall_pure c_prop_Same rfl args σ
theorem c_slices_EqualFunc_api_Out_api_Out_api_Out_api_Out : code.fns 425 = .fn P.f_slices_EqualFunc_api_Out_api_Out_api_Out_api_Out := rfl
@[simp] theorem a_slices_EqualFunc_api_Out_api_Out_api_Out_api_Out (args : List AVal) (σ : Store) : acall code 425 args σ = (pcall 425 (args.map (snap σ))).map (·, σ) := acall_pure c_slices_EqualFunc_api_Out_api_Out_api_Out_api_Out rfl args σ
theorem c_task_Same_2 : code.fns 426 = .fn P.f_task_Same_2 := rfl
@[simp] theorem a_task_Same_2 (args : List AVal) (σ : Store) : acall code 426 args σ = (pcall 426 (args.map (snap σ))).map (·, σ) := acall_pure c_task_Same_2 rfl args σ
theorem c_slices_EqualFunc_api_In_api_In_api_In_api_In : code.fns 427 = .fn P.f_slices_EqualFunc_api_In_api_In_api_In_api_In := rfl
@[simp] theorem a_slices_EqualFunc_api_In_api_In_api_In_api_In (args : List AVal) (σ : Store) : acall code 427 args σ = (pcall 427 (args.map (snap σ))).map (·, σ) := acall_pure c_slices_EqualFunc_api_In_api_In_api_In_api_In rfl args σ
theorem c_task_Same_1 : code.fns 428 = .fn P.f_task_Same_1 := rfl
@[simp] theorem a_task_Same_1 (args : List AVal) (σ : Store) : acall code 428 args σ = (pcall 428 (args.map (snap σ))).map (·, σ) := acall_pure c_task_Same_1 rfl args σ
theorem c_bref18_Same : code.fns 429 = .fn P.f_bref18_Same := rfl
@[simp] theorem a_bref18_Same (args : List AVal) (σ : Store) : acall code 429 args σ = (pcall 429 (args.map (snap σ))).map (·, σ) := acall_pure c_bref18_Same rfl args σ
theorem c_bref22_SameSender : code.fns 430 = .fn P.f_bref22_SameSender := rfl
@[simp] theorem a_bref22_SameSender (args : List AVal) (σ : Store) : acall code 430 args σ = (pcall 430 (args.map (snap σ))).map (·, σ) := acall_pure c_bref22_SameSender rfl args σ
theorem c_bref21_Same : code.fns 431 = .fn P.f_bref21_Same := rfl
@[simp] theorem a_bref21_Same (args : List AVal) (σ : Store) : acall code 431 args σ = (pcall 431 (args.map (snap σ))).map (·, σ) := acall_pure c_bref21_Same rfl args σ
theorem c_bref22_SameReceiver : code.fns 432 = .fn P.f_bref22_SameReceiver := rfl
@[simp] theorem a_bref22_SameReceiver (args : List AVal) (σ : Store) : acall code 432 args σ = (pcall 432 (args.map (snap σ))).map (·, σ) := acall_pure c_bref22_SameReceiver rfl args σ
theorem c_blaw25_overExpr : code.fns 442 = .fn P.f_blaw25_overExpr := rfl
@[simp] theorem a_blaw25_overExpr (args : List AVal) (σ : Store) : acall code 442 args σ = (pcall 442 (args.map (snap σ))).map (·, σ) := acall_pure c_blaw25_overExpr rfl args σ
theorem c_link_SameReceiver : code.fns 443 = .fn P.f_link_SameReceiver := rfl
@[simp] theorem a_link_SameReceiver (args : List AVal) (σ : Store) : acall code 443 args σ = (pcall 443 (args.map (snap σ))).map (·, σ) := acall_pure c_link_SameReceiver rfl args σ
theorem c_slices_EqualFunc_api_Batch_api_Batch_api_Batch_api_Batch : code.fns 444 = .fn P.f_slices_EqualFunc_api_Batch_api_Batch_api_Batch_api_Batch := rfl
@[simp] theorem a_slices_EqualFunc_api_Batch_api_Batch_api_Batch_api_Batch (args : List AVal) (σ : Store) : acall code 444 args σ = (pcall 444 (args.map (snap σ))).map (·, σ) := acall_pure c_slices_EqualFunc_api_Batch_api_Batch_api_Batch_api_Batch rfl args σ
theorem c_link_same : code.fns 445 = .fn P.f_link_same := rfl
@[simp] theorem a_link_same (args : List AVal) (σ : Store) : acall code 445 args σ = (pcall 445 (args.map (snap σ))).map (·, σ) := acall_pure c_link_same rfl args σ
theorem c_slices_EqualFunc_api_Held_api_Held_api_Held_api_Held : code.fns 446 = .fn P.f_slices_EqualFunc_api_Held_api_Held_api_Held_api_Held := rfl
@[simp] theorem a_slices_EqualFunc_api_Held_api_Held_api_Held_api_Held (args : List AVal) (σ : Store) : acall code 446 args σ = (pcall 446 (args.map (snap σ))).map (·, σ) := acall_pure c_slices_EqualFunc_api_Held_api_Held_api_Held_api_Held rfl args σ
theorem c_link_SameReceiver_1 : code.fns 447 = .fn P.f_link_SameReceiver_1 := rfl
@[simp] theorem a_link_SameReceiver_1 (args : List AVal) (σ : Store) : acall code 447 args σ = (pcall 447 (args.map (snap σ))).map (·, σ) := acall_pure c_link_SameReceiver_1 rfl args σ
theorem c_link_SameSender : code.fns 448 = .fn P.f_link_SameSender := rfl
@[simp] theorem a_link_SameSender (args : List AVal) (σ : Store) : acall code 448 args σ = (pcall 448 (args.map (snap σ))).map (·, σ) := acall_pure c_link_SameSender rfl args σ
theorem c_prop_Same_2 : code.fns 449 = .fn P.f_prop_Same_2 := rfl
@[simp] theorem a_prop_Same_2 (args : List AVal) (σ : Store) : acall code 449 args σ = (pcall 449 (args.map (snap σ))).map (·, σ) := acall_pure c_prop_Same_2 rfl args σ
theorem c_slices_EqualFunc_api_Frag_api_Frag_api_Frag_api_Frag : code.fns 450 = .fn P.f_slices_EqualFunc_api_Frag_api_Frag_api_Frag_api_Frag := rfl
@[simp] theorem a_slices_EqualFunc_api_Frag_api_Frag_api_Frag_api_Frag (args : List AVal) (σ : Store) : acall code 450 args σ = (pcall 450 (args.map (snap σ))).map (·, σ) := acall_pure c_slices_EqualFunc_api_Frag_api_Frag_api_Frag_api_Frag rfl args σ
theorem c_prop_Same_1 : code.fns 451 = .fn P.f_prop_Same_1 := rfl
@[simp] theorem a_prop_Same_1 (args : List AVal) (σ : Store) : acall code 451 args σ = (pcall 451 (args.map (snap σ))).map (·, σ) := acall_pure c_prop_Same_1 rfl args σ
theorem c_bref22_SameBatches : code.fns 452 = .fn P.f_bref22_SameBatches := rfl
@[simp] theorem a_bref22_SameBatches (args : List AVal) (σ : Store) : acall code 452 args σ = (pcall 452 (args.map (snap σ))).map (·, σ) := acall_pure c_bref22_SameBatches rfl args σ
theorem c_bref22_SameBatch : code.fns 453 = .fn P.f_bref22_SameBatch := rfl
@[simp] theorem a_bref22_SameBatch (args : List AVal) (σ : Store) : acall code 453 args σ = (pcall 453 (args.map (snap σ))).map (·, σ) := acall_pure c_bref22_SameBatch rfl args σ
theorem c_bref13_Same : code.fns 454 = .fn P.f_bref13_Same := rfl
@[simp] theorem a_bref13_Same (args : List AVal) (σ : Store) : acall code 454 args σ = (pcall 454 (args.map (snap σ))).map (·, σ) := acall_pure c_bref13_Same rfl args σ
theorem c_bref06_Same : code.fns 455 = .fn P.f_bref06_Same := rfl
@[simp] theorem a_bref06_Same (args : List AVal) (σ : Store) : acall code 455 args σ = (pcall 455 (args.map (snap σ))).map (·, σ) := acall_pure c_bref06_Same rfl args σ
theorem c_expr_Same : code.fns 476 = .fn P.f_expr_Same := rfl
@[simp] theorem a_expr_Same (args : List AVal) (σ : Store) : acall code 476 args σ = (pcall 476 (args.map (snap σ))).map (·, σ) := acall_pure c_expr_Same rfl args σ
theorem c_slices_EqualFunc_api_Agg_api_Agg_api_Agg_api_Agg : code.fns 477 = .fn P.f_slices_EqualFunc_api_Agg_api_Agg_api_Agg_api_Agg := rfl
@[simp] theorem a_slices_EqualFunc_api_Agg_api_Agg_api_Agg_api_Agg (args : List AVal) (σ : Store) : acall code 477 args σ = (pcall 477 (args.map (snap σ))).map (·, σ) := acall_pure c_slices_EqualFunc_api_Agg_api_Agg_api_Agg_api_Agg rfl args σ
theorem c_slices_EqualFunc_api_Expr_api_Expr_api_Expr_api_Expr : code.fns 478 = .fn P.f_slices_EqualFunc_api_Expr_api_Expr_api_Expr_api_Expr := rfl
@[simp] theorem a_slices_EqualFunc_api_Expr_api_Expr_api_Expr_api_Expr (args : List AVal) (σ : Store) : acall code 478 args σ = (pcall 478 (args.map (snap σ))).map (·, σ) := acall_pure c_slices_EqualFunc_api_Expr_api_Expr_api_Expr_api_Expr rfl args σ
theorem c_prop_Same_1_1 : code.fns 479 = .fn P.f_prop_Same_1_1 := rfl
@[simp] theorem a_prop_Same_1_1 (args : List AVal) (σ : Store) : acall code 479 args σ = (pcall 479 (args.map (snap σ))).map (·, σ) := acall_pure c_prop_Same_1_1 rfl args σ
theorem c_slices_Equal_int_int : code.fns 480 = .fn P.f_slices_Equal_int_int := rfl
@[simp] theorem a_slices_Equal_int_int (args : List AVal) (σ : Store) : acall code 480 args σ = (pcall 480 (args.map (snap σ))).map (·, σ) := acall_pure c_slices_Equal_int_int rfl args σ
theorem c_slices_Equal_api_Ord_api_Ord : code.fns 481 = .fn P.f_slices_Equal_api_Ord_api_Ord := rfl
@[simp] theorem a_slices_Equal_api_Ord_api_Ord (args : List AVal) (σ : Store) : acall code 481 args σ = (pcall 481 (args.map (snap σ))).map (·, σ) := acall_pure c_slices_Equal_api_Ord_api_Ord rfl args σ
theorem c_slices_Equal_api_ENode_api_ENode : code.fns 482 = .fn P.f_slices_Equal_api_ENode_api_ENode := rfl
@[simp] theorem a_slices_Equal_api_ENode_api_ENode (args : List AVal) (σ : Store) : acall code 482 args σ = (pcall 482 (args.map (snap σ))).map (·, σ) := acall_pure c_slices_Equal_api_ENode_api_ENode rfl args σ
theorem c_slices_EqualFunc_api_LNode_api_LNode_api_LNode_api_LNode : code.fns 483 = .fn P.f_slices_EqualFunc_api_LNode_api_LNode_api_LNode_api_LNode := rfl
@[simp] theorem a_slices_EqualFunc_api_LNode_api_LNode_api_LNode_api_LNode (args : List AVal) (σ : Store) : acall code 483 args σ = (pcall 483 (args.map (snap σ))).map (·, σ) := acall_pure c_slices_EqualFunc_api_LNode_api_LNode_api_LNode_api_LNode rfl args σ
theorem c_bref13_SameNode : code.fns 484 = .fn P.f_bref13_SameNode := rfl
@[simp] theorem a_bref13_SameNode (args : List AVal) (σ : Store) : acall code 484 args σ = (pcall 484 (args.map (snap σ))).map (·, σ) := acall_pure c_bref13_SameNode rfl args σ
theorem c_bref06_SameRow : code.fns 485 = .fn P.f_bref06_SameRow := rfl
@[simp] theorem a_bref06_SameRow (args : List AVal) (σ : Store) : acall code 485 args σ = (pcall 485 (args.map (snap σ))).map (·, σ) := acall_pure c_bref06_SameRow rfl args σ
theorem c_bref10_Same : code.fns 507 = .fn P.f_bref10_Same := rfl
@[simp] theorem a_bref10_Same (args : List AVal) (σ : Store) : acall code 507 args σ = (pcall 507 (args.map (snap σ))).map (·, σ) := acall_pure c_bref10_Same rfl args σ
theorem c_bref10_SameAll : code.fns 508 = .fn P.f_bref10_SameAll := rfl
@[simp] theorem a_bref10_SameAll (args : List AVal) (σ : Store) : acall code 508 args σ = (pcall 508 (args.map (snap σ))).map (·, σ) := acall_pure c_bref10_SameAll rfl args σ
end Go.AM
end

namespace Go.AM
noncomputable def thenRun (b : ACode) (r : Option (Ex × St)) : Option (Ex × St) := r.bind fun r => match r.1 with
  | .nrm => run code b r.2
  | e => some (e, r.2)
noncomputable def thenOps (env : List AVal) (is : List Ins) (ls : List AVal) (q : Option (AVal × Store)) : Option (List AVal × Store) :=
  q.bind fun q => runOps code env is (ls ++ [q.1]) q.2
noncomputable def whenOps (env : List AVal) (i : Ins) (is : List Ins) (ls : List AVal) (σ : Store) (t : Option Bool) : Option (List AVal × Store) :=
  match t with
  | some true => thenOps env is ls (step code env ls σ i.op)
  | some false => runOps code env is (ls ++ [.tup []]) σ
  | none => none
def thenOut (env : List AVal) (os : List (Nat × Opd)) (r : Option (List AVal × Store)) : Option (Ex × St) :=
  r.map fun r => (.nrm, ⟨outs env env r.1 os, r.2⟩)
def thenBlk (id : Nat) (r : Option (Ex × St)) : Option (Ex × St) := r.map fun r => match r.1 with
  | .ext j => if j = id then (.nrm, r.2) else r
  | _ => r
noncomputable def condRun (a b : ACode) (s : St) (c : AVal) : Option (Ex × St) := match c with
  | .bool true => run code a s
  | .bool false => run code b s
  | _ => none
noncomputable def thenLoop (base : Nat) (clr : List Nat) (b : ACode) (r : Option (Ex × St)) : Option (Ex × St) := r.bind fun r => match r.1 with
  | .nrm => rounds code base clr b (roundEnd base clr r.2)
  | e => some (e, r.2)
def thenRng (l : Nat) (env : List AVal) (r : Option (AVal × Store)) : Option (Ex × St) := r.bind fun r => jumped l env r.2
noncomputable def thenLift (env : List AVal) (b : ACode) (r : Option Store) : Option (Ex × St) := r.bind fun σ => run code b ⟨env, σ⟩
noncomputable def thenT (env : List AVal) (is : List Ins) (ls : List AVal) (ss : List Store) (q : Option (AVal × Store)) : Option (List AVal × List Store × Store) :=
  q.bind fun q => runT code env is (ls ++ [q.1]) ss q.2
noncomputable def whenT (env : List AVal) (i : Ins) (is : List Ins) (ls : List AVal) (ss : List Store) (σ : Store) (t : Option Bool) : Option (List AVal × List Store × Store) :=
  match t with
  | some true => thenT env is ls (ss ++ [σ]) (step code env ls σ i.op)
  | some false => runT code env is (ls ++ [.tup []]) (ss ++ [σ]) σ
  | none => none
noncomputable def thenChk (env : List AVal) (os : List (Nat × Opd)) (is : List Ins) (chk : List (Nat × Nat)) (r : Option (List AVal × List Store × Store)) : Option (Ex × St) :=
  r.bind fun r => (runChk code env r.1 is (r.2.1 ++ [r.2.2]) chk).map fun _ => (.nrm, ⟨outs env env r.1 os, r.2.2⟩)
noncomputable def chkNext (env ls : List AVal) (is : List Ins) (ss : List Store) (n : Nat) (τ : Store) (l : List (Nat × Nat)) (q : Option (AVal × Store)) : Option Unit :=
  q.bind fun q => if same q.1 (nth ls n) && sameS q.2 τ then runChk code env ls is ss l else none
noncomputable def chkAt (env ls : List AVal) (is : List Ins) (ss : List Store) (n : Nat) (l : List (Nat × Nat)) (i : Option Ins) (t : Option Store) : Option Unit :=
  match i, t with
  | some i, some τ => chkNext env ls is ss n τ l (step code env (ls.take n) τ i.op)
  | _, _ => none
def thenLeave (m : Mode) (res : List Res) (r : Option (Ex × St)) : Option AVal := r.bind fun r => match r.1 with
  | .ext _ => none
  | _ => (results r.2 res).map fun v => (finish m [] r.2 v).1
@[simp ↓] theorem R_seq (a b : ACode) (s : St) : run code (.seq a b) s = thenRun b (run code a s) := run_seq good a b s
@[simp ↓] theorem R_skip (s : St) : run code .skip s = some (.nrm, s) := run_skip good s
@[simp ↓] theorem R_exit (id : Nat) (s : St) : run code (.exit id) s = some (.ext id, s) := run_exit good id s
@[simp ↓] theorem R_ret (s : St) : run code .ret s = some (.ret, s) := run_ret good s
@[simp ↓] theorem R_reg (is : List Ins) (os : List (Nat × Opd)) (env : List AVal) (σ : Store) : run code (.reg is os) ⟨env, σ⟩ = thenOut env os (runOps code env is [] σ) := run_reg good is os _
@[simp ↓] theorem R_cond (c : Opd) (a b : ACode) (env : List AVal) (σ : Store) : run code (.cond c a b) ⟨env, σ⟩ = condRun a b ⟨env, σ⟩ (c.eval env []) := by
  rw [run_cond good]; rfl
@[simp ↓] theorem R_blk (id : Nat) (b : ACode) (s : St) : run code (.blk id b) s = thenBlk id (run code b s) := run_blk good id b s
@[simp ↓] theorem R_scope (b : ACode) (s : St) : run code (.scope b) s = run code b s := run_scope good b s
@[simp ↓] theorem R_loop (clr : List Nat) (b : ACode) (env : List AVal) (σ : Store) : run code (.loop clr b) ⟨env, σ⟩ = rounds code σ.length clr b ⟨clear env clr, σ⟩ := run_loop good clr b _
@[simp ↓] theorem R_rng (k : Nat) (f : Opd) (site : Nat) (env : List AVal) (σ : Store) : run code (.rng k f site) ⟨env, σ⟩ = if env.length = k then thenRng σ.length env (acallF code (f.eval env []) [.yld σ.length site env] (σ ++ [.pend false none])) else none := run_rng good k f site _
@[simp ↓] theorem R_lift (i off k : Nat) (b : ACode) (env : List AVal) (σ : Store) : run code (.lift i off k b) ⟨env, σ⟩ = thenLift env b (liftV (nth env i) off k σ) := run_lift good i off k b _
@[simp ↓] theorem R_regd (is : List Ins) (os : List (Nat × Opd)) (chk : List (Nat × Nat)) (env : List AVal) (σ : Store) : run code (.regd is os chk) ⟨env, σ⟩ = thenChk env os is chk (runT code env is [] [] σ) := run_regd good is os chk _
@[simp ↓] theorem T_nil (env ls : List AVal) (ss : List Store) (σ : Store) : runT code env [] ls ss σ = some (ls, ss, σ) := runT_nil good env ls ss σ
@[simp ↓] theorem T_i (env ls : List AVal) (ss : List Store) (σ : Store) (o : AOp) (is : List Ins) : runT code env (P.i o :: is) ls ss σ = thenT env is ls (ss ++ [σ]) (step code env ls σ o) := runT_cons good env _ is ls ss σ
@[simp ↓] theorem T_g (env ls : List AVal) (ss : List Store) (σ : Store) (x : Opd) (b : Bool) (o : AOp) (is : List Ins) :
    runT code env (P.g x b o :: is) ls ss σ = whenT env (P.g x b o) is ls ss σ (wanted env ls (some (x, b))) := runT_cons good env _ is ls ss σ
@[simp] theorem whenT_t (env : List AVal) (x : Opd) (b : Bool) (o : AOp) (is : List Ins) (ls : List AVal) (ss : List Store) (σ : Store) :
    whenT env (P.g x b o) is ls ss σ (some true) = thenT env is ls (ss ++ [σ]) (step code env ls σ o) := rfl
@[simp] theorem whenT_f (env : List AVal) (i : Ins) (is : List Ins) (ls : List AVal) (ss : List Store) (σ : Store) :
    whenT env i is ls ss σ (some false) = runT code env is (ls ++ [.tup []]) (ss ++ [σ]) σ := rfl
@[simp] theorem thenT_some (env : List AVal) (is : List Ins) (ls : List AVal) (ss : List Store) (v : AVal) (σ : Store) : thenT env is ls ss (some (v, σ)) = runT code env is (ls ++ [v]) ss σ := rfl
@[simp] theorem thenChk_some (env : List AVal) (os : List (Nat × Opd)) (is : List Ins) (chk : List (Nat × Nat)) (ls : List AVal) (ss : List Store) (σ : Store) :
    thenChk env os is chk (some (ls, ss, σ)) = (runChk code env ls is (ss ++ [σ]) chk).map fun _ => (.nrm, ⟨outs env env ls os, σ⟩) := rfl
@[simp ↓] theorem K_nil (env ls : List AVal) (is : List Ins) (ss : List Store) : runChk code env ls is ss [] = some () := runChk_nil good env ls is ss
@[simp ↓] theorem K_cons (env ls : List AVal) (is : List Ins) (ss : List Store) (n j : Nat) (l : List (Nat × Nat)) : runChk code env ls is ss ((n, j) :: l) = chkAt env ls is ss n l is[n]? ss[j]? := by
  rw [runChk_cons good]
  unfold chkAt chkNext
  cases is[n]? <;> cases ss[j]? <;> rfl
@[simp] theorem chkAt_some (env ls : List AVal) (is : List Ins) (ss : List Store) (n : Nat) (l : List (Nat × Nat)) (o : AOp) (τ : Store) : chkAt env ls is ss n l (some (P.i o)) (some τ) = chkNext env ls is ss n τ l (step code env (ls.take n) τ o) := rfl
@[simp] theorem chkNext_some (env ls : List AVal) (is : List Ins) (ss : List Store) (n : Nat) (τ : Store) (l : List (Nat × Nat)) (v : AVal) (σ : Store) : chkNext env ls is ss n τ l (some (v, σ)) = if same v (nth ls n) && sameS σ τ then runChk code env ls is ss l else none := rfl
@[simp] theorem thenLift_some (env : List AVal) (b : ACode) (σ : Store) : thenLift env b (some σ) = run code b ⟨env, σ⟩ := rfl
@[simp] theorem F_fn (f : Nat) (a c args : List AVal) (σ : Store) : acallF code (.fn f a c) args σ = acall code f (a ++ args ++ c) σ := rfl
attribute [simp] same_refl sameL_refl sameS_refl
@[simp ↓] theorem O_nil (env ls : List AVal) (σ : Store) : runOps code env [] ls σ = some (ls, σ) := runOps_nil good env ls σ
@[simp ↓] theorem O_i (env ls : List AVal) (σ : Store) (o : AOp) (is : List Ins) : runOps code env (P.i o :: is) ls σ = thenOps env is ls (step code env ls σ o) := runOps_cons good env _ is ls σ
@[simp ↓] theorem O_g (env ls : List AVal) (σ : Store) (x : Opd) (b : Bool) (o : AOp) (is : List Ins) :
    runOps code env (P.g x b o :: is) ls σ = whenOps env (P.g x b o) is ls σ (wanted env ls (some (x, b))) := runOps_cons good env _ is ls σ
@[simp] theorem when_t (env : List AVal) (x : Opd) (b : Bool) (o : AOp) (is : List Ins) (ls : List AVal) (σ : Store) :
    whenOps env (P.g x b o) is ls σ (some true) = thenOps env is ls (step code env ls σ o) := rfl
@[simp] theorem when_f (env : List AVal) (i : Ins) (is : List Ins) (ls : List AVal) (σ : Store) :
    whenOps env i is ls σ (some false) = runOps code env is (ls ++ [.tup []]) σ := rfl
@[simp] theorem thenRun_nrm (b : ACode) (s : St) : thenRun b (some (.nrm, s)) = run code b s := rfl
@[simp] theorem thenRun_ext (b : ACode) (s : St) (id : Nat) : thenRun b (some (.ext id, s)) = some (.ext id, s) := rfl
@[simp] theorem thenRun_ret (b : ACode) (s : St) : thenRun b (some (.ret, s)) = some (.ret, s) := rfl
@[simp] theorem thenOps_some (env : List AVal) (is : List Ins) (ls : List AVal) (v : AVal) (σ : Store) : thenOps env is ls (some (v, σ)) = runOps code env is (ls ++ [v]) σ := rfl
@[simp] theorem thenOut_some (env : List AVal) (os : List (Nat × Opd)) (ls : List AVal) (σ : Store) : thenOut env os (some (ls, σ)) = some (.nrm, ⟨outs env env ls os, σ⟩) := rfl
@[simp] theorem thenBlk_nrm (id : Nat) (s : St) : thenBlk id (some (.nrm, s)) = some (.nrm, s) := rfl
@[simp] theorem thenBlk_ret (id : Nat) (s : St) : thenBlk id (some (.ret, s)) = some (.ret, s) := rfl
@[simp] theorem thenBlk_ext (id j : Nat) (s : St) : thenBlk id (some (.ext j, s)) = some (if j = id then (.nrm, s) else (.ext j, s)) := by
  simp [thenBlk]
@[simp] theorem cond_t (a b : ACode) (s : St) : condRun a b s (.bool true) = run code a s := rfl
@[simp] theorem cond_f (a b : ACode) (s : St) : condRun a b s (.bool false) = run code b s := rfl
@[simp] theorem thenLeave_ret (m : Mode) (res : List Res) (s : St) : thenLeave m res (some (.ret, s)) = (results s res).map fun v => (finish m [] s v).1 := rfl
@[simp] theorem thenLeave_nrm (m : Mode) (res : List Res) (s : St) : thenLeave m res (some (.nrm, s)) = (results s res).map fun v => (finish m [] s v).1 := rfl
theorem pcall_eq {f : Nat} {g : AFunc} (h : code.fns f = .fn g) (hm : g.mode.isPure = true) (args : List AVal) :
    pcall f args = thenLeave g.mode g.res (run code g.body ⟨(args.take g.np).map (snap []) ++ List.replicate (g.nenv - g.np) .any, []⟩) := pcall_of h hm args
@[simp ↓] theorem S_call (env ls : List AVal) (σ : Store) (f : Nat) (args : List Opd) (mat : Bool) :
    step code env ls σ (.call f args mat) = (acall code f (args.map (·.eval env ls)) σ).map (mater mat) := step_call good env ls σ f args mat
@[simp ↓] theorem S_callv (env ls : List AVal) (σ : Store) (f : Opd) (args : List Opd) :
    step code env ls σ (.callv f args) = (acallV code (f.eval env ls) (args.map (·.eval env ls)) σ).map (mater false) := step_callv good env ls σ f args
@[simp] theorem V_fn (f : Nat) (a c args : List AVal) (σ : Store) : acallV code (.fn f a c) args σ = acall code f (a ++ args ++ c) σ := rfl
attribute [simp ↓] s_mov s_pick s_box s_build s_mknil s_mkl s_mksl s_mkslz s_make s_load s_store s_fld s_fldv s_idxs s_idxa s_idxv s_idxt s_bin s_eqb s_eqa s_isnil s_una s_conv s_slice s_slicet s_slice0 s_aslice s_len s_lent s_cap s_app s_appz s_nils s_copy s_mins s_maxs s_mkfn s_ext s_nilck s_mkmap s_mput s_look s_mlen s_clr s_bad
attribute [simp] eqCells kindOf nilsV emptyS liftV liftAt eqb eqa isnil neg aslV copyV tlen tslice aslice partV fldV idxsV nilckV convV extV idxtV mapOf mputV clrV pickV capV fresh isSlice sliceAt elemAt arrK entriesAt getPart setPart Opd.eval nth outs clear wanted bin binInt shift una alen asNat rd loadAt storeAt results getRess getRes finish opt sameCells sameCell isNil setAll fill minmax
@[simp] theorem ncells_agg (cs : List AVal) : ncells (.agg cs) = cs.length := rfl
@[simp] theorem ncells_int (k : IntKind) (n : Int) : ncells (.int k n) = 1 := rfl
@[simp] theorem ncells_bool (b : Bool) : ncells (.bool b) = 1 := rfl
@[simp] theorem ncells_str (s : List UInt8) : ncells (.str s) = 1 := rfl
@[simp] theorem ncells_imm (b : Bool) (xs : List AVal) : ncells (.imm b xs) = 1 := rfl
@[simp] theorem ncells_lst (xs : List AVal) : ncells (.lst xs) = 1 := rfl
@[simp] theorem ncells_nil0 : ncells .nil0 = 1 := rfl
@[simp] theorem ncells_nilp : ncells .nilp = 1 := rfl
@[simp] theorem ncells_nilf : ncells .nilf = 1 := rfl
@[simp] theorem ncells_nilm : ncells .nilm = 1 := rfl
@[simp] theorem ncells_sl (a b c d : Nat) : ncells (.sl a b c d) = 1 := rfl
@[simp] theorem ncells_ptr (a b c d : Nat) : ncells (.ptr a b c d) = 1 := rfl
@[simp] theorem ncells_cptr (b : Bool) (x : AVal) (o : Nat) : ncells (.cptr b x o) = 1 := rfl
@[simp] theorem ncells_fn (f : Nat) (a c : List AVal) : ncells (.fn f a c) = 1 := rfl
@[simp] theorem ncells_mp (i : Nat) : ncells (.mp i) = 1 := rfl
@[simp] theorem ncells_imap (b : Bool) (e : List (AVal × AVal)) : ncells (.imap b e) = 1 := rfl
@[simp] theorem isAgg_agg (cs : List AVal) : isAgg (.agg cs) = true := rfl
@[simp] theorem isAgg_int (k : IntKind) (n : Int) : isAgg (.int k n) = false := rfl
@[simp] theorem isAgg_bool (b : Bool) : isAgg (.bool b) = false := rfl
@[simp] theorem isAgg_str (s : List UInt8) : isAgg (.str s) = false := rfl
@[simp] theorem isAgg_imm (b : Bool) (xs : List AVal) : isAgg (.imm b xs) = false := rfl
@[simp] theorem isAgg_lst (xs : List AVal) : isAgg (.lst xs) = false := rfl
@[simp] theorem isAgg_nil0 : isAgg .nil0 = false := rfl
@[simp] theorem isAgg_nilp : isAgg .nilp = false := rfl
@[simp] theorem isAgg_nilf : isAgg .nilf = false := rfl
@[simp] theorem isAgg_nilm : isAgg .nilm = false := rfl
@[simp] theorem isAgg_sl (a b c d : Nat) : isAgg (.sl a b c d) = false := rfl
@[simp] theorem isAgg_ptr (a b c d : Nat) : isAgg (.ptr a b c d) = false := rfl
@[simp] theorem isAgg_cptr (b : Bool) (x : AVal) (o : Nat) : isAgg (.cptr b x o) = false := rfl
@[simp] theorem isAgg_fn (f : Nat) (a c : List AVal) : isAgg (.fn f a c) = false := rfl
@[simp] theorem isAgg_mp (i : Nat) : isAgg (.mp i) = false := rfl
@[simp] theorem isAgg_imap (b : Bool) (e : List (AVal × AVal)) : isAgg (.imap b e) = false := rfl
@[simp] theorem cellsOf_agg (cs : List AVal) : cellsOf (.agg cs) = cs := rfl
@[simp] theorem cellsOf_int (k : IntKind) (n : Int) : cellsOf (.int k n) = [.int k n] := rfl
@[simp] theorem cellsOf_bool (b : Bool) : cellsOf (.bool b) = [.bool b] := rfl
@[simp] theorem cellsOf_str (s : List UInt8) : cellsOf (.str s) = [.str s] := rfl
@[simp] theorem cellsOf_imm (b : Bool) (xs : List AVal) : cellsOf (.imm b xs) = [.imm b xs] := rfl
@[simp] theorem cellsOf_sl (a b c d : Nat) : cellsOf (.sl a b c d) = [.sl a b c d] := rfl
@[simp] theorem cellsOf_nil0 : cellsOf .nil0 = [.nil0] := rfl
@[simp] theorem cellsOf_fn (f : Nat) (a c : List AVal) : cellsOf (.fn f a c) = [.fn f a c] := rfl
@[simp] theorem cellsOf_ptr (a b c d : Nat) : cellsOf (.ptr a b c d) = [.ptr a b c d] := rfl
@[simp] theorem cellsOf_cptr (b : Bool) (x : AVal) (o : Nat) : cellsOf (.cptr b x o) = [.cptr b x o] := rfl
section
variable (fl top : Bool) (base : Nat) (σ : Store) (n : Nat)
@[simp] theorem fz_int (k : IntKind) (m : Int) : fz fl top base σ (n + 1) (.int k m) = .int k m := by simp [fz]
@[simp] theorem fz_bool (b : Bool) : fz fl top base σ (n + 1) (.bool b) = .bool b := by simp [fz]
@[simp] theorem fz_str (s : List UInt8) : fz fl top base σ (n + 1) (.str s) = .str s := by simp [fz]
@[simp] theorem fz_nil0 : fz fl top base σ (n + 1) .nil0 = if !fl && top then .nil0 else .imm false [] := by simp [fz]
@[simp] theorem fz_nilp : fz fl top base σ (n + 1) .nilp = .nilp := by simp [fz]
@[simp] theorem fz_nilf : fz fl top base σ (n + 1) .nilf = .nilf := by simp [fz]
@[simp] theorem fz_nilm : fz fl top base σ (n + 1) .nilm = .nilm := by simp [fz]
@[simp] theorem fz_any : fz fl top base σ (n + 1) .any = .any := by simp [fz]
@[simp] theorem fz_emp (b : Bool) : fz fl top base σ (n + 1) (.emp b) = .emp b := by simp [fz]
@[simp] theorem fz_agg (cs : List AVal) : fz fl top base σ (n + 1) (.agg cs) = .agg (cs.map (fz fl top base σ n)) := by simp [fz]
@[simp] theorem fz_tup (cs : List AVal) : fz fl top base σ (n + 1) (.tup cs) = .tup (cs.map (fz fl top base σ n)) := by simp [fz]
@[simp] theorem fz_lst (cs : List AVal) : fz fl top base σ (n + 1) (.lst cs) = listAt fl cs (cs.map (fz fl false base σ n)) := by simp [fz]
@[simp] theorem fz_fn (f : Nat) (a c : List AVal) : fz fl top base σ (n + 1) (.fn f a c) = .fn f (a.map (fz fl top base σ n)) (c.map (fz fl top base σ n)) := by simp [fz]
@[simp] theorem fz_immf (xs : List AVal) : fz fl top base σ (n + 1) (.imm false xs) = .imm false xs := by simp [fz]
@[simp] theorem fz_immt (b : Bool) (xs : List AVal) : fz true top base σ (n + 1) (.imm b xs) = .imm b xs := by simp [fz]
@[simp] theorem fz_immk (b : Bool) (xs : List AVal) : fz fl true base σ (n + 1) (.imm b xs) = .imm b xs := by simp [fz]
@[simp] theorem fz_cptrf (x : AVal) (o : Nat) : fz fl top base σ (n + 1) (.cptr false x o) = .cptr false x o := by simp [fz]
@[simp] theorem fz_cptrt (x : AVal) (o : Nat) : fz true top base σ (n + 1) (.cptr true x o) = cptrAt true x (fz true false base σ n x) o := by simp [fz]
@[simp] theorem fz_cptrk (x : AVal) (o : Nat) : fz false true base σ (n + 1) (.cptr true x o) = cptrAt true x (fz false true base σ n x) o := by simp [fz]
@[simp] theorem fz_imapf (x : List (AVal × AVal)) : fz fl top base σ (n + 1) (.imap false x) = .imap false x := by simp [fz]
@[simp] theorem fz_imapt (b : Bool) (x : List (AVal × AVal)) : fz true top base σ (n + 1) (.imap b x) = .imap b x := by simp [fz]
@[simp] theorem fz_imapk (b : Bool) (x : List (AVal × AVal)) : fz fl true base σ (n + 1) (.imap b x) = .imap b x := by simp [fz]
@[simp] theorem fz_sl (id ep off len : Nat) : fz fl top base σ (n + 1) (.sl id ep off len) = if id < base then (if top then .sl id ep off len else .any) else (sliceAt σ id ep off len).elim .any fun l => listAt fl l (l.map (fz fl false base σ n)) := by simp only [fz]
@[simp] theorem fz_ptr (id ep i off : Nat) : fz fl top base σ (n + 1) (.ptr id ep i off) = if id < base then (if top then .ptr id ep i off else .any) else (elemAt σ id ep i).elim .any fun x => cptrAt fl x (fz fl false base σ n x) off := by simp only [fz]
@[simp] theorem fz_mp (id : Nat) : fz fl top base σ (n + 1) (.mp id) = if id < base then (if top then .mp id else .any) else (entriesAt σ id).elim .any fun es => .imap fl (es.map fun e => (e.1, fz fl false base σ n e.2)) := by simp only [fz]
end
theorem listAt_ok {fl : Bool} {l l' : List AVal} (h : l'.map ncells = l.map ncells) : listAt fl l l' = .imm fl l' := by unfold listAt; rw [if_pos h]
attribute [simp] listAt cptrAt arrAt frsAt
@[simp] theorem frozen_eq (σ : Store) (v : AVal) : frozen σ v = fz false false 0 σ 20 v := rfl
@[simp] theorem snap_eq (σ : Store) (v : AVal) : snap σ v = fz true false 0 σ 20 v := rfl
@[simp] theorem freeze_eq (b : Nat) (σ : Store) (v : AVal) : freeze b σ v = fz false true b σ 20 v := rfl
@[simp] theorem mater_false_1 (k : IntKind) (n : Int) (σ : Store) : mater false (.int k n, σ) = (.int k n, σ) := rfl
attribute [simp] mater mater1
theorem wrap64_id {n : Int} (h : -9223372036854775808 ≤ n ∧ n < 9223372036854775808) : IntKind.i64.wrap n = n := by
  simp [IntKind.wrap, IntKind.bits, IntKind.signed]; omega
end Go.AM

namespace Go.AM
theorem rounds_iter {base : Nat} {clr : List Nat} {b : ACode} (I : Nat → St) (n : Nat) (r : Ex × St)
    (step : ∀ k, k < n → thenLoop base clr b (run code b (I k)) = rounds code base clr b (I (k + 1))) (last : thenLoop base clr b (run code b (I n)) = some r) :
    rounds code base clr b (I 0) = some r := by
  have key : ∀ m k, k + m = n → rounds code base clr b (I k) = some r := by
    intro m
    induction m with
    | zero =>
      intro k hk
      obtain rfl : k = n := by omega
      rw [rounds_eq good]
      exact last
    | succ m ih =>
      intro k hk
      rw [rounds_eq good]
      exact (step k (by omega)).trans (ih (k + 1) (by omega))
  exact key n 0 (by omega)
@[simp] theorem thenLoop_nrm (base : Nat) (clr : List Nat) (b : ACode) (s : St) : thenLoop base clr b (some (.nrm, s)) = rounds code base clr b (roundEnd base clr s) := rfl
@[simp] theorem thenLoop_ext (base : Nat) (clr : List Nat) (b : ACode) (s : St) (i : Nat) : thenLoop base clr b (some (.ext i, s)) = some (.ext i, s) := rfl
@[simp] theorem thenLoop_ret (base : Nat) (clr : List Nat) (b : ACode) (s : St) : thenLoop base clr b (some (.ret, s)) = some (.ret, s) := rfl
theorem roundEnd_same {base : Nat} {clr : List Nat} {env : List AVal} {σ : Store} (h : σ.length = base) : roundEnd base clr ⟨env, σ⟩ = ⟨clear env clr, σ⟩ := by
  unfold roundEnd
  rw [if_pos h]
theorem wrap_lt {k n : Nat} (h1 : k < n) (h2 : n ≤ most) : IntKind.i64.wrap ((k : Int) + 1) = ((k + 1 : Nat) : Int) := by
  rw [wrap64_id (by unfold most at h2; omega)]
  omega
end Go.AM

namespace Go.AM
structure WOk {α : Type} (c : α → α → Int) : Prop where
  anti : ∀ x y, c x y < 0 ↔ 0 < c y x
  tr : ∀ x y z, c x y ≤ 0 → c y z ≤ 0 → c x z ≤ 0
namespace WOk
variable {α : Type} {c d : α → α → Int}
theorem self (h : WOk c) (x : α) : c x x = 0 := by have := h.anti x x; omega
theorem lt_le (h : WOk c) {x y z : α} (h1 : c x y < 0) (h2 : c y z ≤ 0) : c x z < 0 := by
  have a1 := h.anti x z
  have a2 := h.anti x y
  have a3 := h.tr y z x h2
  omega
theorem le_lt (h : WOk c) {x y z : α} (h1 : c x y ≤ 0) (h2 : c y z < 0) : c x z < 0 := by
  have a1 := h.anti x z
  have a2 := h.anti y z
  have a3 := h.tr z x y
  omega
theorem zero (h : WOk c) {x y : α} : c x y = 0 ↔ c y x = 0 := by
  have := h.anti x y; have := h.anti y x; omega
end WOk
def lex (a b : Int) : Int := if a ≠ 0 then a else b
theorem WOk.lex {α : Type} {c d : α → α → Int} (hc : WOk c) (hd : WOk d) : WOk fun x y => lex (c x y) (d x y) where
  anti x y := by
    have h1 := hc.anti x y; have h2 := hc.anti y x; have h3 := hd.anti x y
    unfold Go.AM.lex
    split <;> split <;> omega
  tr x y z h1 h2 := by
    unfold Go.AM.lex at *
    have a1 := fun h => hc.lt_le (x := x) (y := y) (z := z) h
    have a2 := fun h h' => hc.le_lt (x := x) (y := y) (z := z) h h'
    have a3 := hc.tr x y z
    have a4 := hd.tr x y z
    have a5 := hc.anti x z
    have a6 := hc.tr z y x
    have a7 := hc.anti x y; have a8 := hc.anti y z; have a9 := hc.anti y x; have b1 := hc.anti z y; have b2 := hc.anti z x
    split at h1 <;> split at h2 <;> split <;> omega
theorem WOk.on {α β : Type} {c : α → α → Int} (h : WOk c) (f : β → α) : WOk fun x y => c (f x) (f y) := ⟨fun x y => h.anti _ _, fun x y z => h.tr _ _ _⟩
theorem WOk.neg {α : Type} {c : α → α → Int} (h : WOk c) : WOk fun x y => -c x y where
  anti x y := by have := h.anti y x; have := h.anti x y; omega
  tr x y z h1 h2 := by
    have a1 := h.tr z y x; have a2 := h.anti x y; have a3 := h.anti y z; have a4 := h.anti x z
    have a5 := h.anti y x; have a6 := h.anti z y; have a7 := h.anti z x
    omega
def icmp (n m : Int) : Int := if n < m then -1 else if m < n then 1 else 0
theorem icmp_ok : WOk icmp where
  anti x y := by unfold icmp; repeat' split
                 all_goals omega
  tr x y z h1 h2 := by
    unfold icmp at *
    repeat' split at h1
    all_goals repeat' split at h2
    all_goals repeat' split
    all_goals omega
theorem icmp_eq {n m : Int} (h : icmp n m = 0) : n = m := by unfold icmp at h; repeat' split at h
                                                             all_goals omega
def scmp (a b : List UInt8) : Int := if Op.bytesLess a b then -1 else if !(Op.bytesLess a b || a == b) then 1 else 0
def scmpR : List UInt8 → List UInt8 → Int
  | [], [] => 0
  | [], _ :: _ => -1
  | _ :: _, [] => 1
  | a :: x, b :: y => lex (icmp a.toNat b.toNat) (scmpR x y)
theorem scmp_eq : ∀ a b, scmp a b = scmpR a b
  | [], [] => rfl
  | [], _ :: _ => rfl
  | _ :: _, [] => rfl
  | a :: x, b :: y => by
    have ih := scmp_eq x y
    unfold scmp at ih ⊢
    simp only [scmpR]
    unfold Go.AM.lex icmp
    have h1 : (a < b) ↔ a.toNat < b.toNat := UInt8.lt_iff_toNat_lt
    have h2 : (a == b) = decide (a.toNat = b.toNat) := by
      by_cases h : a = b
      · subst h; simp
      · have : a.toNat ≠ b.toNat := fun e => h (UInt8.toNat_inj.1 e)
        simp [h, this]
    simp only [Op.bytesLess]
    by_cases c1 : a.toNat < b.toNat
    · simp [h1, c1]
    · by_cases c2 : b.toNat < a.toNat
      · have c3 : ¬ a.toNat = b.toNat := by omega
        have c4 : ¬ a = b := fun e => c3 (by rw [e])
        simp [h1, h2, c1, c2, c3, c4]
      · have c3 : a.toNat = b.toNat := by omega
        have c4 : a = b := UInt8.toNat_inj.1 c3
        subst c4
        simp [h1]
        rw [← ih]
        simp
theorem scmpR_ok : WOk scmpR where
  anti := by
    intro x
    induction x with
    | nil => intro y; cases y <;> simp [scmpR]
    | cons a x ih =>
      intro y
      cases y with
      | nil => simp [scmpR]
      | cons b y =>
        have h1 := ih y
        have h2 := icmp_ok.anti a.toNat b.toNat
        have h3 := icmp_ok.anti b.toNat a.toNat
        simp only [scmpR]
        unfold Go.AM.lex
        split <;> split <;> omega
  tr := by
    intro x
    induction x with
    | nil => intro y z _ _; cases z <;> simp [scmpR]
    | cons a x ih =>
      intro y z h1 h2
      cases y with
      | nil => simp [scmpR] at h1
      | cons b y =>
        cases z with
        | nil => simp [scmpR] at h2
        | cons e z =>
          have a1 := ih y z
          simp only [scmpR] at *
          unfold Go.AM.lex icmp at *
          repeat' split at h1
          all_goals repeat' split at h2
          all_goals repeat' split
          all_goals first | omega | (exact a1 h1 h2) | skip
theorem scmp_ok : WOk scmp := by
  have : scmp = scmpR := funext fun a => funext fun b => scmp_eq a b
  rw [this]
  exact scmpR_ok
theorem scmpR_zero : ∀ {a b : List UInt8}, scmpR a b = 0 → a = b
  | [], [], _ => rfl
  | [], _ :: _, h => by simp [scmpR] at h
  | _ :: _, [], h => by simp [scmpR] at h
  | a :: x, b :: y, h => by
    simp only [scmpR] at h
    unfold Go.AM.lex at h
    split at h
    · exact absurd h (by assumption)
    · rename_i h0
      have h1 := icmp_eq (Decidable.not_not.1 h0)
      rw [UInt8.toNat_inj.1 (by omega : a.toNat = b.toNat), scmpR_zero h]
structure Val where
  k : Int
  n : Int
  u : Int
  s : List UInt8
  deriving DecidableEq, Inhabited
def cmpV (a b : Val) : Int := lex (icmp a.k b.k) (lex (icmp a.n b.n) (lex (icmp a.u b.u) (scmp a.s b.s)))
theorem cmpV_ok : WOk cmpV := (icmp_ok.on Val.k).lex ((icmp_ok.on Val.n).lex ((icmp_ok.on Val.u).lex (scmp_ok.on Val.s)))
theorem lex_zero {a b : Int} (h : lex a b = 0) : a = 0 ∧ b = 0 := by unfold lex at h; split at h <;> omega
theorem cmpV_zero {a b : Val} (h : cmpV a b = 0) : a = b := by
  obtain ⟨h1, h⟩ := lex_zero h
  obtain ⟨h2, h⟩ := lex_zero h
  obtain ⟨h3, h4⟩ := lex_zero h
  cases a; cases b
  rw [scmp_eq] at h4
  rw [Val.mk.injEq]
  exact ⟨icmp_eq h1, icmp_eq h2, icmp_eq h3, scmpR_zero h4⟩
theorem icmp_range (a b : Int) : -1 ≤ icmp a b ∧ icmp a b ≤ 1 := by unfold icmp; repeat' split
                                                                    all_goals omega
theorem scmp_range (a b : List UInt8) : -1 ≤ scmp a b ∧ scmp a b ≤ 1 := by unfold scmp; repeat' split
                                                                           all_goals omega
theorem lex_range {a b : Int} (h : -1 ≤ a ∧ a ≤ 1) (h' : -1 ≤ b ∧ b ≤ 1) : -1 ≤ lex a b ∧ lex a b ≤ 1 := by unfold lex; split <;> omega
theorem cmpV_range (a b : Val) : -1 ≤ cmpV a b ∧ cmpV a b ≤ 1 := lex_range (icmp_range _ _) (lex_range (icmp_range _ _) (lex_range (icmp_range _ _) (scmp_range _ _)))
def cmpR : List Val → List Val → Int
  | [], [] => 0
  | [], _ :: _ => -1
  | _ :: _, [] => 1
  | a :: x, b :: y => lex (cmpV a b) (cmpR x y)
theorem cmpR_range : ∀ a b, -1 ≤ cmpR a b ∧ cmpR a b ≤ 1
  | [], [] => by simp [cmpR]
  | [], _ :: _ => by simp [cmpR]
  | _ :: _, [] => by simp [cmpR]
  | a :: x, b :: y => lex_range (cmpV_range a b) (cmpR_range x y)
theorem cmpR_zero : ∀ {a b : List Val}, cmpR a b = 0 → a = b
  | [], [], _ => rfl
  | [], _ :: _, h => by simp [cmpR] at h
  | _ :: _, [], h => by simp [cmpR] at h
  | a :: x, b :: y, h => by
    obtain ⟨h1, h2⟩ := lex_zero h
    rw [cmpV_zero h1, cmpR_zero h2]
theorem cmpR_ok : WOk cmpR where
  anti := by
    intro x
    induction x with
    | nil => intro y; cases y <;> simp [cmpR]
    | cons a x ih =>
      intro y
      cases y with
      | nil => simp [cmpR]
      | cons b y =>
        have h1 := ih y
        have h2 := cmpV_ok.anti a b
        have h3 := cmpV_ok.anti b a
        simp only [cmpR]
        unfold Go.AM.lex
        split <;> split <;> omega
  tr := by
    intro x
    induction x with
    | nil => intro y z _ _; cases z <;> simp [cmpR]
    | cons a x ih =>
      intro y z h1 h2
      cases y with
      | nil => simp [cmpR] at h1
      | cons b y =>
        cases z with
        | nil => simp [cmpR] at h2
        | cons e z =>
          have a1 := ih y z
          have b1 := cmpV_ok.tr a b e
          have b2 := fun h => cmpV_ok.lt_le (x := a) (y := b) (z := e) h
          have b3 := fun h h' => cmpV_ok.le_lt (x := a) (y := b) (z := e) h h'
          have b4 := cmpV_ok.tr e b a
          have b5 := cmpV_ok.anti a b; have b6 := cmpV_ok.anti b e; have b7 := cmpV_ok.anti a e
          have c5 := cmpV_ok.anti b a; have c6 := cmpV_ok.anti e b; have c7 := cmpV_ok.anti e a
          simp only [cmpR] at *
          unfold Go.AM.lex at *
          split at h1 <;> split at h2 <;> split <;> first | omega | (exact a1 h1 h2)
section
variable {α : Type} (c : α → α → Int)
def insC (x : α) : List α → List α
  | [] => [x]
  | y :: r => if c x y ≤ 0 then x :: y :: r else y :: insC x r
def sortC : List α → List α
  | [] => []
  | x :: r => insC c x (sortC r)
variable {c}
theorem insC_perm (x : α) : ∀ l, (insC c x l).Perm (x :: l)
  | [] => List.Perm.refl _
  | y :: r => by
    unfold insC
    split
    · exact List.Perm.refl _
    · exact ((insC_perm x r).cons y).trans (List.Perm.swap x y r)
theorem sortC_perm : ∀ l : List α, (sortC c l).Perm l
  | [] => List.Perm.refl _
  | x :: r => (insC_perm x _).trans ((sortC_perm r).cons x)
theorem insC_sorted (h : WOk c) (x : α) : ∀ l, l.Pairwise (fun a b => c a b ≤ 0) → (insC c x l).Pairwise fun a b => c a b ≤ 0
  | [], _ => by simp [insC]
  | y :: r, hl => by
    have hp := List.pairwise_cons.1 hl
    unfold insC
    split
    · rename_i hle
      exact List.pairwise_cons.2 ⟨fun z hz => by
        rcases List.mem_cons.1 hz with rfl | hz
        · exact hle
        · exact h.tr _ _ _ hle (hp.1 z hz), hl⟩
    · rename_i hle
      refine List.pairwise_cons.2 ⟨fun z hz => ?_, insC_sorted h x r hp.2⟩
      rcases List.mem_cons.1 ((insC_perm x r).mem_iff.1 hz) with rfl | hz
      · have := h.anti y z; have := h.anti z y; omega
      · exact hp.1 z hz
theorem sortC_sorted (h : WOk c) : ∀ l : List α, (sortC c l).Pairwise fun a b => c a b ≤ 0
  | [] => by simp [sortC]
  | x :: r => insC_sorted h x _ (sortC_sorted h r)
theorem sorted_unique (hz : ∀ a b, c a b = 0 → a = b) (h : WOk c) : ∀ {l m : List α}, l.Pairwise (fun a b => c a b ≤ 0) → m.Pairwise (fun a b => c a b ≤ 0) → l.Perm m → l = m
  | [], m, _, _, hp => (List.nil_perm.1 hp).symm
  | x :: l, [], _, _, hp => absurd (List.perm_nil.1 hp) (by simp)
  | x :: l, y :: m, h1, h2, hp => by
    have p1 := List.pairwise_cons.1 h1
    have p2 := List.pairwise_cons.1 h2
    have hxy : x = y := by
      have hx : x ∈ y :: m := hp.mem_iff.1 (List.mem_cons_self ..)
      have hy : y ∈ x :: l := hp.mem_iff.2 (List.mem_cons_self ..)
      rcases List.mem_cons.1 hx with e | hx
      · exact e
      · rcases List.mem_cons.1 hy with e | hy
        · exact e.symm
        · have a1 := p2.1 x hx
          have a2 := p1.1 y hy
          have := h.anti x y; have := h.anti y x
          exact hz x y (by omega)
    subst hxy
    rw [sorted_unique hz h p1.2 p2.2 (List.Perm.cons_inv hp)]
theorem sortC_congr (hz : ∀ a b, c a b = 0 → a = b) (h : WOk c) {l m : List α} (hp : l.Perm m) : sortC c l = sortC c m :=
  sorted_unique hz h (sortC_sorted h l) (sortC_sorted h m) ((sortC_perm l).trans (hp.trans (sortC_perm m).symm))
theorem insC_take (hz : ∀ a b, c a b = 0 → a = b) (h : WOk c) (t : α) : ∀ (l : List α) (k : Nat), l.Pairwise (fun a b => c a b ≤ 0) → k ≤ (l.filter fun y => decide (c y t ≤ 0)).length → (insC c t l).take k = l.take k
  | l, 0, _, _ => by simp
  | [], k + 1, _, hk => by simp at hk
  | y :: r, k + 1, hl, hk => by
    have hp := List.pairwise_cons.1 hl
    have hcount : ∀ (hy : c y t ≤ 0), k ≤ (r.filter fun y => decide (c y t ≤ 0)).length := fun hy => by
      rw [List.filter_cons_of_pos (by simpa using hy)] at hk
      simpa using hk
    unfold insC
    split
    · rename_i hle
      have hy : y = t := by
        have : ∃ z ∈ y :: r, c z t ≤ 0 := by
          have hne : ((y :: r).filter fun y => decide (c y t ≤ 0)) ≠ [] := fun e => by rw [e] at hk; simp at hk
          obtain ⟨z, hz⟩ := List.exists_mem_of_ne_nil _ hne
          have := List.mem_filter.1 hz
          exact ⟨z, this.1, by simpa using this.2⟩
        obtain ⟨z, hzm, hzt⟩ := this
        have hyz : c y z ≤ 0 := by
          rcases List.mem_cons.1 hzm with rfl | hzm
          · rw [h.self]; exact Int.le_refl _
          · exact hp.1 z hzm
        have := h.tr y z t hyz hzt
        have := h.anti y t; have := h.anti t y
        exact hz y t (by omega)
      subst hy
      have hins : insC c y r = y :: r := by
        cases r with
        | nil => rfl
        | cons z r => unfold insC; rw [if_pos (hp.1 z (List.mem_cons_self ..))]
      have ih := insC_take hz h y r k hp.2 (hcount (by rw [h.self]; exact Int.le_refl _))
      rw [hins] at ih
      simp only [List.take_succ_cons]
      rw [ih]
    · rename_i hle
      have hy : c y t ≤ 0 := by have := h.anti y t; have := h.anti t y; omega
      simp only [List.take_succ_cons]
      rw [insC_take hz h t r k hp.2 (hcount hy)]
theorem sortC_drop (hz : ∀ a b, c a b = 0 → a = b) (h : WOk c) (k : Nat) (X : List α) : ∀ T : List α, (∀ t ∈ T, k ≤ (X.filter fun y => decide (c y t ≤ 0)).length) → (sortC c (T ++ X)).take k = (sortC c X).take k
  | [], _ => rfl
  | t :: T, ht => by
    have ih := sortC_drop hz h k X T fun t' h' => ht t' (List.mem_cons_of_mem _ h')
    show (insC c t (sortC c (T ++ X))).take k = _
    rw [insC_take hz h t _ k (sortC_sorted h _), ih]
    have h1 := ht t (List.mem_cons_self ..)
    have h2 : ((sortC c (T ++ X)).filter fun y => decide (c y t ≤ 0)).Perm ((T ++ X).filter fun y => decide (c y t ≤ 0)) := (sortC_perm _).filter _
    rw [h2.length_eq, List.filter_append, List.length_append]
    omega
theorem sortC_cut (hz : ∀ a b, c a b = 0 → a = b) (h : WOk c) (k : Nat) (A B : List α) : (sortC c (A ++ B)).take k = (sortC c ((sortC c A).take k ++ B)).take k := by
  have hs := sortC_sorted h A
  have hp : (A ++ B).Perm ((sortC c A).drop k ++ ((sortC c A).take k ++ B)) := by
    have h1 : A.Perm ((sortC c A).take k ++ (sortC c A).drop k) := by rw [List.take_append_drop]; exact (sortC_perm A).symm
    refine (h1.append_right B).trans ?_
    rw [List.append_assoc]
    refine List.perm_append_comm.trans ?_
    rw [List.append_assoc]
    exact (List.Perm.refl _).append List.perm_append_comm
  rw [sortC_congr hz h hp]
  refine sortC_drop hz h k _ _ fun t ht => ?_
  have hlen : ((sortC c A).take k).length = k := by
    rw [List.length_take]
    have : ¬ (sortC c A).length ≤ k := fun hle => by
      rw [List.drop_of_length_le hle] at ht; cases ht
    omega
  rw [← List.take_append_drop k (sortC c A), List.pairwise_append] at hs
  have hall : ((sortC c A).take k).filter (fun y => decide (c y t ≤ 0)) = (sortC c A).take k := List.filter_eq_self.2 fun y hy => by simpa using hs.2.2 y hy t ht
  rw [List.filter_append, List.length_append, hall, hlen]
  omega
def cutC (limit : Int) (l : List α) : List α := if 0 ≤ limit then l.take limit.toNat else l
theorem sortC_parts (hz : ∀ a b, c a b = 0 → a = b) (h : WOk c) (limit : Int) : ∀ (ps : List (List α)) (B : List α), cutC limit (sortC c (ps.flatten ++ B)) = cutC limit (sortC c ((ps.map fun p => cutC limit (sortC c p)).flatten ++ B))
  | [], B => rfl
  | p :: ps, B => by
    have ih := fun B => sortC_parts hz h limit ps B
    unfold cutC at *
    by_cases hl : 0 ≤ limit
    · simp only [hl, if_true] at *
      simp only [List.flatten_cons, List.map_cons, List.append_assoc]
      rw [sortC_cut hz h _ p]
      have e1 : ∀ X Y Z : List α, sortC c (X ++ (Y ++ Z)) = sortC c (Y ++ (X ++ Z)) := fun X Y Z => sortC_congr hz h (by
        rw [← List.append_assoc, ← List.append_assoc]
        exact List.perm_append_comm.append_right Z)
      rw [e1, ih, e1]
    · simp only [hl, if_false] at *
      simp only [List.flatten_cons, List.map_cons, List.append_assoc]
      have e1 : ∀ X Y Z : List α, sortC c (X ++ (Y ++ Z)) = sortC c (Y ++ (X ++ Z)) := fun X Y Z => sortC_congr hz h (by
        rw [← List.append_assoc, ← List.append_assoc]
        exact List.perm_append_comm.append_right Z)
      rw [e1, ih, e1]
      exact sortC_congr hz h ((sortC_perm p).symm.append_right _)
end
end Go.AM
