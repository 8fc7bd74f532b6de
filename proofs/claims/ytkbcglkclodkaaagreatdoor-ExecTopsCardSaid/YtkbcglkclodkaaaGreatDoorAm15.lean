/- PRINTED: each operation's equation. -/
import Derived.Test.YtkbcglkclodkaaaGreatDoorAm06
import Derived.Test.YtkbcglkclodkaaaGreatDoorAm00
import Derived.Test.YtkbcglkclodkaaaGreatDoorAm07
import Derived.KernelRfl
set_option linter.unusedVariables false
set_option linter.unusedSimpArgs false
namespace Go.AM
section
variable {P : Code}
theorem s_mov (env ls : List AVal) (σ : Store) (x : Opd) : step P env ls σ (.mov x) = (some (x.eval env ls, σ)) := by
  unfold step; simp only [stepOp]; exact lim_const _
theorem s_pick (env ls : List AVal) (σ : Store) (c : Opd) (a : Opd) (b : Opd) : step P env ls σ (.pick c a b) = ((pickV (a.eval env ls) (b.eval env ls) (c.eval env ls)).map (·, σ)) := by
  unfold step; simp only [stepOp]; exact lim_const _
theorem s_box (env ls : List AVal) (σ : Store) (k : Nat) (x : Opd) : step P env ls σ (.box k x) = (let v := x.eval env ls; if ncells v = k then some (.ptr σ.length 0 0 0, σ ++ [.arr k 0 [v]]) else none) := by
  unfold step; simp only [stepOp]; exact lim_const _
theorem s_build (env ls : List AVal) (σ : Store) (zero : List AVal) (parts : List (Nat × Nat × Opd)) : step P env ls σ (.build zero parts) = ((fill zero (parts.map fun p => (p.1, p.2.1, p.2.2.eval env ls))).map fun cs => (.agg cs, σ)) := by
  unfold step; simp only [stepOp]; exact lim_const _
theorem s_mknil (env ls : List AVal) (σ : Store) (k : Nat) : step P env ls σ (.mknil k) = (some (.sl σ.length 0 0 0, σ ++ [.arr k 0 []])) := by
  unfold step; simp only [stepOp]; exact lim_const _
theorem s_mkl (env ls : List AVal) (σ : Store) (k : Nat) (xs : List Opd) : step P env ls σ (.mkl k xs) = (let vs := xs.map (·.eval env ls); if vs.all (fun v => ncells v == k) then some (.lst vs, σ) else none) := by
  unfold step; simp only [stepOp]; exact lim_const _
theorem s_mksl (env ls : List AVal) (σ : Store) (k : Nat) (xs : List Opd) : step P env ls σ (.mksl k xs) = (let vs := xs.map (·.eval env ls)
    if vs = [] then some (.nil0, σ) else
    if vs.all (fun v => ncells v == k) then some (.sl σ.length 0 0 vs.length, σ ++ [.arr k 0 vs]) else none) := by
  unfold step; simp only [stepOp]; exact lim_const _
theorem s_mkslz (env ls : List AVal) (σ : Store) (k : Nat) (zero : AVal) (n : Nat) (parts : List (Nat × Opd)) : step P env ls σ (.mkslz k zero n parts) = (let vs := setAll (List.replicate n zero) (parts.map fun p => (p.1, p.2.eval env ls))
    if vs.all (fun v => ncells v == k) then some (.sl σ.length 0 0 n, σ ++ [.arr k 0 vs]) else none) := by
  unfold step; simp only [stepOp]; exact lim_const _
theorem s_make (env ls : List AVal) (σ : Store) (k : Nat) (zero : AVal) (n : Opd) (c : Opd) : step P env ls σ (.make k zero n c) = ((asNat (n.eval env ls)).bind fun m => (asNat (c.eval env ls)).bind fun d =>
      if m = d ∧ ncells zero = k ∧ m ≤ most then some (.sl σ.length 0 0 m, σ ++ [.arr k 0 (List.replicate m zero)]) else none) := by
  unfold step; simp only [stepOp]; exact lim_const _
theorem s_load (env ls : List AVal) (σ : Store) (a : Bool) (s : Nat) (x : Opd) : step P env ls σ (.load a s x) = ((loadAt a s (x.eval env ls) σ).map (·, σ)) := by
  unfold step; simp only [stepOp]; exact lim_const _
theorem s_store (env ls : List AVal) (σ : Store) (s : Nat) (x : Opd) (v : Opd) : step P env ls σ (.store s x v) = ((storeAt s (x.eval env ls) (v.eval env ls) σ).map (.any, ·)) := by
  unfold step; simp only [stepOp]; exact lim_const _
theorem s_fld (env ls : List AVal) (σ : Store) (off : Nat) (x : Opd) : step P env ls σ (.fld off x) = ((fldV σ off (x.eval env ls)).map (·, σ)) := by
  unfold step; simp only [stepOp]; exact lim_const _
theorem s_fldv (env ls : List AVal) (σ : Store) (a : Bool) (s : Nat) (off : Nat) (x : Opd) : step P env ls σ (.fldv a s off x) = ((partV a s off (x.eval env ls)).map (·, σ)) := by
  unfold step; simp only [stepOp]; exact lim_const _
theorem s_idxs (env ls : List AVal) (σ : Store) (k : Nat) (x : Opd) (i : Opd) : step P env ls σ (.idxs k x i) = ((asNat (i.eval env ls)).bind fun n => (idxsV σ k n (x.eval env ls)).map (·, σ)) := by
  unfold step; simp only [stepOp]; exact lim_const _
theorem s_idxa (env ls : List AVal) (σ : Store) (m : Nat) (s : Nat) (x : Opd) (i : Opd) : step P env ls σ (.idxa m s x i) = ((asNat (i.eval env ls)).bind fun n => if n < m then (fldV σ (n * s) (x.eval env ls)).map (·, σ) else none) := by
  unfold step; simp only [stepOp]; exact lim_const _
theorem s_idxv (env ls : List AVal) (σ : Store) (a : Bool) (m : Nat) (s : Nat) (x : Opd) (i : Opd) : step P env ls σ (.idxv a m s x i) = ((asNat (i.eval env ls)).bind fun n => if n < m then (partV a s (n * s) (x.eval env ls)).map (·, σ) else none) := by
  unfold step; simp only [stepOp]; exact lim_const _
theorem s_idxt (env ls : List AVal) (σ : Store) (x : Opd) (i : Opd) : step P env ls σ (.idxt x i) = ((asNat (i.eval env ls)).bind fun n => (idxtV n (x.eval env ls)).map (·, σ)) := by
  unfold step; simp only [stepOp]; exact lim_const _
theorem s_bin (env ls : List AVal) (σ : Store) (op : BinOp) (x : Opd) (y : Opd) : step P env ls σ (.bin op x y) = ((bin op (x.eval env ls) (y.eval env ls)).map (·, σ)) := by
  unfold step; simp only [stepOp]; exact lim_const _
theorem s_eqb (env ls : List AVal) (σ : Store) (n : Bool) (x : Opd) (y : Opd) : step P env ls σ (.eqb n x y) = ((eqb n (x.eval env ls) (y.eval env ls)).map (·, σ)) := by
  unfold step; simp only [stepOp]; exact lim_const _
theorem s_eqa (env ls : List AVal) (σ : Store) (n : Bool) (ks : List Nat) (x : Opd) (y : Opd) : step P env ls σ (.eqa n ks x y) = ((eqa n ks (x.eval env ls) (y.eval env ls)).map (·, σ)) := by
  unfold step; simp only [stepOp]; exact lim_const _
theorem s_isnil (env ls : List AVal) (σ : Store) (n : Bool) (x : Opd) : step P env ls σ (.isnil n x) = ((isnil n (x.eval env ls)).map (·, σ)) := by
  unfold step; simp only [stepOp]; exact lim_const _
theorem s_nils (env ls : List AVal) (σ : Store) (n : Bool) (x : Opd) : step P env ls σ (.nils n x) = ((nilsV n σ (x.eval env ls)).map (·, σ)) := by
  unfold step; simp only [stepOp]; exact lim_const _
theorem s_una (env ls : List AVal) (σ : Store) (op : UnOp) (x : Opd) : step P env ls σ (.una op x) = ((una op (x.eval env ls)).map (·, σ)) := by
  unfold step; simp only [stepOp]; exact lim_const _
theorem s_conv (env ls : List AVal) (σ : Store) (k : IntKind) (x : Opd) : step P env ls σ (.conv k x) = ((convV k (x.eval env ls)).map (·, σ)) := by
  unfold step; simp only [stepOp]; exact lim_const _
theorem s_slice (env ls : List AVal) (σ : Store) (k : Nat) (x : Opd) (lo : Option Opd) (hi : Option Opd) : step P env ls σ (.slice k x lo hi) = (let v := x.eval env ls
    (alen σ v).bind fun n => (opt env ls 0 lo).bind fun l => (opt env ls n hi).bind fun h => (aslice σ k v l h).map (·, σ)) := by
  unfold step; simp only [stepOp]; exact lim_const _
theorem s_slicet (env ls : List AVal) (σ : Store) (x : Opd) (lo : Option Opd) (hi : Option Opd) : step P env ls σ (.slicet x lo hi) = (let v := x.eval env ls
    (tlen v).bind fun n => (opt env ls 0 lo).bind fun l => (opt env ls n hi).bind fun h => (tslice v l h).map (·, σ)) := by
  unfold step; simp only [stepOp]; exact lim_const _
theorem s_slice0 (env ls : List AVal) (σ : Store) (x : Opd) : step P env ls σ (.slice0 x) = ((alen σ (x.eval env ls)).map fun _ => (.nil0, σ)) := by
  unfold step; simp only [stepOp]; exact lim_const _
theorem s_aslice (env ls : List AVal) (σ : Store) (n : Nat) (x : Opd) : step P env ls σ (.aslice n x) = ((aslV σ n (x.eval env ls)).map (·, σ)) := by
  unfold step; simp only [stepOp]; exact lim_const _
theorem s_len (env ls : List AVal) (σ : Store) (x : Opd) : step P env ls σ (.len x) = ((alen σ (x.eval env ls)).map fun (n : Nat) => (.int .i64 (n : Int), σ)) := by
  unfold step; simp only [stepOp]; exact lim_const _
theorem s_lent (env ls : List AVal) (σ : Store) (x : Opd) : step P env ls σ (.lent x) = ((tlen (x.eval env ls)).map fun (n : Nat) => (.int .i64 (n : Int), σ)) := by
  unfold step; simp only [stepOp]; exact lim_const _
theorem s_cap (env ls : List AVal) (σ : Store) (x : Opd) : step P env ls σ (.cap x) = ((capV (x.eval env ls)).map (·, σ)) := by
  unfold step; simp only [stepOp]; exact lim_const _
theorem s_app (env ls : List AVal) (σ : Store) (k : Nat) (x : Opd) (y : Opd) : step P env ls σ (.app k x y) = ((rd σ (y.eval env ls)).bind fun ys => append k (x.eval env ls) ys σ) := by
  unfold step; simp only [stepOp]; exact lim_const _
theorem s_appz (env ls : List AVal) (σ : Store) (k : Nat) (zero : AVal) (x : Opd) (n : Opd) : step P env ls σ (.appz k zero x n) = ((asNat (n.eval env ls)).bind fun m => if ncells zero = k ∧ m ≤ most then append k (x.eval env ls) (List.replicate m zero) σ else none) := by
  unfold step; simp only [stepOp]; exact lim_const _
theorem s_copy (env ls : List AVal) (σ : Store) (k : Nat) (x : Opd) (y : Opd) : step P env ls σ (.copy k x y) = ((rd σ (y.eval env ls)).bind fun ys => (copyV σ k ys (x.eval env ls)).map fun σ' => (.any, σ')) := by
  unfold step; simp only [stepOp]; exact lim_const _
theorem s_mins (env ls : List AVal) (σ : Store) (x : Opd) (xs : List Opd) : step P env ls σ (.mins x xs) = ((minmax true (x.eval env ls) (xs.map (·.eval env ls))).map (·, σ)) := by
  unfold step; simp only [stepOp]; exact lim_const _
theorem s_maxs (env ls : List AVal) (σ : Store) (x : Opd) (xs : List Opd) : step P env ls σ (.maxs x xs) = ((minmax false (x.eval env ls) (xs.map (·.eval env ls))).map (·, σ)) := by
  unfold step; simp only [stepOp]; exact lim_const _
theorem s_mkfn (env ls : List AVal) (σ : Store) (f : Nat) (first : List Opd) (cap : List Opd) : step P env ls σ (.mkfn f first cap) = (some (.fn f (first.map (·.eval env ls)) (cap.map (·.eval env ls)), σ)) := by
  unfold step; simp only [stepOp]; exact lim_const _
theorem s_ext (env ls : List AVal) (σ : Store) (i : Nat) (x : Opd) : step P env ls σ (.ext i x) = ((extV i (x.eval env ls)).map (·, σ)) := by
  unfold step; simp only [stepOp]; exact lim_const _
theorem s_nilck (env ls : List AVal) (σ : Store) (x : Opd) : step P env ls σ (.nilck x) = ((nilckV σ (x.eval env ls)).map (·, σ)) := by
  unfold step; simp only [stepOp]; exact lim_const _
theorem s_mkmap (env ls : List AVal) (σ : Store)  : step P env ls σ (.mkmap) = (some (.mp σ.length, σ ++ [.map []])) := by
  unfold step; simp only [stepOp]; exact lim_const _
theorem s_mput (env ls : List AVal) (σ : Store) (m : Opd) (k : Opd) (v : Opd) : step P env ls σ (.mput m k v) = ((mputV σ (k.eval env ls) (v.eval env ls) (m.eval env ls)).map (.any, ·)) := by
  unfold step; simp only [stepOp]; exact lim_const _
theorem s_look (env ls : List AVal) (σ : Store) (zero : AVal) (ok : Bool) (m : Opd) (k : Opd) : step P env ls σ (.look zero ok m k) = (if isKey (k.eval env ls) then (mapOf σ (m.eval env ls)).bind fun es => (lookup (k.eval env ls) es).map fun r => (if ok then .tup [r.getD zero, .bool r.isSome] else r.getD zero, σ) else none) := by
  unfold step; simp only [stepOp]; exact lim_const _
theorem s_mlen (env ls : List AVal) (σ : Store) (m : Opd) : step P env ls σ (.mlen m) = ((mapOf σ (m.eval env ls)).map fun es => (.int .i64 (es.length : Int), σ)) := by
  unfold step; simp only [stepOp]; exact lim_const _
theorem s_clr (env ls : List AVal) (σ : Store) (zero : AVal) (x : Opd) : step P env ls σ (.clr zero x) = ((clrV σ zero (x.eval env ls)).map (.any, ·)) := by
  unfold step; simp only [stepOp]; exact lim_const _
theorem s_bad (env ls : List AVal) (σ : Store)  : step P env ls σ (.bad) = (none) := by
  unfold step; simp only [stepOp]; exact lim_const _
end
end Go.AM

namespace Go.AM
def Mode.isPure : Mode → Bool
  | .pure | .fresh _ => true
  | _ => false
theorem fz_idem (σ τ : Store) : ∀ (n : Nat) (v : AVal), fz true false 0 τ n (fz true false 0 σ n v) = fz true false 0 σ n v := by
  intro n
  induction n with
  | zero => intro v; rfl
  | succ n ih =>
    intro v
    have hl : ∀ l : List AVal, (l.map (fz true false 0 σ n)).map (fz true false 0 τ n) = l.map (fz true false 0 σ n) := fun l => by
      rw [List.map_map]; exact List.map_congr_left fun x _ => ih x
    cases v with
    | agg cs => simp only [fz]; rw [hl]
    | tup cs => simp only [fz]; rw [hl]
    | fn f a c => simp only [fz]; rw [hl, hl]
    | imm b xs => cases b <;> simp [fz]
    | cptr b x o =>
      cases b
      · simp [fz]
      · by_cases h : ncells (fz true false 0 σ n x) = ncells x
        · simp [fz, cptrAt, h, ih]
        · simp [fz, cptrAt, h]
    | imap b xs => cases b <;> simp [fz]
    | lst xs =>
      by_cases h : (xs.map (fz true false 0 σ n)).map ncells = xs.map ncells
      · simp only [fz, listAt, if_pos h]; rfl
      · simp only [fz, listAt, if_neg h]
    | sl id ep off len =>
      simp only [fz, Nat.not_lt_zero, if_false]
      cases sliceAt σ id ep off len with
      | none => simp [fz]
      | some l =>
        by_cases h : (l.map (fz true false 0 σ n)).map ncells = l.map ncells
        · simp only [Option.elim, listAt, if_pos h, fz]; rfl
        · simp only [Option.elim, listAt, if_neg h, fz]
    | ptr id ep i off =>
      simp only [fz, Nat.not_lt_zero, if_false]
      cases elemAt σ id ep i with
      | none => simp [fz]
      | some x =>
        by_cases h : ncells (fz true false 0 σ n x) = ncells x
        · simp [fz, cptrAt, h, ih]
        · simp [fz, cptrAt, h]
    | asl id ep i off m => simp [fz]
    | mp id =>
      simp only [fz, Nat.not_lt_zero, if_false]
      cases entriesAt σ id <;> simp [fz]
    | yld l s e =>
      simp [fz]
    | _ => simp [fz]
theorem snap_idem (σ τ : Store) (v : AVal) : snap τ (snap σ v) = snap σ v := fz_idem σ τ fuel v
section
variable {P : Code} (hP : P.Good)
include hP
theorem acall_pureP {f : Nat} {g : AFunc} (h : P.fns f = .fn g) (hm : g.mode.isPure = true) (args : List AVal) (σ : Store) :
    acall P f args σ = ((acall P f (args.map (snap σ)) []).map (·.1)).map (·, σ) := by
  rw [acall_fn hP h, acall_fn hP h]
  have he : enter g args σ = enter g (args.map (snap σ)) [] := by
    have h1 : ((args.map (snap σ)).take g.np).map (snap []) = (args.take g.np).map (snap σ) := by
      rw [← List.map_take, List.map_map]; exact List.map_congr_left fun x _ => snap_idem σ [] x
    unfold enter
    cases hg : g.mode <;> rw [hg] at hm <;> first | exact absurd hm (by decide) | (simp only [h1])
  rw [he]
  cases run P g.body (enter g (args.map (snap σ)) []) with
  | none => rfl
  | some r =>
    obtain ⟨e, s⟩ := r
    have key : (results s g.res).map (fun v => finish g.mode σ s v) = (((results s g.res).map fun v => finish g.mode [] s v).map (·.1)).map (·, σ) := by
      cases results s g.res with
      | none => rfl
      | some v =>
        cases hg : g.mode <;> rw [hg] at hm <;> first | exact absurd hm (by decide) | rfl
    cases e with
    | ext _ => rfl
    | nrm => exact key
    | ret => exact key
theorem pcall_ofP {f : Nat} {g : AFunc} (h : P.fns f = .fn g) (hm : g.mode.isPure = true) (args : List AVal) :
    (acall P f args []).map (·.1) = (run P g.body ⟨(args.take g.np).map (snap []) ++ List.replicate (g.nenv - g.np) .any, []⟩).bind fun r => match r.1 with
      | .ext _ => none
      | _ => (results r.2 g.res).map fun v => (finish g.mode [] r.2 v).1 := by
  rw [acall_fn hP h]
  have he : enter g args [] = ⟨(args.take g.np).map (snap []) ++ List.replicate (g.nenv - g.np) .any, []⟩ := by
    unfold enter
    cases hg : g.mode <;> rw [hg] at hm <;> first | exact absurd hm (by decide) | rfl
  rw [he]
  cases run P g.body _ with
  | none => rfl
  | some r =>
    obtain ⟨e, s⟩ := r
    cases e with
    | ext _ => rfl
    | nrm => show ((results s g.res).map _).map _ = _; rw [Option.map_map]; rfl
    | ret => show ((results s g.res).map _).map _ = _; rw [Option.map_map]; rfl
end
end Go.AM

namespace Go.AM
theorem good : code.Good := prims_good
noncomputable def pcall (f : Nat) (args : List AVal) : Option AVal := (acall code f args []).map (·.1)
theorem acall_pure {f : Nat} {g : AFunc} (h : code.fns f = .fn g) (hm : g.mode.isPure = true) (args : List AVal) (σ : Store) :
    acall code f args σ = (pcall f (args.map (snap σ))).map (·, σ) := acall_pureP good h hm args σ
theorem pcall_of {f : Nat} {g : AFunc} (h : code.fns f = .fn g) (hm : g.mode.isPure = true) (args : List AVal) :
    pcall f args = (run code g.body ⟨(args.take g.np).map (snap []) ++ List.replicate (g.nenv - g.np) .any, []⟩).bind fun r => match r.1 with
      | .ext _ => none
      | _ => (results r.2 g.res).map fun v => (finish g.mode [] r.2 v).1 := pcall_ofP good h hm args
theorem c_exec_Run : code.fns 2 = .fn P.f_exec_Run := rfl
@[simp] theorem a_exec_Run (args : List AVal) (σ : Store) : acall code 2 args σ = (pcall 2 (args.map (snap σ))).map (·, σ) := acall_pure c_exec_Run rfl args σ
theorem c_blaw20_num : code.fns 3 = .fn P.f_blaw20_num := rfl
@[simp] theorem a_blaw20_num (args : List AVal) (σ : Store) : acall code 3 args σ = (pcall 3 (args.map (snap σ))).map (·, σ) := acall_pure c_blaw20_num rfl args σ
theorem c_bref10_Made : code.fns 5 = .fn P.f_bref10_Made := rfl
@[simp] theorem a_bref10_Made (args : List AVal) (σ : Store) : acall code 5 args σ = (pcall 5 (args.map (snap σ))).map (·, σ) := acall_pure c_bref10_Made rfl args σ
theorem c_blaw20_wakes : code.fns 6 = .fn P.f_blaw20_wakes := rfl
@[simp] theorem a_blaw20_wakes (args : List AVal) (σ : Store) : acall code 6 args σ = (pcall 6 (args.map (snap σ))).map (·, σ) := acall_pure c_blaw20_wakes rfl args σ
theorem c_blaw20_alike : code.fns 7 = .fn P.f_blaw20_alike := rfl
@[simp] theorem a_blaw20_alike (args : List AVal) (σ : Store) : acall code 7 args σ = (pcall 7 (args.map (snap σ))).map (·, σ) := acall_pure c_blaw20_alike rfl args σ
theorem c_denote_Sort : code.fns 8 = .fn P.f_denote_Sort := rfl
@[simp] theorem a_denote_Sort (args : List AVal) (σ : Store) : acall code 8 args σ = (pcall 8 (args.map (snap σ))).map (·, σ) := acall_pure c_denote_Sort rfl args σ
theorem c_blaw20_split : code.fns 9 = .fn P.f_blaw20_split := rfl
theorem c_blaw20_cut_api_Ord : code.fns 10 = .fn P.f_blaw20_cut_api_Ord := rfl
@[simp] theorem a_blaw20_cut_api_Ord (args : List AVal) (σ : Store) : acall code 10 args σ = (pcall 10 (args.map (snap σ))).map (·, σ) := acall_pure c_blaw20_cut_api_Ord rfl args σ
theorem c_blaw20_rows : code.fns 11 = .fn P.f_blaw20_rows := rfl
@[simp] theorem a_blaw20_rows (args : List AVal) (σ : Store) : acall code 11 args σ = (pcall 11 (args.map (snap σ))).map (·, σ) := acall_pure c_blaw20_rows rfl args σ
theorem c_bref05_Same : code.fns 12 = .fn P.f_bref05_Same := rfl
@[simp] theorem a_bref05_Same (args : List AVal) (σ : Store) : acall code 12 args σ = (pcall 12 (args.map (snap σ))).map (·, σ) := acall_pure c_bref05_Same rfl args σ
theorem c_exec_Partial : code.fns 17 = .fn P.f_exec_Partial := rfl
@[simp] theorem a_exec_Partial (args : List AVal) (σ : Store) : acall code 17 args σ = (pcall 17 (args.map (snap σ))).map (·, σ) := acall_pure c_exec_Partial rfl args σ
theorem c_denote_Aggregate : code.fns 19 = .fn P.f_denote_Aggregate := rfl
@[simp] theorem a_denote_Aggregate (args : List AVal) (σ : Store) : acall code 19 args σ = (pcall 19 (args.map (snap σ))).map (·, σ) := acall_pure c_denote_Aggregate rfl args σ
theorem c_row_Groups : code.fns 20 = .fn P.f_row_Groups := rfl
@[simp] theorem a_row_Groups (args : List AVal) (σ : Store) : acall code 20 args σ = (pcall 20 (args.map (snap σ))).map (·, σ) := acall_pure c_row_Groups rfl args σ
theorem c_row_Sorted : code.fns 29 = .fn P.f_row_Sorted := rfl
@[simp] theorem a_row_Sorted (args : List AVal) (σ : Store) : acall code 29 args σ = (pcall 29 (args.map (snap σ))).map (·, σ) := acall_pure c_row_Sorted rfl args σ
theorem c_bref02_Int : code.fns 34 = .fn P.f_bref02_Int := rfl
@[simp] theorem a_bref02_Int (args : List AVal) (σ : Store) : acall code 34 args σ = (pcall 34 (args.map (snap σ))).map (·, σ) := acall_pure c_bref02_Int rfl args σ
theorem c_exec_does : code.fns 35 = .fn P.f_exec_does := rfl
@[simp] theorem a_exec_does (args : List AVal) (σ : Store) : acall code 35 args σ = (pcall 35 (args.map (snap σ))).map (·, σ) := acall_pure c_exec_does rfl args σ
theorem c_exec_run_handed : code.fns 36 = .fn P.f_exec_run_handed := rfl
theorem c_prop_Kinds : code.fns 37 = .fn P.f_prop_Kinds := rfl
@[simp] theorem a_prop_Kinds (args : List AVal) (σ : Store) : acall code 37 args σ = (pcall 37 (args.map (snap σ))).map (·, σ) := acall_pure c_prop_Kinds rfl args σ
theorem c_blaw20_cut_api_Value : code.fns 38 = .fn P.f_blaw20_cut_api_Value := rfl
@[simp] theorem a_blaw20_cut_api_Value (args : List AVal) (σ : Store) : acall code 38 args σ = (pcall 38 (args.map (snap σ))).map (·, σ) := acall_pure c_blaw20_cut_api_Value rfl args σ
theorem c_blaw20_cut_api_Row : code.fns 39 = .fn P.f_blaw20_cut_api_Row := rfl
theorem c_denote_sorted : code.fns 40 = .fn P.f_denote_sorted := rfl
@[simp] theorem a_denote_sorted (args : List AVal) (σ : Store) : acall code 40 args σ = (pcall 40 (args.map (snap σ))).map (·, σ) := acall_pure c_denote_sorted rfl args σ
theorem c_denote_right : code.fns 41 = .fn P.f_denote_right := rfl
@[simp] theorem a_denote_right (args : List AVal) (σ : Store) : acall code 41 args σ = (pcall 41 (args.map (snap σ))).map (·, σ) := acall_pure c_denote_right rfl args σ
theorem c_slices_ContainsFunc_api_Row_api_Row : code.fns 42 = .fn P.f_slices_ContainsFunc_api_Row_api_Row := rfl
@[simp] theorem a_slices_ContainsFunc_api_Row_api_Row (args : List AVal) (σ : Store) : acall code 42 args σ = (pcall 42 (args.map (snap σ))).map (·, σ) := acall_pure c_slices_ContainsFunc_api_Row_api_Row rfl args σ
theorem c_denote_Sort_1 : code.fns 43 = .fn P.f_denote_Sort_1 := rfl
@[simp] theorem a_denote_Sort_1 (args : List AVal) (σ : Store) : acall code 43 args σ = (pcall 43 (args.map (snap σ))).map (·, σ) := acall_pure c_denote_Sort_1 rfl args σ
theorem c_row_Same : code.fns 44 = .fn P.f_row_Same := rfl
@[simp] theorem a_row_Same (args : List AVal) (σ : Store) : acall code 44 args σ = (pcall 44 (args.map (snap σ))).map (·, σ) := acall_pure c_row_Same rfl args σ
theorem c_exec_partial : code.fns 50 = .fn P.f_exec_partial := rfl
@[simp] theorem a_exec_partial (args : List AVal) (σ : Store) : acall code 50 args σ = (pcall 50 (args.map (snap σ))).map (·, σ) := acall_pure c_exec_partial rfl args σ
theorem c_exec_asked : code.fns 51 = .fn P.f_exec_asked := rfl
@[simp] theorem a_exec_asked (args : List AVal) (σ : Store) : acall code 51 args σ = (pcall 51 (args.map (snap σ))).map (·, σ) := acall_pure c_exec_asked rfl args σ
theorem c_exec_final : code.fns 52 = .fn P.f_exec_final := rfl
@[simp] theorem a_exec_final (args : List AVal) (σ : Store) : acall code 52 args σ = (pcall 52 (args.map (snap σ))).map (·, σ) := acall_pure c_exec_final rfl args σ
theorem c_bref05_Compare : code.fns 60 = .fn P.f_bref05_Compare := rfl
@[simp] theorem a_bref05_Compare (args : List AVal) (σ : Store) : acall code 60 args σ = (pcall 60 (args.map (snap σ))).map (·, σ) := acall_pure c_bref05_Compare rfl args σ
theorem c_row_take : code.fns 61 = .fn P.f_row_take := rfl
@[simp] theorem a_row_take (args : List AVal) (σ : Store) : acall code 61 args σ = (pcall 61 (args.map (snap σ))).map (·, σ) := acall_pure c_row_take rfl args σ
theorem c_slices_Clone_api_Row_api_Row : code.fns 62 = .nilfn P.f_slices_Clone_api_Row_api_Row := rfl
theorem c_row_runs : code.fns 64 = .fn P.f_row_runs := rfl
theorem c_row_Groups_2 : code.fns 65 = .fn P.f_row_Groups_2 := rfl
@[simp] theorem a_row_Groups_2 (args : List AVal) (σ : Store) : acall code 65 args σ = (pcall 65 (args.map (snap σ))).map (·, σ) := acall_pure c_row_Groups_2 rfl args σ
theorem c_row_Groups_1 : code.fns 66 = .fn P.f_row_Groups_1 := rfl
@[simp] theorem a_row_Groups_1 (args : List AVal) (σ : Store) : acall code 66 args σ = (pcall 66 (args.map (snap σ))).map (·, σ) := acall_pure c_row_Groups_1 rfl args σ
theorem c_row_copies : code.fns 68 = .fn P.f_row_copies := rfl
@[simp] theorem a_row_copies (args : List AVal) (σ : Store) : acall code 68 args σ = (pcall 68 (args.map (snap σ))).map (·, σ) := acall_pure c_row_copies rfl args σ
theorem c_row_asked : code.fns 69 = .fn P.f_row_asked := rfl
@[simp] theorem a_row_asked (args : List AVal) (σ : Store) : acall code 69 args σ = (pcall 69 (args.map (snap σ))).map (·, σ) := acall_pure c_row_asked rfl args σ
theorem c_denote_aggregate : code.fns 70 = .fn P.f_denote_aggregate := rfl
@[simp] theorem a_denote_aggregate (args : List AVal) (σ : Store) : acall code 70 args σ = (pcall 70 (args.map (snap σ))).map (·, σ) := acall_pure c_denote_aggregate rfl args σ
theorem c_expr_Check : code.fns 71 = .fn P.f_expr_Check := rfl
@[simp] theorem a_expr_Check (args : List AVal) (σ : Store) : acall code 71 args σ = (pcall 71 (args.map (snap σ))).map (·, σ) := acall_pure c_expr_Check rfl args σ
theorem c_exec_fit : code.fns 75 = .fn P.f_exec_fit := rfl
@[simp] theorem a_exec_fit (args : List AVal) (σ : Store) : acall code 75 args σ = (pcall 75 (args.map (snap σ))).map (·, σ) := acall_pure c_exec_fit rfl args σ
theorem c_slices_ContainsFunc_int_int : code.fns 77 = .fn P.f_slices_ContainsFunc_int_int := rfl
@[simp] theorem a_slices_ContainsFunc_int_int (args : List AVal) (σ : Store) : acall code 77 args σ = (pcall 77 (args.map (snap σ))).map (·, σ) := acall_pure c_slices_ContainsFunc_int_int rfl args σ
theorem c_slices_Concat_api_Row_api_Row : code.fns 78 = .fn P.f_slices_Concat_api_Row_api_Row := rfl
@[simp] theorem a_slices_Concat_api_Row_api_Row (args : List AVal) (σ : Store) : acall code 78 args σ = (pcall 78 (args.map (snap σ))).map (·, σ) := acall_pure c_slices_Concat_api_Row_api_Row rfl args σ
theorem c_row_lists : code.fns 79 = .fn P.f_row_lists := rfl
@[simp] theorem a_row_lists (args : List AVal) (σ : Store) : acall code 79 args σ = (pcall 79 (args.map (snap σ))).map (·, σ) := acall_pure c_row_lists rfl args σ
theorem c_row_sorted : code.fns 80 = .fn P.f_row_sorted := rfl
@[simp] theorem a_row_sorted (args : List AVal) (σ : Store) : acall code 80 args σ = (pcall 80 (args.map (snap σ))).map (·, σ) := acall_pure c_row_sorted rfl args σ
theorem c_slices_Clone_int_int : code.fns 95 = .nilfn P.f_slices_Clone_int_int := rfl
theorem c_prop_laid_takes : code.fns 96 = .fn P.f_prop_laid_takes := rfl
theorem c_prop_asks : code.fns 97 = .fn P.f_prop_asks := rfl
@[simp] theorem a_prop_asks (args : List AVal) (σ : Store) : acall code 97 args σ = (pcall 97 (args.map (snap σ))).map (·, σ) := acall_pure c_prop_asks rfl args σ
theorem c_exec_run_given : code.fns 98 = .fn P.f_exec_run_given := rfl
@[simp] theorem a_exec_run_given (args : List AVal) (σ : Store) : acall code 98 args σ = (pcall 98 (args.map (snap σ))).map (·, σ) := acall_pure c_exec_run_given rfl args σ
theorem c_exec_run_join : code.fns 99 = .fn P.f_exec_run_join := rfl
@[simp] theorem a_exec_run_join (args : List AVal) (σ : Store) : acall code 99 args σ = (pcall 99 (args.map (snap σ))).map (·, σ) := acall_pure c_exec_run_join rfl args σ
theorem c_exec_run_filter : code.fns 100 = .fn P.f_exec_run_filter := rfl
@[simp] theorem a_exec_run_filter (args : List AVal) (σ : Store) : acall code 100 args σ = (pcall 100 (args.map (snap σ))).map (·, σ) := acall_pure c_exec_run_filter rfl args σ
theorem c_exec_run_project : code.fns 101 = .fn P.f_exec_run_project := rfl
@[simp] theorem a_exec_run_project (args : List AVal) (σ : Store) : acall code 101 args σ = (pcall 101 (args.map (snap σ))).map (·, σ) := acall_pure c_exec_run_project rfl args σ
theorem c_exec_run_group : code.fns 102 = .fn P.f_exec_run_group := rfl
@[simp] theorem a_exec_run_group (args : List AVal) (σ : Store) : acall code 102 args σ = (pcall 102 (args.map (snap σ))).map (·, σ) := acall_pure c_exec_run_group rfl args σ
theorem c_exec_run_partial : code.fns 103 = .fn P.f_exec_run_partial := rfl
@[simp] theorem a_exec_run_partial (args : List AVal) (σ : Store) : acall code 103 args σ = (pcall 103 (args.map (snap σ))).map (·, σ) := acall_pure c_exec_run_partial rfl args σ
theorem c_exec_run_final : code.fns 104 = .fn P.f_exec_run_final := rfl
@[simp] theorem a_exec_run_final (args : List AVal) (σ : Store) : acall code 104 args σ = (pcall 104 (args.map (snap σ))).map (·, σ) := acall_pure c_exec_run_final rfl args σ
theorem c_exec_run_distinct : code.fns 105 = .fn P.f_exec_run_distinct := rfl
@[simp] theorem a_exec_run_distinct (args : List AVal) (σ : Store) : acall code 105 args σ = (pcall 105 (args.map (snap σ))).map (·, σ) := acall_pure c_exec_run_distinct rfl args σ
theorem c_exec_run_union : code.fns 106 = .fn P.f_exec_run_union := rfl
@[simp] theorem a_exec_run_union (args : List AVal) (σ : Store) : acall code 106 args σ = (pcall 106 (args.map (snap σ))).map (·, σ) := acall_pure c_exec_run_union rfl args σ
theorem c_exec_run_sort : code.fns 107 = .fn P.f_exec_run_sort := rfl
@[simp] theorem a_exec_run_sort (args : List AVal) (σ : Store) : acall code 107 args σ = (pcall 107 (args.map (snap σ))).map (·, σ) := acall_pure c_exec_run_sort rfl args σ
theorem c_denote_has : code.fns 108 = .fn P.f_denote_has := rfl
@[simp] theorem a_denote_has (args : List AVal) (σ : Store) : acall code 108 args σ = (pcall 108 (args.map (snap σ))).map (·, σ) := acall_pure c_denote_has rfl args σ
theorem c_denote_has_1 : code.fns 109 = .fn P.f_denote_has_1 := rfl
@[simp] theorem a_denote_has_1 (args : List AVal) (σ : Store) : acall code 109 args σ = (pcall 109 (args.map (snap σ))).map (·, σ) := acall_pure c_denote_has_1 rfl args σ
theorem c_slices_ContainsFunc_api_Ord_api_Ord : code.fns 110 = .fn P.f_slices_ContainsFunc_api_Ord_api_Ord := rfl
@[simp] theorem a_slices_ContainsFunc_api_Ord_api_Ord (args : List AVal) (σ : Store) : acall code 110 args σ = (pcall 110 (args.map (snap σ))).map (·, σ) := acall_pure c_slices_ContainsFunc_api_Ord_api_Ord rfl args σ
theorem c_denote_right_1 : code.fns 111 = .fn P.f_denote_right_1 := rfl
@[simp] theorem a_denote_right_1 (args : List AVal) (σ : Store) : acall code 111 args σ = (pcall 111 (args.map (snap σ))).map (·, σ) := acall_pure c_denote_right_1 rfl args σ
theorem c_slices_IndexFunc_api_Row_api_Row : code.fns 112 = .fn P.f_slices_IndexFunc_api_Row_api_Row := rfl
@[simp] theorem a_slices_IndexFunc_api_Row_api_Row (args : List AVal) (σ : Store) : acall code 112 args σ = (pcall 112 (args.map (snap σ))).map (·, σ) := acall_pure c_slices_IndexFunc_api_Row_api_Row rfl args σ
theorem c_denote_by : code.fns 113 = .fn P.f_denote_by := rfl
@[simp] theorem a_denote_by (args : List AVal) (σ : Store) : acall code 113 args σ = (pcall 113 (args.map (snap σ))).map (·, σ) := acall_pure c_denote_by rfl args σ
theorem c_slices_Clone_api_Row_api_Value : code.fns 114 = .nilfn P.f_slices_Clone_api_Row_api_Value := rfl
theorem c_slices_EqualFunc_api_Row_api_Row_api_Row_api_Row : code.fns 115 = .fn P.f_slices_EqualFunc_api_Row_api_Row_api_Row_api_Row := rfl
@[simp] theorem a_slices_EqualFunc_api_Row_api_Row_api_Row_api_Row (args : List AVal) (σ : Store) : acall code 115 args σ = (pcall 115 (args.map (snap σ))).map (·, σ) := acall_pure c_slices_EqualFunc_api_Row_api_Row_api_Row_api_Row rfl args σ
theorem c_row_equal : code.fns 116 = .fn P.f_row_equal := rfl
@[simp] theorem a_row_equal (args : List AVal) (σ : Store) : acall code 116 args σ = (pcall 116 (args.map (snap σ))).map (·, σ) := acall_pure c_row_equal rfl args σ
theorem c_exec_asked_1 : code.fns 118 = .fn P.f_exec_asked_1 := rfl
@[simp] theorem a_exec_asked_1 (args : List AVal) (σ : Store) : acall code 118 args σ = (pcall 118 (args.map (snap σ))).map (·, σ) := acall_pure c_exec_asked_1 rfl args σ
theorem c_exec_grouped : code.fns 119 = .fn P.f_exec_grouped := rfl
@[simp] theorem a_exec_grouped (args : List AVal) (σ : Store) : acall code 119 args σ = (pcall 119 (args.map (snap σ))).map (·, σ) := acall_pure c_exec_grouped rfl args σ
theorem c_exec_partial_1 : code.fns 120 = .fn P.f_exec_partial_1 := rfl
@[simp] theorem a_exec_partial_1 (args : List AVal) (σ : Store) : acall code 120 args σ = (pcall 120 (args.map (snap σ))).map (·, σ) := acall_pure c_exec_partial_1 rfl args σ
theorem c_exec_final_1 : code.fns 121 = .fn P.f_exec_final_1 := rfl
@[simp] theorem a_exec_final_1 (args : List AVal) (σ : Store) : acall code 121 args σ = (pcall 121 (args.map (snap σ))).map (·, σ) := acall_pure c_exec_final_1 rfl args σ
theorem c_bref05_Value : code.fns 136 = .fn P.f_bref05_Value := rfl
@[simp] theorem a_bref05_Value (args : List AVal) (σ : Store) : acall code 136 args σ = (pcall 136 (args.map (snap σ))).map (·, σ) := acall_pure c_bref05_Value rfl args σ
theorem c_bref05_sign : code.fns 137 = .fn P.f_bref05_sign := rfl
@[simp] theorem a_bref05_sign (args : List AVal) (σ : Store) : acall code 137 args σ = (pcall 137 (args.map (snap σ))).map (·, σ) := acall_pure c_bref05_sign rfl args σ
theorem c_row_has : code.fns 138 = .fn P.f_row_has := rfl
@[simp] theorem a_row_has (args : List AVal) (σ : Store) : acall code 138 args σ = (pcall 138 (args.map (snap σ))).map (·, σ) := acall_pure c_row_has rfl args σ
theorem c_row_asked_1 : code.fns 139 = .fn P.f_row_asked_1 := rfl
@[simp] theorem a_row_asked_1 (args : List AVal) (σ : Store) : acall code 139 args σ = (pcall 139 (args.map (snap σ))).map (·, σ) := acall_pure c_row_asked_1 rfl args σ
theorem c_row_order : code.fns 140 = .fn P.f_row_order := rfl
@[simp] theorem a_row_order (args : List AVal) (σ : Store) : acall code 140 args σ = (pcall 140 (args.map (snap σ))).map (·, σ) := acall_pure c_row_order rfl args σ
theorem c_cmp_Or_int : code.fns 141 = .fn P.f_cmp_Or_int := rfl
@[simp] theorem a_cmp_Or_int (args : List AVal) (σ : Store) : acall code 141 args σ = (pcall 141 (args.map (snap σ))).map (·, σ) := acall_pure c_cmp_Or_int rfl args σ
theorem c_slices_CompareFunc_api_Row_api_Row_api_Value_api_Value : code.fns 142 = .fn P.f_slices_CompareFunc_api_Row_api_Row_api_Value_api_Value := rfl
@[simp] theorem a_slices_CompareFunc_api_Row_api_Row_api_Value_api_Value (args : List AVal) (σ : Store) : acall code 142 args σ = (pcall 142 (args.map (snap σ))).map (·, σ) := acall_pure c_slices_CompareFunc_api_Row_api_Row_api_Value_api_Value rfl args σ
theorem c_row_values : code.fns 143 = .fn P.f_row_values := rfl
@[simp] theorem a_row_values (args : List AVal) (σ : Store) : acall code 143 args σ = (pcall 143 (args.map (snap σ))).map (·, σ) := acall_pure c_row_values rfl args σ
theorem c_slices_Equal_api_Row_api_Value : code.fns 144 = .fn P.f_slices_Equal_api_Row_api_Value := rfl
@[simp] theorem a_slices_Equal_api_Row_api_Value (args : List AVal) (σ : Store) : acall code 144 args σ = (pcall 144 (args.map (snap σ))).map (·, σ) := acall_pure c_slices_Equal_api_Row_api_Value rfl args σ
theorem c_row_runs_1 : code.fns 145 = .fn P.f_row_runs_1 := rfl
theorem c_expr_firsts : code.fns 146 = .fn P.f_expr_firsts := rfl
@[simp] theorem a_expr_firsts (args : List AVal) (σ : Store) : acall code 146 args σ = (pcall 146 (args.map (snap σ))).map (·, σ) := acall_pure c_expr_firsts rfl args σ
theorem c_slices_MaxFunc_api_Value_api_Value : code.fns 147 = .fn P.f_slices_MaxFunc_api_Value_api_Value := rfl
@[simp] theorem a_slices_MaxFunc_api_Value_api_Value (args : List AVal) (σ : Store) : acall code 147 args σ = (pcall 147 (args.map (snap σ))).map (·, σ) := acall_pure c_slices_MaxFunc_api_Value_api_Value rfl args σ
theorem c_denote_values : code.fns 148 = .fn P.f_denote_values := rfl
@[simp] theorem a_denote_values (args : List AVal) (σ : Store) : acall code 148 args σ = (pcall 148 (args.map (snap σ))).map (·, σ) := acall_pure c_denote_values rfl args σ
theorem c_value_Int : code.fns 149 = .fn P.f_value_Int := rfl
@[simp] theorem a_value_Int (args : List AVal) (σ : Store) : acall code 149 args σ = (pcall 149 (args.map (snap σ))).map (·, σ) := acall_pure c_value_Int rfl args σ
theorem c_arith_All : code.fns 150 = .fn P.f_arith_All := rfl
@[simp] theorem a_arith_All (args : List AVal) (σ : Store) : acall code 150 args σ = (pcall 150 (args.map (snap σ))).map (·, σ) := acall_pure c_arith_All rfl args σ
theorem c_slices_MinFunc_api_Value_api_Value : code.fns 151 = .fn P.f_slices_MinFunc_api_Value_api_Value := rfl
@[simp] theorem a_slices_MinFunc_api_Value_api_Value (args : List AVal) (σ : Store) : acall code 151 args σ = (pcall 151 (args.map (snap σ))).map (·, σ) := acall_pure c_slices_MinFunc_api_Value_api_Value rfl args σ
theorem c_slices_ContainsFunc_api_Value_api_Value : code.fns 152 = .fn P.f_slices_ContainsFunc_api_Value_api_Value := rfl
@[simp] theorem a_slices_ContainsFunc_api_Value_api_Value (args : List AVal) (σ : Store) : acall code 152 args σ = (pcall 152 (args.map (snap σ))).map (·, σ) := acall_pure c_slices_ContainsFunc_api_Value_api_Value rfl args σ
theorem c_denote_aggregate_1 : code.fns 153 = .fn P.f_denote_aggregate_1 := rfl
@[simp] theorem a_denote_aggregate_1 (args : List AVal) (σ : Store) : acall code 153 args σ = (pcall 153 (args.map (snap σ))).map (·, σ) := acall_pure c_denote_aggregate_1 rfl args σ
theorem c_denote_args : code.fns 154 = .fn P.f_denote_args := rfl
@[simp] theorem a_denote_args (args : List AVal) (σ : Store) : acall code 154 args σ = (pcall 154 (args.map (snap σ))).map (·, σ) := acall_pure c_denote_args rfl args σ
theorem c_slices_IndexFunc_int_int : code.fns 160 = .fn P.f_slices_IndexFunc_int_int := rfl
@[simp] theorem a_slices_IndexFunc_int_int (args : List AVal) (σ : Store) : acall code 160 args σ = (pcall 160 (args.map (snap σ))).map (·, σ) := acall_pure c_slices_IndexFunc_int_int rfl args σ
theorem c_exec_fit_1 : code.fns 161 = .fn P.f_exec_fit_1 := rfl
@[simp] theorem a_exec_fit_1 (args : List AVal) (σ : Store) : acall code 161 args σ = (pcall 161 (args.map (snap σ))).map (·, σ) := acall_pure c_exec_fit_1 rfl args σ
theorem c_row_right : code.fns 163 = .fn P.f_row_right := rfl
@[simp] theorem a_row_right (args : List AVal) (σ : Store) : acall code 163 args σ = (pcall 163 (args.map (snap σ))).map (·, σ) := acall_pure c_row_right rfl args σ
theorem c_slices_Grow_api_Row_api_Row : code.fns 164 = .fn P.f_slices_Grow_api_Row_api_Row := rfl
theorem c_slices_Concat_api_Row_api_Value : code.fns 168 = .fn P.f_slices_Concat_api_Row_api_Value := rfl
@[simp] theorem a_slices_Concat_api_Row_api_Value (args : List AVal) (σ : Store) : acall code 168 args σ = (pcall 168 (args.map (snap σ))).map (·, σ) := acall_pure c_slices_Concat_api_Row_api_Value rfl args σ
theorem c_expr_Eval : code.fns 172 = .fn P.f_expr_Eval := rfl
@[simp] theorem a_expr_Eval (args : List AVal) (σ : Store) : acall code 172 args σ = (pcall 172 (args.map (snap σ))).map (·, σ) := acall_pure c_expr_Eval rfl args σ
theorem c_row_Distinct : code.fns 173 = .fn P.f_row_Distinct := rfl
@[simp] theorem a_row_Distinct (args : List AVal) (σ : Store) : acall code 173 args σ = (pcall 173 (args.map (snap σ))).map (·, σ) := acall_pure c_row_Distinct rfl args σ
theorem c_prop_laid_scan : code.fns 177 = .fn P.f_prop_laid_scan := rfl
theorem c_prop_laid_input : code.fns 178 = .fn P.f_prop_laid_input := rfl
theorem c_prop_laid_join : code.fns 179 = .fn P.f_prop_laid_join := rfl
theorem c_prop_laid_filter : code.fns 180 = .fn P.f_prop_laid_filter := rfl
theorem c_prop_laid_group : code.fns 181 = .fn P.f_prop_laid_group := rfl
theorem c_prop_laid_partial : code.fns 182 = .fn P.f_prop_laid_partial := rfl
theorem c_prop_laid_final : code.fns 183 = .fn P.f_prop_laid_final := rfl
theorem c_prop_laid_project : code.fns 184 = .fn P.f_prop_laid_project := rfl
theorem c_prop_laid_keeps : code.fns 185 = .fn P.f_prop_laid_keeps := rfl
theorem c_prop_laid_union : code.fns 186 = .fn P.f_prop_laid_union := rfl
theorem c_prop_laid_sort : code.fns 187 = .fn P.f_prop_laid_sort := rfl
theorem c_slices_Contains_int_int : code.fns 188 = .fn P.f_slices_Contains_int_int := rfl
@[simp] theorem a_slices_Contains_int_int (args : List AVal) (σ : Store) : acall code 188 args σ = (pcall 188 (args.map (snap σ))).map (·, σ) := acall_pure c_slices_Contains_int_int rfl args σ
theorem c_prop_blank : code.fns 189 = .fn P.f_prop_blank := rfl
@[simp] theorem a_prop_blank (args : List AVal) (σ : Store) : acall code 189 args σ = (pcall 189 (args.map (snap σ))).map (·, σ) := acall_pure c_prop_blank rfl args σ
theorem c_prop_parts : code.fns 190 = .fn P.f_prop_parts := rfl
@[simp] theorem a_prop_parts (args : List AVal) (σ : Store) : acall code 190 args σ = (pcall 190 (args.map (snap σ))).map (·, σ) := acall_pure c_prop_parts rfl args σ
theorem c_exec_sorted : code.fns 191 = .fn P.f_exec_sorted := rfl
@[simp] theorem a_exec_sorted (args : List AVal) (σ : Store) : acall code 191 args σ = (pcall 191 (args.map (snap σ))).map (·, σ) := acall_pure c_exec_sorted rfl args σ
theorem c_exec_holds : code.fns 192 = .fn P.f_exec_holds := rfl
@[simp] theorem a_exec_holds (args : List AVal) (σ : Store) : acall code 192 args σ = (pcall 192 (args.map (snap σ))).map (·, σ) := acall_pure c_exec_holds rfl args σ
theorem c_exec_pairs : code.fns 194 = .fn P.f_exec_pairs := rfl
theorem c_exec_run_group_1 : code.fns 195 = .fn P.f_exec_run_group_1 := rfl
@[simp] theorem a_exec_run_group_1 (args : List AVal) (σ : Store) : acall code 195 args σ = (pcall 195 (args.map (snap σ))).map (·, σ) := acall_pure c_exec_run_group_1 rfl args σ
theorem c_slices_IndexFunc_api_Ord_api_Ord : code.fns 196 = .fn P.f_slices_IndexFunc_api_Ord_api_Ord := rfl
@[simp] theorem a_slices_IndexFunc_api_Ord_api_Ord (args : List AVal) (σ : Store) : acall code 196 args σ = (pcall 196 (args.map (snap σ))).map (·, σ) := acall_pure c_slices_IndexFunc_api_Ord_api_Ord rfl args σ
theorem c_row_Check : code.fns 197 = .fn P.f_row_Check := rfl
@[simp] theorem a_row_Check (args : List AVal) (σ : Store) : acall code 197 args σ = (pcall 197 (args.map (snap σ))).map (·, σ) := acall_pure c_row_Check rfl args σ
theorem c_denote_by_1 : code.fns 198 = .fn P.f_denote_by_1 := rfl
@[simp] theorem a_denote_by_1 (args : List AVal) (σ : Store) : acall code 198 args σ = (pcall 198 (args.map (snap σ))).map (·, σ) := acall_pure c_denote_by_1 rfl args σ
theorem c_exec_groups : code.fns 200 = .fn P.f_exec_groups := rfl
theorem c_arith_Sum : code.fns 201 = .fn P.f_arith_Sum := rfl
@[simp] theorem a_arith_Sum (args : List AVal) (σ : Store) : acall code 201 args σ = (pcall 201 (args.map (snap σ))).map (·, σ) := acall_pure c_arith_Sum rfl args σ
theorem c_value_Null : code.fns 202 = .fn P.f_value_Null := rfl
@[simp] theorem a_value_Null (args : List AVal) (σ : Store) : acall code 202 args σ = (pcall 202 (args.map (snap σ))).map (·, σ) := acall_pure c_value_Null rfl args σ
theorem c_expr_Eval_1 : code.fns 203 = .fn P.f_expr_Eval_1 := rfl
@[simp] theorem a_expr_Eval_1 (args : List AVal) (σ : Store) : acall code 203 args σ = (pcall 203 (args.map (snap σ))).map (·, σ) := acall_pure c_expr_Eval_1 rfl args σ
theorem c_expr_over_api_Value : code.fns 204 = .fn P.f_expr_over_api_Value := rfl
@[simp] theorem a_expr_over_api_Value (args : List AVal) (σ : Store) : acall code 204 args σ = (pcall 204 (args.map (snap σ))).map (·, σ) := acall_pure c_expr_over_api_Value rfl args σ
theorem c_expr_does : code.fns 205 = .fn P.f_expr_does := rfl
@[simp] theorem a_expr_does (args : List AVal) (σ : Store) : acall code 205 args σ = (pcall 205 (args.map (snap σ))).map (·, σ) := acall_pure c_expr_does rfl args σ
theorem c_value_Plain : code.fns 206 = .fn P.f_value_Plain := rfl
@[simp] theorem a_value_Plain (args : List AVal) (σ : Store) : acall code 206 args σ = (pcall 206 (args.map (snap σ))).map (·, σ) := acall_pure c_value_Plain rfl args σ
theorem c_expr_Cols : code.fns 207 = .fn P.f_expr_Cols := rfl
@[simp] theorem a_expr_Cols (args : List AVal) (σ : Store) : acall code 207 args σ = (pcall 207 (args.map (snap σ))).map (·, σ) := acall_pure c_expr_Cols rfl args σ
theorem c_arith_wide : code.fns 208 = .fn P.f_arith_wide := rfl
@[simp] theorem a_arith_wide (args : List AVal) (σ : Store) : acall code 208 args σ = (pcall 208 (args.map (snap σ))).map (·, σ) := acall_pure c_arith_wide rfl args σ
theorem c_arith_plus : code.fns 209 = .fn P.f_arith_plus := rfl
@[simp] theorem a_arith_plus (args : List AVal) (σ : Store) : acall code 209 args σ = (pcall 209 (args.map (snap σ))).map (·, σ) := acall_pure c_arith_plus rfl args σ
theorem c_arith_are : code.fns 210 = .fn P.f_arith_are := rfl
@[simp] theorem a_arith_are (args : List AVal) (σ : Store) : acall code 210 args σ = (pcall 210 (args.map (snap σ))).map (·, σ) := acall_pure c_arith_are rfl args σ
theorem c_exec_summed : code.fns 211 = .fn P.f_exec_summed := rfl
@[simp] theorem a_exec_summed (args : List AVal) (σ : Store) : acall code 211 args σ = (pcall 211 (args.map (snap σ))).map (·, σ) := acall_pure c_exec_summed rfl args σ
theorem c_arith_Join : code.fns 212 = .fn P.f_arith_Join := rfl
@[simp] theorem a_arith_Join (args : List AVal) (σ : Store) : acall code 212 args σ = (pcall 212 (args.map (snap σ))).map (·, σ) := acall_pure c_arith_Join rfl args σ
theorem c_exec_final_1_1 : code.fns 213 = .fn P.f_exec_final_1_1 := rfl
@[simp] theorem a_exec_final_1_1 (args : List AVal) (σ : Store) : acall code 213 args σ = (pcall 213 (args.map (snap σ))).map (·, σ) := acall_pure c_exec_final_1_1 rfl args σ
theorem c_row_Compare : code.fns 214 = .fn P.f_row_Compare := rfl
@[simp] theorem a_row_Compare (args : List AVal) (σ : Store) : acall code 214 args σ = (pcall 214 (args.map (snap σ))).map (·, σ) := acall_pure c_row_Compare rfl args σ
theorem c_arith_End : code.fns 215 = .fn P.f_arith_End := rfl
@[simp] theorem a_arith_End (args : List AVal) (σ : Store) : acall code 215 args σ = (pcall 215 (args.map (snap σ))).map (·, σ) := acall_pure c_arith_End rfl args σ
theorem c_row_has_1 : code.fns 230 = .fn P.f_row_has_1 := rfl
@[simp] theorem a_row_has_1 (args : List AVal) (σ : Store) : acall code 230 args σ = (pcall 230 (args.map (snap σ))).map (·, σ) := acall_pure c_row_has_1 rfl args σ
theorem c_cmp_Compare_int : code.fns 242 = .fn P.f_cmp_Compare_int := rfl
@[simp] theorem a_cmp_Compare_int (args : List AVal) (σ : Store) : acall code 242 args σ = (pcall 242 (args.map (snap σ))).map (·, σ) := acall_pure c_cmp_Compare_int rfl args σ
theorem c_cmp_Compare_int64 : code.fns 243 = .fn P.f_cmp_Compare_int64 := rfl
@[simp] theorem a_cmp_Compare_int64 (args : List AVal) (σ : Store) : acall code 243 args σ = (pcall 243 (args.map (snap σ))).map (·, σ) := acall_pure c_cmp_Compare_int64 rfl args σ
theorem c_cmp_Compare_uint64 : code.fns 244 = .fn P.f_cmp_Compare_uint64 := rfl
@[simp] theorem a_cmp_Compare_uint64 (args : List AVal) (σ : Store) : acall code 244 args σ = (pcall 244 (args.map (snap σ))).map (·, σ) := acall_pure c_cmp_Compare_uint64 rfl args σ
theorem c_cmp_Compare_string : code.fns 245 = .fn P.f_cmp_Compare_string := rfl
@[simp] theorem a_cmp_Compare_string (args : List AVal) (σ : Store) : acall code 245 args σ = (pcall 245 (args.map (snap σ))).map (·, σ) := acall_pure c_cmp_Compare_string rfl args σ
theorem c_expr_counts : code.fns 246 = .fn P.f_expr_counts := rfl
@[simp] theorem a_expr_counts (args : List AVal) (σ : Store) : acall code 246 args σ = (pcall 246 (args.map (snap σ))).map (·, σ) := acall_pure c_expr_counts rfl args σ
theorem c_expr_parts : code.fns 247 = .fn P.f_expr_parts := rfl
@[simp] theorem a_expr_parts (args : List AVal) (σ : Store) : acall code 247 args σ = (pcall 247 (args.map (snap σ))).map (·, σ) := acall_pure c_expr_parts rfl args σ
theorem c_slices_IndexFunc_api_Value_api_Value : code.fns 248 = .fn P.f_slices_IndexFunc_api_Value_api_Value := rfl
@[simp] theorem a_slices_IndexFunc_api_Value_api_Value (args : List AVal) (σ : Store) : acall code 248 args σ = (pcall 248 (args.map (snap σ))).map (·, σ) := acall_pure c_slices_IndexFunc_api_Value_api_Value rfl args σ
theorem c_slices_EqualFunc_api_Row_int_api_Value_int : code.fns 253 = .fn P.f_slices_EqualFunc_api_Row_int_api_Value_int := rfl
@[simp] theorem a_slices_EqualFunc_api_Row_int_api_Value_int (args : List AVal) (σ : Store) : acall code 253 args σ = (pcall 253 (args.map (snap σ))).map (·, σ) := acall_pure c_slices_EqualFunc_api_Row_int_api_Value_int rfl args σ
theorem c_exec_fit_1_1 : code.fns 254 = .fn P.f_exec_fit_1_1 := rfl
@[simp] theorem a_exec_fit_1_1 (args : List AVal) (σ : Store) : acall code 254 args σ = (pcall 254 (args.map (snap σ))).map (·, σ) := acall_pure c_exec_fit_1_1 rfl args σ
theorem c_value_Check : code.fns 255 = .fn P.f_value_Check := rfl
@[simp] theorem a_value_Check (args : List AVal) (σ : Store) : acall code 255 args σ = (pcall 255 (args.map (snap σ))).map (·, σ) := acall_pure c_value_Check rfl args σ
theorem c_value_blank : code.fns 256 = .fn P.f_value_blank := rfl
@[simp] theorem a_value_blank (args : List AVal) (σ : Store) : acall code 256 args σ = (pcall 256 (args.map (snap σ))).map (·, σ) := acall_pure c_value_blank rfl args σ
theorem c_math_bits_Mul64 : code.fns 257 = .fn P.f_math_bits_Mul64 := rfl
@[simp] theorem a_math_bits_Mul64 (args : List AVal) (σ : Store) : acall code 257 args σ = (pcall 257 (args.map (snap σ))).map (·, σ) := acall_pure c_math_bits_Mul64 rfl args σ
theorem c_slices_ContainsFunc_api_Row_api_Value : code.fns 259 = .fn P.f_slices_ContainsFunc_api_Row_api_Value := rfl
@[simp] theorem a_slices_ContainsFunc_api_Row_api_Value (args : List AVal) (σ : Store) : acall code 259 args σ = (pcall 259 (args.map (snap σ))).map (·, σ) := acall_pure c_slices_ContainsFunc_api_Row_api_Value rfl args σ
theorem c_row_right_1 : code.fns 260 = .fn P.f_row_right_1 := rfl
@[simp] theorem a_row_right_1 (args : List AVal) (σ : Store) : acall code 260 args σ = (pcall 260 (args.map (snap σ))).map (·, σ) := acall_pure c_row_right_1 rfl args σ
theorem c_value_True : code.fns 264 = .fn P.f_value_True := rfl
@[simp] theorem a_value_True (args : List AVal) (σ : Store) : acall code 264 args σ = (pcall 264 (args.map (snap σ))).map (·, σ) := acall_pure c_value_True rfl args σ
theorem c_slices_Grow_api_Row_api_Value : code.fns 265 = .fn P.f_slices_Grow_api_Row_api_Value := rfl
theorem c_slices_CompactFunc_api_Row_api_Row : code.fns 266 = .fn P.f_slices_CompactFunc_api_Row_api_Row := rfl
theorem c_prop_laid_scan_1 : code.fns 272 = .fn P.f_prop_laid_scan_1 := rfl
@[simp] theorem a_prop_laid_scan_1 (args : List AVal) (σ : Store) : acall code 272 args σ = (pcall 272 (args.map (snap σ))).map (·, σ) := acall_pure c_prop_laid_scan_1 rfl args σ
theorem c_prop_laid_input_1 : code.fns 273 = .fn P.f_prop_laid_input_1 := rfl
@[simp] theorem a_prop_laid_input_1 (args : List AVal) (σ : Store) : acall code 273 args σ = (pcall 273 (args.map (snap σ))).map (·, σ) := acall_pure c_prop_laid_input_1 rfl args σ
theorem c_prop_truth : code.fns 274 = .fn P.f_prop_truth := rfl
@[simp] theorem a_prop_truth (args : List AVal) (σ : Store) : acall code 274 args σ = (pcall 274 (args.map (snap σ))).map (·, σ) := acall_pure c_prop_truth rfl args σ
theorem c_slices_Concat_int_int : code.fns 275 = .fn P.f_slices_Concat_int_int := rfl
@[simp] theorem a_slices_Concat_int_int (args : List AVal) (σ : Store) : acall code 275 args σ = (pcall 275 (args.map (snap σ))).map (·, σ) := acall_pure c_slices_Concat_int_int rfl args σ
theorem c_expr_Kind : code.fns 276 = .fn P.f_expr_Kind := rfl
@[simp] theorem a_expr_Kind (args : List AVal) (σ : Store) : acall code 276 args σ = (pcall 276 (args.map (snap σ))).map (·, σ) := acall_pure c_expr_Kind rfl args σ
theorem c_prop_laid_sort_1 : code.fns 277 = .fn P.f_prop_laid_sort_1 := rfl
@[simp] theorem a_prop_laid_sort_1 (args : List AVal) (σ : Store) : acall code 277 args σ = (pcall 277 (args.map (snap σ))).map (·, σ) := acall_pure c_prop_laid_sort_1 rfl args σ
theorem c_slices_Index_int_int : code.fns 278 = .fn P.f_slices_Index_int_int := rfl
@[simp] theorem a_slices_Index_int_int (args : List AVal) (σ : Store) : acall code 278 args σ = (pcall 278 (args.map (snap σ))).map (·, σ) := acall_pure c_slices_Index_int_int rfl args σ
theorem c_exec_pairs_1 : code.fns 279 = .fn P.f_exec_pairs_1 := rfl
theorem c_exec_groups_1 : code.fns 280 = .fn P.f_exec_groups_1 := rfl
theorem c_slices_Compact_int_int : code.fns 281 = .fn P.f_slices_Compact_int_int := rfl
theorem c_expr_first : code.fns 283 = .fn P.f_expr_first := rfl
@[simp] theorem a_expr_first (args : List AVal) (σ : Store) : acall code 283 args σ = (pcall 283 (args.map (snap σ))).map (·, σ) := acall_pure c_expr_first rfl args σ
theorem c_arith_Neg : code.fns 284 = .fn P.f_arith_Neg := rfl
@[simp] theorem a_arith_Neg (args : List AVal) (σ : Store) : acall code 284 args σ = (pcall 284 (args.map (snap σ))).map (·, σ) := acall_pure c_arith_Neg rfl args σ
theorem c_value_Not : code.fns 285 = .fn P.f_value_Not := rfl
@[simp] theorem a_value_Not (args : List AVal) (σ : Store) : acall code 285 args σ = (pcall 285 (args.map (snap σ))).map (·, σ) := acall_pure c_value_Not rfl args σ
theorem c_expr_null : code.fns 286 = .fn P.f_expr_null := rfl
@[simp] theorem a_expr_null (args : List AVal) (σ : Store) : acall code 286 args σ = (pcall 286 (args.map (snap σ))).map (·, σ) := acall_pure c_expr_null rfl args σ
theorem c_arith_Add : code.fns 287 = .fn P.f_arith_Add := rfl
@[simp] theorem a_arith_Add (args : List AVal) (σ : Store) : acall code 287 args σ = (pcall 287 (args.map (snap σ))).map (·, σ) := acall_pure c_arith_Add rfl args σ
theorem c_arith_Sub : code.fns 288 = .fn P.f_arith_Sub := rfl
@[simp] theorem a_arith_Sub (args : List AVal) (σ : Store) : acall code 288 args σ = (pcall 288 (args.map (snap σ))).map (·, σ) := acall_pure c_arith_Sub rfl args σ
theorem c_arith_Mul : code.fns 289 = .fn P.f_arith_Mul := rfl
@[simp] theorem a_arith_Mul (args : List AVal) (σ : Store) : acall code 289 args σ = (pcall 289 (args.map (snap σ))).map (·, σ) := acall_pure c_arith_Mul rfl args σ
theorem c_arith_Div : code.fns 290 = .fn P.f_arith_Div := rfl
@[simp] theorem a_arith_Div (args : List AVal) (σ : Store) : acall code 290 args σ = (pcall 290 (args.map (snap σ))).map (·, σ) := acall_pure c_arith_Div rfl args σ
theorem c_value_Equal : code.fns 291 = .fn P.f_value_Equal := rfl
@[simp] theorem a_value_Equal (args : List AVal) (σ : Store) : acall code 291 args σ = (pcall 291 (args.map (snap σ))).map (·, σ) := acall_pure c_value_Equal rfl args σ
theorem c_expr_not : code.fns 292 = .fn P.f_expr_not := rfl
@[simp] theorem a_expr_not (args : List AVal) (σ : Store) : acall code 292 args σ = (pcall 292 (args.map (snap σ))).map (·, σ) := acall_pure c_expr_not rfl args σ
theorem c_value_Less : code.fns 293 = .fn P.f_value_Less := rfl
@[simp] theorem a_value_Less (args : List AVal) (σ : Store) : acall code 293 args σ = (pcall 293 (args.map (snap σ))).map (·, σ) := acall_pure c_value_Less rfl args σ
theorem c_value_And : code.fns 294 = .fn P.f_value_And := rfl
@[simp] theorem a_value_And (args : List AVal) (σ : Store) : acall code 294 args σ = (pcall 294 (args.map (snap σ))).map (·, σ) := acall_pure c_value_And rfl args σ
theorem c_value_Or : code.fns 295 = .fn P.f_value_Or := rfl
@[simp] theorem a_value_Or (args : List AVal) (σ : Store) : acall code 295 args σ = (pcall 295 (args.map (snap σ))).map (·, σ) := acall_pure c_value_Or rfl args σ
theorem c_expr_turned : code.fns 296 = .fn P.f_expr_turned := rfl
@[simp] theorem a_expr_turned (args : List AVal) (σ : Store) : acall code 296 args σ = (pcall 296 (args.map (snap σ))).map (·, σ) := acall_pure c_expr_turned rfl args σ
theorem c_expr_over_api_Value_1 : code.fns 297 = .fn P.f_expr_over_api_Value_1 := rfl
theorem c_cmp_isNaN_int : code.fns 316 = .fn P.f_cmp_isNaN_int := rfl
@[simp] theorem a_cmp_isNaN_int (args : List AVal) (σ : Store) : acall code 316 args σ = (pcall 316 (args.map (snap σ))).map (·, σ) := acall_pure c_cmp_isNaN_int rfl args σ
theorem c_cmp_isNaN_int64 : code.fns 317 = .fn P.f_cmp_isNaN_int64 := rfl
@[simp] theorem a_cmp_isNaN_int64 (args : List AVal) (σ : Store) : acall code 317 args σ = (pcall 317 (args.map (snap σ))).map (·, σ) := acall_pure c_cmp_isNaN_int64 rfl args σ
theorem c_cmp_isNaN_uint64 : code.fns 318 = .fn P.f_cmp_isNaN_uint64 := rfl
@[simp] theorem a_cmp_isNaN_uint64 (args : List AVal) (σ : Store) : acall code 318 args σ = (pcall 318 (args.map (snap σ))).map (·, σ) := acall_pure c_cmp_isNaN_uint64 rfl args σ
theorem c_cmp_isNaN_string : code.fns 319 = .fn P.f_cmp_isNaN_string := rfl
@[simp] theorem a_cmp_isNaN_string (args : List AVal) (σ : Store) : acall code 319 args σ = (pcall 319 (args.map (snap σ))).map (·, σ) := acall_pure c_cmp_isNaN_string rfl args σ
theorem c_slices_IndexFunc_api_Row_api_Value : code.fns 320 = .fn P.f_slices_IndexFunc_api_Row_api_Value := rfl
@[simp] theorem a_slices_IndexFunc_api_Row_api_Value (args : List AVal) (σ : Store) : acall code 320 args σ = (pcall 320 (args.map (snap σ))).map (·, σ) := acall_pure c_slices_IndexFunc_api_Row_api_Value rfl args σ
theorem c_value_Bool : code.fns 321 = .fn P.f_value_Bool := rfl
@[simp] theorem a_value_Bool (args : List AVal) (σ : Store) : acall code 321 args σ = (pcall 321 (args.map (snap σ))).map (·, σ) := acall_pure c_value_Bool rfl args σ
theorem c_slices_Grow_int_int : code.fns 339 = .fn P.f_slices_Grow_int_int := rfl
theorem c_expr_Kind_1 : code.fns 340 = .fn P.f_expr_Kind_1 := rfl
@[simp] theorem a_expr_Kind_1 (args : List AVal) (σ : Store) : acall code 340 args σ = (pcall 340 (args.map (snap σ))).map (·, σ) := acall_pure c_expr_Kind_1 rfl args σ
theorem c_expr_over_int : code.fns 341 = .fn P.f_expr_over_int := rfl
@[simp] theorem a_expr_over_int (args : List AVal) (σ : Store) : acall code 341 args σ = (pcall 341 (args.map (snap σ))).map (·, σ) := acall_pure c_expr_over_int rfl args σ
theorem c_expr_turned_1 : code.fns 342 = .fn P.f_expr_turned_1 := rfl
@[simp] theorem a_expr_turned_1 (args : List AVal) (σ : Store) : acall code 342 args σ = (pcall 342 (args.map (snap σ))).map (·, σ) := acall_pure c_expr_turned_1 rfl args σ
theorem c_value_held : code.fns 343 = .fn P.f_value_held := rfl
@[simp] theorem a_value_held (args : List AVal) (σ : Store) : acall code 343 args σ = (pcall 343 (args.map (snap σ))).map (·, σ) := acall_pure c_value_held rfl args σ
theorem c_value_Less_1 : code.fns 344 = .fn P.f_value_Less_1 := rfl
@[simp] theorem a_value_Less_1 (args : List AVal) (σ : Store) : acall code 344 args σ = (pcall 344 (args.map (snap σ))).map (·, σ) := acall_pure c_value_Less_1 rfl args σ
theorem c_expr_first_1 : code.fns 345 = .fn P.f_expr_first_1 := rfl
@[simp] theorem a_expr_first_1 (args : List AVal) (σ : Store) : acall code 345 args σ = (pcall 345 (args.map (snap σ))).map (·, σ) := acall_pure c_expr_first_1 rfl args σ
theorem c_value_logic : code.fns 346 = .fn P.f_value_logic := rfl
@[simp] theorem a_value_logic (args : List AVal) (σ : Store) : acall code 346 args σ = (pcall 346 (args.map (snap σ))).map (·, σ) := acall_pure c_value_logic rfl args σ
theorem c_value_Not_1 : code.fns 347 = .fn P.f_value_Not_1 := rfl
@[simp] theorem a_value_Not_1 (args : List AVal) (σ : Store) : acall code 347 args σ = (pcall 347 (args.map (snap σ))).map (·, σ) := acall_pure c_value_Not_1 rfl args σ
theorem c_expr_null_1 : code.fns 348 = .fn P.f_expr_null_1 := rfl
@[simp] theorem a_expr_null_1 (args : List AVal) (σ : Store) : acall code 348 args σ = (pcall 348 (args.map (snap σ))).map (·, σ) := acall_pure c_expr_null_1 rfl args σ
theorem c_arith_do : code.fns 349 = .fn P.f_arith_do := rfl
@[simp] theorem a_arith_do (args : List AVal) (σ : Store) : acall code 349 args σ = (pcall 349 (args.map (snap σ))).map (·, σ) := acall_pure c_arith_do rfl args σ
theorem c_arith_Add_1 : code.fns 350 = .fn P.f_arith_Add_1 := rfl
@[simp] theorem a_arith_Add_1 (args : List AVal) (σ : Store) : acall code 350 args σ = (pcall 350 (args.map (snap σ))).map (·, σ) := acall_pure c_arith_Add_1 rfl args σ
theorem c_arith_Sub_1 : code.fns 351 = .fn P.f_arith_Sub_1 := rfl
@[simp] theorem a_arith_Sub_1 (args : List AVal) (σ : Store) : acall code 351 args σ = (pcall 351 (args.map (snap σ))).map (·, σ) := acall_pure c_arith_Sub_1 rfl args σ
theorem c_arith_Mul_1 : code.fns 352 = .fn P.f_arith_Mul_1 := rfl
@[simp] theorem a_arith_Mul_1 (args : List AVal) (σ : Store) : acall code 352 args σ = (pcall 352 (args.map (snap σ))).map (·, σ) := acall_pure c_arith_Mul_1 rfl args σ
theorem c_arith_Div_1 : code.fns 353 = .fn P.f_arith_Div_1 := rfl
@[simp] theorem a_arith_Div_1 (args : List AVal) (σ : Store) : acall code 353 args σ = (pcall 353 (args.map (snap σ))).map (·, σ) := acall_pure c_arith_Div_1 rfl args σ
theorem c_value_Equal_1 : code.fns 354 = .fn P.f_value_Equal_1 := rfl
@[simp] theorem a_value_Equal_1 (args : List AVal) (σ : Store) : acall code 354 args σ = (pcall 354 (args.map (snap σ))).map (·, σ) := acall_pure c_value_Equal_1 rfl args σ
theorem c_expr_not_1 : code.fns 355 = .fn P.f_expr_not_1 := rfl
@[simp] theorem a_expr_not_1 (args : List AVal) (σ : Store) : acall code 355 args σ = (pcall 355 (args.map (snap σ))).map (·, σ) := acall_pure c_expr_not_1 rfl args σ
theorem c_value_And_1 : code.fns 356 = .fn P.f_value_And_1 := rfl
@[simp] theorem a_value_And_1 (args : List AVal) (σ : Store) : acall code 356 args σ = (pcall 356 (args.map (snap σ))).map (·, σ) := acall_pure c_value_And_1 rfl args σ
theorem c_value_Or_1 : code.fns 357 = .fn P.f_value_Or_1 := rfl
@[simp] theorem a_value_Or_1 (args : List AVal) (σ : Store) : acall code 357 args σ = (pcall 357 (args.map (snap σ))).map (·, σ) := acall_pure c_value_Or_1 rfl args σ
theorem c_slices_Clone_api_Value_api_Value : code.fns 358 = .nilfn P.f_slices_Clone_api_Value_api_Value := rfl
theorem c_expr_over_int_1 : code.fns 374 = .fn P.f_expr_over_int_1 := rfl
theorem c_expr_arithmetic : code.fns 375 = .fn P.f_expr_arithmetic := rfl
@[simp] theorem a_expr_arithmetic (args : List AVal) (σ : Store) : acall code 375 args σ = (pcall 375 (args.map (snap σ))).map (·, σ) := acall_pure c_expr_arithmetic rfl args σ
theorem c_value_Compare : code.fns 386 = .fn P.f_value_Compare := rfl
@[simp] theorem a_value_Compare (args : List AVal) (σ : Store) : acall code 386 args σ = (pcall 386 (args.map (snap σ))).map (·, σ) := acall_pure c_value_Compare rfl args σ
theorem c_value_right : code.fns 387 = .fn P.f_value_right := rfl
@[simp] theorem a_value_right (args : List AVal) (σ : Store) : acall code 387 args σ = (pcall 387 (args.map (snap σ))).map (·, σ) := acall_pure c_value_right rfl args σ
theorem c_value_truth : code.fns 388 = .fn P.f_value_truth := rfl
@[simp] theorem a_value_truth (args : List AVal) (σ : Store) : acall code 388 args σ = (pcall 388 (args.map (snap σ))).map (·, σ) := acall_pure c_value_truth rfl args σ
theorem c_arith_signed : code.fns 389 = .fn P.f_arith_signed := rfl
@[simp] theorem a_arith_signed (args : List AVal) (σ : Store) : acall code 389 args σ = (pcall 389 (args.map (snap σ))).map (·, σ) := acall_pure c_arith_signed rfl args σ
theorem c_arith_size : code.fns 390 = .fn P.f_arith_size := rfl
@[simp] theorem a_arith_size (args : List AVal) (σ : Store) : acall code 390 args σ = (pcall 390 (args.map (snap σ))).map (·, σ) := acall_pure c_arith_size rfl args σ
theorem c_strings_Compare : code.fns 398 = .fn P.f_strings_Compare := rfl
@[simp] theorem a_strings_Compare (args : List AVal) (σ : Store) : acall code 398 args σ = (pcall 398 (args.map (snap σ))).map (·, σ) := acall_pure c_strings_Compare rfl args σ
theorem c_internal_bytealg_CompareString : code.fns 401 = .fn P.f_internal_bytealg_CompareString := rfl
@[simp] theorem a_internal_bytealg_CompareString (args : List AVal) (σ : Store) : acall code 401 args σ = (pcall 401 (args.map (snap σ))).map (·, σ) := acall_pure c_internal_bytealg_CompareString rfl args σ
theorem c_blaw20_ExecTops : code.fns 404 = .fn P.f_blaw20_ExecTops := rfl
@[simp] theorem a_blaw20_ExecTops (args : List AVal) (σ : Store) : acall code 404 args σ = (pcall 404 (args.map (snap σ))).map (·, σ) := acall_pure c_blaw20_ExecTops rfl args σ
theorem c_r_row_Groups_0 : code.fns 63 = .round P.r_row_Groups_0 := rfl
theorem c_slices_SortFunc_api_Row_api_Row : code.fns 67 = .prim 1 := rfl
theorem c_r_exec_run_join_0 : code.fns 193 = .round P.r_exec_run_join_0 := rfl
theorem c_r_exec_grouped_0 : code.fns 199 = .round P.r_exec_grouped_0 := rfl
theorem c_slices_Sort_int_int : code.fns 282 = .prim 2 := rfl
theorem c_math_bits_Add64 : code.fns 298 = .prim 0 := rfl
theorem c_internal_bytealg_abigen_runtime_cmpstring : code.fns 402 = .prim 3 := rfl
end Go.AM

namespace Go.AM
noncomputable def thenRun (b : ACode) (r : Option (Ex × St)) : Option (Ex × St) := r.bind fun r => match r.1 with
  | .nrm => run code b r.2
  | e => some (e, r.2)
noncomputable def thenOps (env : List AVal) (is : List Ins) (ls : List AVal) (q : Option (AVal × Store)) : Option (List AVal × Store) :=
  q.bind fun q => runOps code env is (ls ++ [q.1]) q.2
noncomputable def whenOps (env : List AVal) (i : Ins) (is : List Ins) (ls : List AVal) (σ : Store) (t : Option Bool) : Option (List AVal × Store) :=
  match t with
  | some true => thenOps env is ls (step code env ls σ i.op)
  | some false => runOps code env is (ls ++ [.tup []]) σ
  | none => none
def thenOut (env : List AVal) (os : List (Nat × Opd)) (r : Option (List AVal × Store)) : Option (Ex × St) :=
  r.map fun r => (.nrm, ⟨outs env env r.1 os, r.2⟩)
def thenBlk (id : Nat) (r : Option (Ex × St)) : Option (Ex × St) := r.map fun r => match r.1 with
  | .ext j => if j = id then (.nrm, r.2) else r
  | _ => r
noncomputable def condRun (a b : ACode) (s : St) (c : AVal) : Option (Ex × St) := match c with
  | .bool true => run code a s
  | .bool false => run code b s
  | _ => none
noncomputable def thenLoop (base : Nat) (clr : List Nat) (b : ACode) (r : Option (Ex × St)) : Option (Ex × St) := r.bind fun r => match r.1 with
  | .nrm => rounds code base clr b (roundEnd base clr r.2)
  | e => some (e, r.2)
def thenRng (l : Nat) (env : List AVal) (r : Option (AVal × Store)) : Option (Ex × St) := r.bind fun r => jumped l env r.2
noncomputable def thenLift (env : List AVal) (b : ACode) (r : Option Store) : Option (Ex × St) := r.bind fun σ => run code b ⟨env, σ⟩
noncomputable def thenT (env : List AVal) (is : List Ins) (ls : List AVal) (ss : List Store) (q : Option (AVal × Store)) : Option (List AVal × List Store × Store) :=
  q.bind fun q => runT code env is (ls ++ [q.1]) ss q.2
noncomputable def whenT (env : List AVal) (i : Ins) (is : List Ins) (ls : List AVal) (ss : List Store) (σ : Store) (t : Option Bool) : Option (List AVal × List Store × Store) :=
  match t with
  | some true => thenT env is ls (ss ++ [σ]) (step code env ls σ i.op)
  | some false => runT code env is (ls ++ [.tup []]) (ss ++ [σ]) σ
  | none => none
noncomputable def thenChk (env : List AVal) (os : List (Nat × Opd)) (is : List Ins) (chk : List (Nat × Nat)) (r : Option (List AVal × List Store × Store)) : Option (Ex × St) :=
  r.bind fun r => (runChk code env r.1 is (r.2.1 ++ [r.2.2]) chk).map fun _ => (.nrm, ⟨outs env env r.1 os, r.2.2⟩)
noncomputable def chkNext (env ls : List AVal) (is : List Ins) (ss : List Store) (n : Nat) (τ : Store) (l : List (Nat × Nat)) (q : Option (AVal × Store)) : Option Unit :=
  q.bind fun q => if same q.1 (nth ls n) && sameS q.2 τ then runChk code env ls is ss l else none
noncomputable def chkAt (env ls : List AVal) (is : List Ins) (ss : List Store) (n : Nat) (l : List (Nat × Nat)) (i : Option Ins) (t : Option Store) : Option Unit :=
  match i, t with
  | some i, some τ => chkNext env ls is ss n τ l (step code env (ls.take n) τ i.op)
  | _, _ => none
def thenLeave (m : Mode) (res : List Res) (r : Option (Ex × St)) : Option AVal := r.bind fun r => match r.1 with
  | .ext _ => none
  | _ => (results r.2 res).map fun v => (finish m [] r.2 v).1
@[simp ↓] theorem R_seq (a b : ACode) (s : St) : run code (.seq a b) s = thenRun b (run code a s) := run_seq good a b s
@[simp ↓] theorem R_skip (s : St) : run code .skip s = some (.nrm, s) := run_skip good s
@[simp ↓] theorem R_exit (id : Nat) (s : St) : run code (.exit id) s = some (.ext id, s) := run_exit good id s
@[simp ↓] theorem R_ret (s : St) : run code .ret s = some (.ret, s) := run_ret good s
@[simp ↓] theorem R_reg (is : List Ins) (os : List (Nat × Opd)) (env : List AVal) (σ : Store) : run code (.reg is os) ⟨env, σ⟩ = thenOut env os (runOps code env is [] σ) := run_reg good is os _
@[simp ↓] theorem R_cond (c : Opd) (a b : ACode) (env : List AVal) (σ : Store) : run code (.cond c a b) ⟨env, σ⟩ = condRun a b ⟨env, σ⟩ (c.eval env []) := by
  rw [run_cond good]; rfl
@[simp ↓] theorem R_blk (id : Nat) (b : ACode) (s : St) : run code (.blk id b) s = thenBlk id (run code b s) := run_blk good id b s
@[simp ↓] theorem R_scope (b : ACode) (s : St) : run code (.scope b) s = run code b s := run_scope good b s
@[simp ↓] theorem R_loop (clr : List Nat) (b : ACode) (env : List AVal) (σ : Store) : run code (.loop clr b) ⟨env, σ⟩ = rounds code σ.length clr b ⟨clear env clr, σ⟩ := run_loop good clr b _
@[simp ↓] theorem R_rng (k : Nat) (f : Opd) (site : Nat) (env : List AVal) (σ : Store) : run code (.rng k f site) ⟨env, σ⟩ = if env.length = k then thenRng σ.length env (acallF code (f.eval env []) [.yld σ.length site env] (σ ++ [.pend false none])) else none := run_rng good k f site _
@[simp ↓] theorem R_lift (i off k : Nat) (b : ACode) (env : List AVal) (σ : Store) : run code (.lift i off k b) ⟨env, σ⟩ = thenLift env b (liftV (nth env i) off k σ) := run_lift good i off k b _
@[simp ↓] theorem R_regd (is : List Ins) (os : List (Nat × Opd)) (chk : List (Nat × Nat)) (env : List AVal) (σ : Store) : run code (.regd is os chk) ⟨env, σ⟩ = thenChk env os is chk (runT code env is [] [] σ) := run_regd good is os chk _
@[simp ↓] theorem T_nil (env ls : List AVal) (ss : List Store) (σ : Store) : runT code env [] ls ss σ = some (ls, ss, σ) := runT_nil good env ls ss σ
@[simp ↓] theorem T_i (env ls : List AVal) (ss : List Store) (σ : Store) (o : AOp) (is : List Ins) : runT code env (P.i o :: is) ls ss σ = thenT env is ls (ss ++ [σ]) (step code env ls σ o) := runT_cons good env _ is ls ss σ
@[simp ↓] theorem T_g (env ls : List AVal) (ss : List Store) (σ : Store) (x : Opd) (b : Bool) (o : AOp) (is : List Ins) :
    runT code env (P.g x b o :: is) ls ss σ = whenT env (P.g x b o) is ls ss σ (wanted env ls (some (x, b))) := runT_cons good env _ is ls ss σ
@[simp] theorem whenT_t (env : List AVal) (x : Opd) (b : Bool) (o : AOp) (is : List Ins) (ls : List AVal) (ss : List Store) (σ : Store) :
    whenT env (P.g x b o) is ls ss σ (some true) = thenT env is ls (ss ++ [σ]) (step code env ls σ o) := rfl
@[simp] theorem whenT_f (env : List AVal) (i : Ins) (is : List Ins) (ls : List AVal) (ss : List Store) (σ : Store) :
    whenT env i is ls ss σ (some false) = runT code env is (ls ++ [.tup []]) (ss ++ [σ]) σ := rfl
@[simp] theorem thenT_some (env : List AVal) (is : List Ins) (ls : List AVal) (ss : List Store) (v : AVal) (σ : Store) : thenT env is ls ss (some (v, σ)) = runT code env is (ls ++ [v]) ss σ := rfl
@[simp] theorem thenChk_some (env : List AVal) (os : List (Nat × Opd)) (is : List Ins) (chk : List (Nat × Nat)) (ls : List AVal) (ss : List Store) (σ : Store) :
    thenChk env os is chk (some (ls, ss, σ)) = (runChk code env ls is (ss ++ [σ]) chk).map fun _ => (.nrm, ⟨outs env env ls os, σ⟩) := rfl
@[simp ↓] theorem K_nil (env ls : List AVal) (is : List Ins) (ss : List Store) : runChk code env ls is ss [] = some () := runChk_nil good env ls is ss
@[simp ↓] theorem K_cons (env ls : List AVal) (is : List Ins) (ss : List Store) (n j : Nat) (l : List (Nat × Nat)) : runChk code env ls is ss ((n, j) :: l) = chkAt env ls is ss n l is[n]? ss[j]? := by
  rw [runChk_cons good]
  unfold chkAt chkNext
  cases is[n]? <;> cases ss[j]? <;> rfl
@[simp] theorem chkAt_some (env ls : List AVal) (is : List Ins) (ss : List Store) (n : Nat) (l : List (Nat × Nat)) (o : AOp) (τ : Store) : chkAt env ls is ss n l (some (P.i o)) (some τ) = chkNext env ls is ss n τ l (step code env (ls.take n) τ o) := rfl
@[simp] theorem chkNext_some (env ls : List AVal) (is : List Ins) (ss : List Store) (n : Nat) (τ : Store) (l : List (Nat × Nat)) (v : AVal) (σ : Store) : chkNext env ls is ss n τ l (some (v, σ)) = if same v (nth ls n) && sameS σ τ then runChk code env ls is ss l else none := rfl
@[simp] theorem thenLift_some (env : List AVal) (b : ACode) (σ : Store) : thenLift env b (some σ) = run code b ⟨env, σ⟩ := rfl
@[simp] theorem F_fn (f : Nat) (a c args : List AVal) (σ : Store) : acallF code (.fn f a c) args σ = acall code f (a ++ args ++ c) σ := rfl
attribute [simp] same_refl sameL_refl sameS_refl
@[simp ↓] theorem O_nil (env ls : List AVal) (σ : Store) : runOps code env [] ls σ = some (ls, σ) := runOps_nil good env ls σ
@[simp ↓] theorem O_i (env ls : List AVal) (σ : Store) (o : AOp) (is : List Ins) : runOps code env (P.i o :: is) ls σ = thenOps env is ls (step code env ls σ o) := runOps_cons good env _ is ls σ
@[simp ↓] theorem O_g (env ls : List AVal) (σ : Store) (x : Opd) (b : Bool) (o : AOp) (is : List Ins) :
    runOps code env (P.g x b o :: is) ls σ = whenOps env (P.g x b o) is ls σ (wanted env ls (some (x, b))) := runOps_cons good env _ is ls σ
@[simp] theorem when_t (env : List AVal) (x : Opd) (b : Bool) (o : AOp) (is : List Ins) (ls : List AVal) (σ : Store) :
    whenOps env (P.g x b o) is ls σ (some true) = thenOps env is ls (step code env ls σ o) := rfl
@[simp] theorem when_f (env : List AVal) (i : Ins) (is : List Ins) (ls : List AVal) (σ : Store) :
    whenOps env i is ls σ (some false) = runOps code env is (ls ++ [.tup []]) σ := rfl
@[simp] theorem thenRun_nrm (b : ACode) (s : St) : thenRun b (some (.nrm, s)) = run code b s := rfl
@[simp] theorem thenRun_ext (b : ACode) (s : St) (id : Nat) : thenRun b (some (.ext id, s)) = some (.ext id, s) := rfl
@[simp] theorem thenRun_ret (b : ACode) (s : St) : thenRun b (some (.ret, s)) = some (.ret, s) := rfl
@[simp] theorem thenOps_some (env : List AVal) (is : List Ins) (ls : List AVal) (v : AVal) (σ : Store) : thenOps env is ls (some (v, σ)) = runOps code env is (ls ++ [v]) σ := rfl
@[simp] theorem thenOut_some (env : List AVal) (os : List (Nat × Opd)) (ls : List AVal) (σ : Store) : thenOut env os (some (ls, σ)) = some (.nrm, ⟨outs env env ls os, σ⟩) := rfl
@[simp] theorem thenBlk_nrm (id : Nat) (s : St) : thenBlk id (some (.nrm, s)) = some (.nrm, s) := rfl
@[simp] theorem thenBlk_ret (id : Nat) (s : St) : thenBlk id (some (.ret, s)) = some (.ret, s) := rfl
@[simp] theorem thenBlk_ext (id j : Nat) (s : St) : thenBlk id (some (.ext j, s)) = some (if j = id then (.nrm, s) else (.ext j, s)) := by
  simp [thenBlk]
@[simp] theorem cond_t (a b : ACode) (s : St) : condRun a b s (.bool true) = run code a s := rfl
@[simp] theorem cond_f (a b : ACode) (s : St) : condRun a b s (.bool false) = run code b s := rfl
@[simp] theorem thenLeave_ret (m : Mode) (res : List Res) (s : St) : thenLeave m res (some (.ret, s)) = (results s res).map fun v => (finish m [] s v).1 := rfl
@[simp] theorem thenLeave_nrm (m : Mode) (res : List Res) (s : St) : thenLeave m res (some (.nrm, s)) = (results s res).map fun v => (finish m [] s v).1 := rfl
theorem pcall_eq {f : Nat} {g : AFunc} (h : code.fns f = .fn g) (hm : g.mode.isPure = true) (args : List AVal) :
    pcall f args = thenLeave g.mode g.res (run code g.body ⟨(args.take g.np).map (snap []) ++ List.replicate (g.nenv - g.np) .any, []⟩) := pcall_of h hm args
@[simp ↓] theorem S_call (env ls : List AVal) (σ : Store) (f : Nat) (args : List Opd) (mat : Bool) :
    step code env ls σ (.call f args mat) = (acall code f (args.map (·.eval env ls)) σ).map (mater mat) := step_call good env ls σ f args mat
@[simp ↓] theorem S_callv (env ls : List AVal) (σ : Store) (f : Opd) (args : List Opd) :
    step code env ls σ (.callv f args) = (acallV code (f.eval env ls) (args.map (·.eval env ls)) σ).map (mater false) := step_callv good env ls σ f args
@[simp] theorem V_fn (f : Nat) (a c args : List AVal) (σ : Store) : acallV code (.fn f a c) args σ = acall code f (a ++ args ++ c) σ := rfl
attribute [simp ↓] s_mov s_pick s_box s_build s_mknil s_mkl s_mksl s_mkslz s_make s_load s_store s_fld s_fldv s_idxs s_idxa s_idxv s_idxt s_bin s_eqb s_eqa s_isnil s_una s_conv s_slice s_slicet s_slice0 s_aslice s_len s_lent s_cap s_app s_appz s_nils s_copy s_mins s_maxs s_mkfn s_ext s_nilck s_mkmap s_mput s_look s_mlen s_clr s_bad
attribute [simp] eqCells kindOf nilsV emptyS liftV liftAt eqb eqa isnil neg aslV copyV tlen tslice aslice partV fldV idxsV nilckV convV extV idxtV mapOf mputV clrV pickV capV fresh isSlice sliceAt elemAt arrK entriesAt getPart setPart Opd.eval nth outs clear wanted bin binInt shift una alen asNat rd loadAt storeAt results getRess getRes finish opt sameCells sameCell isNil setAll fill minmax
@[simp] theorem ncells_agg (cs : List AVal) : ncells (.agg cs) = cs.length := rfl
@[simp] theorem ncells_int (k : IntKind) (n : Int) : ncells (.int k n) = 1 := rfl
@[simp] theorem ncells_bool (b : Bool) : ncells (.bool b) = 1 := rfl
@[simp] theorem ncells_str (s : List UInt8) : ncells (.str s) = 1 := rfl
@[simp] theorem ncells_imm (b : Bool) (xs : List AVal) : ncells (.imm b xs) = 1 := rfl
@[simp] theorem ncells_lst (xs : List AVal) : ncells (.lst xs) = 1 := rfl
@[simp] theorem ncells_nil0 : ncells .nil0 = 1 := rfl
@[simp] theorem ncells_nilp : ncells .nilp = 1 := rfl
@[simp] theorem ncells_nilf : ncells .nilf = 1 := rfl
@[simp] theorem ncells_nilm : ncells .nilm = 1 := rfl
@[simp] theorem ncells_sl (a b c d : Nat) : ncells (.sl a b c d) = 1 := rfl
@[simp] theorem ncells_ptr (a b c d : Nat) : ncells (.ptr a b c d) = 1 := rfl
@[simp] theorem ncells_cptr (b : Bool) (x : AVal) (o : Nat) : ncells (.cptr b x o) = 1 := rfl
@[simp] theorem ncells_fn (f : Nat) (a c : List AVal) : ncells (.fn f a c) = 1 := rfl
@[simp] theorem ncells_mp (i : Nat) : ncells (.mp i) = 1 := rfl
@[simp] theorem ncells_imap (b : Bool) (e : List (AVal × AVal)) : ncells (.imap b e) = 1 := rfl
@[simp] theorem isAgg_agg (cs : List AVal) : isAgg (.agg cs) = true := rfl
@[simp] theorem isAgg_int (k : IntKind) (n : Int) : isAgg (.int k n) = false := rfl
@[simp] theorem isAgg_bool (b : Bool) : isAgg (.bool b) = false := rfl
@[simp] theorem isAgg_str (s : List UInt8) : isAgg (.str s) = false := rfl
@[simp] theorem isAgg_imm (b : Bool) (xs : List AVal) : isAgg (.imm b xs) = false := rfl
@[simp] theorem isAgg_lst (xs : List AVal) : isAgg (.lst xs) = false := rfl
@[simp] theorem isAgg_nil0 : isAgg .nil0 = false := rfl
@[simp] theorem isAgg_nilp : isAgg .nilp = false := rfl
@[simp] theorem isAgg_nilf : isAgg .nilf = false := rfl
@[simp] theorem isAgg_nilm : isAgg .nilm = false := rfl
@[simp] theorem isAgg_sl (a b c d : Nat) : isAgg (.sl a b c d) = false := rfl
@[simp] theorem isAgg_ptr (a b c d : Nat) : isAgg (.ptr a b c d) = false := rfl
@[simp] theorem isAgg_cptr (b : Bool) (x : AVal) (o : Nat) : isAgg (.cptr b x o) = false := rfl
@[simp] theorem isAgg_fn (f : Nat) (a c : List AVal) : isAgg (.fn f a c) = false := rfl
@[simp] theorem isAgg_mp (i : Nat) : isAgg (.mp i) = false := rfl
@[simp] theorem isAgg_imap (b : Bool) (e : List (AVal × AVal)) : isAgg (.imap b e) = false := rfl
@[simp] theorem cellsOf_agg (cs : List AVal) : cellsOf (.agg cs) = cs := rfl
@[simp] theorem cellsOf_int (k : IntKind) (n : Int) : cellsOf (.int k n) = [.int k n] := rfl
@[simp] theorem cellsOf_bool (b : Bool) : cellsOf (.bool b) = [.bool b] := rfl
@[simp] theorem cellsOf_str (s : List UInt8) : cellsOf (.str s) = [.str s] := rfl
@[simp] theorem cellsOf_imm (b : Bool) (xs : List AVal) : cellsOf (.imm b xs) = [.imm b xs] := rfl
@[simp] theorem cellsOf_sl (a b c d : Nat) : cellsOf (.sl a b c d) = [.sl a b c d] := rfl
@[simp] theorem cellsOf_nil0 : cellsOf .nil0 = [.nil0] := rfl
@[simp] theorem cellsOf_fn (f : Nat) (a c : List AVal) : cellsOf (.fn f a c) = [.fn f a c] := rfl
@[simp] theorem cellsOf_ptr (a b c d : Nat) : cellsOf (.ptr a b c d) = [.ptr a b c d] := rfl
@[simp] theorem cellsOf_cptr (b : Bool) (x : AVal) (o : Nat) : cellsOf (.cptr b x o) = [.cptr b x o] := rfl
section
variable (fl top : Bool) (base : Nat) (σ : Store) (n : Nat)
@[simp] theorem fz_int (k : IntKind) (m : Int) : fz fl top base σ (n + 1) (.int k m) = .int k m := by simp [fz]
@[simp] theorem fz_bool (b : Bool) : fz fl top base σ (n + 1) (.bool b) = .bool b := by simp [fz]
@[simp] theorem fz_str (s : List UInt8) : fz fl top base σ (n + 1) (.str s) = .str s := by simp [fz]
@[simp] theorem fz_nil0 : fz fl top base σ (n + 1) .nil0 = if !fl && top then .nil0 else .imm false [] := by simp [fz]
@[simp] theorem fz_nilp : fz fl top base σ (n + 1) .nilp = .nilp := by simp [fz]
@[simp] theorem fz_nilf : fz fl top base σ (n + 1) .nilf = .nilf := by simp [fz]
@[simp] theorem fz_nilm : fz fl top base σ (n + 1) .nilm = .nilm := by simp [fz]
@[simp] theorem fz_any : fz fl top base σ (n + 1) .any = .any := by simp [fz]
@[simp] theorem fz_emp (b : Bool) : fz fl top base σ (n + 1) (.emp b) = .emp b := by simp [fz]
@[simp] theorem fz_agg (cs : List AVal) : fz fl top base σ (n + 1) (.agg cs) = .agg (cs.map (fz fl top base σ n)) := by simp [fz]
@[simp] theorem fz_tup (cs : List AVal) : fz fl top base σ (n + 1) (.tup cs) = .tup (cs.map (fz fl top base σ n)) := by simp [fz]
@[simp] theorem fz_lst (cs : List AVal) : fz fl top base σ (n + 1) (.lst cs) = listAt fl cs (cs.map (fz fl false base σ n)) := by simp [fz]
@[simp] theorem fz_fn (f : Nat) (a c : List AVal) : fz fl top base σ (n + 1) (.fn f a c) = .fn f (a.map (fz fl top base σ n)) (c.map (fz fl top base σ n)) := by simp [fz]
@[simp] theorem fz_immf (xs : List AVal) : fz fl top base σ (n + 1) (.imm false xs) = .imm false xs := by simp [fz]
@[simp] theorem fz_immt (b : Bool) (xs : List AVal) : fz true top base σ (n + 1) (.imm b xs) = .imm b xs := by simp [fz]
@[simp] theorem fz_immk (b : Bool) (xs : List AVal) : fz fl true base σ (n + 1) (.imm b xs) = .imm b xs := by simp [fz]
@[simp] theorem fz_cptrf (x : AVal) (o : Nat) : fz fl top base σ (n + 1) (.cptr false x o) = .cptr false x o := by simp [fz]
@[simp] theorem fz_cptrt (x : AVal) (o : Nat) : fz true top base σ (n + 1) (.cptr true x o) = cptrAt true x (fz true false base σ n x) o := by simp [fz]
@[simp] theorem fz_cptrk (x : AVal) (o : Nat) : fz false true base σ (n + 1) (.cptr true x o) = cptrAt true x (fz false true base σ n x) o := by simp [fz]
@[simp] theorem fz_imapf (x : List (AVal × AVal)) : fz fl top base σ (n + 1) (.imap false x) = .imap false x := by simp [fz]
@[simp] theorem fz_imapt (b : Bool) (x : List (AVal × AVal)) : fz true top base σ (n + 1) (.imap b x) = .imap b x := by simp [fz]
@[simp] theorem fz_imapk (b : Bool) (x : List (AVal × AVal)) : fz fl true base σ (n + 1) (.imap b x) = .imap b x := by simp [fz]
@[simp] theorem fz_sl (id ep off len : Nat) : fz fl top base σ (n + 1) (.sl id ep off len) = if id < base then (if top then .sl id ep off len else .any) else (sliceAt σ id ep off len).elim .any fun l => listAt fl l (l.map (fz fl false base σ n)) := by simp only [fz]
@[simp] theorem fz_ptr (id ep i off : Nat) : fz fl top base σ (n + 1) (.ptr id ep i off) = if id < base then (if top then .ptr id ep i off else .any) else (elemAt σ id ep i).elim .any fun x => cptrAt fl x (fz fl false base σ n x) off := by simp only [fz]
@[simp] theorem fz_mp (id : Nat) : fz fl top base σ (n + 1) (.mp id) = if id < base then (if top then .mp id else .any) else (entriesAt σ id).elim .any fun es => .imap fl (es.map fun e => (e.1, fz fl false base σ n e.2)) := by simp only [fz]
end
theorem listAt_ok {fl : Bool} {l l' : List AVal} (h : l'.map ncells = l.map ncells) : listAt fl l l' = .imm fl l' := by unfold listAt; rw [if_pos h]
attribute [simp] listAt cptrAt arrAt frsAt
@[simp] theorem frozen_eq (σ : Store) (v : AVal) : frozen σ v = fz false false 0 σ 20 v := rfl
@[simp] theorem snap_eq (σ : Store) (v : AVal) : snap σ v = fz true false 0 σ 20 v := rfl
@[simp] theorem freeze_eq (b : Nat) (σ : Store) (v : AVal) : freeze b σ v = fz false true b σ 20 v := rfl
@[simp] theorem mater_false_1 (k : IntKind) (n : Int) (σ : Store) : mater false (.int k n, σ) = (.int k n, σ) := rfl
attribute [simp] mater mater1
theorem wrap64_id {n : Int} (h : -9223372036854775808 ≤ n ∧ n < 9223372036854775808) : IntKind.i64.wrap n = n := by
  simp [IntKind.wrap, IntKind.bits, IntKind.signed]; omega
end Go.AM

namespace Go.AM
theorem rounds_iter {base : Nat} {clr : List Nat} {b : ACode} (I : Nat → St) (n : Nat) (r : Ex × St)
    (step : ∀ k, k < n → thenLoop base clr b (run code b (I k)) = rounds code base clr b (I (k + 1))) (last : thenLoop base clr b (run code b (I n)) = some r) :
    rounds code base clr b (I 0) = some r := by
  have key : ∀ m k, k + m = n → rounds code base clr b (I k) = some r := by
    intro m
    induction m with
    | zero =>
      intro k hk
      obtain rfl : k = n := by omega
      rw [rounds_eq good]
      exact last
    | succ m ih =>
      intro k hk
      rw [rounds_eq good]
      exact (step k (by omega)).trans (ih (k + 1) (by omega))
  exact key n 0 (by omega)
@[simp] theorem thenLoop_nrm (base : Nat) (clr : List Nat) (b : ACode) (s : St) : thenLoop base clr b (some (.nrm, s)) = rounds code base clr b (roundEnd base clr s) := rfl
@[simp] theorem thenLoop_ext (base : Nat) (clr : List Nat) (b : ACode) (s : St) (i : Nat) : thenLoop base clr b (some (.ext i, s)) = some (.ext i, s) := rfl
@[simp] theorem thenLoop_ret (base : Nat) (clr : List Nat) (b : ACode) (s : St) : thenLoop base clr b (some (.ret, s)) = some (.ret, s) := rfl
theorem roundEnd_same {base : Nat} {clr : List Nat} {env : List AVal} {σ : Store} (h : σ.length = base) : roundEnd base clr ⟨env, σ⟩ = ⟨clear env clr, σ⟩ := by
  unfold roundEnd
  rw [if_pos h]
theorem wrap_lt {k n : Nat} (h1 : k < n) (h2 : n ≤ most) : IntKind.i64.wrap ((k : Int) + 1) = ((k + 1 : Nat) : Int) := by
  rw [wrap64_id (by unfold most at h2; omega)]
  omega
end Go.AM
section

namespace Go.AM
open P
set_option maxHeartbeats 1000000
theorem IndexFunc_none {b : Bool} {xs : List AVal} {f : AVal} (hn : xs.length ≤ most) (hx : ∀ x ∈ xs, ncells x = 1 ∧ isAgg x = false) (hfs : fz true false 0 [] 20 f = f)
    (hf : ∀ x ∈ xs, acallV code f [x] [] = some (.bool false, [])) : pcall I.slices_IndexFunc_api_Row_api_Row [.imm b xs, f] = some (.int .i64 (-1)) := by
  rw [pcall_eq c_slices_IndexFunc_api_Row_api_Row rfl]
  have hloop := rounds_iter (base := 0) (clr := [2, 3, 6, 7]) (b := l_slices_IndexFunc_api_Row_api_Row_0) (fun k => ⟨[.imm b xs, f, .any, .any, .int .i64 xs.length, .int .i64 k, .any, .any], []⟩) xs.length
    (.ext 0, ⟨[.imm b xs, f, .any, .any, .int .i64 xs.length, .int .i64 xs.length, .bool false, .any], []⟩)
    (fun k hk => by
      have h1 : xs[k]? = some xs[k] := by simp [hk]
      have h2 := hx xs[k] (List.getElem_mem hk)
      have h3 := hf xs[k] (List.getElem_mem hk)
      have hlt : ((k : Int) < (xs.length : Int)) := by omega
      simp [l_slices_IndexFunc_api_Row_api_Row_0, h1, h2, h3, hlt, wrap_lt hk hn, roundEnd_same])
    (by simp [l_slices_IndexFunc_api_Row_api_Row_0])
  simp [f_slices_IndexFunc_api_Row_api_Row, b_slices_IndexFunc_api_Row_api_Row, hfs]
  simp at hloop
  rw [hloop]
  simp
end Go.AM
end

namespace Go.AM
def intV (n : Int) : AVal := .agg [.int .i64 2, .int .i64 n, .int .u64 0, .str []]
theorem acall_of {n f : Nat} {args : List AVal} {σ : Store} {r : AVal × Store} (h : callN code n f args σ = some r) : acall code f args σ = some r := lim_of (callN_mono good f args σ) h
theorem pcall_from {n f : Nat} {args : List AVal} {v : AVal} {σ : Store} (h : callN code n f args [] = some (v, σ)) : pcall f args = some v := by
  unfold pcall
  rw [acall_of h]; rfl
theorem check_int (n : Int) : callN code 40 I.value_Check [intV n] [] = some (.int .i64 0, []) := by kernel_rfl
theorem fit1_f1 (n : Int) : callN code 60 I.exec_fit_1 [.imm false [intV n], .cptr true (.imm false [.int .i64 2]) 0] [] = some (.bool false, []) := by kernel_rfl
theorem fit1_t1 (n : Int) : callN code 60 I.exec_fit_1 [.imm true [intV n], .cptr true (.imm false [.int .i64 2]) 0] [] = some (.bool false, []) := by kernel_rfl
theorem right_f1 (n : Int) : callN code 60 I.row_right [.imm false [intV n]] [] = some (.bool true, []) := by kernel_rfl
theorem right_f2 (n m : Int) : callN code 60 I.row_right [.imm false [intV n, intV m]] [] = some (.bool true, []) := by kernel_rfl
theorem clone_f1 (n : Int) : callN code 60 I.slices_Clone_api_Row_api_Value [.imm false [intV n]] [] = some (.frs 4 [intV n], []) := by kernel_rfl
theorem clone_f2 (n m : Int) : callN code 60 I.slices_Clone_api_Row_api_Value [.imm false [intV n, intV m]] [] = some (.frs 4 [intV n, intV m], []) := by kernel_rfl
end Go.AM
section

namespace Go.AM
open P
set_option maxHeartbeats 2000000
def cmp3 (n m : Int) : Int := if n < m then -1 else if m < n then 1 else 0
theorem nan64 (n : Int) : callN code 10 I.cmp_isNaN_int64 [.int .i64 n] [] = some (.bool false, []) ∨ True := .inr trivial
theorem isNaN64 (n : Int) : pcall I.cmp_isNaN_int64 [.int .i64 n] = some (.bool false) := by
  rw [pcall_eq c_cmp_isNaN_int64 rfl]
  simp [f_cmp_isNaN_int64, b_cmp_isNaN_int64]
theorem Compare64 (n m : Int) : pcall I.cmp_Compare_int64 [.int .i64 n, .int .i64 m] = some (.int .i64 (cmp3 n m)) := by
  rw [pcall_eq c_cmp_Compare_int64 rfl]
  unfold cmp3
  by_cases h1 : n < m
  · simp [f_cmp_Compare_int64, b_cmp_Compare_int64, isNaN64, h1]
  · by_cases h2 : m < n
    · simp [f_cmp_Compare_int64, b_cmp_Compare_int64, isNaN64, h1, h2]
    · simp [f_cmp_Compare_int64, b_cmp_Compare_int64, isNaN64, h1, h2]
theorem Compare_kind : pcall I.cmp_Compare_int [.int .i64 2, .int .i64 2] = some (.int .i64 0) := pcall_from (n := 20) (σ := []) (by kernel_rfl)
theorem Compare_u : pcall I.cmp_Compare_uint64 [.int .u64 0, .int .u64 0] = some (.int .i64 0) := pcall_from (n := 20) (σ := []) (by kernel_rfl)
theorem Compare_s : pcall I.cmp_Compare_string [.str [], .str []] = some (.int .i64 0) := pcall_from (n := 20) (σ := []) (by kernel_rfl)
theorem Or_l : pcall I.cmp_Or_int [.imm true [.int .i64 0, .int .i64 (-1), .int .i64 0, .int .i64 0]] = some (.int .i64 (-1)) := pcall_from (n := 20) (σ := []) (by kernel_rfl)
theorem Or_e : pcall I.cmp_Or_int [.imm true [.int .i64 0, .int .i64 0, .int .i64 0, .int .i64 0]] = some (.int .i64 0) := pcall_from (n := 20) (σ := []) (by kernel_rfl)
theorem Or_g : pcall I.cmp_Or_int [.imm true [.int .i64 0, .int .i64 1, .int .i64 0, .int .i64 0]] = some (.int .i64 1) := pcall_from (n := 20) (σ := []) (by kernel_rfl)
theorem Or_3 (n m : Int) : pcall I.cmp_Or_int [.imm true [.int .i64 0, .int .i64 (cmp3 n m), .int .i64 0, .int .i64 0]] = some (.int .i64 (cmp3 n m)) := by
  unfold cmp3
  split
  · exact Or_l
  · split
    · exact Or_g
    · exact Or_e
theorem values_int (n m : Int) : pcall I.row_values [intV n, intV m] = some (.int .i64 (cmp3 n m)) := by
  rw [pcall_eq c_row_values rfl]
  simp [f_row_values, b_row_values, intV, Compare_kind, Compare64, Compare_u, Compare_s, Or_3]
theorem rounds_go (base : Nat) (clr : List Nat) (b : ACode) (s : St) : rounds code base clr b s = thenLoop base clr b (run code b s) := rounds_eq good base clr b s
theorem cmp3_cases (n m : Int) : (cmp3 n m = -1 ∧ n < m) ∨ (cmp3 n m = 1 ∧ m < n) ∨ (cmp3 n m = 0 ∧ n = m) := by
  unfold cmp3
  split
  · exact .inl ⟨rfl, by assumption⟩
  · split
    · exact .inr (.inl ⟨rfl, by assumption⟩)
    · exact .inr (.inr ⟨rfl, by omega⟩)
theorem CompareFunc1 {b b' : Bool} (n m : Int) : pcall I.slices_CompareFunc_api_Row_api_Row_api_Value_api_Value [.imm b [intV n], .imm b' [intV m], .fn I.row_values [] []] = some (.int .i64 (cmp3 n m)) := by
  rw [pcall_eq c_slices_CompareFunc_api_Row_api_Row_api_Value_api_Value rfl]
  have hv := values_int n m
  unfold intV at *
  rcases cmp3_cases n m with ⟨h, _⟩ | ⟨h, _⟩ | ⟨h, _⟩ <;> rw [h] at hv <;>
    simp [f_slices_CompareFunc_api_Row_api_Row_api_Value_api_Value, b_slices_CompareFunc_api_Row_api_Row_api_Value_api_Value, l_slices_CompareFunc_api_Row_api_Row_api_Value_api_Value_0, rounds_go, roundEnd, hv, h, IntKind.wrap, IntKind.bits, IntKind.signed]
theorem order1 {b b' : Bool} (n m : Int) : pcall I.row_order [.imm b [intV n], .imm b' [intV m]] = some (.int .i64 (cmp3 n m)) := by
  rw [pcall_eq c_row_order rfl]
  have := CompareFunc1 (b := b) (b' := b') n m
  simp [f_row_order, b_row_order, this]
def cmp2 (n k m l : Int) : Int := if cmp3 n m = 0 then cmp3 k l else cmp3 n m
theorem CompareFunc2 {b b' : Bool} (n k m l : Int) : pcall I.slices_CompareFunc_api_Row_api_Row_api_Value_api_Value [.imm b [intV n, intV k], .imm b' [intV m, intV l], .fn I.row_values [] []] = some (.int .i64 (cmp2 n k m l)) := by
  rw [pcall_eq c_slices_CompareFunc_api_Row_api_Row_api_Value_api_Value rfl]
  have hv := values_int n m
  have hw := values_int k l
  unfold intV at *
  unfold cmp2
  rcases cmp3_cases n m with ⟨h, _⟩ | ⟨h, _⟩ | ⟨h, _⟩ <;> rw [h] at hv
  · simp [f_slices_CompareFunc_api_Row_api_Row_api_Value_api_Value, b_slices_CompareFunc_api_Row_api_Row_api_Value_api_Value, l_slices_CompareFunc_api_Row_api_Row_api_Value_api_Value_0, rounds_go, roundEnd, hv, h, IntKind.wrap, IntKind.bits, IntKind.signed]
  · simp [f_slices_CompareFunc_api_Row_api_Row_api_Value_api_Value, b_slices_CompareFunc_api_Row_api_Row_api_Value_api_Value, l_slices_CompareFunc_api_Row_api_Row_api_Value_api_Value_0, rounds_go, roundEnd, hv, h, IntKind.wrap, IntKind.bits, IntKind.signed]
  · rcases cmp3_cases k l with ⟨h', _⟩ | ⟨h', _⟩ | ⟨h', _⟩ <;> rw [h'] at hw <;>
      simp [f_slices_CompareFunc_api_Row_api_Row_api_Value_api_Value, b_slices_CompareFunc_api_Row_api_Row_api_Value_api_Value, l_slices_CompareFunc_api_Row_api_Row_api_Value_api_Value_0, rounds_go, roundEnd, hv, hw, h, h', IntKind.wrap, IntKind.bits, IntKind.signed]
theorem order2 {b b' : Bool} (n k m l : Int) : pcall I.row_order [.imm b [intV n, intV k], .imm b' [intV m, intV l]] = some (.int .i64 (cmp2 n k m l)) := by
  rw [pcall_eq c_row_order rfl]
  have := CompareFunc2 (b := b) (b' := b') n k m l
  simp [f_row_order, b_row_order, this]
end Go.AM
end
section

namespace Go.AM
open P
set_option maxHeartbeats 2000000
set_option maxRecDepth 4000
theorem acallG_pure {g : AFunc} (hm : g.mode.isPure = true) (args : List AVal) (σ : Store) : acallG code g args σ = ((acallG code g (args.map (snap σ)) []).map (·.1)).map (·, σ) := by
  unfold acallG
  have he : enter g args σ = enter g (args.map (snap σ)) [] := by
    have h1 : ((args.map (snap σ)).take g.np).map (snap []) = (args.take g.np).map (snap σ) := by
      rw [← List.map_take, List.map_map]; exact List.map_congr_left fun x _ => snap_idem σ [] x
    unfold enter
    cases hg : g.mode <;> rw [hg] at hm <;> first | exact absurd hm (by decide) | (simp only [h1])
  rw [he]
  cases run code g.body (enter g (args.map (snap σ)) []) with
  | none => rfl
  | some r =>
    obtain ⟨e, s⟩ := r
    have key : (results s g.res).map (fun v => finish g.mode σ s v) = (((results s g.res).map fun v => finish g.mode [] s v).map (·.1)).map (·, σ) := by
      cases results s g.res with
      | none => rfl
      | some v =>
        cases hg : g.mode <;> rw [hg] at hm <;> first | exact absurd hm (by decide) | rfl
    cases e with
    | ext _ => rfl
    | nrm => exact key
    | ret => exact key
theorem acall_nil {f : Nat} {g : AFunc} (h : code.fns f = .nilfn g) (hm : g.mode.isPure = true) (b : Bool) (xs : List AVal) (σ : Store) :
    acall code f [.imm b xs] σ = (pcall f [.imm b xs]).map (·, σ) := by
  unfold pcall
  rw [acall_nilfn good h, acall_nilfn good h]
  have hE : emptyS σ (.imm b xs) = emptyS [] (.imm b xs) := by simp [emptyS, rd]
  rw [hE]
  have hk : ∀ (x : AVal), (∀ τ, snap τ x = x) → acallG code g [x] σ = ((acallG code g [x] []).map (·.1)).map (·, σ) := fun x hx => by
    have := acallG_pure hm [x] σ
    simpa only [List.map_cons, List.map_nil, hx] using this
  have hk0 : ∀ (x : AVal), (∀ τ, snap τ x = x) → acallG code g [x] [] = ((acallG code g [x] []).map (·.1)).map (·, ([] : Store)) := fun x hx => by
    have := acallG_pure hm [x] []
    simpa only [List.map_cons, List.map_nil, hx] using this
  have h1 : ∀ τ, snap τ (.imm b xs) = .imm b xs := fun τ => by simp
  have h2 : ∀ t τ, snap τ (.emp t) = .emp t := fun t τ => by simp
  cases emptyS [] (.imm b xs) with
  | false => simpa using hk _ h1
  | true =>
    simp only [if_true]
    rw [hk _ (h2 true), hk _ (h2 false), hk0 _ (h2 true), hk0 _ (h2 false)]
    cases acallG code g [.emp true] [] with
    | none => rfl
    | some r => cases acallG code g [.emp false] [] with
      | none => rfl
      | some q =>
        simp only [Option.map_some, Option.bind_some, sameS_refl, Bool.and_true]
        split <;> rfl
def Plain (v : AVal) : Prop := ncells v = 4 ∧ isAgg v = true ∧ ∀ fl top base σ n, fz fl top base σ (n + 2) v = v
theorem intV_plain (n : Int) : Plain (intV n) := ⟨rfl, rfl, fun fl top base σ n => by simp [intV]⟩
structure RowOk (r : List AVal) : Prop where
  vals : ∀ v ∈ r, Plain v
  clone : pcall I.slices_Clone_api_Row_api_Value [.imm false r] = some (.frs 4 r)
  right : pcall I.row_right [.imm false r] = some (.bool true)
theorem row1_ok (n : Int) : RowOk [intV n] := ⟨fun v hv => by rw [List.mem_singleton.1 hv]; exact intV_plain n, pcall_from (clone_f1 n), pcall_from (right_f1 n)⟩
theorem row2_ok (n m : Int) : RowOk [intV n, intV m] := ⟨fun v hv => by rcases List.mem_cons.1 hv with rfl | hv; exact intV_plain _; rw [List.mem_singleton.1 hv]; exact intV_plain _, pcall_from (clone_f2 n m), pcall_from (right_f2 n m)⟩
theorem map_plain {r : List AVal} (h : ∀ v ∈ r, Plain v) (fl top : Bool) (base : Nat) (σ : Store) (n : Nat) : r.map (fz fl top base σ (n + 2)) = r := by
  conv => rhs; rw [← List.map_id r]
  exact List.map_congr_left fun v hv => (h v hv).2.2 fl top base σ n
def rowsV (rs : List (List AVal)) : List AVal := rs.map (.imm false)
@[simp] theorem rowsV_length (rs : List (List AVal)) : (rowsV rs).length = rs.length := by simp [rowsV]
theorem rowsV_get {rs : List (List AVal)} {k : Nat} (h : k < rs.length) : (rowsV rs)[k]? = some (.imm false rs[k]) := by simp [rowsV, h]
theorem rowsV_succ {rs : List (List AVal)} {k : Nat} (h : k < rs.length) : rowsV (rs.take (k + 1)) = rowsV (rs.take k) ++ [.imm false rs[k]] := by
  unfold rowsV
  rw [List.take_succ_eq_append_getElem h, List.map_append]
  rfl
@[simp] theorem rowsV_ncells (rs : List (List AVal)) : (rowsV rs).map ncells = List.replicate rs.length 1 := by
  simp only [rowsV, List.map_map]
  rw [List.eq_replicate_iff]
  exact ⟨by simp, fun x hx => by simp at hx; obtain ⟨_, _, rfl⟩ := hx; rfl⟩
theorem rows_freeze (rs : List (List AVal)) (top : Bool) (base : Nat) (σ : Store) (n : Nat) : (rowsV rs).map (fz false top base σ (n + 1)) = rowsV rs := by
  unfold rowsV
  rw [List.map_map]
  exact List.map_congr_left fun r _ => by simp
theorem plain_nc {r : List AVal} (h : ∀ v ∈ r, Plain v) (fl top : Bool) (base : Nat) (σ : Store) (n : Nat) : (∀ a, a ∈ r → ncells (fz fl top base σ (n + 2) a) = ncells a) ↔ True :=
  ⟨fun _ => trivial, fun _ a ha => by rw [(h a ha).2.2]⟩
theorem rows_freeze' (rs : List (List AVal)) (base : Nat) (σ : Store) : (rowsV rs).map (freeze base σ) = rowsV rs := by
  unfold rowsV
  rw [List.map_map]
  exact List.map_congr_left fun r _ => by simp [freeze, fuel]
theorem rows_nc (rs : List (List AVal)) (base : Nat) (σ : Store) : (rowsV rs).map (ncells ∘ freeze base σ) = List.replicate rs.length 1 := by
  rw [← List.map_map, rows_freeze', rowsV_ncells]
theorem fresh_rows (rs : List (List AVal)) (id ep : Nat) (σ : Store) (h : σ[id]? = some (.arr 1 ep (rowsV rs))) : freshOf 1 σ (.sl id ep 0 rs.length) = .frs 1 (rowsV rs) := by
  have h8 := fun σ' => rows_freeze rs false 0 σ' 19
  have h9 : (rowsV rs).take rs.length = rowsV rs := List.take_of_length_le (by simp)
  have h10 : ∀ σ', (rowsV rs).map (frozen σ') = rowsV rs := fun σ' => h8 σ'
  simp only [freshOf, h, h9, h10, frsAt]
  simp
theorem copies_spec {b : Bool} {rs : List (List AVal)} (hn : rs.length ≤ most) (hr : ∀ r ∈ rs, RowOk r) : pcall I.row_copies [.imm b (rowsV rs)] = some (.frs 1 (rowsV rs)) := by
  rw [pcall_eq c_row_copies rfl]
  have hloop := rounds_iter (base := 1) (clr := [3, 7]) (b := l_row_copies_0) (fun k => ⟨[.imm b (rowsV rs), .nil0, .sl 0 k 0 k, .any, .imm b (rowsV rs), .int .i64 rs.length, .int .i64 k, .any], [.arr 1 k (rowsV (rs.take k))]⟩) rs.length
    (.ext 0, ⟨[.imm b (rowsV rs), .nil0, .sl 0 rs.length 0 rs.length, .any, .imm b (rowsV rs), .int .i64 rs.length, .int .i64 rs.length, .bool false], [.arr 1 rs.length (rowsV rs)]⟩)
    (fun k hk => by
      have h1 := rowsV_get hk
      have h2 := hr rs[k] (List.getElem_mem hk)
      have hlt : ((k : Int) < (rs.length : Int)) := by omega
      have h3 := acall_nil c_slices_Clone_api_Row_api_Value rfl false rs[k] [.arr 1 k (rowsV (rs.take k))]
      rw [h2.clone] at h3
      have h4 : min k rs.length = k := by omega
      have h5 : k + 1 ≤ most := by omega
      have h6 := rowsV_succ hk
      have h7 := map_plain h2.vals
      have h7' := plain_nc h2.vals false false 1
      have h9 : (rowsV (rs.take k)).take k = rowsV (rs.take k) := List.take_of_length_le (by simp; omega)
      have h8 := fun top base σ n => rows_freeze (rs.take k) top base σ n
      have h10 := rows_freeze' (rs.take k) 1
      have h11 := rows_nc (rs.take k) 1
      simp [l_row_copies_0, h1, hlt, h3, h4, h5, h6, h7, h7', h8, h9, h10, h11, append, wrap_lt hk hn, roundEnd, freezeObj])
    (by simp [l_row_copies_0])
  simp [f_row_copies, b_row_copies]
  simp [show rowsV [] = [] from rfl] at hloop
  rw [hloop]
  simp
  exact fresh_rows rs 0 _ _ rfl
end Go.AM
end
