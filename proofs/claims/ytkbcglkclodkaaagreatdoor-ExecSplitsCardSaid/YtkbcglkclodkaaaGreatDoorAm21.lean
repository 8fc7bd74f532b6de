/- Fragments: a node is taken. -/
import Derived.Test.YtkbcglkclodkaaaGreatDoorAm20
import Derived.Test.YtkbcglkclodkaaaGreatDoorAm19
set_option linter.unusedVariables false
set_option linter.unusedSimpArgs false
section
namespace Go.AM
open P
set_option maxHeartbeats 16000000
set_option maxRecDepth 8000
attribute [local simp] condRun_if when_if
theorem Index_int (b : Bool) (l : List Int) (x : Int) (hn : l.length ≤ most) : pcall I.slices_Index_int_int [.imm b (intsA l), .int .i64 x] = some (.int .i64 (ixF (fun y => x == y) l)) := by
  rw [pcall_eq c_slices_Index_int_int rfl]
  have hstep : ∀ k, k < l.length → ∀ y, l[k]? = some y → (x == y) = false → thenLoop 0 [2, 3, 6, 7] l_slices_Index_int_int_0 (run code l_slices_Index_int_int_0 ⟨[.imm b (intsA l), .int .i64 x, .any, .any, .int .i64 l.length, .int .i64 k, .any, .any], []⟩) =
      rounds code 0 [2, 3, 6, 7] l_slices_Index_int_int_0 ⟨[.imm b (intsA l), .int .i64 x, .any, .any, .int .i64 l.length, .int .i64 (k + 1 : Nat), .any, .any], []⟩ := fun k hk y hy hp => by
    have hlt : ((k : Int) < (l.length : Int)) := by omega
    simp [l_slices_Index_int_int_0, hy, hp, hlt, wrap_lt hk hn, roundEnd_same]
  unfold ixF
  by_cases ha : (l.any fun y => x == y) = true
  · have hlt := List.findIdx_lt_length_of_exists (List.any_eq_true.1 ha)
    have hp : (x == l[l.findIdx fun y => x == y]) = true := List.findIdx_getElem (p := fun y => x == y) (w := hlt)
    have hloop := rounds_iter (base := 0) (clr := [2, 3, 6, 7]) (b := l_slices_Index_int_int_0) (fun k => ⟨[.imm b (intsA l), .int .i64 x, .any, .any, .int .i64 l.length, .int .i64 k, .any, .any], []⟩) (l.findIdx fun y => x == y)
      (.ret, ⟨[.imm b (intsA l), .int .i64 x, .int .i64 (l.findIdx fun y => x == y : Nat), .int .i64 (l.findIdx fun y => x == y : Nat), .int .i64 l.length, .int .i64 (l.findIdx fun y => x == y : Nat), .bool true, .bool true], []⟩)
      (fun k hk => hstep k (by omega) _ (List.getElem?_eq_getElem (by omega)) (by simpa using List.not_of_lt_findIdx hk))
      (by
        have h1 : l[l.findIdx fun y => x == y]? = some l[l.findIdx fun y => x == y] := List.getElem?_eq_getElem hlt
        have hlt' : (((l.findIdx fun y => x == y : Nat) : Int) < (l.length : Int)) := by omega
        generalize hL : (l.findIdx fun y => x == y) = L at *
        generalize l[L] = y at *
        simp [l_slices_Index_int_int_0, h1, hp, hlt'])
    rw [if_pos ha]
    generalize (l.findIdx fun y => x == y) = L at *
    simp at hloop
    simp [f_slices_Index_int_int, b_slices_Index_int_int, hloop]
  · have hall : ∀ y ∈ l, (x == y) = false := fun y hy => Bool.eq_false_iff.2 (List.any_eq_false.1 (Bool.not_eq_true _ ▸ ha) y hy)
    have hloop := rounds_iter (base := 0) (clr := [2, 3, 6, 7]) (b := l_slices_Index_int_int_0) (fun k => ⟨[.imm b (intsA l), .int .i64 x, .any, .any, .int .i64 l.length, .int .i64 k, .any, .any], []⟩) l.length
      (.ext 0, ⟨[.imm b (intsA l), .int .i64 x, .any, .any, .int .i64 l.length, .int .i64 l.length, .bool false, .any], []⟩)
      (fun k hk => hstep k hk _ (List.getElem?_eq_getElem hk) (hall _ (List.getElem_mem hk)))
      (by simp [l_slices_Index_int_int_0])
    simp at hloop
    rw [if_neg ha]
    simp [f_slices_Index_int_int, b_slices_Index_int_int, hloop]
theorem Contains_int (b : Bool) (l : List Int) (x : Int) (hn : l.length ≤ most) : pcall I.slices_Contains_int_int [.imm b (intsA l), .int .i64 x] = some (.bool (l.any fun y => x == y)) := by
  rw [pcall_eq c_slices_Contains_int_int rfl]
  have h := fun b => Index_int b l x hn
  unfold ixF at h
  cases ha : (l.any fun y => x == y) <;> rw [ha] at h <;> simp [f_slices_Contains_int_int, b_slices_Contains_int_int, h]
def sum4 (l : List Int) : Bool := l.any fun y => 4 == y
structure ResOk (X : Store) (r : AVal) (bf : Bool) (res : List Int) : Prop where
  nc : ncells r = 1
  ag : isAgg r = false
  len : ∀ L K O B N A, alen (L :: K :: O :: B :: N :: A :: X) r = some res.length
  fz : ∀ L K O B N A n, fz false true 3 (L :: K :: O :: B :: N :: A :: X) (n + 3) r = .imm bf (intsA res)
theorem res_imm (X : Store) (b : Bool) (l : List Int) : ResOk X (.imm b (intsA l)) b l := ⟨rfl, rfl, fun _ _ _ _ _ _ => by simp, fun _ _ _ _ _ _ _ => by simp⟩
theorem res_sl6 (ep : Nat) (l : List Int) (X : Store) : ResOk (.arr 1 ep (intsA l) :: X) (.sl 6 ep 0 l.length) false l := ⟨rfl, rfl, fun _ _ _ _ _ _ => by simp, fun _ _ _ _ _ _ n => by simp⟩
theorem res_sl7 (ep : Nat) (l : List Int) (Y : Obj) (X : Store) : ResOk (Y :: .arr 1 ep (intsA l) :: X) (.sl 7 ep 0 l.length) false l := ⟨rfl, rfl, fun _ _ _ _ _ _ => by simp, fun _ _ _ _ _ _ n => by simp⟩
def preF (n : LNX) (opn : List Nat) : Option (List Nat) :=
  if partsF n.op < 0 ∨ (opn.length : Int) < partsF n.op ∨ blankF n = false then none else
  match opn.drop (opn.length - (partsF n.op).toNat) with
  | [] => if n.l = -1 ∧ n.r = -1 then some [] else none
  | [p] => if n.l = p ∧ n.r = -1 then some [p] else none
  | [p, q] => if n.l = p ∧ n.r = q then some [p, q] else none
  | _ => none
theorem partsF_le (t : Int) : -1 ≤ partsF t ∧ partsF t ≤ 2 := by
  unfold partsF
  repeat' split
  all_goals omega
abbrev natsI (l : List Nat) : List AVal := l.map fun (k : Nat) => AVal.int .i64 (k : Int)
structure Cells12 where
  c0 : AVal
  c1 : AVal
  c2 : AVal
  c3 : AVal
  c4 : AVal
  c5 : AVal
  c6 : AVal
  c7 : AVal
  c8 : AVal
  c9 : AVal
  c10 : AVal
  c11 : AVal
abbrev LNX.z (n : LNX) : Cells12 := ⟨.int .i64 n.op, .int .i64 n.l, .int .i64 n.r, .int .i64 n.tab, .imm n.bk (n.kinds.map (.int .i64)), .bool n.left, .imm n.bc (n.cond.map EN.a), .imm n.by' (n.keys.map (.int .i64)), .imm n.bg (n.aggs.map AggX.a), .imm n.bi (n.items.map ExX.a), .imm n.bo (n.ords.map ordA), .int .i64 n.limit⟩
abbrev laidZ (bn : Bool) (nodes : List LNX) (ep1 m1 ep2 m2 : Nat) (z : Cells12) (a b r : AVal) : Obj := .arr 18 0 [.agg [.imm bn (nodes.map LNX.a), .sl 1 ep1 0 m1, .sl 2 ep2 0 m2, z.c0, z.c1, z.c2, z.c3, z.c4, z.c5, z.c6, z.c7, z.c8, z.c9, z.c10, z.c11, a, b, r]]
abbrev stK (bn : Bool) (nodes : List LNX) (ep1 ep2 : Nat) (kinds : List (SlX Int)) (opn : List Nat) (n0 : Cells12) (a0 b0 r0 : AVal) (B : Obj) : Store :=
  [laidZ bn nodes ep1 kinds.length ep2 opn.length n0 a0 b0 r0, .arr 1 ep1 (kinds.map (SlX.c (.int .i64))), .arr 1 ep2 (natsI opn), B]
theorem takes_bad0 (bn : Bool) (nodes : List LNX) (ep1 ep2 : Nat) (kinds : List (SlX Int)) (opn : List Nat) (n0 : Cells12) (n : LNX) (a0 b0 r0 : AVal) (B : Obj) (ask : AVal) (i : Nat) (hi : nodes[i]? = some n) (hk1 : n.keys.length ≤ most) (hk2 : n.aggs.length ≤ most)
    (hb : partsF n.op < 0 ∨ (opn.length : Int) < partsF n.op ∨ blankF n = false) :
    ∃ σ', acall code I.prop_laid_takes [.ptr 0 0 0 0, .int .i64 i, ask] (stK bn nodes ep1 ep2 kinds opn n0 a0 b0 r0 B) = some (.bool false, σ') := by
  rw [acall_keep c_prop_laid_takes rfl]
  have hp := parts18_spec n.op
  have hbl := blank18_spec n hk1 hk2
  simp only [LNX.a] at hbl
  by_cases c1 : partsF n.op < 0
  · exact ⟨_, by simp [f_prop_laid_takes, b_prop_laid_takes, hi, LNX.a, hp, c1]; rfl⟩
  · by_cases c2 : (opn.length : Int) < partsF n.op
    · exact ⟨_, by simp [f_prop_laid_takes, b_prop_laid_takes, hi, LNX.a, hp, c1, c2]; rfl⟩
    · have c3 : blankF n = false := by rcases hb with h | h | h; exact absurd h c1; exact absurd h c2; exact h
      rw [c3] at hbl
      exact ⟨_, by simp [f_prop_laid_takes, b_prop_laid_takes, hi, LNX.a, hp, c1, c2, hbl]; rfl⟩
end Go.AM
end
section

namespace Go.AM
open P
set_option maxHeartbeats 16000000
set_option maxRecDepth 8000
attribute [local simp] condRun_if when_if
theorem alen_imm (σ : Store) (b : Bool) (l : List AVal) : alen σ (.imm b l) = some l.length := rfl
theorem alen_lst (σ : Store) (l : List AVal) : alen σ (.lst l) = some l.length := rfl
theorem alen_nil0 (σ : Store) : alen σ .nil0 = some 0 := rfl
theorem alen_sl (σ : Store) (id ep o n : Nat) : alen σ (.sl id ep o n) = if fresh σ id ep then some n else none := rfl
theorem wr1 : IntKind.i64.wrap 1 = 1 := by decide
theorem wr2 : IntKind.i64.wrap 2 = 2 := by decide
theorem and2 {a b : Bool} (h : (a && b) = true) : a = true ∧ b = true := by revert h; cases a <;> cases b <;> simp
instance : Nc (fun (k : Nat) => AVal.int .i64 (k : Int)) 1 false := ⟨fun _ => rfl, fun _ => rfl⟩
instance : Fx (fun (k : Nat) => AVal.int .i64 (k : Int)) := ⟨fun _ _ _ _ _ _ => rfl⟩
abbrev atO (x y : Int) : Obj := .arr 2 0 [.agg [.int .i64 x, .int .i64 y]]
def rootOk (n : LNX) (i len : Nat) : Bool := !((n.op == 8 || n.op == 10) && i != len - 1)
structure TkE where
  bn : Bool
  nodes : List LNX
  ep1 : Nat
  ep2 : Nat
  kinds : List (SlX Int)
  opn : List Nat
  n0 : Cells12
  a0 : AVal
  b0 : AVal
  r0 : AVal
  B : Obj
  ask : AVal
  i : Nat
  n : LNX
noncomputable abbrev TkE.call (E : TkE) : Option (AVal × Store) := acall code I.prop_laid_takes [.ptr 0 0 0 0, .int .i64 E.i, E.ask] (stK E.bn E.nodes E.ep1 E.ep2 E.kinds E.opn E.n0 E.a0 E.b0 E.r0 E.B)
abbrev TkE.st (E : TkE) (A C r : AVal) (x y : Int) : Store := [laidX E.bn E.nodes E.ep1 E.kinds.length E.ep2 E.opn.length E.n A C r, .arr 1 E.ep1 (E.kinds.map (SlX.c (.int .i64))), .arr 1 E.ep2 (natsI E.opn), E.B, grpO E.n, atO x y]
structure Tk (E : TkE) (k : Nat) (ps : List Nat) : Prop where
  hi : E.nodes[E.i]? = some E.n
  hil : E.nodes.length ≤ most
  hol : E.opn.length ≤ most
  hk1 : E.n.keys.length ≤ most
  hk2 : E.n.aggs.length ≤ most
  hop : partsF E.n.op = k
  hkl : k ≤ E.opn.length
  hd : E.opn.drop (E.opn.length - k) = ps
  hbl : blankF E.n = true
  hB : ∀ base σ, freezeObj base σ E.B = E.B
abbrev RootFine (E : TkE) : Prop := ((E.n.op == 8) = false ∧ (E.n.op == 10) = false ∧ True) ∨ ((E.n.op == 8) = true ∧ ((E.i : Int) != ((E.nodes.length : Int) - 1)) = false ∧ True) ∨ ((E.n.op == 8) = false ∧ (E.n.op == 10) = true ∧ ((E.i : Int) != ((E.nodes.length : Int) - 1)) = false)
abbrev RootBad (E : TkE) : Prop := ((E.n.op == 8) = true ∧ ((E.i : Int) != ((E.nodes.length : Int) - 1)) = true ∧ True) ∨ ((E.n.op == 8) = false ∧ (E.n.op == 10) = true ∧ ((E.i : Int) != ((E.nodes.length : Int) - 1)) = true)
theorem tk0 {E : TkE} (h : Tk E 0 []) : pcall I.prop_parts [.int .i64 E.n.op] = some (.int .i64 0) ∧ pcall I.prop_blank [E.n.a] = some (.bool true) ∧ decide ((E.opn.length : Int) < 0) = false ∧ IntKind.i64.wrap ((E.opn.length : Int)) = (E.opn.length : Int) ∧ ((E.opn.length : Int)).toNat = E.opn.length ∧ (0 : Int) ≤ (E.opn.length : Int) ∧ E.opn.length - (E.opn.length) = 0 ∧ E.opn.length ≤ E.opn.length ∧ List.take 0 (natsI []) = natsI [] ∧ (0 : Int) ≤ (E.opn.length : Int) ∧ List.drop (E.opn.length) (natsI E.opn) = natsI [] ∧ IntKind.i64.wrap ((E.nodes.length : Int) - 1) = (E.nodes.length : Int) - 1 ∧ E.opn.length + 0 = E.opn.length := by
  obtain ⟨hi, hil, hol, hk1, hk2, hop, hkl, hd, hbl, _⟩ := h
  have hil' : E.nodes.length ≤ 68719476736 := hil
  have hol' : E.opn.length ≤ 68719476736 := hol
  have hp := parts18_spec E.n.op
  have hbs := blank18_spec E.n hk1 hk2
  rw [hop] at hp
  rw [hbl] at hbs
  refine ⟨hp, hbs, decide_eq_false (by omega), w64 (by omega) (by omega), by omega, by omega, by omega, by omega, rfl, by omega, ?_, w64 (by omega) (by omega), by omega⟩
  · rw [natsI, ← List.map_drop]
    exact congrArg _ hd
theorem tk1 {E : TkE} {p : Nat} (h : Tk E 1 [p]) : pcall I.prop_parts [.int .i64 E.n.op] = some (.int .i64 1) ∧ pcall I.prop_blank [E.n.a] = some (.bool true) ∧ decide ((E.opn.length : Int) < 1) = false ∧ IntKind.i64.wrap ((E.opn.length : Int) - 1) = (E.opn.length : Int) - 1 ∧ ((E.opn.length : Int) - 1).toNat = E.opn.length - 1 ∧ (1 : Int) ≤ (E.opn.length : Int) ∧ E.opn.length - (E.opn.length - 1) = 1 ∧ E.opn.length - 1 ≤ E.opn.length ∧ List.take 1 (natsI [p]) = natsI [p] ∧ (0 : Int) ≤ (E.opn.length : Int) ∧ List.drop (E.opn.length - 1) (natsI E.opn) = natsI [p] ∧ IntKind.i64.wrap ((E.nodes.length : Int) - 1) = (E.nodes.length : Int) - 1 ∧ E.opn.length - 1 + 1 = E.opn.length ∧ E.opn[E.opn.length - 1]? = some p := by
  obtain ⟨hi, hil, hol, hk1, hk2, hop, hkl, hd, hbl, _⟩ := h
  have hil' : E.nodes.length ≤ 68719476736 := hil
  have hol' : E.opn.length ≤ 68719476736 := hol
  have hp := parts18_spec E.n.op
  have hbs := blank18_spec E.n hk1 hk2
  rw [hop] at hp
  rw [hbl] at hbs
  refine ⟨hp, hbs, decide_eq_false (by omega), w64 (by omega) (by omega), by omega, by omega, by omega, by omega, rfl, by omega, ?_, w64 (by omega) (by omega), by omega, ?_⟩
  · rw [natsI, ← List.map_drop]
    exact congrArg _ hd
  · have := congrArg (·[0]?) hd
    simpa using this
theorem tk2 {E : TkE} {p q : Nat} (h : Tk E 2 [p, q]) : pcall I.prop_parts [.int .i64 E.n.op] = some (.int .i64 2) ∧ pcall I.prop_blank [E.n.a] = some (.bool true) ∧ decide ((E.opn.length : Int) < 2) = false ∧ IntKind.i64.wrap ((E.opn.length : Int) - 2) = (E.opn.length : Int) - 2 ∧ ((E.opn.length : Int) - 2).toNat = E.opn.length - 2 ∧ (2 : Int) ≤ (E.opn.length : Int) ∧ E.opn.length - (E.opn.length - 2) = 2 ∧ E.opn.length - 2 ≤ E.opn.length ∧ List.take 2 (natsI [p, q]) = natsI [p, q] ∧ (0 : Int) ≤ (E.opn.length : Int) ∧ List.drop (E.opn.length - 2) (natsI E.opn) = natsI [p, q] ∧ IntKind.i64.wrap ((E.nodes.length : Int) - 1) = (E.nodes.length : Int) - 1 ∧ E.opn.length - 2 + 2 = E.opn.length ∧ E.opn[E.opn.length - 2]? = some p ∧ E.opn[E.opn.length - 2 + 1]? = some q := by
  obtain ⟨hi, hil, hol, hk1, hk2, hop, hkl, hd, hbl, _⟩ := h
  have hil' : E.nodes.length ≤ 68719476736 := hil
  have hol' : E.opn.length ≤ 68719476736 := hol
  have hp := parts18_spec E.n.op
  have hbs := blank18_spec E.n hk1 hk2
  rw [hop] at hp
  rw [hbl] at hbs
  refine ⟨hp, hbs, decide_eq_false (by omega), w64 (by omega) (by omega), by omega, by omega, by omega, by omega, rfl, by omega, ?_, w64 (by omega) (by omega), by omega, ?_, ?_⟩
  · rw [natsI, ← List.map_drop]
    exact congrArg _ hd
  · have := congrArg (·[0]?) hd
    simpa using this
  · have := congrArg (·[1]?) hd
    simpa using this
theorem takes0_bad (E : TkE) (h : Tk E 0 []) (hb : ¬ (E.n.l = -1 ∧ E.n.r = -1)) : ∃ σ', E.call = some (.bool false, σ') := by
  unfold TkE.call
  rw [acall_keep c_prop_laid_takes rfl]
  obtain ⟨hp, hbs, z1, z2, z3, z4, z5, z7, z8, z9, hd', zw, z6⟩ := tk0 h
  have hi := h.hi
  have hB := h.hB
  simp only [LNX.a] at hbs
  by_cases c : E.n.l = (-1)
  · have c1 : ((-1) == E.n.l) = true := by simp [c]
    have c2 : ((-1) == E.n.r) = false := beq_f (Ne.symm fun h => hb ⟨c, h⟩)
    exact ⟨_, by simp [f_prop_laid_takes, b_prop_laid_takes, hi, LNX.a, hp, hbs, c1, c2, z1, z2, z3, z4, z5, z6, z7, z8, z9, hd']; rfl⟩
  · have c1 : ((-1) == E.n.l) = false := beq_f (Ne.symm c)
    exact ⟨_, by simp [f_prop_laid_takes, b_prop_laid_takes, hi, LNX.a, hp, hbs, c1, z1, z2, z3, z4, z5, z6, z7, z8, z9, hd']; rfl⟩
theorem takes1_bad (E : TkE) (p : Nat) (h : Tk E 1 [p]) (hb : ¬ (E.n.l = (p : Int) ∧ E.n.r = -1)) : ∃ σ', E.call = some (.bool false, σ') := by
  unfold TkE.call
  rw [acall_keep c_prop_laid_takes rfl]
  obtain ⟨hp, hbs, z1, z2, z3, z4, z5, z7, z8, z9, hd', zw, z6, y0⟩ := tk1 h
  have hi := h.hi
  have hB := h.hB
  simp only [LNX.a] at hbs
  by_cases c : E.n.l = (p : Int)
  · have c1 : ((p : Int) == E.n.l) = true := by simp [c]
    have c2 : ((-1) == E.n.r) = false := beq_f (Ne.symm fun h => hb ⟨c, h⟩)
    exact ⟨_, by simp [f_prop_laid_takes, b_prop_laid_takes, hi, LNX.a, hp, hbs, c1, c2, z1, z2, z3, z4, z5, z6, z7, z8, z9, hd']; rfl⟩
  · have c1 : ((p : Int) == E.n.l) = false := beq_f (Ne.symm c)
    exact ⟨_, by simp [f_prop_laid_takes, b_prop_laid_takes, hi, LNX.a, hp, hbs, c1, z1, z2, z3, z4, z5, z6, z7, z8, z9, hd']; rfl⟩
theorem takes2_bad (E : TkE) (p q : Nat) (h : Tk E 2 [p, q]) (hb : ¬ (E.n.l = (p : Int) ∧ E.n.r = (q : Int))) : ∃ σ', E.call = some (.bool false, σ') := by
  unfold TkE.call
  rw [acall_keep c_prop_laid_takes rfl]
  obtain ⟨hp, hbs, z1, z2, z3, z4, z5, z7, z8, z9, hd', zw, z6, y0, y1⟩ := tk2 h
  have hi := h.hi
  have hB := h.hB
  simp only [LNX.a] at hbs
  by_cases c : E.n.l = (p : Int)
  · have c1 : ((p : Int) == E.n.l) = true := by simp [c]
    have c2 : ((q : Int) == E.n.r) = false := beq_f (Ne.symm fun h => hb ⟨c, h⟩)
    exact ⟨_, by simp [f_prop_laid_takes, b_prop_laid_takes, hi, LNX.a, hp, hbs, c1, c2, z1, z2, z3, z4, z5, z6, z7, z8, z9, hd']; rfl⟩
  · have c1 : ((p : Int) == E.n.l) = false := beq_f (Ne.symm c)
    exact ⟨_, by simp [f_prop_laid_takes, b_prop_laid_takes, hi, LNX.a, hp, hbs, c1, z1, z2, z3, z4, z5, z6, z7, z8, z9, hd']; rfl⟩
end Go.AM
end
section

namespace Go.AM
open P
set_option maxHeartbeats 16000000
set_option maxRecDepth 8000
attribute [local simp] condRun_if when_if
theorem takes0_no (E : TkE) (h : Tk E 0 []) (hA : E.n.l = -1 ∧ E.n.r = -1) (hc : RootFine E) (σ1 : Store)
    (hask : acallV code E.ask [.ptr 0 0 0 0] (E.st .nil0 .nil0 E.r0 (-1) (-1)) = some (.bool false, σ1)) : ∃ σ', E.call = some (.bool false, σ') := by
  unfold TkE.call
  rw [acall_keep c_prop_laid_takes rfl]
  obtain ⟨hp, hbs, z1, z2, z3, z4, z5, z7, z8, z9, hd', zw, z6⟩ := tk0 h
  have hi := h.hi
  have hB := h.hB
  simp only [LNX.a] at hbs
  have c1 : ((-1) == E.n.l) = true := by simp [hA.1]
  have c2 : ((-1) == E.n.r) = true := by simp [hA.2]
  rcases hc with ⟨q1, q2, q3⟩ | ⟨q1, q2, q3⟩ | ⟨q1, q2, q3⟩ <;> exact ⟨_, by simp [f_prop_laid_takes, b_prop_laid_takes, hi, LNX.a, hp, hbs, c1, c2, z1, z2, z3, z4, z5, z6, z7, z8, z9, hd', zw, l_prop_laid_takes_0, rounds_go0, roundEnd, freezeObj, hB, wr1, wr2, q1, q2, q3, hask]; rfl⟩
theorem takes0_root (E : TkE) (h : Tk E 0 []) (hA : E.n.l = -1 ∧ E.n.r = -1) (hc : RootBad E) : ∃ σ', E.call = some (.bool false, σ') := by
  unfold TkE.call
  rw [acall_keep c_prop_laid_takes rfl]
  obtain ⟨hp, hbs, z1, z2, z3, z4, z5, z7, z8, z9, hd', zw, z6⟩ := tk0 h
  have hi := h.hi
  have hB := h.hB
  simp only [LNX.a] at hbs
  have c1 : ((-1) == E.n.l) = true := by simp [hA.1]
  have c2 : ((-1) == E.n.r) = true := by simp [hA.2]
  rcases hc with ⟨q1, q2, q3⟩ | ⟨q1, q2, q3⟩ <;> exact ⟨_, by simp [f_prop_laid_takes, b_prop_laid_takes, hi, LNX.a, hp, hbs, c1, c2, z1, z2, z3, z4, z5, z6, z7, z8, z9, hd', zw, l_prop_laid_takes_0, rounds_go0, roundEnd, freezeObj, hB, wr1, wr2, q1, q2, q3]; rfl⟩
theorem takes1_no (E : TkE) (p : Nat) (h : Tk E 1 [p]) (hA : E.n.l = (p : Int) ∧ E.n.r = -1) (ka : SlX Int) (hka : E.kinds[p]? = some ka) (hla : ka.l.length ≤ most) (h4 : ((E.n.op != 11) && sum4 ka.l) = false) (hc : RootFine E) (σ1 : Store)
    (hask : acallV code E.ask [.ptr 0 0 0 0] (E.st (.imm ka.b (intsA ka.l)) .nil0 E.r0 (p : Int) (-1)) = some (.bool false, σ1)) : ∃ σ', E.call = some (.bool false, σ') := by
  unfold TkE.call
  rw [acall_keep c_prop_laid_takes rfl]
  obtain ⟨hp, hbs, z1, z2, z3, z4, z5, z7, z8, z9, hd', zw, z6, y0⟩ := tk1 h
  have hi := h.hi
  have hB := h.hB
  simp only [LNX.a] at hbs
  have c1 : ((p : Int) == E.n.l) = true := by simp [hA.1]
  have c2 : ((-1) == E.n.r) = true := by simp [hA.2]
  obtain ⟨hla0, hga⟩ := List.getElem?_eq_some_iff.1 hka
  have ga : (E.n.op != 11) = true → ∀ b, pcall I.slices_Contains_int_int [.imm b (intsA ka.l), .int .i64 4] = some (.bool false) := fun e b => by
    have := Contains_int b ka.l 4 hla
    rwa [show (ka.l.any fun y => 4 == y) = false by rw [e] at h4; exact h4] at this
  rcases hc with ⟨q1, q2, q3⟩ | ⟨q1, q2, q3⟩ | ⟨q1, q2, q3⟩ <;> cases h12 : (E.n.op != 11) <;> first | (have ga := ga h12; exact ⟨_, by simp [f_prop_laid_takes, b_prop_laid_takes, hi, LNX.a, hp, hbs, c1, c2, z1, z2, z3, z4, z5, z6, z7, z8, z9, hd', zw, l_prop_laid_takes_0, rounds_go0, roundEnd, freezeObj, hB, wr1, wr2, y0, hga, hla0, q1, q2, q3, hask, h12, ga]; rfl⟩) | exact ⟨_, by simp [f_prop_laid_takes, b_prop_laid_takes, hi, LNX.a, hp, hbs, c1, c2, z1, z2, z3, z4, z5, z6, z7, z8, z9, hd', zw, l_prop_laid_takes_0, rounds_go0, roundEnd, freezeObj, hB, wr1, wr2, y0, hga, hla0, q1, q2, q3, hask, h12]; rfl⟩
theorem takes1_root (E : TkE) (p : Nat) (h : Tk E 1 [p]) (hA : E.n.l = (p : Int) ∧ E.n.r = -1) (ka : SlX Int) (hka : E.kinds[p]? = some ka) (hla : ka.l.length ≤ most) (h4 : ((E.n.op != 11) && sum4 ka.l) = false) (hc : RootBad E) : ∃ σ', E.call = some (.bool false, σ') := by
  unfold TkE.call
  rw [acall_keep c_prop_laid_takes rfl]
  obtain ⟨hp, hbs, z1, z2, z3, z4, z5, z7, z8, z9, hd', zw, z6, y0⟩ := tk1 h
  have hi := h.hi
  have hB := h.hB
  simp only [LNX.a] at hbs
  have c1 : ((p : Int) == E.n.l) = true := by simp [hA.1]
  have c2 : ((-1) == E.n.r) = true := by simp [hA.2]
  obtain ⟨hla0, hga⟩ := List.getElem?_eq_some_iff.1 hka
  have ga : (E.n.op != 11) = true → ∀ b, pcall I.slices_Contains_int_int [.imm b (intsA ka.l), .int .i64 4] = some (.bool false) := fun e b => by
    have := Contains_int b ka.l 4 hla
    rwa [show (ka.l.any fun y => 4 == y) = false by rw [e] at h4; exact h4] at this
  rcases hc with ⟨q1, q2, q3⟩ | ⟨q1, q2, q3⟩ <;> cases h12 : (E.n.op != 11) <;> first | (have ga := ga h12; exact ⟨_, by simp [f_prop_laid_takes, b_prop_laid_takes, hi, LNX.a, hp, hbs, c1, c2, z1, z2, z3, z4, z5, z6, z7, z8, z9, hd', zw, l_prop_laid_takes_0, rounds_go0, roundEnd, freezeObj, hB, wr1, wr2, y0, hga, hla0, q1, q2, q3, h12, ga]; rfl⟩) | exact ⟨_, by simp [f_prop_laid_takes, b_prop_laid_takes, hi, LNX.a, hp, hbs, c1, c2, z1, z2, z3, z4, z5, z6, z7, z8, z9, hd', zw, l_prop_laid_takes_0, rounds_go0, roundEnd, freezeObj, hB, wr1, wr2, y0, hga, hla0, q1, q2, q3, h12]; rfl⟩
theorem takes2_no (E : TkE) (p q : Nat) (h : Tk E 2 [p, q]) (hA : E.n.l = (p : Int) ∧ E.n.r = (q : Int)) (ka : SlX Int) (hka : E.kinds[p]? = some ka) (hla : ka.l.length ≤ most) (kb : SlX Int) (hkb : E.kinds[q]? = some kb) (hlb : kb.l.length ≤ most) (h4 : ((E.n.op != 11) && sum4 ka.l) = false) (h5 : ((E.n.op != 11) && sum4 kb.l) = false) (hc : RootFine E) (σ1 : Store)
    (hask : acallV code E.ask [.ptr 0 0 0 0] (E.st (.imm ka.b (intsA ka.l)) (.imm kb.b (intsA kb.l)) E.r0 (p : Int) (q : Int)) = some (.bool false, σ1)) : ∃ σ', E.call = some (.bool false, σ') := by
  unfold TkE.call
  rw [acall_keep c_prop_laid_takes rfl]
  obtain ⟨hp, hbs, z1, z2, z3, z4, z5, z7, z8, z9, hd', zw, z6, y0, y1⟩ := tk2 h
  have hi := h.hi
  have hB := h.hB
  simp only [LNX.a] at hbs
  have c1 : ((p : Int) == E.n.l) = true := by simp [hA.1]
  have c2 : ((q : Int) == E.n.r) = true := by simp [hA.2]
  obtain ⟨hla0, hga⟩ := List.getElem?_eq_some_iff.1 hka
  obtain ⟨hlb0, hgb⟩ := List.getElem?_eq_some_iff.1 hkb
  have ga : (E.n.op != 11) = true → ∀ b, pcall I.slices_Contains_int_int [.imm b (intsA ka.l), .int .i64 4] = some (.bool false) := fun e b => by
    have := Contains_int b ka.l 4 hla
    rwa [show (ka.l.any fun y => 4 == y) = false by rw [e] at h4; exact h4] at this
  have gb : (E.n.op != 11) = true → ∀ b, pcall I.slices_Contains_int_int [.imm b (intsA kb.l), .int .i64 4] = some (.bool false) := fun e b => by
    have := Contains_int b kb.l 4 hlb
    rwa [show (kb.l.any fun y => 4 == y) = false by rw [e] at h5; exact h5] at this
  rcases hc with ⟨q1, q2, q3⟩ | ⟨q1, q2, q3⟩ | ⟨q1, q2, q3⟩ <;> cases h12 : (E.n.op != 11) <;> first | (have ga := ga h12; have gb := gb h12; exact ⟨_, by simp [f_prop_laid_takes, b_prop_laid_takes, hi, LNX.a, hp, hbs, c1, c2, z1, z2, z3, z4, z5, z6, z7, z8, z9, hd', zw, l_prop_laid_takes_0, rounds_go0, roundEnd, freezeObj, hB, wr1, wr2, y0, y1, hga, hla0, hgb, hlb0, q1, q2, q3, hask, h12, ga, gb]; rfl⟩) | exact ⟨_, by simp [f_prop_laid_takes, b_prop_laid_takes, hi, LNX.a, hp, hbs, c1, c2, z1, z2, z3, z4, z5, z6, z7, z8, z9, hd', zw, l_prop_laid_takes_0, rounds_go0, roundEnd, freezeObj, hB, wr1, wr2, y0, y1, hga, hla0, hgb, hlb0, q1, q2, q3, hask, h12]; rfl⟩
theorem takes2_root (E : TkE) (p q : Nat) (h : Tk E 2 [p, q]) (hA : E.n.l = (p : Int) ∧ E.n.r = (q : Int)) (ka : SlX Int) (hka : E.kinds[p]? = some ka) (hla : ka.l.length ≤ most) (kb : SlX Int) (hkb : E.kinds[q]? = some kb) (hlb : kb.l.length ≤ most) (h4 : ((E.n.op != 11) && sum4 ka.l) = false) (h5 : ((E.n.op != 11) && sum4 kb.l) = false) (hc : RootBad E) : ∃ σ', E.call = some (.bool false, σ') := by
  unfold TkE.call
  rw [acall_keep c_prop_laid_takes rfl]
  obtain ⟨hp, hbs, z1, z2, z3, z4, z5, z7, z8, z9, hd', zw, z6, y0, y1⟩ := tk2 h
  have hi := h.hi
  have hB := h.hB
  simp only [LNX.a] at hbs
  have c1 : ((p : Int) == E.n.l) = true := by simp [hA.1]
  have c2 : ((q : Int) == E.n.r) = true := by simp [hA.2]
  obtain ⟨hla0, hga⟩ := List.getElem?_eq_some_iff.1 hka
  obtain ⟨hlb0, hgb⟩ := List.getElem?_eq_some_iff.1 hkb
  have ga : (E.n.op != 11) = true → ∀ b, pcall I.slices_Contains_int_int [.imm b (intsA ka.l), .int .i64 4] = some (.bool false) := fun e b => by
    have := Contains_int b ka.l 4 hla
    rwa [show (ka.l.any fun y => 4 == y) = false by rw [e] at h4; exact h4] at this
  have gb : (E.n.op != 11) = true → ∀ b, pcall I.slices_Contains_int_int [.imm b (intsA kb.l), .int .i64 4] = some (.bool false) := fun e b => by
    have := Contains_int b kb.l 4 hlb
    rwa [show (kb.l.any fun y => 4 == y) = false by rw [e] at h5; exact h5] at this
  rcases hc with ⟨q1, q2, q3⟩ | ⟨q1, q2, q3⟩ <;> cases h12 : (E.n.op != 11) <;> first | (have ga := ga h12; have gb := gb h12; exact ⟨_, by simp [f_prop_laid_takes, b_prop_laid_takes, hi, LNX.a, hp, hbs, c1, c2, z1, z2, z3, z4, z5, z6, z7, z8, z9, hd', zw, l_prop_laid_takes_0, rounds_go0, roundEnd, freezeObj, hB, wr1, wr2, y0, y1, hga, hla0, hgb, hlb0, q1, q2, q3, h12, ga, gb]; rfl⟩) | exact ⟨_, by simp [f_prop_laid_takes, b_prop_laid_takes, hi, LNX.a, hp, hbs, c1, c2, z1, z2, z3, z4, z5, z6, z7, z8, z9, hd', zw, l_prop_laid_takes_0, rounds_go0, roundEnd, freezeObj, hB, wr1, wr2, y0, y1, hga, hla0, hgb, hlb0, q1, q2, q3, h12]; rfl⟩
theorem takes1_four0 (E : TkE) (p : Nat) (h : Tk E 1 [p]) (hA : E.n.l = (p : Int) ∧ E.n.r = -1) (ka : SlX Int) (hka : E.kinds[p]? = some ka) (hla : ka.l.length ≤ most) (h4 : ((E.n.op != 11) && sum4 ka.l) = true) : ∃ σ', E.call = some (.bool false, σ') := by
  unfold TkE.call
  rw [acall_keep c_prop_laid_takes rfl]
  obtain ⟨hp, hbs, z1, z2, z3, z4, z5, z7, z8, z9, hd', zw, z6, y0⟩ := tk1 h
  have hi := h.hi
  have hB := h.hB
  simp only [LNX.a] at hbs
  have c1 : ((p : Int) == E.n.l) = true := by simp [hA.1]
  have c2 : ((-1) == E.n.r) = true := by simp [hA.2]
  obtain ⟨hla0, hga⟩ := List.getElem?_eq_some_iff.1 hka
  have h12 : (E.n.op != 11) = true := (and2 h4).1
  have ga := fun b => Contains_int b ka.l 4 hla
  rw [show (ka.l.any fun y => 4 == y) = true from (and2 h4).2] at ga
  exact ⟨_, by simp [f_prop_laid_takes, b_prop_laid_takes, hi, LNX.a, hp, hbs, c1, c2, z1, z2, z3, z4, z5, z6, z7, z8, z9, hd', l_prop_laid_takes_0, rounds_go0, roundEnd, freezeObj, hB, wr1, wr2, y0, hga, hla0, h12, ga]; rfl⟩
theorem takes2_four0 (E : TkE) (p q : Nat) (h : Tk E 2 [p, q]) (hA : E.n.l = (p : Int) ∧ E.n.r = (q : Int)) (ka : SlX Int) (hka : E.kinds[p]? = some ka) (hla : ka.l.length ≤ most) (kb : SlX Int) (hkb : E.kinds[q]? = some kb) (hlb : kb.l.length ≤ most) (h4 : ((E.n.op != 11) && sum4 ka.l) = true) : ∃ σ', E.call = some (.bool false, σ') := by
  unfold TkE.call
  rw [acall_keep c_prop_laid_takes rfl]
  obtain ⟨hp, hbs, z1, z2, z3, z4, z5, z7, z8, z9, hd', zw, z6, y0, y1⟩ := tk2 h
  have hi := h.hi
  have hB := h.hB
  simp only [LNX.a] at hbs
  have c1 : ((p : Int) == E.n.l) = true := by simp [hA.1]
  have c2 : ((q : Int) == E.n.r) = true := by simp [hA.2]
  obtain ⟨hla0, hga⟩ := List.getElem?_eq_some_iff.1 hka
  obtain ⟨hlb0, hgb⟩ := List.getElem?_eq_some_iff.1 hkb
  have h12 : (E.n.op != 11) = true := (and2 h4).1
  have ga := fun b => Contains_int b ka.l 4 hla
  rw [show (ka.l.any fun y => 4 == y) = true from (and2 h4).2] at ga
  exact ⟨_, by simp [f_prop_laid_takes, b_prop_laid_takes, hi, LNX.a, hp, hbs, c1, c2, z1, z2, z3, z4, z5, z6, z7, z8, z9, hd', l_prop_laid_takes_0, rounds_go0, roundEnd, freezeObj, hB, wr1, wr2, y0, y1, hga, hla0, hgb, hlb0, h12, ga]; rfl⟩
theorem takes2_four1 (E : TkE) (p q : Nat) (h : Tk E 2 [p, q]) (hA : E.n.l = (p : Int) ∧ E.n.r = (q : Int)) (ka : SlX Int) (hka : E.kinds[p]? = some ka) (hla : ka.l.length ≤ most) (kb : SlX Int) (hkb : E.kinds[q]? = some kb) (hlb : kb.l.length ≤ most) (h4 : ((E.n.op != 11) && sum4 ka.l) = false) (h5 : ((E.n.op != 11) && sum4 kb.l) = true) : ∃ σ', E.call = some (.bool false, σ') := by
  unfold TkE.call
  rw [acall_keep c_prop_laid_takes rfl]
  obtain ⟨hp, hbs, z1, z2, z3, z4, z5, z7, z8, z9, hd', zw, z6, y0, y1⟩ := tk2 h
  have hi := h.hi
  have hB := h.hB
  simp only [LNX.a] at hbs
  have c1 : ((p : Int) == E.n.l) = true := by simp [hA.1]
  have c2 : ((q : Int) == E.n.r) = true := by simp [hA.2]
  obtain ⟨hla0, hga⟩ := List.getElem?_eq_some_iff.1 hka
  obtain ⟨hlb0, hgb⟩ := List.getElem?_eq_some_iff.1 hkb
  have h12 : (E.n.op != 11) = true := (and2 h5).1
  have ga := fun b => Contains_int b ka.l 4 hla
  rw [show (ka.l.any fun y => 4 == y) = false by rw [h12] at h4; exact h4] at ga
  have gb := fun b => Contains_int b kb.l 4 hlb
  rw [show (kb.l.any fun y => 4 == y) = true from (and2 h5).2] at gb
  exact ⟨_, by simp [f_prop_laid_takes, b_prop_laid_takes, hi, LNX.a, hp, hbs, c1, c2, z1, z2, z3, z4, z5, z6, z7, z8, z9, hd', l_prop_laid_takes_0, rounds_go0, roundEnd, freezeObj, hB, wr1, wr2, y0, y1, hga, hla0, hgb, hlb0, h12, ga, gb]; rfl⟩
end Go.AM
end
section

namespace Go.AM
open P
set_option maxHeartbeats 16000000
set_option maxRecDepth 8000
attribute [local simp] condRun_if when_if
theorem takes0_wide (E : TkE) (h : Tk E 0 []) (hA : E.n.l = -1 ∧ E.n.r = -1) (hc : RootFine E) (r : AVal) (bf : Bool) (res : List Int) (X : Store) (hR : ResOk X r bf res)
    (hask : acallV code E.ask [.ptr 0 0 0 0] (E.st .nil0 .nil0 E.r0 (-1) (-1)) = some (.bool true, E.st .nil0 .nil0 r (-1) (-1) ++ X)) (hw : 16 < res.length) : ∃ σ', E.call = some (.bool false, σ') := by
  unfold TkE.call
  rw [acall_keep c_prop_laid_takes rfl]
  obtain ⟨hp, hbs, z1, z2, z3, z4, z5, z7, z8, z9, hd', zw, z6⟩ := tk0 h
  have hi := h.hi
  have hB := h.hB
  simp only [LNX.a] at hbs
  have c1 : ((-1) == E.n.l) = true := by simp [hA.1]
  have c2 : ((-1) == E.n.r) = true := by simp [hA.2]
  have hw' : (16 : Int) < (res.length : Int) := by omega
  rcases hc with ⟨q1, q2, q3⟩ | ⟨q1, q2, q3⟩ | ⟨q1, q2, q3⟩ <;> exact ⟨_, by simp [f_prop_laid_takes, b_prop_laid_takes, hi, LNX.a, hp, hbs, c1, c2, z1, z2, z3, z4, z5, z6, z7, z8, z9, hd', zw, l_prop_laid_takes_0, rounds_go0, roundEnd, freezeObj, hB, wr1, wr2, q1, q2, q3, hask, hw', -alen, alen_imm, alen_lst, alen_nil0, alen_sl, hR.len, hR.nc, hR.ag]; rfl⟩
theorem takes0_yes (E : TkE) (h : Tk E 0 []) (hkn : E.kinds.length + 1 ≤ most) (hol2 : E.opn.length + 1 ≤ most) (hA : E.n.l = -1 ∧ E.n.r = -1) (hc : RootFine E) (r : AVal) (bf : Bool) (res : List Int) (X : Store) (hR : ResOk X r bf res)
    (hask : acallV code E.ask [.ptr 0 0 0 0] (E.st .nil0 .nil0 E.r0 (-1) (-1)) = some (.bool true, E.st .nil0 .nil0 r (-1) (-1) ++ X)) (hw : res.length ≤ 16) :
    E.call = some (.bool true, laidX E.bn E.nodes (E.ep1 + 1) (E.kinds.length + 1) (E.ep2 + 1) (E.opn.length - 0 + 1) E.n .nil0 .nil0 r :: .arr 1 (E.ep1 + 1) (E.kinds.map (SlX.c (.int .i64)) ++ [r]) :: .arr 1 (E.ep2 + 1) (natsI (E.opn.take (E.opn.length - 0)) ++ [.int .i64 E.i]) :: E.B :: grpO E.n :: atO (-1) (-1) :: X) := by
  unfold TkE.call
  rw [acall_keep c_prop_laid_takes rfl]
  obtain ⟨hp, hbs, z1, z2, z3, z4, z5, z7, z8, z9, hd', zw, z6⟩ := tk0 h
  have hi := h.hi
  have hB := h.hB
  simp only [LNX.a] at hbs
  have c1 : ((-1) == E.n.l) = true := by simp [hA.1]
  have c2 : ((-1) == E.n.r) = true := by simp [hA.2]
  have hw' : ¬ ((16 : Int) < (res.length : Int)) := by omega
  have hm2 : E.opn.length - 0 + 1 ≤ most := by omega
  have hol := h.hol
  rcases hc with ⟨q1, q2, q3⟩ | ⟨q1, q2, q3⟩ | ⟨q1, q2, q3⟩ <;> simp [f_prop_laid_takes, b_prop_laid_takes, hi, LNX.a, hp, hbs, c1, c2, z1, z2, z3, z4, z5, z6, z7, z8, z9, hd', zw, l_prop_laid_takes_0, rounds_go0, roundEnd, freezeObj, hB, wr1, wr2, q1, q2, q3, hask, hw', -alen, alen_imm, alen_lst, alen_nil0, alen_sl, hR.len, hR.nc, hR.ag, append, hkn, hm2, hol, hol2]
theorem takes1_wide (E : TkE) (p : Nat) (h : Tk E 1 [p]) (hA : E.n.l = (p : Int) ∧ E.n.r = -1) (ka : SlX Int) (hka : E.kinds[p]? = some ka) (hla : ka.l.length ≤ most) (h4 : ((E.n.op != 11) && sum4 ka.l) = false) (hc : RootFine E) (r : AVal) (bf : Bool) (res : List Int) (X : Store) (hR : ResOk X r bf res)
    (hask : acallV code E.ask [.ptr 0 0 0 0] (E.st (.imm ka.b (intsA ka.l)) .nil0 E.r0 (p : Int) (-1)) = some (.bool true, E.st (.imm ka.b (intsA ka.l)) .nil0 r (p : Int) (-1) ++ X)) (hw : 16 < res.length) : ∃ σ', E.call = some (.bool false, σ') := by
  unfold TkE.call
  rw [acall_keep c_prop_laid_takes rfl]
  obtain ⟨hp, hbs, z1, z2, z3, z4, z5, z7, z8, z9, hd', zw, z6, y0⟩ := tk1 h
  have hi := h.hi
  have hB := h.hB
  simp only [LNX.a] at hbs
  have c1 : ((p : Int) == E.n.l) = true := by simp [hA.1]
  have c2 : ((-1) == E.n.r) = true := by simp [hA.2]
  obtain ⟨hla0, hga⟩ := List.getElem?_eq_some_iff.1 hka
  have ga : (E.n.op != 11) = true → ∀ b, pcall I.slices_Contains_int_int [.imm b (intsA ka.l), .int .i64 4] = some (.bool false) := fun e b => by
    have := Contains_int b ka.l 4 hla
    rwa [show (ka.l.any fun y => 4 == y) = false by rw [e] at h4; exact h4] at this
  have hw' : (16 : Int) < (res.length : Int) := by omega
  rcases hc with ⟨q1, q2, q3⟩ | ⟨q1, q2, q3⟩ | ⟨q1, q2, q3⟩ <;> cases h12 : (E.n.op != 11) <;> first | (have ga := ga h12; exact ⟨_, by simp [f_prop_laid_takes, b_prop_laid_takes, hi, LNX.a, hp, hbs, c1, c2, z1, z2, z3, z4, z5, z6, z7, z8, z9, hd', zw, l_prop_laid_takes_0, rounds_go0, roundEnd, freezeObj, hB, wr1, wr2, y0, hga, hla0, q1, q2, q3, hask, hw', -alen, alen_imm, alen_lst, alen_nil0, alen_sl, hR.len, hR.nc, hR.ag, h12, ga]; rfl⟩) | exact ⟨_, by simp [f_prop_laid_takes, b_prop_laid_takes, hi, LNX.a, hp, hbs, c1, c2, z1, z2, z3, z4, z5, z6, z7, z8, z9, hd', zw, l_prop_laid_takes_0, rounds_go0, roundEnd, freezeObj, hB, wr1, wr2, y0, hga, hla0, q1, q2, q3, hask, hw', -alen, alen_imm, alen_lst, alen_nil0, alen_sl, hR.len, hR.nc, hR.ag, h12]; rfl⟩
theorem takes1_yes (E : TkE) (p : Nat) (h : Tk E 1 [p]) (hkn : E.kinds.length + 1 ≤ most) (hol2 : E.opn.length + 1 ≤ most) (hA : E.n.l = (p : Int) ∧ E.n.r = -1) (ka : SlX Int) (hka : E.kinds[p]? = some ka) (hla : ka.l.length ≤ most) (h4 : ((E.n.op != 11) && sum4 ka.l) = false) (hc : RootFine E) (r : AVal) (bf : Bool) (res : List Int) (X : Store) (hR : ResOk X r bf res)
    (hask : acallV code E.ask [.ptr 0 0 0 0] (E.st (.imm ka.b (intsA ka.l)) .nil0 E.r0 (p : Int) (-1)) = some (.bool true, E.st (.imm ka.b (intsA ka.l)) .nil0 r (p : Int) (-1) ++ X)) (hw : res.length ≤ 16) :
    E.call = some (.bool true, laidX E.bn E.nodes (E.ep1 + 1) (E.kinds.length + 1) (E.ep2 + 1) (E.opn.length - 1 + 1) E.n (.imm ka.b (intsA ka.l)) .nil0 r :: .arr 1 (E.ep1 + 1) (E.kinds.map (SlX.c (.int .i64)) ++ [r]) :: .arr 1 (E.ep2 + 1) (natsI (E.opn.take (E.opn.length - 1)) ++ [.int .i64 E.i]) :: E.B :: grpO E.n :: atO (p : Int) (-1) :: X) := by
  unfold TkE.call
  rw [acall_keep c_prop_laid_takes rfl]
  obtain ⟨hp, hbs, z1, z2, z3, z4, z5, z7, z8, z9, hd', zw, z6, y0⟩ := tk1 h
  have hi := h.hi
  have hB := h.hB
  simp only [LNX.a] at hbs
  have c1 : ((p : Int) == E.n.l) = true := by simp [hA.1]
  have c2 : ((-1) == E.n.r) = true := by simp [hA.2]
  obtain ⟨hla0, hga⟩ := List.getElem?_eq_some_iff.1 hka
  have ga : (E.n.op != 11) = true → ∀ b, pcall I.slices_Contains_int_int [.imm b (intsA ka.l), .int .i64 4] = some (.bool false) := fun e b => by
    have := Contains_int b ka.l 4 hla
    rwa [show (ka.l.any fun y => 4 == y) = false by rw [e] at h4; exact h4] at this
  have hw' : ¬ ((16 : Int) < (res.length : Int)) := by omega
  have hm2 : E.opn.length - 1 + 1 ≤ most := by omega
  have hol := h.hol
  rcases hc with ⟨q1, q2, q3⟩ | ⟨q1, q2, q3⟩ | ⟨q1, q2, q3⟩ <;> cases h12 : (E.n.op != 11) <;> first | (have ga := ga h12; simp [f_prop_laid_takes, b_prop_laid_takes, hi, LNX.a, hp, hbs, c1, c2, z1, z2, z3, z4, z5, z6, z7, z8, z9, hd', zw, l_prop_laid_takes_0, rounds_go0, roundEnd, freezeObj, hB, wr1, wr2, y0, hga, hla0, q1, q2, q3, hask, hw', -alen, alen_imm, alen_lst, alen_nil0, alen_sl, hR.len, hR.nc, hR.ag, append, hkn, hm2, hol, hol2, h12, ga]) | simp [f_prop_laid_takes, b_prop_laid_takes, hi, LNX.a, hp, hbs, c1, c2, z1, z2, z3, z4, z5, z6, z7, z8, z9, hd', zw, l_prop_laid_takes_0, rounds_go0, roundEnd, freezeObj, hB, wr1, wr2, y0, hga, hla0, q1, q2, q3, hask, hw', -alen, alen_imm, alen_lst, alen_nil0, alen_sl, hR.len, hR.nc, hR.ag, append, hkn, hm2, hol, hol2, h12]
theorem takes2_wide (E : TkE) (p q : Nat) (h : Tk E 2 [p, q]) (hA : E.n.l = (p : Int) ∧ E.n.r = (q : Int)) (ka : SlX Int) (hka : E.kinds[p]? = some ka) (hla : ka.l.length ≤ most) (kb : SlX Int) (hkb : E.kinds[q]? = some kb) (hlb : kb.l.length ≤ most) (h4 : ((E.n.op != 11) && sum4 ka.l) = false) (h5 : ((E.n.op != 11) && sum4 kb.l) = false) (hc : RootFine E) (r : AVal) (bf : Bool) (res : List Int) (X : Store) (hR : ResOk X r bf res)
    (hask : acallV code E.ask [.ptr 0 0 0 0] (E.st (.imm ka.b (intsA ka.l)) (.imm kb.b (intsA kb.l)) E.r0 (p : Int) (q : Int)) = some (.bool true, E.st (.imm ka.b (intsA ka.l)) (.imm kb.b (intsA kb.l)) r (p : Int) (q : Int) ++ X)) (hw : 16 < res.length) : ∃ σ', E.call = some (.bool false, σ') := by
  unfold TkE.call
  rw [acall_keep c_prop_laid_takes rfl]
  obtain ⟨hp, hbs, z1, z2, z3, z4, z5, z7, z8, z9, hd', zw, z6, y0, y1⟩ := tk2 h
  have hi := h.hi
  have hB := h.hB
  simp only [LNX.a] at hbs
  have c1 : ((p : Int) == E.n.l) = true := by simp [hA.1]
  have c2 : ((q : Int) == E.n.r) = true := by simp [hA.2]
  obtain ⟨hla0, hga⟩ := List.getElem?_eq_some_iff.1 hka
  obtain ⟨hlb0, hgb⟩ := List.getElem?_eq_some_iff.1 hkb
  have ga : (E.n.op != 11) = true → ∀ b, pcall I.slices_Contains_int_int [.imm b (intsA ka.l), .int .i64 4] = some (.bool false) := fun e b => by
    have := Contains_int b ka.l 4 hla
    rwa [show (ka.l.any fun y => 4 == y) = false by rw [e] at h4; exact h4] at this
  have gb : (E.n.op != 11) = true → ∀ b, pcall I.slices_Contains_int_int [.imm b (intsA kb.l), .int .i64 4] = some (.bool false) := fun e b => by
    have := Contains_int b kb.l 4 hlb
    rwa [show (kb.l.any fun y => 4 == y) = false by rw [e] at h5; exact h5] at this
  have hw' : (16 : Int) < (res.length : Int) := by omega
  rcases hc with ⟨q1, q2, q3⟩ | ⟨q1, q2, q3⟩ | ⟨q1, q2, q3⟩ <;> cases h12 : (E.n.op != 11) <;> first | (have ga := ga h12; have gb := gb h12; exact ⟨_, by simp [f_prop_laid_takes, b_prop_laid_takes, hi, LNX.a, hp, hbs, c1, c2, z1, z2, z3, z4, z5, z6, z7, z8, z9, hd', zw, l_prop_laid_takes_0, rounds_go0, roundEnd, freezeObj, hB, wr1, wr2, y0, y1, hga, hla0, hgb, hlb0, q1, q2, q3, hask, hw', -alen, alen_imm, alen_lst, alen_nil0, alen_sl, hR.len, hR.nc, hR.ag, h12, ga, gb]; rfl⟩) | exact ⟨_, by simp [f_prop_laid_takes, b_prop_laid_takes, hi, LNX.a, hp, hbs, c1, c2, z1, z2, z3, z4, z5, z6, z7, z8, z9, hd', zw, l_prop_laid_takes_0, rounds_go0, roundEnd, freezeObj, hB, wr1, wr2, y0, y1, hga, hla0, hgb, hlb0, q1, q2, q3, hask, hw', -alen, alen_imm, alen_lst, alen_nil0, alen_sl, hR.len, hR.nc, hR.ag, h12]; rfl⟩
theorem takes2_yes (E : TkE) (p q : Nat) (h : Tk E 2 [p, q]) (hkn : E.kinds.length + 1 ≤ most) (hol2 : E.opn.length + 1 ≤ most) (hA : E.n.l = (p : Int) ∧ E.n.r = (q : Int)) (ka : SlX Int) (hka : E.kinds[p]? = some ka) (hla : ka.l.length ≤ most) (kb : SlX Int) (hkb : E.kinds[q]? = some kb) (hlb : kb.l.length ≤ most) (h4 : ((E.n.op != 11) && sum4 ka.l) = false) (h5 : ((E.n.op != 11) && sum4 kb.l) = false) (hc : RootFine E) (r : AVal) (bf : Bool) (res : List Int) (X : Store) (hR : ResOk X r bf res)
    (hask : acallV code E.ask [.ptr 0 0 0 0] (E.st (.imm ka.b (intsA ka.l)) (.imm kb.b (intsA kb.l)) E.r0 (p : Int) (q : Int)) = some (.bool true, E.st (.imm ka.b (intsA ka.l)) (.imm kb.b (intsA kb.l)) r (p : Int) (q : Int) ++ X)) (hw : res.length ≤ 16) :
    E.call = some (.bool true, laidX E.bn E.nodes (E.ep1 + 1) (E.kinds.length + 1) (E.ep2 + 1) (E.opn.length - 2 + 1) E.n (.imm ka.b (intsA ka.l)) (.imm kb.b (intsA kb.l)) r :: .arr 1 (E.ep1 + 1) (E.kinds.map (SlX.c (.int .i64)) ++ [r]) :: .arr 1 (E.ep2 + 1) (natsI (E.opn.take (E.opn.length - 2)) ++ [.int .i64 E.i]) :: E.B :: grpO E.n :: atO (p : Int) (q : Int) :: X) := by
  unfold TkE.call
  rw [acall_keep c_prop_laid_takes rfl]
  obtain ⟨hp, hbs, z1, z2, z3, z4, z5, z7, z8, z9, hd', zw, z6, y0, y1⟩ := tk2 h
  have hi := h.hi
  have hB := h.hB
  simp only [LNX.a] at hbs
  have c1 : ((p : Int) == E.n.l) = true := by simp [hA.1]
  have c2 : ((q : Int) == E.n.r) = true := by simp [hA.2]
  obtain ⟨hla0, hga⟩ := List.getElem?_eq_some_iff.1 hka
  obtain ⟨hlb0, hgb⟩ := List.getElem?_eq_some_iff.1 hkb
  have ga : (E.n.op != 11) = true → ∀ b, pcall I.slices_Contains_int_int [.imm b (intsA ka.l), .int .i64 4] = some (.bool false) := fun e b => by
    have := Contains_int b ka.l 4 hla
    rwa [show (ka.l.any fun y => 4 == y) = false by rw [e] at h4; exact h4] at this
  have gb : (E.n.op != 11) = true → ∀ b, pcall I.slices_Contains_int_int [.imm b (intsA kb.l), .int .i64 4] = some (.bool false) := fun e b => by
    have := Contains_int b kb.l 4 hlb
    rwa [show (kb.l.any fun y => 4 == y) = false by rw [e] at h5; exact h5] at this
  have hw' : ¬ ((16 : Int) < (res.length : Int)) := by omega
  have hm2 : E.opn.length - 2 + 1 ≤ most := by omega
  have hol := h.hol
  rcases hc with ⟨q1, q2, q3⟩ | ⟨q1, q2, q3⟩ | ⟨q1, q2, q3⟩ <;> cases h12 : (E.n.op != 11) <;> first | (have ga := ga h12; have gb := gb h12; simp [f_prop_laid_takes, b_prop_laid_takes, hi, LNX.a, hp, hbs, c1, c2, z1, z2, z3, z4, z5, z6, z7, z8, z9, hd', zw, l_prop_laid_takes_0, rounds_go0, roundEnd, freezeObj, hB, wr1, wr2, y0, y1, hga, hla0, hgb, hlb0, q1, q2, q3, hask, hw', -alen, alen_imm, alen_lst, alen_nil0, alen_sl, hR.len, hR.nc, hR.ag, append, hkn, hm2, hol, hol2, h12, ga, gb]) | simp [f_prop_laid_takes, b_prop_laid_takes, hi, LNX.a, hp, hbs, c1, c2, z1, z2, z3, z4, z5, z6, z7, z8, z9, hd', zw, l_prop_laid_takes_0, rounds_go0, roundEnd, freezeObj, hB, wr1, wr2, y0, y1, hga, hla0, hgb, hlb0, q1, q2, q3, hask, hw', -alen, alen_imm, alen_lst, alen_nil0, alen_sl, hR.len, hR.nc, hR.ag, append, hkn, hm2, hol, hol2, h12]
end Go.AM
end
section

namespace Go.AM
open P
set_option maxHeartbeats 8000000
set_option maxRecDepth 8000
attribute [local simp] condRun_if when_if
abbrev m32 : Nat := 4294967296
structure NFit (n : LNX) : Prop where
  kinds : n.kinds.length ≤ m32
  cond : n.cond.length ≤ m32
  keys : n.keys.length ≤ m32
  aggs : n.aggs.length ≤ m32
  args : ∀ g ∈ n.aggs, g.arg.length ≤ m32
  items : n.items.length ≤ m32
  exprs : ∀ e ∈ n.items, e.l.length ≤ m32
  ords : n.ords.length ≤ m32
def opF (nodes : List LNX) (n : LNX) : List (SlX Int) → Option (SlX Int)
  | [] => if n.op = 1 then (if scanF n then some ⟨n.bk, n.kinds⟩ else none) else if n.op = 9 then (if inputF n then some ⟨n.bk, n.kinds⟩ else none) else none
  | [a] =>
    if n.op = 3 then (if truthF n.cond a.l then some a else none)
    else if n.op = 4 then ((keysF a.l n.keys).bind fun ks => if aggsOk n a.l then some ⟨false, ks ++ n.aggs.map fun g => (aggK a.l g).2⟩ else none)
    else if n.op = 5 then ((itemsF a.l n.items).bind fun ks => if 0 < ks.length then some ⟨false, ks⟩ else none)
    else if n.op = 6 then some a
    else if n.op = 8 then (if sortF n a.l then some a else none)
    else if n.op = 10 then ((keysF a.l n.keys).bind fun ks => if aggsOk n a.l then some ⟨false, ks ++ n.aggs.map (partK a.l)⟩ else none)
    else if n.op = 11 then (nodes[n.l.toNat]?).bind fun m => if finHead n m a.l && (finKeys a.l 0 n.keys && finAggs a.l n.keys.length n.aggs) then some ⟨false, finSet n.keys.length n.aggs a.l⟩ else none
    else none
  | [a, b] =>
    if n.op = 2 then (if truthF n.cond (a.l ++ b.l) then some ⟨false, a.l ++ b.l⟩ else none)
    else if n.op = 7 then (if a.l.length = b.l.length then (unionF a.l b.l).map fun ks => ⟨false, ks⟩ else none)
    else none
  | _ => none
def askF (op : Int) : AVal :=
  if op = 1 then .fn 177 [] [] else if op = 9 then .fn 178 [] [] else if op = 2 then .fn 179 [] [] else if op = 3 then .fn 180 [] [] else if op = 4 then .fn 181 [] [] else if op = 10 then .fn 182 [] [] else if op = 11 then .fn 183 [] [] else
  if op = 5 then .fn 184 [] [] else if op = 6 then .fn 185 [] [] else if op = 7 then .fn 186 [] [] else if op = 8 then .fn 187 [] [] else .nilf
def AskIs (ask : AVal) (L : AVal → Obj) (r0 : AVal) (τ : Store) (o : Option (SlX Int)) : Prop :=
  match o with
  | none => ∃ σ1, acallV code ask [.ptr 0 0 0 0] (L r0 :: τ) = some (.bool false, σ1)
  | some s => ∃ r X, acallV code ask [.ptr 0 0 0 0] (L r0 :: τ) = some (.bool true, L r :: τ ++ X) ∧ ResOk X r s.b s.l
theorem askIs_if {ask : AVal} {L : AVal → Obj} {r0 : AVal} {τ : Store} {t : Bool} {s : SlX Int} {r : AVal} {X : Store}
    (h : acallV code ask [.ptr 0 0 0 0] (L r0 :: τ) = some (.bool t, L r :: τ ++ X)) (hr : ResOk X r s.b s.l) : AskIs ask L r0 τ (if t then some s else none) := by
  cases t with
  | true => exact ⟨r, X, h, hr⟩
  | false => exact ⟨_, h⟩
theorem ask0 (bn : Bool) (nodes : List LNX) (ep1 m1 ep2 m2 : Nat) (n : LNX) (a b r0 : AVal) (τ : Store) (hn : NFit n) (hop : partsF n.op = 0) :
    AskIs (askF n.op) (laidX bn nodes ep1 m1 ep2 m2 n a b) r0 τ (opF nodes n []) := by
  have hk : n.kinds.length ≤ most := Nat.le_trans hn.kinds (by decide)
  by_cases h1 : n.op = 1
  · have hs := scan_spec (.imm bn (nodes.map LNX.a)) (.sl 1 ep1 0 m1) (.sl 2 ep2 0 m2) n a b r0 τ hk
    have h := askIs_if (ask := askF n.op) (L := laidX bn nodes ep1 m1 ep2 m2 n a b) (r0 := r0) (τ := τ) (X := []) (s := ⟨n.bk, n.kinds⟩) (t := scanF n) (by rw [List.append_nil, show askF n.op = .fn 177 [] [] by simp [askF, h1]]; simpa using hs) (res_imm [] _ _)
    simpa [opF, h1] using h
  · by_cases h2 : n.op = 9
    · have hs := input_spec (.imm bn (nodes.map LNX.a)) (.sl 1 ep1 0 m1) (.sl 2 ep2 0 m2) n a b r0 τ hk
      have h := askIs_if (ask := askF n.op) (L := laidX bn nodes ep1 m1 ep2 m2 n a b) (r0 := r0) (τ := τ) (X := []) (s := ⟨n.bk, n.kinds⟩) (t := inputF n) (by rw [List.append_nil, show askF n.op = .fn 178 [] [] by simp [askF, h2]]; simpa using hs) (res_imm [] _ _)
      simpa [opF, h2] using h
    · exfalso
      unfold partsF at hop
      rw [if_neg (by omega)] at hop
      repeat' (split at hop <;> try omega)
theorem partsF_one {op : Int} (h : partsF op = 1) : op = 3 ∨ op = 4 ∨ op = 5 ∨ op = 6 ∨ op = 8 ∨ op = 10 ∨ op = 11 := by
  unfold partsF at h
  split at h
  · omega
  · split at h
    · omega
    · split at h
      · omega
      · omega
theorem partsF_two {op : Int} (h : partsF op = 2) : op = 2 ∨ op = 7 := by
  unfold partsF at h
  split at h
  · omega
  · split at h
    · omega
    · split at h <;> omega
theorem ask1 (bn : Bool) (nodes : List LNX) (ep1 m1 ep2 m2 : Nat) (n : LNX) (a : SlX Int) (r0 : AVal) (τ : Store) (hτ : Fzs τ) (hl : τ.length = 5) (hn : NFit n) (hop : partsF n.op = 1) (hL : n.op = 11 → 0 ≤ n.l ∧ n.l.toNat < nodes.length) (ha : a.l.length ≤ m32) :
    AskIs (askF n.op) (laidX bn nodes ep1 m1 ep2 m2 n (.imm a.b (intsA a.l)) .nil0) r0 τ (opF nodes n [a]) := by
  have hm : m32 ≤ most := by decide
  have hmm : m32 + m32 ≤ most := by decide
  have ha' := Nat.le_trans ha hm
  have hkg : n.keys.length + n.aggs.length ≤ most := Nat.le_trans (Nat.add_le_add hn.keys hn.aggs) hmm
  have hl2 : 2 ≤ τ.length := by omega
  rcases partsF_one hop with h | h | h | h | h | h | h
  · have hs := filter_spec (.imm bn (nodes.map LNX.a)) (.sl 1 ep1 0 m1) (.sl 2 ep2 0 m2) n a.b a.l .nil0 r0 τ (Nat.le_trans hn.cond hm) ha'
    have := askIs_if (ask := askF n.op) (L := laidX bn nodes ep1 m1 ep2 m2 n (.imm a.b (intsA a.l)) .nil0) (r0 := r0) (τ := τ) (X := []) (s := a) (t := truthF n.cond a.l) (by rw [List.append_nil, show askF n.op = .fn 180 [] [] by simp [askF, h]]; simpa using hs) (res_imm [] _ _)
    simpa [opF, h] using this
  · have hs := group_spec bn nodes ep1 m1 ep2 m2 n a.b a.l r0 τ hτ hl2 (Nat.le_trans hn.keys hm) (Nat.le_trans hn.aggs hm) hkg (fun g hg => Nat.le_trans (hn.args g hg) hm) ha'
    cases hq : keysF a.l n.keys with
    | none =>
      rw [hq] at hs
      have e : opF nodes n [a] = none := by simp [opF, h, hq]
      rw [e]
      exact (show askF n.op = .fn 181 [] [] by simp [askF, h]) ▸ hs
    | some ks =>
      rw [hq] at hs
      have hlen := keysF_len hq
      have e : opF nodes n [a] = if aggsOk n a.l then some ⟨false, ks ++ n.aggs.map fun g => (aggK a.l g).2⟩ else none := by simp [opF, h, hq]
      rw [e]
      have hr := res_sl7 (n.keys.length + n.aggs.length) (ks ++ n.aggs.map fun g => (aggK a.l g).2) (grpO n) []
      rw [show (ks ++ n.aggs.map fun g => (aggK a.l g).2).length = n.keys.length + n.aggs.length by simp [hlen]] at hr
      rw [hl] at hs
      exact askIs_if (by rw [show askF n.op = .fn 181 [] [] by simp [askF, h]]; exact hs) hr
  · have hs := project_spec bn nodes ep1 m1 ep2 m2 n a.b a.l r0 τ hτ hl2 (Nat.le_trans hn.items hm) (fun e he => Nat.le_trans (hn.exprs e he) hm) ha'
    cases hq : itemsF a.l n.items with
    | none =>
      rw [hq] at hs
      have e : opF nodes n [a] = none := by simp [opF, h, hq]
      rw [e]
      exact (show askF n.op = .fn 184 [] [] by simp [askF, h]) ▸ hs
    | some ks =>
      rw [hq] at hs
      have e : opF nodes n [a] = if decide (0 < ks.length) then some ⟨false, ks⟩ else none := by simp [opF, h, hq]
      rw [e]
      rw [hl] at hs
      exact askIs_if (by rw [show askF n.op = .fn 184 [] [] by simp [askF, h]]; exact hs) (res_sl6 n.items.length ks [])
  · have hs := keeps_spec (.imm bn (nodes.map LNX.a)) (.sl 1 ep1 0 m1) (.sl 2 ep2 0 m2) n a.b a.l .nil0 r0 τ
    have := askIs_if (ask := askF n.op) (L := laidX bn nodes ep1 m1 ep2 m2 n (.imm a.b (intsA a.l)) .nil0) (r0 := r0) (τ := τ) (X := []) (s := a) (t := true) (by rw [List.append_nil, show askF n.op = .fn 185 [] [] by simp [askF, h]]; simpa using hs) (res_imm [] _ _)
    simpa [opF, h] using this
  · obtain ⟨X, hs⟩ := lsort_spec (.imm bn (nodes.map LNX.a)) (.sl 1 ep1 0 m1) (.sl 2 ep2 0 m2) n a.b a.l .nil0 r0 τ (Nat.le_trans hn.ords hm)
    have := askIs_if (ask := askF n.op) (L := laidX bn nodes ep1 m1 ep2 m2 n (.imm a.b (intsA a.l)) .nil0) (r0 := r0) (τ := τ) (X := [X]) (s := a) (t := sortF n a.l) (by rw [show askF n.op = .fn 187 [] [] by simp [askF, h]]; simpa using hs) (res_imm [X] _ _)
    simpa [opF, h] using this
  · have hs := partial_spec bn nodes ep1 m1 ep2 m2 n a.b a.l r0 τ hτ hl2 (Nat.le_trans hn.keys hm) (Nat.le_trans hn.aggs hm) hkg (fun g hg => Nat.le_trans (hn.args g hg) hm) ha'
    have ef : askF n.op = .fn 182 [] [] := by simp [askF, h]
    rw [ef]
    cases hq : keysF a.l n.keys with
    | none =>
      rw [hq] at hs
      have e : opF nodes n [a] = none := by simp [opF, h, hq]
      rw [e]
      exact hs
    | some ks =>
      rw [hq] at hs
      have hlen := keysF_len hq
      have e : opF nodes n [a] = if aggsOk n a.l then some ⟨false, ks ++ n.aggs.map (partK a.l)⟩ else none := by simp [opF, h, hq]
      rw [e]
      cases hg : aggsOk n a.l with
      | false =>
        rw [hg] at hs
        exact hs
      | true =>
        rw [hg] at hs
        have hr := res_sl7 (n.keys.length + n.aggs.length) (ks ++ n.aggs.map (partK a.l)) (grpO n) []
        rw [show (ks ++ n.aggs.map (partK a.l)).length = n.keys.length + n.aggs.length by simp [hlen]] at hr
        rw [hl] at hs
        exact ⟨_, _, hs, hr⟩
  · obtain ⟨h0, h1⟩ := hL h
    have hmm : nodes[n.l.toNat]? = some nodes[n.l.toNat] := List.getElem?_eq_getElem h1
    have ef : askF n.op = .fn 183 [] [] := by simp [askF, h]
    have e : opF nodes n [a] = if finHead n nodes[n.l.toNat] a.l && (finKeys a.l 0 n.keys && finAggs a.l n.keys.length n.aggs) then some ⟨false, finSet n.keys.length n.aggs a.l⟩ else none := by simp [opF, h, hmm]
    rw [e, ef]
    cases hh : finHead n nodes[n.l.toNat] a.l with
    | false =>
      exact final_bad bn nodes ep1 m1 ep2 m2 n _ a.b a.l r0 τ h0 hmm hkg hh
    | true =>
      have hs := final_spec bn nodes ep1 m1 ep2 m2 n _ a.b a.l r0 τ hτ hl2 h0 hmm hkg ha' hh
      rw [hl] at hs
      have hr := res_sl7 0 (finSet n.keys.length n.aggs a.l) (grpO n) []
      rw [finSet_len] at hr
      rw [Bool.true_and]
      exact askIs_if hs hr
theorem ask2 (bn : Bool) (nodes : List LNX) (ep1 m1 ep2 m2 : Nat) (n : LNX) (a b : SlX Int) (r0 : AVal) (τ : Store) (hτ : Fzs τ) (hl : τ.length = 5) (hn : NFit n) (hop : partsF n.op = 2) (ha : a.l.length ≤ m32) (hb : b.l.length ≤ m32) :
    AskIs (askF n.op) (laidX bn nodes ep1 m1 ep2 m2 n (.imm a.b (intsA a.l)) (.imm b.b (intsA b.l))) r0 τ (opF nodes n [a, b]) := by
  have hm : m32 ≤ most := by decide
  have hmm : m32 + m32 ≤ most := by decide
  rcases partsF_two hop with h | h
  · have hs := join_spec (.imm bn (nodes.map LNX.a)) (.sl 1 ep1 0 m1) (.sl 2 ep2 0 m2) n a.b b.b a.l b.l r0 τ (Nat.le_trans hn.cond hm) (Nat.le_trans (Nat.add_le_add ha hb) hmm)
    have := askIs_if (ask := askF n.op) (L := laidX bn nodes ep1 m1 ep2 m2 n (.imm a.b (intsA a.l)) (.imm b.b (intsA b.l))) (r0 := r0) (τ := τ) (X := []) (s := ⟨false, a.l ++ b.l⟩) (t := truthF n.cond (a.l ++ b.l)) (by rw [List.append_nil, show askF n.op = .fn 179 [] [] by simp [askF, h]]; simpa using hs) (res_imm [] _ _)
    simpa [opF, h] using this
  · have ef : askF n.op = .fn 186 [] [] := by simp [askF, h]
    rw [ef]
    by_cases hlen : a.l.length = b.l.length
    · have hs := union_spec bn nodes ep1 m1 ep2 m2 n a.b b.b a.l b.l r0 τ hτ (by omega) (Nat.le_trans ha hm) hlen
      have e : opF nodes n [a, b] = (unionF a.l b.l).map fun ks => ⟨false, ks⟩ := by simp [opF, h, hlen]
      rw [e]
      cases hq : unionF a.l b.l with
      | none => rw [hq] at hs; exact hs
      | some ks =>
        rw [hq] at hs
        rw [hl] at hs
        exact ⟨_, _, hs, res_sl6 a.l.length ks []⟩
    · have e : opF nodes n [a, b] = none := by simp [opF, h, hlen]
      rw [e]
      exact union_bad bn nodes ep1 m1 ep2 m2 n a.b b.b a.l b.l r0 τ hlen
end Go.AM
end
section

namespace Go.AM
open P
set_option maxHeartbeats 8000000
set_option maxRecDepth 8000
def noSl : SlX Int := ⟨false, []⟩
def stepF (nodes : List LNX) (i : Nat) (n : LNX) (kinds : List (SlX Int)) (opn : List Nat) : Option (SlX Int × List Nat) :=
  match preF n opn with
  | none => none
  | some ps =>
    if (ps.any fun p => (n.op != 11) && sum4 (kinds.getD p noSl).l) = true ∨ rootOk n i nodes.length = false then none else
    match opF nodes n (ps.map fun p => kinds.getD p noSl) with
    | none => none
    | some res => if 16 < res.l.length then none else some (res, opn.take (opn.length - ps.length) ++ [i])
def slotA (kinds : List (SlX Int)) : List Nat → AVal
  | p :: _ => .imm (kinds.getD p noSl).b (intsA (kinds.getD p noSl).l)
  | [] => .nil0
def slotB (kinds : List (SlX Int)) : List Nat → AVal
  | [_, q] => .imm (kinds.getD q noSl).b (intsA (kinds.getD q noSl).l)
  | _ => .nil0
def TakesIs (bn : Bool) (nodes : List LNX) (ep1 ep2 : Nat) (kinds : List (SlX Int)) (opn : List Nat) (n : LNX) (B : Obj) (i : Nat) (call : Option (AVal × Store)) : Option (SlX Int × List Nat) → Prop
  | none => ∃ σ', call = some (.bool false, σ')
  | some (s, o') => ∃ ps r AT X, preF n opn = some ps ∧ call = some (.bool true,
      laidX bn nodes (ep1 + 1) (kinds.length + 1) (ep2 + 1) o'.length n (slotA kinds ps) (slotB kinds ps) r :: .arr 1 (ep1 + 1) (kinds.map (SlX.c (.int .i64)) ++ [r]) :: .arr 1 (ep2 + 1) (natsI o') :: B :: grpO n :: AT :: X) ∧ ResOk X r s.b s.l
theorem rootOk_cases (E : TkE) (hi : E.i < E.nodes.length) : (rootOk E.n E.i E.nodes.length = true ∧ RootFine E) ∨ (rootOk E.n E.i E.nodes.length = false ∧ RootBad E) := by
  have e : ((E.i : Int) != ((E.nodes.length : Int) - 1)) = (E.i != E.nodes.length - 1) := by
    rw [Bool.eq_iff_iff]
    simp only [bne_iff_ne, ne_eq]
    constructor <;> intro h <;> omega
  unfold RootFine RootBad rootOk
  rw [e]
  cases (E.n.op == 8) <;> cases (E.n.op == 10) <;> cases (E.i != E.nodes.length - 1) <;> simp
abbrev TkE.is (E : TkE) : Prop := TakesIs E.bn E.nodes E.ep1 E.ep2 E.kinds E.opn E.n E.B E.i E.call (stepF E.nodes E.i E.n E.kinds E.opn)
theorem step0 (E : TkE) (h : Tk E 0 []) (ha : E.ask = askF E.n.op) (hil : E.nodes.length ≤ m32) (hol : E.opn.length + 1 ≤ most) (hkl : E.kinds.length + 1 ≤ most) (hkn : E.kinds.length ≤ E.nodes.length)
    (hpre : preF E.n E.opn = if E.n.l = -1 ∧ E.n.r = -1 then some [] else none) (hk : ∀ s ∈ E.kinds, s.l.length ≤ m32) (hn : NFit E.n) : E.is := by
  have hm : m32 ≤ most := by decide
  have hlti := (List.getElem?_eq_some_iff.1 h.hi).1
  have hB := h.hB
  unfold TkE.is stepF
  by_cases hA : E.n.l = -1 ∧ E.n.r = -1
  · rw [if_pos hA] at hpre
    rw [hpre]
    simp only [List.map_cons, List.map_nil, List.any_cons, List.any_nil,  Bool.or_false]
    rcases rootOk_cases E hlti with ⟨hr, hc⟩ | ⟨hr, hc⟩
    · rw [if_neg (by simp [hr])]
      have hask := ask0 E.bn E.nodes E.ep1 E.kinds.length E.ep2 E.opn.length E.n .nil0 .nil0 E.r0 [.arr 1 E.ep1 (E.kinds.map (SlX.c (.int .i64))), .arr 1 E.ep2 (natsI E.opn), E.B, grpO E.n, atO (-1) (-1)] hn h.hop
      rw [← ha] at hask
      cases ho : opF E.nodes E.n [] with
      | none =>
        rw [ho] at hask
        obtain ⟨σ1, hask⟩ := hask
        exact takes0_no E h hA hc σ1 hask
      | some s =>
        rw [ho] at hask
        obtain ⟨r, X, hask, hR⟩ := hask
        by_cases hw : 16 < s.l.length
        · simp only [if_pos hw]
          exact takes0_wide E h hA hc r s.b s.l X hR hask hw
        · simp only [if_neg hw]
          refine ⟨[], r, atO (-1) (-1), X, hpre, ?_, hR⟩
          simp only [slotA, slotB,  List.length_append, List.length_take, List.length_cons, List.length_nil, List.map_append, natsI, List.map_cons, List.map_nil, Nat.zero_add, List.length_nil]
          rw [Nat.min_eq_left (Nat.sub_le _ _)]
          exact takes0_yes E h hkl hol hA hc r s.b s.l X hR hask (by omega)
    · rw [if_pos (.inr hr)]
      exact takes0_root E h hA hc
  · rw [if_neg hA] at hpre
    rw [hpre]
    exact takes0_bad E h hA
theorem step1 (E : TkE) (p : Nat) (h : Tk E 1 [p]) (ha : E.ask = askF E.n.op) (hil : E.nodes.length ≤ m32) (hol : E.opn.length + 1 ≤ most) (hkl : E.kinds.length + 1 ≤ most) (hkn : E.kinds.length ≤ E.nodes.length)
    (hpre : preF E.n E.opn = if E.n.l = (p : Int) ∧ E.n.r = -1 then some [p] else none) (hp : p < E.kinds.length) (hk : ∀ s ∈ E.kinds, s.l.length ≤ m32) (hn : NFit E.n) : E.is := by
  have hm : m32 ≤ most := by decide
  have hlti := (List.getElem?_eq_some_iff.1 h.hi).1
  have hB := h.hB
  unfold TkE.is stepF
  by_cases hA : E.n.l = (p : Int) ∧ E.n.r = -1
  · rw [if_pos hA] at hpre
    rw [hpre]
    obtain ⟨kp, hkp⟩ : ∃ s, E.kinds[p]? = some s := ⟨_, List.getElem?_eq_getElem hp⟩
    have ep : E.kinds.getD p noSl = kp := by rw [List.getD_eq_getElem?_getD, hkp]; rfl
    have lp := hk kp (List.mem_of_getElem? hkp)
    simp only [List.map_cons, List.map_nil, List.any_cons, List.any_nil, ep, Bool.or_false]
    rcases Bool.eq_false_or_eq_true ((E.n.op != 11) && sum4 kp.l) with fp | fp
    · rw [if_pos (.inl (by simp only [fp, Bool.true_or]))]
      exact takes1_four0 E p h hA kp hkp (Nat.le_trans lp hm) fp
    rcases rootOk_cases E hlti with ⟨hr, hc⟩ | ⟨hr, hc⟩
    · rw [if_neg (by simp [hr, fp])]
      have hask := ask1 E.bn E.nodes E.ep1 E.kinds.length E.ep2 E.opn.length E.n kp E.r0 [.arr 1 E.ep1 (E.kinds.map (SlX.c (.int .i64))), .arr 1 E.ep2 (natsI E.opn), E.B, grpO E.n, atO (p : Int) (-1)] (fun base σ => by rw [List.map_cons, List.map_cons, List.map_cons, hB]; simp [freezeObj]) rfl hn h.hop (fun _ => by rw [hA.1]; exact ⟨by omega, by simp; omega⟩) lp
      rw [← ha] at hask
      cases ho : opF E.nodes E.n [kp] with
      | none =>
        rw [ho] at hask
        obtain ⟨σ1, hask⟩ := hask
        exact takes1_no E p h hA kp hkp (Nat.le_trans lp hm) fp hc σ1 hask
      | some s =>
        rw [ho] at hask
        obtain ⟨r, X, hask, hR⟩ := hask
        by_cases hw : 16 < s.l.length
        · simp only [if_pos hw]
          exact takes1_wide E p h hA kp hkp (Nat.le_trans lp hm) fp hc r s.b s.l X hR hask hw
        · simp only [if_neg hw]
          refine ⟨[p], r, atO (p : Int) (-1), X, hpre, ?_, hR⟩
          simp only [slotA, slotB, ep, List.length_append, List.length_take, List.length_cons, List.length_nil, List.map_append, natsI, List.map_cons, List.map_nil, Nat.zero_add, Nat.reduceAdd]
          rw [Nat.min_eq_left (Nat.sub_le _ _)]
          exact takes1_yes E p h hkl hol hA kp hkp (Nat.le_trans lp hm) fp hc r s.b s.l X hR hask (by omega)
    · rw [if_pos (.inr hr)]
      exact takes1_root E p h hA kp hkp (Nat.le_trans lp hm) fp hc
  · rw [if_neg hA] at hpre
    rw [hpre]
    exact takes1_bad E p h hA
theorem step2 (E : TkE) (p q : Nat) (h : Tk E 2 [p, q]) (ha : E.ask = askF E.n.op) (hil : E.nodes.length ≤ m32) (hol : E.opn.length + 1 ≤ most) (hkl : E.kinds.length + 1 ≤ most) (hkn : E.kinds.length ≤ E.nodes.length)
    (hpre : preF E.n E.opn = if E.n.l = (p : Int) ∧ E.n.r = (q : Int) then some [p, q] else none) (hp : p < E.kinds.length) (hq : q < E.kinds.length) (hk : ∀ s ∈ E.kinds, s.l.length ≤ m32) (hn : NFit E.n) : E.is := by
  have hm : m32 ≤ most := by decide
  have hlti := (List.getElem?_eq_some_iff.1 h.hi).1
  have hB := h.hB
  unfold TkE.is stepF
  by_cases hA : E.n.l = (p : Int) ∧ E.n.r = (q : Int)
  · rw [if_pos hA] at hpre
    rw [hpre]
    obtain ⟨kp, hkp⟩ : ∃ s, E.kinds[p]? = some s := ⟨_, List.getElem?_eq_getElem hp⟩
    have ep : E.kinds.getD p noSl = kp := by rw [List.getD_eq_getElem?_getD, hkp]; rfl
    have lp := hk kp (List.mem_of_getElem? hkp)
    obtain ⟨kq, hkq⟩ : ∃ s, E.kinds[q]? = some s := ⟨_, List.getElem?_eq_getElem hq⟩
    have eq : E.kinds.getD q noSl = kq := by rw [List.getD_eq_getElem?_getD, hkq]; rfl
    have lq := hk kq (List.mem_of_getElem? hkq)
    simp only [List.map_cons, List.map_nil, List.any_cons, List.any_nil, ep, eq, Bool.or_false]
    rcases Bool.eq_false_or_eq_true ((E.n.op != 11) && sum4 kp.l) with fp | fp
    · rw [if_pos (.inl (by simp only [fp, Bool.true_or]))]
      exact takes2_four0 E p q h hA kp hkp (Nat.le_trans lp hm) kq hkq (Nat.le_trans lq hm) fp
    rcases Bool.eq_false_or_eq_true ((E.n.op != 11) && sum4 kq.l) with fq | fq
    · rw [if_pos (.inl (by simp only [fq, Bool.or_true]))]
      exact takes2_four1 E p q h hA kp hkp (Nat.le_trans lp hm) kq hkq (Nat.le_trans lq hm) fp fq
    rcases rootOk_cases E hlti with ⟨hr, hc⟩ | ⟨hr, hc⟩
    · rw [if_neg (by simp [hr, fp, fq])]
      have hask := ask2 E.bn E.nodes E.ep1 E.kinds.length E.ep2 E.opn.length E.n kp kq E.r0 [.arr 1 E.ep1 (E.kinds.map (SlX.c (.int .i64))), .arr 1 E.ep2 (natsI E.opn), E.B, grpO E.n, atO (p : Int) (q : Int)] (fun base σ => by rw [List.map_cons, List.map_cons, List.map_cons, hB]; simp [freezeObj]) rfl hn h.hop lp lq
      rw [← ha] at hask
      cases ho : opF E.nodes E.n [kp, kq] with
      | none =>
        rw [ho] at hask
        obtain ⟨σ1, hask⟩ := hask
        exact takes2_no E p q h hA kp hkp (Nat.le_trans lp hm) kq hkq (Nat.le_trans lq hm) fp fq hc σ1 hask
      | some s =>
        rw [ho] at hask
        obtain ⟨r, X, hask, hR⟩ := hask
        by_cases hw : 16 < s.l.length
        · simp only [if_pos hw]
          exact takes2_wide E p q h hA kp hkp (Nat.le_trans lp hm) kq hkq (Nat.le_trans lq hm) fp fq hc r s.b s.l X hR hask hw
        · simp only [if_neg hw]
          refine ⟨[p, q], r, atO (p : Int) (q : Int), X, hpre, ?_, hR⟩
          simp only [slotA, slotB, ep, eq, List.length_append, List.length_take, List.length_cons, List.length_nil, List.map_append, natsI, List.map_cons, List.map_nil, Nat.zero_add, Nat.reduceAdd]
          rw [Nat.min_eq_left (Nat.sub_le _ _)]
          exact takes2_yes E p q h hkl hol hA kp hkp (Nat.le_trans lp hm) kq hkq (Nat.le_trans lq hm) fp fq hc r s.b s.l X hR hask (by omega)
    · rw [if_pos (.inr hr)]
      exact takes2_root E p q h hA kp hkp (Nat.le_trans lp hm) kq hkq (Nat.le_trans lq hm) fp fq hc
  · rw [if_neg hA] at hpre
    rw [hpre]
    exact takes2_bad E p q h hA
theorem takes_spec (bn : Bool) (nodes : List LNX) (ep1 ep2 : Nat) (kinds : List (SlX Int)) (opn : List Nat) (n0 : Cells12) (n : LNX) (a0 b0 r0 : AVal) (B : Obj) (i : Nat) (hi : nodes[i]? = some n) (hil : nodes.length ≤ m32) (hol : opn.length + 1 ≤ most) (hkl : kinds.length + 1 ≤ most) (hkn : kinds.length ≤ nodes.length)
    (ho : ∀ p ∈ opn, p < kinds.length) (hk : ∀ s ∈ kinds, s.l.length ≤ m32) (hn : NFit n) (hB : ∀ base σ, freezeObj base σ B = B) :
    TakesIs bn nodes ep1 ep2 kinds opn n B i (acall code I.prop_laid_takes [.ptr 0 0 0 0, .int .i64 i, askF n.op] (stK bn nodes ep1 ep2 kinds opn n0 a0 b0 r0 B)) (stepF nodes i n kinds opn) := by
  have hm : m32 ≤ most := by decide
  by_cases hb : partsF n.op < 0 ∨ (opn.length : Int) < partsF n.op ∨ blankF n = false
  · have e : stepF nodes i n kinds opn = none := by
      unfold stepF preF
      rw [if_pos hb]
    rw [e]
    exact takes_bad0 bn nodes ep1 ep2 kinds opn n0 n a0 b0 r0 B _ i hi (Nat.le_trans hn.keys hm) (Nat.le_trans hn.aggs hm) hb
  · have hbl : blankF n = true := by
      cases h : blankF n with
      | true => rfl
      | false => exact absurd (.inr (.inr h)) hb
    have hpl := partsF_le n.op
    have hpre : preF n opn = match opn.drop (opn.length - (partsF n.op).toNat) with
      | [] => if n.l = -1 ∧ n.r = -1 then some [] else none
      | [p] => if n.l = p ∧ n.r = -1 then some [p] else none
      | [p, q] => if n.l = p ∧ n.r = q then some [p, q] else none
      | _ => none := by
      unfold preF
      exact if_neg hb
    have hmem : ∀ p ∈ opn.drop (opn.length - (partsF n.op).toNat), p < kinds.length := fun p hp => ho p (List.mem_of_mem_drop hp)
    have hlen : (opn.drop (opn.length - (partsF n.op).toNat)).length = (partsF n.op).toNat := by
      rw [List.length_drop]; omega
    have tk : ∀ (k : Nat) (ps : List Nat), partsF n.op = k → opn.drop (opn.length - k) = ps → Tk ⟨bn, nodes, ep1, ep2, kinds, opn, n0, a0, b0, r0, B, askF n.op, i, n⟩ k ps := fun k ps h1 h2 =>
      ⟨hi, Nat.le_trans hil hm, by show opn.length ≤ most; omega, Nat.le_trans hn.keys hm, Nat.le_trans hn.aggs hm, h1, by show k ≤ opn.length; omega, h2, hbl, hB⟩
    have h012 : partsF n.op = 0 ∨ partsF n.op = 1 ∨ partsF n.op = 2 := by omega
    rcases h012 with h | h | h
    · have e : (partsF n.op).toNat = 0 := by omega
      rw [e] at hpre hmem hlen
      generalize hd : opn.drop (opn.length - 0) = l at *
      match l, hlen with
      | [], _ => exact step0 ⟨bn, nodes, ep1, ep2, kinds, opn, n0, a0, b0, r0, B, askF n.op, i, n⟩ (tk 0 [] h hd) rfl hil hol hkl hkn hpre hk hn
    · have e : (partsF n.op).toNat = 1 := by omega
      rw [e] at hpre hmem hlen
      generalize hd : opn.drop (opn.length - 1) = l at *
      match l, hlen with
      | [p], _ => exact step1 ⟨bn, nodes, ep1, ep2, kinds, opn, n0, a0, b0, r0, B, askF n.op, i, n⟩ p (tk 1 [p] h hd) rfl hil hol hkl hkn hpre (hmem p (by simp)) hk hn
    · have e : (partsF n.op).toNat = 2 := by omega
      rw [e] at hpre hmem hlen
      generalize hd : opn.drop (opn.length - 2) = l at *
      match l, hlen with
      | [p, q], _ => exact step2 ⟨bn, nodes, ep1, ep2, kinds, opn, n0, a0, b0, r0, B, askF n.op, i, n⟩ p q (tk 2 [p, q] h hd) rfl hil hol hkl hkn hpre (hmem p (by simp)) (hmem q (by simp)) hk hn
end Go.AM
end
section

namespace Go.AM
open P
set_option maxHeartbeats 16000000
set_option maxRecDepth 8000
attribute [local simp] condRun_if when_if
def asksE : List (AVal × AVal) := [(.int .i64 1, .fn 177 [] []), (.int .i64 9, .fn 178 [] []), (.int .i64 2, .fn 179 [] []), (.int .i64 3, .fn 180 [] []), (.int .i64 4, .fn 181 [] []), (.int .i64 10, .fn 182 [] []), (.int .i64 11, .fn 183 [] []), (.int .i64 5, .fn 184 [] []), (.int .i64 6, .fn 185 [] []), (.int .i64 7, .fn 186 [] []), (.int .i64 8, .fn 187 [] [])]
theorem asks_spec : pcall I.prop_asks [] = some (.imap false asksE) := by
  rw [pcall_eq c_prop_asks rfl]
  simp [f_prop_asks, b_prop_asks, asksE, isKey, mput, keyIs]
theorem lookup_asks (op : Int) : ∃ r, lookup (.int .i64 op) asksE = some r ∧ r.getD .nilf = askF op := by
  unfold asksE askF
  by_cases h1 : op = 1
  · subst h1
    exact ⟨some _, rfl, rfl⟩
  by_cases h9 : op = 9
  · subst h9
    exact ⟨some _, rfl, rfl⟩
  by_cases h2 : op = 2
  · subst h2
    exact ⟨some _, rfl, rfl⟩
  by_cases h3 : op = 3
  · subst h3
    exact ⟨some _, rfl, rfl⟩
  by_cases h4 : op = 4
  · subst h4
    exact ⟨some _, rfl, rfl⟩
  by_cases h10 : op = 10
  · subst h10
    exact ⟨some _, rfl, rfl⟩
  by_cases h11 : op = 11
  · subst h11
    exact ⟨some _, rfl, rfl⟩
  by_cases h5 : op = 5
  · subst h5
    exact ⟨some _, rfl, rfl⟩
  by_cases h6 : op = 6
  · subst h6
    exact ⟨some _, rfl, rfl⟩
  by_cases h7 : op = 7
  · subst h7
    exact ⟨some _, rfl, rfl⟩
  by_cases h8 : op = 8
  · subst h8
    exact ⟨some _, rfl, rfl⟩
  refine ⟨none, ?_, ?_⟩
  · simp [lookup, keyIs, beq_f (Ne.symm h1), beq_f (Ne.symm h9), beq_f (Ne.symm h2), beq_f (Ne.symm h3), beq_f (Ne.symm h4), beq_f (Ne.symm h10), beq_f (Ne.symm h11), beq_f (Ne.symm h5), beq_f (Ne.symm h6), beq_f (Ne.symm h7), beq_f (Ne.symm h8)]
  · simp [h1, h9, h2, h3, h4, h10, h11, h5, h6, h7, h8]
structure KSt where
  kinds : List (SlX Int)
  opn : List Nat
  z0 : Cells12
  a0 : AVal
  b0 : AVal
  r0 : AVal
def kstep (nodes : List LNX) (i : Nat) (n : LNX) (s : KSt) : KSt ⊕ Nat :=
  match stepF nodes i n s.kinds s.opn with
  | none => .inr i
  | some (x, o') => .inl ⟨s.kinds ++ [x], o', n.z, slotA s.kinds ((preF n s.opn).getD []), slotB s.kinds ((preF n s.opn).getD []), .imm x.b (intsA x.l)⟩
@[simp] theorem slotA_fz (kinds : List (SlX Int)) (ps : List Nat) (base : Nat) (σ : Store) (m : Nat) : fz false true base σ (m + 3) (slotA kinds ps) = slotA kinds ps := by
  cases ps <;> simp [slotA]
@[simp] theorem slotB_fz (kinds : List (SlX Int)) (ps : List Nat) (base : Nat) (σ : Store) (m : Nat) : fz false true base σ (m + 3) (slotB kinds ps) = slotB kinds ps := by
  unfold slotB
  split <;> simp
@[simp] theorem slotA_nc (kinds : List (SlX Int)) (ps : List Nat) : ncells (slotA kinds ps) = 1 := by cases ps <;> rfl
@[simp] theorem slotB_nc (kinds : List (SlX Int)) (ps : List Nat) : ncells (slotB kinds ps) = 1 := by
  unfold slotB
  split <;> rfl
abbrev kEnv (bn : Bool) (nodes : List LNX) (bad e7 e8 : AVal) (k : Nat) (e15 e16 : AVal) : List AVal := [.imm bn (nodes.map LNX.a), .nil0, .int .i64 0, .int .i64 0, .ptr 0 0 0 0, .imap false asksE, bad, e7, e8, .any, .any, .bool false, .imm bn (nodes.map LNX.a), .int .i64 nodes.length, .int .i64 k, e15, e16, .any, .any, .any, .any, .any, .any]
abbrev kStore (bn : Bool) (nodes : List LNX) (k : Nat) (s : KSt) : Store := [laidZ bn nodes k s.kinds.length k s.opn.length s.z0 s.a0 s.b0 s.r0, .arr 1 k (s.kinds.map (SlX.c (.int .i64))), .arr 1 k (natsI s.opn)]
theorem stepF_len {nodes : List LNX} {i : Nat} {n : LNX} {kinds : List (SlX Int)} {opn o' : List Nat} {x : SlX Int} (h : stepF nodes i n kinds opn = some (x, o')) : x.l.length ≤ 16 ∧ o'.length ≤ opn.length + 1 ∧ ∀ p ∈ o', p ∈ opn ∨ p = i := by
  unfold stepF at h
  split at h
  · cases h
  · split at h
    · cases h
    · split at h
      · cases h
      · split at h
        · cases h
        · cases h
          refine ⟨by omega, by simp only [List.length_append, List.length_take, List.length_cons, List.length_nil]; omega, fun p hp => ?_⟩
          rcases List.mem_append.1 hp with h | h
          · exact .inl (List.mem_of_mem_take h)
          · exact .inr (by simpa using h)
abbrev KSt.l (s : KSt) : List AVal := [s.z0.c0, s.z0.c1, s.z0.c2, s.z0.c3, s.z0.c4, s.z0.c5, s.z0.c6, s.z0.c7, s.z0.c8, s.z0.c9, s.z0.c10, s.z0.c11, s.a0, s.b0, s.r0]
def Zok (s : KSt) : Prop := ∀ base σ m, s.l.map (fz false true base σ (m + 3)) = s.l
theorem kinds_loop (bn : Bool) (nodes : List LNX) (hN : nodes.length ≤ m32) (hF : ∀ n ∈ nodes, NFit n) (z0 : Cells12) (a0 b0 r0 : AVal) (hz : Zok ⟨[], [], z0, a0, b0, r0⟩) :
    match foldL (kstep nodes) nodes 0 ⟨[], [], z0, a0, b0, r0⟩ with
    | .inl s => Zok s ∧ s.opn.length ≤ nodes.length ∧ s.kinds.length = nodes.length ∧ (∀ x ∈ s.kinds, x.l.length ≤ m32) ∧ rounds code 3 [7, 8, 15, 16] l_prop_Kinds_1 ⟨kEnv bn nodes (.int .i64 (-1)) .any .any 0 .any .any, kStore bn nodes 0 ⟨[], [], z0, a0, b0, r0⟩⟩ =
        some (.ext 0, ⟨kEnv bn nodes (.int .i64 (-1)) .any .any nodes.length (.bool false) .any, kStore bn nodes nodes.length s⟩)
    | .inr i => ∃ o, rounds code 3 [7, 8, 15, 16] l_prop_Kinds_1 ⟨kEnv bn nodes (.int .i64 (-1)) .any .any 0 .any .any, kStore bn nodes 0 ⟨[], [], z0, a0, b0, r0⟩⟩ = some o ∧
        ∃ σ e7 e8 e15 e16, o = (.ext 0, ⟨kEnv bn nodes (.int .i64 i) e7 e8 i e15 e16, σ⟩) ∧ i < nodes.length := by
  have hm : m32 ≤ most := by decide
  have hm1 : m32 + 1 ≤ most := by decide
  have h := rounds_list (base := 3) (clr := [7, 8, 15, 16]) (b := l_prop_Kinds_1) nodes
    (fun k (s : KSt) => ⟨kEnv bn nodes (.int .i64 (-1)) .any .any k .any .any, kStore bn nodes k s⟩)
    (fun k s => s.kinds.length = k ∧ s.opn.length ≤ k ∧ (∀ p ∈ s.opn, p < k) ∧ (∀ x ∈ s.kinds, x.l.length ≤ m32) ∧ Zok s) (kstep nodes)
    (fun s => (.ext 0, ⟨kEnv bn nodes (.int .i64 (-1)) .any .any nodes.length (.bool false) .any, kStore bn nodes nodes.length s⟩))
    (fun i o => ∃ σ e7 e8 e15 e16, o = (.ext 0, ⟨kEnv bn nodes (.int .i64 i) e7 e8 i e15 e16, σ⟩) ∧ i < nodes.length)
    (fun k n s hk hy hs => by
      obtain ⟨h1, h2, h3, h4, _⟩ := hs
      have hn := hF n (List.mem_of_getElem? hy)
      have ht := takes_spec bn nodes k k s.kinds s.opn s.z0 n s.a0 s.b0 s.r0 (grpO n) k hy hN (by omega) (by omega) (by omega) (by rw [h1]; exact h3) h4 hn (fun base σ => by simp [freezeObj])
      obtain ⟨ra, hr1, hr2⟩ := lookup_asks n.op
      have hlt : ((k : Int) < (nodes.length : Int)) := by omega
      unfold kstep
      cases hstep : stepF nodes k n s.kinds s.opn with
      | none =>
        rw [hstep] at ht
        obtain ⟨σ', ht⟩ := ht
        refine ⟨_, ?_, σ', .int .i64 k, .ptr 3 0 0 0, .bool true, .bool true, rfl, hk⟩
        simp [stK] at ht
        simp [l_prop_Kinds_1, hlt, hy, LNX.a, isKey, hr1, hr2, ht]
      | some q =>
        obtain ⟨x, o'⟩ := q
        rw [hstep] at ht
        obtain ⟨ps, r, AT, X, hps, ht, hR⟩ := ht
        obtain ⟨g1, g2, g3⟩ := stepF_len hstep
        refine ⟨?_, by simp [h1], by simp; omega, fun p hp => ?_, fun y hy => ?_, fun base σ m => by simp⟩
        · simp [stK] at ht
          simp [l_prop_Kinds_1, hlt, hy, LNX.a, isKey, hr1, hr2, ht, hps, roundEnd, freezeObj, hR.fz, hR.nc, wrap_lt hk (Nat.le_trans hN hm), kEnv, kStore]
        · rcases g3 p hp with h | h
          · have := h3 p h; omega
          · omega
        · rcases List.mem_append.1 hy with h | h
          · exact h4 y h
          · rw [List.mem_singleton.1 h]; exact Nat.le_trans g1 (by decide))
    (fun s hs => by simp [l_prop_Kinds_1]) ⟨[], [], z0, a0, b0, r0⟩ ⟨rfl, Nat.le_refl _, by simp, by simp, hz⟩
  cases hq : foldL (kstep nodes) nodes 0 ⟨[], [], z0, a0, b0, r0⟩ with
  | inl s =>
    rw [hq] at h
    exact ⟨h.1.2.2.2.2, h.1.2.1, h.1.1, h.1.2.2.2.1, h.2⟩
  | inr i =>
    rw [hq] at h
    exact h
end Go.AM
end
section

namespace Go.AM
open P
set_option maxHeartbeats 16000000
set_option maxRecDepth 8000
attribute [local simp] condRun_if when_if
def kgo (nodes : List LNX) : List LNX → Nat → List (SlX Int) → List Nat → (List (SlX Int) × List Nat) ⊕ Nat
  | [], _, k, o => .inl (k, o)
  | n :: r, i, k, o => match stepF nodes i n k o with
    | none => .inr i
    | some (x, o') => kgo nodes r (i + 1) (k ++ [x]) o'
theorem kgo_fold (nodes : List LNX) : ∀ (l : List LNX) (i : Nat) (s : KSt), match foldL (kstep nodes) l i s with
    | .inl s' => kgo nodes l i s.kinds s.opn = .inl (s'.kinds, s'.opn)
    | .inr j => kgo nodes l i s.kinds s.opn = .inr j
  | [], i, s => by simp [foldL, kgo]
  | n :: l, i, s => by
    simp only [foldL, kgo, kstep]
    cases stepF nodes i n s.kinds s.opn with
    | none => simp
    | some q => exact kgo_fold nodes l (i + 1) ⟨s.kinds ++ [q.1], q.2, n.z, _, _, _⟩
def kindsF (nodes : List LNX) : List (List Int) ⊕ Nat :=
  if nodes.length < 1 ∨ 60 < nodes.length then .inr 0 else
  match kgo nodes nodes 0 [] [] with
  | .inr i => .inr i
  | .inl (k, o) => if o.length = 1 then .inl (k.map (·.l)) else .inr (nodes.length - 1)
def immF (l : List Int) : AVal := .imm false (l.map (.int .i64))
instance : Nc immF 1 false := ⟨fun _ => rfl, fun _ => rfl⟩
instance : Fx immF := ⟨fun fl top base σ n y => by simp [immF]⟩
def kindsA : List (List Int) ⊕ Nat → AVal
  | .inl k => .tup [.imm false (k.map immF), .int .i64 0, .int .i64 0]
  | .inr i => .tup [.imm false [], .int .i64 i, .int .i64 291]
theorem foldL_snoc {α β : Type} (f : α → β) : ∀ (l : List α) (k : Nat) (acc : List β), foldL (ρ := Empty) (fun _ x acc => .inl (acc ++ [f x])) l k acc = .inl (acc ++ l.map f)
  | [], k, acc => by simp [foldL]
  | x :: l, k, acc => by
    simp only [foldL]
    rw [foldL_snoc f l]
    simp
theorem kinds18_spec (bn : Bool) (nodes : List LNX) (hF : ∀ n ∈ nodes, NFit n) (hN : nodes.length ≤ m32) : pcall I.prop_Kinds [.imm bn (nodes.map LNX.a)] = some (kindsA (kindsF nodes)) := by
  rw [pcall_eq c_prop_Kinds rfl]
  by_cases h1 : nodes.length < 1
  · have h1' : ((nodes.length : Int) < 1) := by omega
    rw [show kindsF nodes = .inr 0 by simp only [kindsF, if_pos (Or.inl h1)]]
    simp [f_prop_Kinds, b_prop_Kinds, h1', kindsA]
  · have h1' : ¬ ((nodes.length : Int) < 1) := by omega
    by_cases h2 : 60 < nodes.length
    · have h2' : ((60 : Int) < (nodes.length : Int)) := by omega
      rw [show kindsF nodes = .inr 0 by simp only [kindsF, if_pos (Or.inr h2)]]
      simp [f_prop_Kinds, b_prop_Kinds, h1', h2', kindsA]
    · have h2' : ¬ ((60 : Int) < (nodes.length : Int)) := by omega
      have e : kindsF nodes = match kgo nodes nodes 0 [] [] with
          | .inr i => .inr i
          | .inl (k, o) => if o.length = 1 then .inl (k.map (·.l)) else .inr (nodes.length - 1) := by
        simp only [kindsF, if_neg (show ¬ (nodes.length < 1 ∨ 60 < nodes.length) by omega)]
      have hl := kinds_loop bn nodes hN hF ⟨.int .i64 0, .int .i64 0, .int .i64 0, .int .i64 0, .nil0, .bool false, .nil0, .nil0, .nil0, .nil0, .nil0, .int .i64 0⟩ .nil0 .nil0 .nil0 (fun base σ m => by simp)
      have hg := kgo_fold nodes nodes 0 ⟨[], [], ⟨.int .i64 0, .int .i64 0, .int .i64 0, .int .i64 0, .nil0, .bool false, .nil0, .nil0, .nil0, .nil0, .nil0, .int .i64 0⟩, .nil0, .nil0, .nil0⟩
      rw [e]
      cases hq : foldL (kstep nodes) nodes 0 ⟨[], [], ⟨.int .i64 0, .int .i64 0, .int .i64 0, .int .i64 0, .nil0, .bool false, .nil0, .nil0, .nil0, .nil0, .nil0, .int .i64 0⟩, .nil0, .nil0, .nil0⟩ with
      | inr i =>
        rw [hq] at hl hg
        simp only at hl hg
        rw [hg]
        obtain ⟨o, h3, σ, e7, e8, e15, e16, rfl, hi⟩ := hl
        simp [kEnv, kStore, laidZ] at h3
        simp [f_prop_Kinds, b_prop_Kinds, h1', h2', asks_spec, h3, kindsA, show ¬ ((i : Int) < 0) by omega]
      | inl s =>
        rw [hq] at hl hg
        simp only at hl hg
        rw [hg]
        obtain ⟨hz, h5, h6, h12, h3⟩ := hl
        simp [kEnv, kStore, laidZ] at h3
        by_cases h7 : s.opn.length = 1
        · have hc := rounds_list (ρ := Empty) (base := 4) (clr := [10, 22]) (b := l_prop_Kinds_0) s.kinds
            (fun k (acc : List (List Int)) => ⟨[.imm bn (nodes.map LNX.a), .nil0, .int .i64 0, .int .i64 0, .ptr 0 0 0 0, .imap false asksE, .int .i64 (-1), .any, .any, .sl 3 k 0 acc.length, .any, .bool false, .imm bn (nodes.map LNX.a), .int .i64 nodes.length, .int .i64 nodes.length, .bool false, .any, .bool false, .bool false, .sl 1 nodes.length 0 s.kinds.length, .int .i64 s.kinds.length, .int .i64 k, .any],
              kStore bn nodes nodes.length s ++ [.arr 1 k (acc.map immF)]⟩)
            (fun k acc => acc.length = k) (fun _ x acc => .inl (acc ++ [x.l]))
            (fun acc => (.ext 2, ⟨[.imm bn (nodes.map LNX.a), .nil0, .int .i64 0, .int .i64 0, .ptr 0 0 0 0, .imap false asksE, .int .i64 (-1), .any, .any, .sl 3 s.kinds.length 0 acc.length, .any, .bool false, .imm bn (nodes.map LNX.a), .int .i64 nodes.length, .int .i64 nodes.length, .bool false, .any, .bool false, .bool false, .sl 1 nodes.length 0 s.kinds.length, .int .i64 s.kinds.length, .int .i64 s.kinds.length, .bool false],
              kStore bn nodes nodes.length s ++ [.arr 1 s.kinds.length (acc.map immF)]⟩))
            (fun r _ => r.elim)
            (fun k x acc hk hy hs => by
              have hlt : ((k : Int) < (s.kinds.length : Int)) := by omega
              have hzz := hz 4
              simp [KSt.l] at hzz
              have hkl : k + 1 ≤ most := by unfold most; omega
              subst hs
              obtain ⟨hlx, hgx⟩ := List.getElem?_eq_some_iff.1 hy
              refine ⟨?_, by simp⟩
              simp [l_prop_Kinds_0, hlt, hgx, hk, kStore, laidZ, SlX.c, append, hkl, roundEnd, freezeObj, hzz, wrap_lt hk (show s.kinds.length ≤ most by unfold most; omega), immF, Nat.le_trans (h12 x (List.mem_of_getElem? hy)) (show m32 ≤ most by decide)])
            (fun acc hs => by simp [l_prop_Kinds_0]) [] rfl
          rw [foldL_snoc] at hc
          obtain ⟨_, hc⟩ := hc
          have hkl : (s.kinds.map (·.l)).length = s.kinds.length := List.length_map ..
          rw [List.nil_append] at hc
          simp only [if_pos h7]
          generalize s.kinds.map (·.l) = ks at hc hkl ⊢
          have htk : List.take s.kinds.length (List.map immF ks) = List.map immF ks := by rw [← hkl]; exact take_map_all ks immF
          simp [kStore, laidZ, h7, hkl] at hc
          simp [f_prop_Kinds, b_prop_Kinds, h1', h2', asks_spec, h3, kindsA, h7, hc, hkl, htk]
          exact fun a _ => by simp [immF]
        · have h7' : ((s.opn.length : Int) != 1) = true := by simp; omega
          have h8 : ¬ ((nodes.length : Int) - 1 < 0) := by omega
          have h9 : (1 : Int) ≤ (nodes.length : Int) := by omega
          have h10 := w64 (n := (nodes.length : Int) - 1) (by omega) (by omega)
          have h11 : ((nodes.length - 1 : Nat) : Int) = (nodes.length : Int) - 1 := by omega
          simp only [if_neg h7]
          simp [f_prop_Kinds, b_prop_Kinds, h1', h2', asks_spec, h3, kindsA, h7', h8, h9, h10, h11]
end Go.AM
end
section

namespace Go.AM
open P
set_option maxRecDepth 8000
set_option maxHeartbeats 8000000
attribute [local simp] condRun_if when_if
theorem kgo_le (nodes : List LNX) : ∀ (l : List LNX) (i : Nat) (k : List (SlX Int)) (o : List Nat) (k' : List (SlX Int)) (o' : List Nat), kgo nodes l i k o = .inl (k', o') → (∀ s ∈ k, s.l.length ≤ 16) → k'.length = k.length + l.length ∧ ∀ s ∈ k', s.l.length ≤ 16
  | [], i, k, o, k', o', h, hk => by
    simp only [kgo, Sum.inl.injEq, Prod.mk.injEq] at h
    obtain ⟨rfl, rfl⟩ := h
    exact ⟨rfl, hk⟩
  | n :: l, i, k, o, k', o', h, hk => by
    simp only [kgo] at h
    split at h
    · cases h
    · rename_i x q hx
      have hl := stepF_len hx
      obtain ⟨h1, h2⟩ := kgo_le nodes l (i + 1) (k ++ [x]) q k' o' h (fun s hs => by
        rcases List.mem_append.1 hs with h | h
        · exact hk s h
        · rw [List.mem_singleton.1 h]; exact hl.1)
      exact ⟨by rw [h1]; simp; omega, h2⟩
theorem kindsF_le {nodes : List LNX} {K : List (List Int)} (h : kindsF nodes = .inl K) : K.length = nodes.length ∧ 1 ≤ nodes.length ∧ nodes.length ≤ 60 ∧ ∀ k ∈ K, k.length ≤ 16 := by
  unfold kindsF at h
  split at h
  · cases h
  · rename_i hn
    split at h
    · cases h
    · rename_i k o hk
      split at h
      · cases h
        obtain ⟨h1, h2⟩ := kgo_le nodes nodes 0 [] [] k o hk (by simp)
        refine ⟨by simpa using h1, by omega, by omega, fun x hx => ?_⟩
        obtain ⟨s, hs, rfl⟩ := List.mem_map.1 hx
        exact h2 s hs
      · cases h
def fragA (bn : Bool) (nodes : List LNX) (at' way : Int) (bc : Bool) (cols : List Int) : AVal := .agg [.imm bn (nodes.map LNX.a), .int .i64 at', .int .i64 way, .imm bc (intC cols)]
theorem goes1_spec (t bk : Bool) (c : Int) (k : List Int) : pcall I.exec_Goes_1 [.int .i64 c, .cptr t (.imm bk (k.map (.int .i64))) 0] = some (.bool (decide (c < 0) || decide ((k.length : Int) ≤ c))) := by
  rw [pcall_eq c_exec_Goes_1 rfl]
  by_cases h1 : c < 0
  · cases t <;> simp [f_exec_Goes_1, b_exec_Goes_1, h1]
  · cases t <;> simp [f_exec_Goes_1, b_exec_Goes_1, h1]
def wrongC (root cols : List Int) : Bool := cols.any fun c => decide (c < 0) || decide ((root.length : Int) ≤ c)
def wayBad (way : Int) (cols : List Int) : Bool := decide (16 < cols.length) || decide (way < 1) || decide (4 < way) || ((way == 1) != decide (0 < cols.length))
theorem goes_wrong (root cols : List Int) (bc : Bool) (hc : cols.length ≤ most) (σ : Store) (hσ : σ[1]? = some (.arr 1 0 [immF root])) :
    pcall I.slices_ContainsFunc_int_int [.imm bc (intC cols), snap σ (.fn 76 [] [.ptr 1 0 0 0])] = some (.bool (wrongC root cols)) := by
  have hs : snap σ (.fn 76 [] [.ptr 1 0 0 0]) = .fn 76 [] [.cptr true (immF root) 0] := by simp [hσ, immF]
  rw [hs]
  exact Contains_int_int (enc := .int .i64) (b := bc) (l := cols) (f := .fn 76 [] [.cptr true (immF root) 0]) (p := fun c => decide (c < 0) || decide ((root.length : Int) ≤ c)) hc (fun _ => ⟨rfl, rfl⟩) (fun σ => by simp [immF]) (fun c _ => by
    have := goes1_spec true false c root
    simp [immF, this])
theorem goes_kinds (bn : Bool) (nodes : List LNX) (at' way : Int) (bc : Bool) (cols : List Int) (bl : Bool) (rs : List (List Val)) (n : Int) (hF : ∀ n ∈ nodes, NFit n) (hN : nodes.length ≤ m32) (i : Nat) (hk : kindsF nodes = .inr i) :
    pcall I.exec_Goes [fragA bn nodes at' way bc cols, .imm bl (rs.map rowX), .int .i64 n] = some (.tup [.imm false [], .int .i64 291]) := by
  rw [pcall_eq c_exec_Goes rfl]
  have h := fun bn => kinds18_spec bn nodes hF hN
  rw [hk] at h
  simp only [kindsA] at h
  simp [f_exec_Goes, b_exec_Goes, fragA, h]
theorem goes_way (bn : Bool) (nodes : List LNX) (at' way : Int) (bc : Bool) (cols : List Int) (bl : Bool) (rs : List (List Val)) (n : Int) (hF : ∀ n ∈ nodes, NFit n) (hN : nodes.length ≤ m32) (K : List (List Int)) (hk : kindsF nodes = .inl K) (root : List Int) (hroot : K[K.length - 1]? = some root) (hcl : cols.length ≤ m32) (hw : (wrongC root cols || wayBad way cols) = true) :
    pcall I.exec_Goes [fragA bn nodes at' way bc cols, .imm bl (rs.map rowX), .int .i64 n] = some (.tup [.imm false [], .int .i64 291]) := by
  rw [pcall_eq c_exec_Goes rfl]
  have h := fun bn => kinds18_spec bn nodes hF hN
  rw [hk] at h
  simp only [kindsA] at h
  obtain ⟨k1, k2, k3, k4⟩ := kindsF_le hk
  have w1 := w64 (n := (K.length : Int) - 1) (by omega) (by omega)
  have w2 : ((K.length : Int) - 1).toNat = K.length - 1 := by omega
  have w3 : (1 : Int) ≤ (K.length : Int) := by omega
  have w4 : K.length - 1 < K.length := by omega
  obtain ⟨hlt, hg⟩ := List.getElem?_eq_some_iff.1 hroot
  have hC := goes_wrong root cols bc (by exact Nat.le_trans hcl (by decide)) [.arr 4 0 [fragA bn nodes at' way bc cols], .arr 1 0 [immF root]] rfl
  simp [immF] at hC
  simp only [fragA] at *
  cases h1 : wrongC root cols with
  | true =>
    rw [h1] at hC
    simp [f_exec_Goes, b_exec_Goes, h, w1, w2, w3, w4, hg, hC, immF]
  | false =>
    rw [h1] at hC hw
    rw [Bool.false_or] at hw
    unfold wayBad at hw
    by_cases a1 : 16 < cols.length
    · have a1' : ((16 : Int) < (cols.length : Int)) := by omega
      simp [f_exec_Goes, b_exec_Goes, h, w1, w2, w3, w4, hg, hC, immF, a1']
    · have a1' : ¬ ((16 : Int) < (cols.length : Int)) := by omega
      by_cases a2 : way < 1
      · simp [f_exec_Goes, b_exec_Goes, h, w1, w2, w3, w4, hg, hC, immF, a1', a2]
      · by_cases a3 : 4 < way
        · simp [f_exec_Goes, b_exec_Goes, h, w1, w2, w3, w4, hg, hC, immF, a1', a2, a3]
        · simp only [decide_eq_false a1, decide_eq_false a2, decide_eq_false a3, Bool.false_or] at hw
          by_cases a4 : way = 1
          · by_cases a5 : 0 < cols.length
            · simp [a4, a5] at hw
            · have a5' : cols = [] := List.eq_nil_of_length_eq_zero (by omega)
              subst a5'; simp only [List.map_nil] at hC
              simp [f_exec_Goes, b_exec_Goes, h, w1, w2, w3, w4, hg, hC, immF, a4]
          · by_cases a5 : 0 < cols.length
            · have a5' := a5
              simp [f_exec_Goes, b_exec_Goes, h, w1, w2, w3, w4, hg, hC, immF, a1', a2, a3, beq_f a4, a5']
            · simp [beq_f a4, a5] at hw
structure GoesOk (root cols : List Int) (way : Int) : Prop where
  wrong : wrongC root cols = false
  len : ¬ ((16 : Int) < (cols.length : Int))
  way1 : ¬ way < 1
  way4 : ¬ 4 < way
  shuf : (way = 1 ∧ 0 < cols.length) ∨ (way ≠ 1 ∧ cols = [])
theorem goesOk {root cols : List Int} {way : Int} (h : (wrongC root cols || wayBad way cols) = false) : GoesOk root cols way := by
  unfold wayBad at h
  simp only [Bool.or_eq_false_iff, decide_eq_false_iff_not] at h
  obtain ⟨h1, ⟨⟨h2, h3⟩, h4⟩, h5⟩ := h
  refine ⟨h1, by omega, h3, h4, ?_⟩
  by_cases a : way = 1
  · by_cases b : 0 < cols.length
    · exact .inl ⟨a, b⟩
    · simp [a, b] at h5
  · by_cases b : 0 < cols.length
    · simp [a, b] at h5
    · exact .inr ⟨a, List.eq_nil_of_length_eq_zero (by omega)⟩
theorem goes_arg (bn : Bool) (nodes : List LNX) (at' way : Int) (bc : Bool) (cols : List Int) (bl : Bool) (rs : List (List Val)) (n : Int) (hF : ∀ n ∈ nodes, NFit n) (hN : nodes.length ≤ m32) (K : List (List Int)) (hk : kindsF nodes = .inl K) (root : List Int) (hroot : K[K.length - 1]? = some root) (hcl : cols.length ≤ m32) (hw : GoesOk root cols way) (hrl : ∀ r ∈ rs, r.length ≤ most) (hb : n < 1 ∨ 8 < n ∨ fitL root rs = false) :
    pcall I.exec_Goes [fragA bn nodes at' way bc cols, .imm bl (rs.map rowX), .int .i64 n] = some (.tup [.imm false [], .int .i64 2]) := by
  rw [pcall_eq c_exec_Goes rfl]
  have h := fun bn => kinds18_spec bn nodes hF hN
  rw [hk] at h
  simp only [kindsA] at h
  obtain ⟨k1, k2, k3, k4⟩ := kindsF_le hk
  have w1 := w64 (n := (K.length : Int) - 1) (by omega) (by omega)
  have w2 : ((K.length : Int) - 1).toNat = K.length - 1 := by omega
  have w3 : (1 : Int) ≤ (K.length : Int) := by omega
  have w4 : K.length - 1 < K.length := by omega
  obtain ⟨hlt, hg⟩ := List.getElem?_eq_some_iff.1 hroot
  have hC := goes_wrong root cols bc (by exact Nat.le_trans hcl (by decide)) [.arr 4 0 [fragA bn nodes at' way bc cols], .arr 1 0 [immF root]] rfl
  simp [immF] at hC
  simp only [fragA] at *
  have hfit := fun bk => fitX_spec bl bk rs root hrl
  obtain ⟨a0, a1, a2, a3, a4⟩ := hw
  rw [a0] at hC
  by_cases b1 : n < 1
  · rcases a4 with ⟨a4, a5⟩ | ⟨a4, a5⟩
    · simp [f_exec_Goes, b_exec_Goes, h, w1, w2, w3, w4, hg, hC, immF, a1, a4, a5, b1]
    · subst a5; simp only [List.map_nil] at hC
      simp [f_exec_Goes, b_exec_Goes, h, w1, w2, w3, w4, hg, hC, immF, a2, a3, beq_f a4, b1]
  · by_cases b2 : 8 < n
    · rcases a4 with ⟨a4, a5⟩ | ⟨a4, a5⟩
      · simp [f_exec_Goes, b_exec_Goes, h, w1, w2, w3, w4, hg, hC, immF, a1, a4, a5, b1, b2]
      · subst a5; simp only [List.map_nil] at hC
        simp [f_exec_Goes, b_exec_Goes, h, w1, w2, w3, w4, hg, hC, immF, a2, a3, beq_f a4, b1, b2]
    · have b3 : fitL root rs = false := by rcases hb with h | h | h; exact absurd h b1; exact absurd h b2; exact h
      rw [b3] at hfit
      rcases a4 with ⟨a4, a5⟩ | ⟨a4, a5⟩
      · simp [f_exec_Goes, b_exec_Goes, h, w1, w2, w3, w4, hg, hC, immF, a1, a4, a5, b1, b2, hfit]
      · subst a5; simp only [List.map_nil] at hC
        simp [f_exec_Goes, b_exec_Goes, h, w1, w2, w3, w4, hg, hC, immF, a2, a3, beq_f a4, b1, b2, hfit]
theorem goes_one (bn : Bool) (nodes : List LNX) (at' way : Int) (bc : Bool) (cols : List Int) (bl : Bool) (rs : List (List Val)) (n : Int) (hF : ∀ n ∈ nodes, NFit n) (hN : nodes.length ≤ m32) (K : List (List Int)) (hk : kindsF nodes = .inl K) (root : List Int) (hroot : K[K.length - 1]? = some root) (hcl : cols.length ≤ m32) (hw : GoesOk root cols way) (hrl : ∀ r ∈ rs, r.length ≤ most) (hn1 : ¬ n < 1) (hn8 : ¬ 8 < n) (hfl : fitL root rs = true) (hw1 : way ≠ 1) (hw2 : way ≠ 2) (hbl : bl = false) :
    pcall I.exec_Goes [fragA bn nodes at' way bc cols, .imm bl (rs.map rowX), .int .i64 n] = some (.tup [.imm false [.imm false (rs.map rowX)], .int .i64 0]) := by
  rw [pcall_eq c_exec_Goes rfl]
  have h := fun bn => kinds18_spec bn nodes hF hN
  rw [hk] at h
  simp only [kindsA] at h
  obtain ⟨k1, k2, k3, k4⟩ := kindsF_le hk
  have w1 := w64 (n := (K.length : Int) - 1) (by omega) (by omega)
  have w2 : ((K.length : Int) - 1).toNat = K.length - 1 := by omega
  have w3 : (1 : Int) ≤ (K.length : Int) := by omega
  have w4 : K.length - 1 < K.length := by omega
  obtain ⟨hlt, hg⟩ := List.getElem?_eq_some_iff.1 hroot
  have hC := goes_wrong root cols bc (by exact Nat.le_trans hcl (by decide)) [.arr 4 0 [fragA bn nodes at' way bc cols], .arr 1 0 [immF root]] rfl
  simp [immF] at hC
  simp only [fragA] at *
  have hfit := fun bk => fitX_spec bl bk rs root hrl
  obtain ⟨a0, a1, a2, a3, a4⟩ := hw
  rw [a0] at hC
  rw [hfl] at hfit
  subst hbl
  rcases a4 with ⟨a4, a5⟩ | ⟨a4, a5⟩
  · exact absurd a4 hw1
  · subst a5; simp only [List.map_nil] at hC
    simp [f_exec_Goes, b_exec_Goes, h, w1, w2, w3, w4, hg, hC, immF, a2, a3, beq_f a4, hn1, hn8, hfit, beq_f hw2]
end Go.AM
end
section

namespace Go.AM
open P
set_option maxRecDepth 8000
set_option maxHeartbeats 8000000
attribute [local simp] condRun_if when_if
theorem rep1 (xs : List AVal) : callN code 60 I.slices_Repeat_api_Row_api_Row [.imm true [.imm false xs], .int .i64 1] [] = some (.imm false [.imm false xs], []) := by kernel_rfl
theorem rep2 (xs : List AVal) : callN code 60 I.slices_Repeat_api_Row_api_Row [.imm true [.imm false xs], .int .i64 2] [] = some (.imm false [.imm false xs, .imm false xs], []) := by kernel_rfl
theorem rep3 (xs : List AVal) : callN code 60 I.slices_Repeat_api_Row_api_Row [.imm true [.imm false xs], .int .i64 3] [] = some (.imm false [.imm false xs, .imm false xs, .imm false xs], []) := by kernel_rfl
theorem rep4 (xs : List AVal) : callN code 60 I.slices_Repeat_api_Row_api_Row [.imm true [.imm false xs], .int .i64 4] [] = some (.imm false [.imm false xs, .imm false xs, .imm false xs, .imm false xs], []) := by kernel_rfl
theorem rep5 (xs : List AVal) : callN code 60 I.slices_Repeat_api_Row_api_Row [.imm true [.imm false xs], .int .i64 5] [] = some (.imm false [.imm false xs, .imm false xs, .imm false xs, .imm false xs, .imm false xs], []) := by kernel_rfl
theorem rep6 (xs : List AVal) : callN code 60 I.slices_Repeat_api_Row_api_Row [.imm true [.imm false xs], .int .i64 6] [] = some (.imm false [.imm false xs, .imm false xs, .imm false xs, .imm false xs, .imm false xs, .imm false xs], []) := by kernel_rfl
theorem rep7 (xs : List AVal) : callN code 60 I.slices_Repeat_api_Row_api_Row [.imm true [.imm false xs], .int .i64 7] [] = some (.imm false [.imm false xs, .imm false xs, .imm false xs, .imm false xs, .imm false xs, .imm false xs, .imm false xs], []) := by kernel_rfl
theorem rep8 (xs : List AVal) : callN code 60 I.slices_Repeat_api_Row_api_Row [.imm true [.imm false xs], .int .i64 8] [] = some (.imm false [.imm false xs, .imm false xs, .imm false xs, .imm false xs, .imm false xs, .imm false xs, .imm false xs, .imm false xs], []) := by kernel_rfl
theorem repeat_spec (xs : List AVal) (n : Int) (h1 : ¬ n < 1) (h8 : ¬ 8 < n) : pcall I.slices_Repeat_api_Row_api_Row [.imm true [.imm false xs], .int .i64 n] = some (.imm false (List.replicate n.toNat (.imm false xs))) := by
  have : n = 1 ∨ n = 2 ∨ n = 3 ∨ n = 4 ∨ n = 5 ∨ n = 6 ∨ n = 7 ∨ n = 8 := by omega
  rcases this with rfl | rfl | rfl | rfl | rfl | rfl | rfl | rfl
  · exact pcall_from (rep1 xs)
  · exact pcall_from (rep2 xs)
  · exact pcall_from (rep3 xs)
  · exact pcall_from (rep4 xs)
  · exact pcall_from (rep5 xs)
  · exact pcall_from (rep6 xs)
  · exact pcall_from (rep7 xs)
  · exact pcall_from (rep8 xs)
theorem goes_cast (bn : Bool) (nodes : List LNX) (at' way : Int) (bc : Bool) (cols : List Int) (bl : Bool) (rs : List (List Val)) (n : Int) (hF : ∀ n ∈ nodes, NFit n) (hN : nodes.length ≤ m32) (K : List (List Int)) (hk : kindsF nodes = .inl K) (root : List Int) (hroot : K[K.length - 1]? = some root) (hcl : cols.length ≤ m32) (hw : GoesOk root cols way) (hrl : ∀ r ∈ rs, r.length ≤ most) (hn1 : ¬ n < 1) (hn8 : ¬ 8 < n) (hfl : fitL root rs = true) (hw2 : way = 2) (hbl : bl = false) :
    pcall I.exec_Goes [fragA bn nodes at' way bc cols, .imm bl (rs.map rowX), .int .i64 n] = some (.tup [.imm false (List.replicate n.toNat (.imm false (rs.map rowX))), .int .i64 0]) := by
  rw [pcall_eq c_exec_Goes rfl]
  have h := fun bn => kinds18_spec bn nodes hF hN
  rw [hk] at h
  simp only [kindsA] at h
  obtain ⟨k1, k2, k3, k4⟩ := kindsF_le hk
  have w1 := w64 (n := (K.length : Int) - 1) (by omega) (by omega)
  have w2 : ((K.length : Int) - 1).toNat = K.length - 1 := by omega
  have w3 : (1 : Int) ≤ (K.length : Int) := by omega
  have w4 : K.length - 1 < K.length := by omega
  obtain ⟨hlt, hg⟩ := List.getElem?_eq_some_iff.1 hroot
  have hC := goes_wrong root cols bc (by exact Nat.le_trans hcl (by decide)) [.arr 4 0 [fragA bn nodes at' way bc cols], .arr 1 0 [immF root]] rfl
  simp [immF] at hC
  simp only [fragA] at *
  have hfit := fun bk => fitX_spec bl bk rs root hrl
  obtain ⟨a0, a1, a2, a3, a4⟩ := hw
  rw [a0] at hC
  rw [hfl] at hfit
  subst hbl
  have hrep := repeat_spec (rs.map rowX) n hn1 hn8
  rcases a4 with ⟨a4, a5⟩ | ⟨a4, a5⟩
  · exact absurd (hw2.symm.trans a4) (by decide)
  · subst a5; simp only [List.map_nil] at hC
    simp [f_exec_Goes, b_exec_Goes, h, w1, w2, w3, w4, hg, hC, immF, hw2, hn1, hn8, hfit, hrep]
end Go.AM
end
section

namespace Go.AM
open P
set_option maxRecDepth 8000
set_option maxHeartbeats 8000000
attribute [local simp] condRun_if when_if
def cellsP : Nat → List (List (List Val)) → List AVal
  | _, [] => []
  | j, p :: r => .sl j p.length 0 p.length :: cellsP (j + 1) r
def objsP (P : List (List (List Val))) : List Obj := P.map fun p => .arr 1 p.length (p.map rowX)
@[simp] theorem cellsP_len : ∀ (P : List (List (List Val))) (j : Nat), (cellsP j P).length = P.length
  | [], _ => rfl
  | _ :: r, j => by simp [cellsP, cellsP_len r]
theorem cellsP_get : ∀ {P : List (List (List Val))} {j i : Nat} {p : List (List Val)}, P[i]? = some p → (cellsP j P)[i]? = some (.sl (i + j) p.length 0 p.length)
  | [], _, i, p, h => by simp at h
  | q :: r, j, 0, p, h => by simp at h; subst h; simp [cellsP]
  | q :: r, j, i + 1, p, h => by
    simp at h
    simp only [cellsP, List.getElem?_cons_succ]
    rw [cellsP_get h]
    simp; omega
theorem cellsP_set : ∀ (P : List (List (List Val))) (j i : Nat) (q : List (List Val)), cellsP j (P.set i q) = (cellsP j P).set i (.sl (i + j) q.length 0 q.length)
  | [], _, _, _ => rfl
  | p :: r, j, 0, q => by simp [cellsP]
  | p :: r, j, i + 1, q => by
    simp only [List.set_cons_succ, cellsP]
    rw [cellsP_set r]
    congr 3
    omega
theorem objsP_get {P : List (List (List Val))} {i : Nat} {p : List (List Val)} (h : P[i]? = some p) : (objsP P)[i]? = some (.arr 1 p.length (p.map rowX)) := by simp [objsP, h]
theorem objsP_set (P : List (List (List Val))) (i : Nat) (q : List (List Val)) : objsP (P.set i q) = (objsP P).set i (.arr 1 q.length (q.map rowX)) := by simp [objsP, List.map_set]
@[simp] theorem objsP_len (P : List (List (List Val))) : (objsP P).length = P.length := by simp [objsP]
theorem cellsP_nc : ∀ (P : List (List (List Val))) (j : Nat), ∀ x ∈ cellsP j P, ncells x = 1
  | [], _, x, h => by cases h
  | p :: r, j, x, h => by
    rcases List.mem_cons.1 h with h | h
    · rw [h]; rfl
    · exact cellsP_nc r _ x h
theorem cellsP_fz (σ : Store) (m : Nat) : ∀ (P : List (List (List Val))) (j : Nat), (∀ i p, P[i]? = some p → σ[i + j]? = some (.arr 1 p.length (p.map rowX))) → (cellsP j P).map (fz false false 0 σ (m + 4)) = P.map fun p => .imm false (p.map rowX)
  | [], _, _ => rfl
  | p :: r, j, h => by
    have h0 := h 0 p rfl
    simp only [Nat.zero_add] at h0
    simp only [cellsP, List.map_cons]
    rw [cellsP_fz σ m r (j + 1) (fun i q hq => by
      have := h (i + 1) q (by simpa using hq)
      rwa [show i + (j + 1) = i + 1 + j by omega])]
    congr 1
    simp [h0]
theorem lift_all (F R : Obj) (n : Nat) (h : n ≤ 8) : liftAll 2 0 1 n [F, R, .arr 1 0 (List.replicate n .nil0)] = some (F :: R :: .arr 1 0 (cellsP 3 (List.replicate n [])) :: objsP (List.replicate n [])) := by
  have : n = 0 ∨ n = 1 ∨ n = 2 ∨ n = 3 ∨ n = 4 ∨ n = 5 ∨ n = 6 ∨ n = 7 ∨ n = 8 := by omega
  rcases this with rfl | rfl | rfl | rfl | rfl | rfl | rfl | rfl | rfl <;> rfl
noncomputable def atH (cols : List Int) (n : Nat) (r : List Val) : Nat := (hashN (takeR r cols)).toNat % n
noncomputable def shufG (cols : List Int) (n : Nat) (P : List (List (List Val))) (r : List Val) : List (List (List Val)) := P.set (atH cols n r) (P.getD (atH cols n r) [] ++ [r])
end Go.AM
end
section

namespace Go.AM
open P
set_option maxRecDepth 8000
set_option maxHeartbeats 8000000
attribute [local simp] condRun_if when_if
abbrev gEnv (fr : AVal) (rs : List (List Val)) (n : Nat) (K : List (List Int)) (k : Nat) (e21 : AVal) : List AVal := [fr, .imm false (rs.map rowX), .int .i64 n, .ptr 0 0 0 0, .any, .any, .imm false (K.map immF), .any, .ptr 1 0 0 0, .bool false, .sl 2 0 0 n, .any, .any, .bool false, .bool false, .bool false, .int .i64 1, .bool true, .imm false (rs.map rowX), .int .i64 rs.length, .int .i64 k, e21, .any, .any]
theorem goes_loop (fr : AVal) (nd : AVal) (at' : Int) (way : Int) (bc : Bool) (cols : List Int) (R : Obj) (rs : List (List Val)) (n : Nat) (hn1 : 1 ≤ n) (hn8 : n ≤ 8) (K : List (List Int)) (hr : ∀ r ∈ rs, okR r = true ∧ hasC r cols = true) (hl : rs.length ≤ 8000) :
    rounds code (3 + n) [4, 5, 7, 11, 12, 21, 22] l_exec_Goes_0 ⟨gEnv fr rs n K 0 .any, .arr 4 0 [.agg [nd, .int .i64 at', .int .i64 way, .imm bc (intC cols)]] :: R :: .arr 1 0 (cellsP 3 (List.replicate n [])) :: objsP (List.replicate n [])⟩ =
      some (.ext 1, ⟨gEnv fr rs n K rs.length (.bool false), .arr 4 0 [.agg [nd, .int .i64 at', .int .i64 way, .imm bc (intC cols)]] :: R :: .arr 1 0 (cellsP 3 (rs.foldl (shufG cols n) (List.replicate n []))) :: objsP (rs.foldl (shufG cols n) (List.replicate n []))⟩) ∧
    (rs.foldl (shufG cols n) (List.replicate n [])).length = n := by
  have hm : rs.length ≤ most := by unfold most; omega
  have h := rounds_fold (base := 3 + n) (clr := [4, 5, 7, 11, 12, 21, 22]) (b := l_exec_Goes_0) rs (fun k (P : List (List (List Val))) => ⟨gEnv fr rs n K k .any, .arr 4 0 [.agg [nd, .int .i64 at', .int .i64 way, .imm bc (intC cols)]] :: R :: .arr 1 0 (cellsP 3 P) :: objsP P⟩)
    (fun k P => P.length = n ∧ ∀ p ∈ P, p.length ≤ k) (shufG cols n)
    (fun P => (.ext 1, ⟨gEnv fr rs n K rs.length (.bool false), .arr 4 0 [.agg [nd, .int .i64 at', .int .i64 way, .imm bc (intC cols)]] :: R :: .arr 1 0 (cellsP 3 P) :: objsP P⟩))
    (fun k r P hk hy hP => by
      obtain ⟨hP1, hP2⟩ := hP
      have hlt : ((k : Int) < (rs.length : Int)) := by omega
      obtain ⟨hr1, hr2⟩ := hr r (List.mem_of_getElem? hy)
      obtain ⟨hh, h0, h32⟩ := Hash_ok bc r cols hr1 hr2
      have hw : IntKind.u32.wrap (n : Int) = n := by
        have : (n : Int) % 4294967296 = n := Int.emod_eq_of_lt (by omega) (by omega)
        simpa [IntKind.wrap, IntKind.bits, IntKind.signed] using this
      have hne : ¬ ((n : Int) = 0) := by omega
      have hne' : ¬ (n = 0) := by omega
      have ht : (hashN (takeR r cols)).tmod (n : Int) = ((atH cols n r : Nat) : Int) := by
        rw [Int.tmod_eq_emod_of_nonneg h0]
        unfold atH
        rw [Int.natCast_emod, Int.toNat_of_nonneg h0]
      have hj : atH cols n r < P.length := by rw [hP1]; exact Nat.mod_lt _ hn1
      have hp : P[atH cols n r]? = some (P.getD (atH cols n r) []) := by rw [List.getD_eq_getElem?_getD, List.getElem?_eq_getElem hj]; rfl
      have hpl : (P.getD (atH cols n r) []).length ≤ k := hP2 _ (List.mem_of_getElem? hp)
      have hc := cellsP_get (j := 3) hp
      have ho := objsP_get hp
      unfold shufG
      have es := cellsP_set P 3 (atH cols n r) (P.getD (atH cols n r) [] ++ [r])
      have eo := objsP_set P (atH cols n r) (P.getD (atH cols n r) [] ++ [r])
      rw [es, eo]
      have hjn : atH cols n r < n := Nat.mod_lt _ hn1
      generalize atH cols n r = j at *
      generalize P.getD j [] = p at *
      refine ⟨?_, by simpa using hP1, fun q hq => ?_⟩
      · have q1 : p.length + 1 ≤ most := by unfold most at *; omega
        obtain ⟨_, hcg⟩ := List.getElem?_eq_some_iff.1 hc
        obtain ⟨_, hog⟩ := List.getElem?_eq_some_iff.1 ho
        simp [l_exec_Goes_0, gEnv, hcg, hog, hlt, hy, hh, hw, hne, hne', ht, hc, ho, hjn, hP1, q1, append, roundEnd, wrap_lt hk hm, Nat.add_comm 3 n]
      · rcases List.mem_or_eq_of_mem_set hq with h | h
        · have := hP2 q h; omega
        · rw [h]; simp; omega)
    (fun P _ => by simp [l_exec_Goes_0]) (List.replicate n []) ⟨by simp, by simp⟩
  exact ⟨h.1, h.2.1⟩
end Go.AM
end
