/- The abstract machine: values are trees, a function's own memory is a short list of objects; a call of a pure function leaves no trace. -/
import GoSem.Core.Sem
import GoSem.Op.String
import GoSem.Core.Utf8
import Derived.CallsIn
import Derived.Laws.Sem
import Derived.Laws.Cells
import Derived.Laws.Rows
import Derived.Laws.Tables
set_option linter.unusedVariables false
set_option linter.unusedSimpArgs false
set_option linter.unusedSectionVars false
namespace Go.AM
inductive AVal where
  | int (k : IntKind) (n : Int)
  | bool (b : Bool)
  | str (s : List UInt8)
  | nilp
  | nilf
  | nilm
  | agg (cs : List AVal)
  | tup (vs : List AVal)
  | imm (b : Bool) (xs : List AVal)
  | lst (xs : List AVal)
  | nil0
  | sl (id ep off len : Nat)
  | ptr (id ep i off : Nat)
  | asl (id ep i off n : Nat)
  | cptr (b : Bool) (x : AVal) (off : Nat)
  | fn (f : Nat) (first cap : List AVal)
  | imap (b : Bool) (es : List (AVal × AVal))
  | mp (id : Nat)
  | yld (l site : Nat) (env : List AVal)
  | frs (k : Nat) (xs : List AVal)
  | emp (b : Bool)
  | it (id : Nat)
  | any
  deriving Inhabited
inductive Ex where
  | nrm
  | ext (id : Nat)
  | ret
  deriving DecidableEq, Inhabited
inductive Obj where
  | arr (k ep : Nat) (es : List AVal)
  | map (es : List (AVal × AVal))
  | pend (busy : Bool) (j : Option Ex)
  | it (s : List UInt8) (pos : Nat)
  | mit (es : List (AVal × AVal)) (cur : Option (AVal × AVal)) (k : Nat)
  | dead
  deriving Inhabited
abbrev Store := List Obj
def plainArg : AVal → Bool
  | .int .. => true
  | .str _ => true
  | _ => false
def isAgg : AVal → Bool
  | .agg _ => true
  | _ => false
def cellsOf : AVal → List AVal
  | .agg cs => cs
  | v => [v]
def ncells : AVal → Nat
  | .agg cs => cs.length
  | .any | .tup _ | .frs _ _ | .asl .. => 0
  | _ => 1
def getPart (a : Bool) (s : Nat) (x : AVal) (off : Nat) : Option AVal :=
  if off = 0 ∧ ncells x = s ∧ isAgg x = a then some x
  else if a then (if off + s ≤ ncells x then some (.agg (((cellsOf x).drop off).take s)) else none)
  else (cellsOf x)[off]?
def setPart (s : Nat) (x : AVal) (off : Nat) (v : AVal) : Option AVal :=
  if ncells v = s then
    if off = 0 ∧ ncells x = s ∧ isAgg x = isAgg v then some v
    else if off + s ≤ ncells x ∧ isAgg x = true then some (.agg ((cellsOf x).take off ++ cellsOf v ++ (cellsOf x).drop (off + s)))
    else none
  else none
def sliceAt (σ : Store) (id ep off len : Nat) : Option (List AVal) :=
  match σ[id]? with
  | some (.arr _ e es) => if e = ep ∧ off + len ≤ es.length then some ((es.drop off).take len) else none
  | _ => none
def elemAt (σ : Store) (id ep i : Nat) : Option AVal :=
  match σ[id]? with
  | some (.arr _ e es) => if e = ep then es[i]? else none
  | _ => none
def arrK (σ : Store) (id : Nat) : Option Nat :=
  match σ[id]? with
  | some (.arr k _ _) => some k
  | _ => none
def fresh (σ : Store) (id ep : Nat) : Bool :=
  match σ[id]? with
  | some (.arr _ e _) => e == ep
  | _ => false
def entriesAt (σ : Store) (id : Nat) : Option (List (AVal × AVal)) :=
  match σ[id]? with
  | some (.map es) => some es
  | _ => none
def listAt (fl : Bool) (l l' : List AVal) : AVal := if l'.map ncells = l.map ncells then .imm fl l' else .any
def cptrAt (fl : Bool) (x x' : AVal) (off : Nat) : AVal := if ncells x' = ncells x then .cptr fl x' off else .any
def fz (fl top : Bool) (base : Nat) (σ : Store) : Nat → AVal → AVal
  | 0, _ => .any
  | n + 1, v => match v with
    | .agg cs => .agg (cs.map (fz fl top base σ n))
    | .tup vs => .tup (vs.map (fz fl top base σ n))
    | .nil0 => if !fl && top then .nil0 else .imm false []
    | .imm b xs => if b && !fl && !top then .any else .imm b xs
    | .lst xs => listAt fl xs (xs.map (fz fl false base σ n))
    | .cptr b x o => if b then (if fl then cptrAt true x (fz fl false base σ n x) o else if top then cptrAt true x (fz fl top base σ n x) o else .any) else .cptr false x o
    | .imap b es => if b && !fl && !top then .any else .imap b es
    | .sl id ep off len => if id < base then (if top then .sl id ep off len else .any) else (sliceAt σ id ep off len).elim .any fun l => listAt fl l (l.map (fz fl false base σ n))
    | .ptr id ep i off => if id < base then (if top then .ptr id ep i off else .any) else (elemAt σ id ep i).elim .any fun x => cptrAt fl x (fz fl false base σ n x) off
    | .asl id ep i off m => if id < base && top then .asl id ep i off m else .any
    | .mp id => if id < base then (if top then .mp id else .any) else (entriesAt σ id).elim .any fun es => .imap fl (es.map fun e => (e.1, fz fl false base σ n e.2))
    | .fn f first cap => .fn f (first.map (fz fl top base σ n)) (cap.map (fz fl top base σ n))
    | .yld l site env => if l < base && top then .yld l site (env.map (fz fl top base σ n)) else .any
    | .it id => if id < base && top then .it id else .any
    | .frs _ _ => .any
    | v => v
def fuel : Nat := 20
def snap (σ : Store) (v : AVal) : AVal := fz true false 0 σ fuel v
def frozen (σ : Store) (v : AVal) : AVal := fz false false 0 σ fuel v
def freeze (base : Nat) (σ : Store) (v : AVal) : AVal := fz false true base σ fuel v
def arrAt (k ep : Nat) (l l' : List AVal) : Obj := if l'.map ncells = l.map ncells then .arr k ep l' else .dead
def freezeObj (base : Nat) (σ : Store) : Obj → Obj
  | .arr k ep es => arrAt k ep es (es.map (freeze base σ))
  | .map es => .map (es.map fun e => (e.1, freeze base σ e.2))
  | o => o
def neg (n : Bool) (t : Bool) : AVal := .bool (if n then !t else t)
def rd (σ : Store) : AVal → Option (List AVal)
  | .imm _ xs => some xs
  | .lst xs => some xs
  | .nil0 => some []
  | .emp _ => some []
  | .sl id ep off len => sliceAt σ id ep off len
  | .str s => some (s.map fun c => .int .u8 c.toNat)
  | _ => none
mutual
def same : AVal → AVal → Bool
  | .int k n, .int k' n' => k == k' && n == n'
  | .bool a, .bool b => a == b
  | .str a, .str b => a == b
  | .nilp, .nilp => true
  | .nilf, .nilf => true
  | .nilm, .nilm => true
  | .agg a, .agg b => sameL a b
  | .tup a, .tup b => sameL a b
  | .imm b xs, .imm b' ys => b == b' && sameL xs ys
  | .lst xs, .lst ys => sameL xs ys
  | .nil0, .nil0 => true
  | .sl a b c d, .sl a' b' c' d' => a == a' && b == b' && c == c' && d == d'
  | .ptr a b c d, .ptr a' b' c' d' => a == a' && b == b' && c == c' && d == d'
  | .asl a b c d e, .asl a' b' c' d' e' => a == a' && b == b' && c == c' && d == d' && e == e'
  | .cptr b x o, .cptr b' y o' => b == b' && same x y && o == o'
  | .fn f a b, .fn f' a' b' => f == f' && sameL a a' && sameL b b'
  | .imap b es, .imap b' es' => b == b' && sameE es es'
  | .mp a, .mp b => a == b
  | .yld l s env, .yld l' s' env' => l == l' && s == s' && sameL env env'
  | .frs k xs, .frs k' ys => k == k' && sameL xs ys
  | .emp a, .emp b => a == b
  | .it a, .it b => a == b
  | .any, .any => true
  | _, _ => false
def sameL : List AVal → List AVal → Bool
  | [], [] => true
  | a :: x, b :: y => same a b && sameL x y
  | _, _ => false
def sameE : List (AVal × AVal) → List (AVal × AVal) → Bool
  | [], [] => true
  | (a, b) :: x, (a', b') :: y => same a a' && same b b' && sameE x y
  | _, _ => false
end
def sameC : Option (AVal × AVal) → Option (AVal × AVal) → Bool
  | none, none => true
  | some a, some b => same a.1 b.1 && same a.2 b.2
  | _, _ => false
def sameO : Obj → Obj → Bool
  | .arr k e xs, .arr k' e' ys => k == k' && e == e' && sameL xs ys
  | .map es, .map es' => sameE es es'
  | .pend b j, .pend b' j' => b == b' && decide (j = j')
  | .it s p, .it s' p' => s == s' && p == p'
  | .mit a b c, .mit a' b' c' => sameE a a' && sameC b b' && c == c'
  | .dead, .dead => true
  | _, _ => false
def sameS : Store → Store → Bool
  | [], [] => true
  | a :: x, b :: y => sameO a b && sameS x y
  | _, _ => false
inductive Opd where
  | env (i : Nat)
  | loc (j : Nat)
  | val (v : AVal)
  deriving Inhabited
inductive AOp where
  | mov (x : Opd)
  | pick (c a b : Opd)
  | box (k : Nat) (x : Opd)
  | build (zero : List AVal) (parts : List (Nat × Nat × Opd))
  | mknil (k : Nat)
  | mkl (k : Nat) (xs : List Opd)
  | mksl (k : Nat) (xs : List Opd)
  | mkslz (k : Nat) (zero : AVal) (n : Nat) (parts : List (Nat × Opd))
  | make (k : Nat) (zero : AVal) (n c : Opd)
  | load (a : Bool) (s : Nat) (x : Opd)
  | store (s : Nat) (x v : Opd)
  | fld (off : Nat) (x : Opd)
  | fldv (a : Bool) (s off : Nat) (x : Opd)
  | idxs (k : Nat) (x i : Opd)
  | idxa (n s : Nat) (x i : Opd)
  | idxv (a : Bool) (n s : Nat) (x i : Opd)
  | idxt (x i : Opd)
  | bin (op : BinOp) (x y : Opd)
  | eqb (n : Bool) (x y : Opd)
  | eqa (n : Bool) (ks : List Nat) (x y : Opd)
  | isnil (f n : Bool) (x : Opd)
  | nils (n : Bool) (x : Opd)
  | una (op : UnOp) (x : Opd)
  | conv (k : IntKind) (x : Opd)
  | slice (k : Nat) (x : Opd) (lo hi : Option Opd)
  | slicet (x : Opd) (lo hi : Option Opd)
  | slice0 (x : Opd)
  | aslice (n : Nat) (x : Opd)
  | len (x : Opd)
  | lent (x : Opd)
  | cap (x : Opd)
  | app (k : Nat) (x y : Opd)
  | appz (k : Nat) (zero : AVal) (x n : Opd)
  | copy (k : Nat) (x y : Opd)
  | mins (x : Opd) (xs : List Opd)
  | maxs (x : Opd) (xs : List Opd)
  | mkfn (f : Nat) (first cap : List Opd)
  | ext (i : Nat) (x : Opd)
  | nilck (x : Opd)
  | call (f : Nat) (args : List Opd) (mat : Bool)
  | callv (f : Opd) (args : List Opd)
  | mkmap
  | mput (m k v : Opd)
  | look (zero : AVal) (ok : Bool) (m k : Opd)
  | mlen (m : Opd)
  | clr (zero : AVal) (x : Opd)
  | rngs (x : Opd)
  | nexts (x : Opd)
  | lookk (ks : List Nat) (zero : AVal) (ok : Bool) (m k : Opd)
  | mputk (ks : List Nat) (m k v : Opd)
  | b2s (x : Opd)
  | rngm (x : Opd)
  | entry (x : Opd)
  | bad
  deriving Inhabited
structure Ins where
  op : AOp
  guard : Option (Opd × Bool) := none
  deriving Inhabited
inductive ACode where
  | skip
  | reg (ops : List Ins) (outs : List (Nat × Opd))
  | regd (ops : List Ins) (outs : List (Nat × Opd)) (chk : List (Nat × Nat))
  | seq (a b : ACode)
  | cond (c : Opd) (a b : ACode)
  | blk (id : Nat) (b : ACode)
  | loop (clr : List Nat) (b : ACode)
  | exit (id : Nat)
  | ret
  | rng (n : Nat) (f : Opd) (site : Nat)
  | scope (b : ACode)
  | lift (i off k : Nat) (b : ACode)
  | mloop (clr : List Nat) (it ok : Nat) (b : ACode)
  deriving Inhabited
inductive Mode where
  | pure
  | fresh (k : Nat)
  | keep
  | trunc
  deriving DecidableEq, Inhabited
inductive Res where
  | env (i : Nat)
  | cell (a : Bool) (s i : Nat)
  deriving Inhabited
structure AFunc where
  nenv : Nat
  np : Nat
  mode : Mode
  res : List Res
  body : ACode
  deriving Inhabited
structure ARound where
  nenv : Nat
  params : List Nat
  pre : ACode
  body : ACode
  deriving Inhabited
abbrev CallF := Nat → List AVal → Store → Option (AVal × Store)
abbrev Prim := CallF → List AVal → Store → Option (AVal × Store)
inductive AEntry where
  | none
  | fn (f : AFunc)
  | nilfn (f : AFunc)
  | round (r : ARound)
  | prim (k : Nat)
  deriving Inhabited
def nth (l : List AVal) (i : Nat) : AVal := l[i]?.getD .any
def Opd.eval (env ls : List AVal) : Opd → AVal
  | .env i => nth env i
  | .loc j => nth ls j
  | .val v => v
def sameCell : AVal → AVal → Option Bool
  | .int k a, .int k' b => if k = k' then some (a == b) else none
  | .bool a, .bool b => some (a == b)
  | .str a, .str b => some (a == b)
  | _, _ => none
def sameCells : List AVal → List AVal → Option Bool
  | [], [] => some true
  | a :: x, b :: y => (sameCell a b).bind fun t => if t then sameCells x y else (sameCells x y).map fun _ => false
  | _, _ => none
def isNil : AVal → Option Bool
  | .nilp | .nilf | .nilm => some true
  | .cptr .. | .fn .. => some false
  | _ => none
def isFn : AVal → Bool
  | .nilf | .fn .. => true
  | _ => false
def isPtr : AVal → Bool
  | .nilp | .cptr .. => true
  | _ => false
def intBits (op : BinOp) (k : IntKind) (x y : Int) : Option Int :=
  let a := BitVec.ofInt k.bits x
  let b := BitVec.ofInt k.bits y
  match op with
  | .and => some (k.wrap (a &&& b).toNat)
  | .or => some (k.wrap (a ||| b).toNat)
  | .xor => some (k.wrap (a ^^^ b).toNat)
  | .andNot => some (k.wrap (a &&& ~~~b).toNat)
  | _ => none
def binInt (op : BinOp) (k : IntKind) (a b : Int) : Option AVal :=
  match op with
  | .add => some (.int k (k.wrap (a + b)))
  | .sub => some (.int k (k.wrap (a - b)))
  | .mul => some (.int k (k.wrap (a * b)))
  | .quo => if b = 0 then none else some (.int k (k.wrap (a.tdiv b)))
  | .rem => if b = 0 then none else some (.int k (a.tmod b))
  | .eql => some (.bool (a == b))
  | .neq => some (.bool (a != b))
  | .lss => some (.bool (decide (a < b)))
  | .leq => some (.bool (decide (a ≤ b)))
  | .gtr => some (.bool (decide (a > b)))
  | .geq => some (.bool (decide (a ≥ b)))
  | .shl | .shr => none
  | _ => (intBits op k a b).map (.int k)
def most : Nat := 2 ^ 36
def binStr (op : BinOp) (a b : List UInt8) : Option AVal :=
  match op with
  | .add => if a.length + b.length ≤ most then some (.str (a ++ b)) else none
  | .eql => some (.bool (a == b))
  | .neq => some (.bool (!(a == b)))
  | .lss => some (.bool (Op.bytesLess a b))
  | .leq => some (.bool (Op.bytesLess a b || a == b))
  | .gtr => some (.bool (!(Op.bytesLess a b || a == b)))
  | .geq => some (.bool (!(Op.bytesLess a b)))
  | _ => none
def shift (op : BinOp) (k : IntKind) (a b : Int) : Option AVal :=
  if b < 0 then none else
  match op with
  | .shl => some (.int k (k.wrap (a * 2 ^ (min b.toNat k.bits))))
  | .shr => some (.int k (a.fdiv (2 ^ (min b.toNat k.bits))))
  | _ => none
def bin (op : BinOp) (x y : AVal) : Option AVal :=
  match x, y with
  | .int k a, .int k' b =>
    match op with
    | .shl => shift op k a b
    | .shr => shift op k a b
    | _ => if k = k' then binInt op k a b else none
  | .str a, .str b => binStr op a b
  | _, _ => none
def eqb (n : Bool) (x y : AVal) : Option AVal :=
  match x, y with
  | .bool a, .bool b => some (neg n (a == b))
  | _, _ => none
def kindOf : AVal → Nat
  | .int .. => 0
  | .bool _ => 1
  | .str _ => 2
  | _ => 3
def eqCells : List Nat → List AVal → List AVal → Option Bool
  | [], _, _ => some true
  | k :: ks, a :: x, b :: y => if kindOf a = k then (sameCell a b).bind fun t => if t then eqCells ks x y else some false else none
  | _, _, _ => none
def eqa (n : Bool) (ks : List Nat) (x y : AVal) : Option AVal :=
  match x, y with
  | .agg a, .agg b => (eqCells ks a b).map (neg n)
  | _, _ => none
def isnil (n : Bool) (x : AVal) : Option AVal := (isNil x).map (neg n)
def emptyS (σ : Store) (x : AVal) : Bool :=
  match x with
  | .str _ => false
  | x => match rd σ x with
    | some [] => true
    | _ => false
def nilsV (n : Bool) (σ : Store) (x : AVal) : Option AVal :=
  match x with
  | .emp b => some (neg n b)
  | .str _ => none
  | x => match rd σ x with
    | some (_ :: _) => some (neg n false)
    | _ => none
def una (op : UnOp) (x : AVal) : Option AVal :=
  match op, x with
  | .neg, .int k n => some (.int k (k.wrap (0 - n)))
  | .xor, .int k n => (intBits .xor k (if k.signed then -1 else k.max) n).map (.int k)
  | .not, .bool b => some (.bool (!b))
  | _, _ => none
def alen (σ : Store) : AVal → Option Nat
  | .imm _ xs => some xs.length
  | .lst xs => some xs.length
  | .nil0 => some 0
  | .emp _ => some 0
  | .sl id ep _ n => if fresh σ id ep then some n else none
  | _ => none
def tlen : AVal → Option Nat
  | .str s => some s.length
  | _ => none
def isSlice (σ : Store) : AVal → Bool
  | .imm _ _ | .lst _ | .nil0 => true
  | .sl id ep _ _ => fresh σ id ep
  | _ => false
def asNat : AVal → Option Nat
  | .int _ n => if 0 ≤ n then some n.toNat else none
  | _ => none
def aslice (σ : Store) (k : Nat) (x : AVal) (lo hi : Nat) : Option AVal :=
  match x with
  | .imm b xs => if lo ≤ hi ∧ hi ≤ xs.length ∧ xs.all (fun y => ncells y == k) then some (.imm b ((xs.drop lo).take (hi - lo))) else none
  | .lst xs => if lo ≤ hi ∧ hi ≤ xs.length ∧ xs.all (fun y => ncells y == k) then some (.lst ((xs.drop lo).take (hi - lo))) else none
  | .nil0 => if lo = 0 ∧ hi = 0 then some .nil0 else none
  | .sl id ep off n => if lo ≤ hi ∧ hi ≤ n ∧ arrK σ id = some k then some (.sl id ep (off + lo) (hi - lo)) else none
  | _ => none
def tslice (x : AVal) (lo hi : Nat) : Option AVal :=
  match x with
  | .str s => if lo ≤ hi ∧ hi ≤ s.length then some (.str ((s.drop lo).take (hi - lo))) else none
  | _ => none
def append (k : Nat) (x : AVal) (ys : List AVal) (σ : Store) : Option (AVal × Store) :=
  if ys.length = 0 then (if isSlice σ x then some (x, σ) else none) else
  if ys.all (fun y => ncells y == k) then
    match x with
    | .nil0 => if ys.length ≤ most then some (.sl σ.length 0 0 ys.length, σ ++ [.arr k 0 ys]) else none
    | .sl id ep off n => match σ[id]? with
      | some (.arr k' e es) =>
        if k' = k ∧ e = ep ∧ off + n ≤ es.length ∧ off = 0 ∧ n + ys.length ≤ most then
          some (.sl id (ep + 1) 0 (n + ys.length), σ.set id (.arr k (ep + 1) (es.take n ++ ys)))
        else none
      | _ => none
    | _ => none
  else none
def loadAt (a : Bool) (s : Nat) (p : AVal) (σ : Store) : Option AVal :=
  match p with
  | .cptr _ x off => getPart a s x off
  | .ptr id ep i off => (elemAt σ id ep i).bind fun x => getPart a s x off
  | _ => none
def storeAt (s : Nat) (p v : AVal) (σ : Store) : Option Store :=
  match p with
  | .ptr id ep i off => match σ[id]? with
    | some (.arr k e es) =>
      if e = ep then (es[i]?).bind fun x => (setPart s x off v).map fun x' => σ.set id (.arr k e (es.set i x')) else none
    | _ => none
  | _ => none
def keyIs (a b : AVal) : Option Bool := match a, b with
  | .int k x, .int k' y => if k = k' then some (x == y) else none
  | _, _ => none
def lookup (k : AVal) : List (AVal × AVal) → Option (Option AVal)
  | [] => some none
  | e :: r => match keyIs e.1 k with
    | some true => some (some e.2)
    | some false => lookup k r
    | none => none
def mput (k v : AVal) : List (AVal × AVal) → Option (List (AVal × AVal))
  | [] => some [(k, v)]
  | e :: r => match keyIs e.1 k with
    | some true => some ((e.1, v) :: r)
    | some false => (mput k v r).map (e :: ·)
    | none => none
def plainCell : AVal → Bool
  | .int .. => true
  | .str _ => true
  | .bool _ => true
  | _ => false
def isKey : AVal → Bool
  | .int .. => true
  | .str _ => true
  | .agg cs => cs.all plainCell
  | _ => false
def isIntV : AVal → Bool
  | .int .. => true
  | _ => false
def keyFits (ks : List Nat) : AVal → Bool
  | .str _ => ks == []
  | .agg cs => ks != [] && cs.map kindOf == ks && cs.all plainCell
  | _ => false
def keyIsK (ks : List Nat) (k e : AVal) : Option Bool :=
  if keyFits ks e then (match k, e with
    | .str a, .str b => some (a == b)
    | .agg a, .agg b => eqCells ks a b
    | _, _ => none) else none
def lookupK (ks : List Nat) (k : AVal) : List (AVal × AVal) → Option (Option AVal)
  | [] => some none
  | e :: r => match keyIsK ks k e.1 with
    | some true => some (some e.2)
    | some false => lookupK ks k r
    | none => none
def mputK (ks : List Nat) (k v : AVal) : List (AVal × AVal) → Option (List (AVal × AVal))
  | [] => some [(k, v)]
  | e :: r => match keyIsK ks k e.1 with
    | some true => some ((e.1, v) :: r)
    | some false => (mputK ks k v r).map (e :: ·)
    | none => none
def opt (env ls : List AVal) (d : Nat) : Option Opd → Option Nat
  | none => some d
  | some o => asNat (o.eval env ls)
def fill (zero : List AVal) : List (Nat × Nat × AVal) → Option (List AVal)
  | [] => some zero
  | (off, s, v) :: r => if ncells v = s ∧ s ≠ 0 ∧ off + s ≤ zero.length then fill (zero.take off ++ cellsOf v ++ zero.drop (off + s)) r else none
def setAll (l : List AVal) : List (Nat × AVal) → List AVal
  | [] => l
  | (i, v) :: r => setAll (l.set i v) r
def minmax (lt : Bool) : AVal → List AVal → Option AVal
  | x, [] => some x
  | .int k a, .int k' b :: r => if k = k' then minmax lt (.int k (if lt then (if b < a then b else a) else (if a < b then b else a))) r else none
  | _, _ => none
def pendAt (σ : Store) (l : Nat) : Bool := match σ[l]? with
  | some (.pend false none) => true
  | _ => false
def callV (C : CallF) (f : AVal) (args : List AVal) (σ : Store) : Option (AVal × Store) :=
  match f with
  | .fn f first cap => C f (first ++ args ++ cap) σ
  | .yld l site env => if pendAt σ l then C site (.frs l [] :: env ++ args) σ else none
  | _ => none
def callF (C : CallF) (f : AVal) (args : List AVal) (σ : Store) : Option (AVal × Store) :=
  match f with
  | .fn f first cap => C f (first ++ args ++ cap) σ
  | _ => none
def mater1 (mat : Bool) (v : AVal) (σ : Store) : AVal × Store :=
  match v with
  | .frs k xs => if mat then (.sl σ.length 0 0 xs.length, σ ++ [.arr k 0 xs]) else (.imm false xs, σ)
  | v => (v, σ)
def mater (mat : Bool) (r : AVal × Store) : AVal × Store :=
  match r.1 with
  | .tup (v :: vs) => let q := mater1 mat v r.2; (.tup (q.1 :: vs), q.2)
  | v => mater1 mat v r.2
def fldV (σ : Store) (off : Nat) : AVal → Option AVal
  | .ptr id ep i o => if fresh σ id ep then some (.ptr id ep i (o + off)) else none
  | .cptr b y o => some (.cptr b y (o + off))
  | _ => none
def idxsV (σ : Store) (k n : Nat) : AVal → Option AVal
  | .imm b xs => (xs[n]?).bind fun y => if ncells y = k then some (.cptr b y 0) else none
  | .lst xs => (xs[n]?).bind fun y => if ncells y = k then some (.cptr true y 0) else none
  | .sl id ep off m => if n < m ∧ arrK σ id = some k ∧ fresh σ id ep then some (.ptr id ep (off + n) 0) else none
  | _ => none
def nilckV (σ : Store) : AVal → Option AVal
  | .ptr id ep i o => if fresh σ id ep then some (.ptr id ep i o) else none
  | .cptr b y o => some (.cptr b y o)
  | .fn f a b => some (.fn f a b)
  | _ => none
def convV (k : IntKind) : AVal → Option AVal
  | .int _ n => some (.int k (k.wrap n))
  | _ => none
def extV (i : Nat) : AVal → Option AVal
  | .tup vs => vs[i]?
  | _ => none
def idxtV (n : Nat) : AVal → Option AVal
  | .str t => (t[n]?).map fun c => .int .u8 c.toNat
  | _ => none
def mapOf (σ : Store) : AVal → Option (List (AVal × AVal))
  | .imap _ es => some es
  | .nilm => some []
  | .mp id => entriesAt σ id
  | _ => none
def mputV (σ : Store) (key v : AVal) : AVal → Option Store
  | .mp id => (entriesAt σ id).bind fun es => if isIntV key then (mput key v es).map fun es' => σ.set id (.map es') else none
  | _ => none
def mputKV (ks : List Nat) (σ : Store) (key v : AVal) : AVal → Option Store
  | .mp id => (entriesAt σ id).bind fun es => if keyFits ks key then (mputK ks key v es).map fun es' => σ.set id (.map es') else none
  | _ => none
def bytesV : List AVal → Option (List UInt8)
  | [] => some []
  | .int .u8 n :: r => (bytesV r).map (UInt8.ofNat n.toNat :: ·)
  | _ => none
def b2sV (σ : Store) : AVal → Option AVal
  | .str _ => none
  | x => (rd σ x).bind fun ys => (bytesV ys).map .str
def clrV (σ : Store) (zero : AVal) : AVal → Option Store
  | .sl id ep off n => match σ[id]? with
    | some (.arr k e es) => if e = ep ∧ off + n ≤ es.length ∧ ncells zero = k then some (σ.set id (.arr k e (es.take off ++ List.replicate n zero ++ es.drop (off + n)))) else none
    | _ => none
  | .nil0 => some σ
  | _ => none
def pickV (a b : AVal) : AVal → Option AVal
  | .bool t => some (if t then a else b)
  | _ => none
def partV (a : Bool) (s off : Nat) (x : AVal) : Option AVal := if isAgg x = true ∧ ncells x ≠ 0 then getPart a s x off else none
def aslV (σ : Store) (n : Nat) : AVal → Option AVal
  | .ptr id ep i o => if fresh σ id ep then some (.asl id ep i o n) else none
  | .cptr false (.agg cs) 0 => if cs.length = n ∧ cs.all (fun y => ncells y == 1 && !isAgg y) = true then some (.imm false cs) else none
  | _ => none
def dlen : AVal → Nat
  | .sl _ _ _ n => n
  | .asl _ _ _ _ n => n
  | _ => 0
def rdMin (σ : Store) (n : Nat) : AVal → Option (List AVal)
  | .sl id ep off len => (rd σ (.sl id ep off len)).map (·.take n)
  | y => rd σ y
def copyV (σ : Store) (k0 : Nat) (ys : List AVal) : AVal → Option Store
  | .asl id ep i off n => match σ[id]? with
    | some (.arr k e es) => if e = ep ∧ k0 = 1 ∧ ys.length ≤ n ∧ ys.all (fun y => ncells y == 1 && !isAgg y) then (es[i]?).bind fun x =>
        if isAgg x = true ∧ off + n ≤ ncells x then some (σ.set id (.arr k e (es.set i (.agg ((cellsOf x).take off ++ ys ++ (cellsOf x).drop (off + ys.length)))))) else none
      else none
    | _ => none
  | .sl id ep off n => match σ[id]? with
    | some (.arr k e es) => if e = ep ∧ k = k0 ∧ ys.length ≤ n ∧ off + n ≤ es.length ∧ ys.all (fun y => ncells y == k) then
        some (σ.set id (.arr k e (es.take off ++ ys ++ es.drop (off + ys.length)))) else none
    | _ => none
  | _ => none
def nextV (σ : Store) : AVal → Option (AVal × Store)
  | .it id => match σ[id]? with
    | some (.it s pos) => if pos < s.length then
        some (.tup [.bool true, .int .i64 pos, .int .i32 (Utf8.decode ⟨s.toArray⟩ pos).1], σ.set id (.it s (pos + (Utf8.decode ⟨s.toArray⟩ pos).2)))
      else some (.tup [.bool false], σ)
    | _ => none
  | _ => none
def rngV (σ : Store) : AVal → Option (AVal × Store)
  | .str s => some (.it σ.length, σ ++ [.it s 0])
  | _ => none
def rngmV (σ : Store) : AVal → Option (AVal × Store)
  | .imap false es => some (.it σ.length, σ ++ [.mit es none es.length])
  | _ => none
def entryV (σ : Store) : AVal → Option AVal
  | .it id => match σ[id]? with
    | some (.mit _ (some e) _) => some (.tup [e.1, e.2])
    | _ => none
  | _ => none
def capV : AVal → Option AVal
  | .nil0 => some (.int .i64 0)
  | _ => none
def stepOp (C : CallF) (env ls : List AVal) (σ : Store) : AOp → Option (AVal × Store)
  | .mov x => some (x.eval env ls, σ)
  | .pick c a b => (pickV (a.eval env ls) (b.eval env ls) (c.eval env ls)).map (·, σ)
  | .box k x => let v := x.eval env ls; if ncells v = k then some (.ptr σ.length 0 0 0, σ ++ [.arr k 0 [v]]) else none
  | .build zero parts => (fill zero (parts.map fun p => (p.1, p.2.1, p.2.2.eval env ls))).map fun cs => (.agg cs, σ)
  | .mknil k => some (.sl σ.length 0 0 0, σ ++ [.arr k 0 []])
  | .mkl k xs => let vs := xs.map (·.eval env ls); if vs.all (fun v => ncells v == k) then some (.lst vs, σ) else none
  | .mksl k xs => let vs := xs.map (·.eval env ls)
    if vs = [] then some (.nil0, σ) else
    if vs.all (fun v => ncells v == k) then some (.sl σ.length 0 0 vs.length, σ ++ [.arr k 0 vs]) else none
  | .mkslz k zero n parts => let vs := setAll (List.replicate n zero) (parts.map fun p => (p.1, p.2.eval env ls))
    if vs.all (fun v => ncells v == k) then some (.sl σ.length 0 0 n, σ ++ [.arr k 0 vs]) else none
  | .make k zero n c => (asNat (n.eval env ls)).bind fun m => (asNat (c.eval env ls)).bind fun d =>
      if m = d ∧ ncells zero = k ∧ m ≤ most then some (.sl σ.length 0 0 m, σ ++ [.arr k 0 (List.replicate m zero)]) else none
  | .load a s x => (loadAt a s (x.eval env ls) σ).map (·, σ)
  | .store s x v => (storeAt s (x.eval env ls) (v.eval env ls) σ).map (.any, ·)
  | .fld off x => (fldV σ off (x.eval env ls)).map (·, σ)
  | .fldv a s off x => (partV a s off (x.eval env ls)).map (·, σ)
  | .idxs k x i => (asNat (i.eval env ls)).bind fun n => (idxsV σ k n (x.eval env ls)).map (·, σ)
  | .idxa m s x i => (asNat (i.eval env ls)).bind fun n => if n < m then (fldV σ (n * s) (x.eval env ls)).map (·, σ) else none
  | .idxv a m s x i => (asNat (i.eval env ls)).bind fun n => if n < m then (partV a s (n * s) (x.eval env ls)).map (·, σ) else none
  | .idxt x i => (asNat (i.eval env ls)).bind fun n => (idxtV n (x.eval env ls)).map (·, σ)
  | .bin op x y => (bin op (x.eval env ls) (y.eval env ls)).map (·, σ)
  | .eqb n x y => (eqb n (x.eval env ls) (y.eval env ls)).map (·, σ)
  | .eqa n ks x y => (eqa n ks (x.eval env ls) (y.eval env ls)).map (·, σ)
  | .isnil f n x => if (if f then isFn (x.eval env ls) else isPtr (x.eval env ls)) then (isnil n (x.eval env ls)).map (·, σ) else none
  | .nils n x => (nilsV n σ (x.eval env ls)).map (·, σ)
  | .una op x => (una op (x.eval env ls)).map (·, σ)
  | .conv k x => (convV k (x.eval env ls)).map (·, σ)
  | .slice k x lo hi => let v := x.eval env ls
    (alen σ v).bind fun n => (opt env ls 0 lo).bind fun l => (opt env ls n hi).bind fun h => (aslice σ k v l h).map (·, σ)
  | .slicet x lo hi => let v := x.eval env ls
    (tlen v).bind fun n => (opt env ls 0 lo).bind fun l => (opt env ls n hi).bind fun h => (tslice v l h).map (·, σ)
  | .slice0 x => (alen σ (x.eval env ls)).map fun _ => (.nil0, σ)
  | .aslice n x => (aslV σ n (x.eval env ls)).map (·, σ)
  | .len x => (alen σ (x.eval env ls)).map fun (n : Nat) => (.int .i64 (n : Int), σ)
  | .lent x => (tlen (x.eval env ls)).map fun (n : Nat) => (.int .i64 (n : Int), σ)
  | .cap x => (capV (x.eval env ls)).map (·, σ)
  | .app k x y => (rd σ (y.eval env ls)).bind fun ys => append k (x.eval env ls) ys σ
  | .appz k zero x n => (asNat (n.eval env ls)).bind fun m => if ncells zero = k ∧ m ≤ most then append k (x.eval env ls) (List.replicate m zero) σ else none
  | .copy k x y => (rdMin σ (dlen (x.eval env ls)) (y.eval env ls)).bind fun ys => (copyV σ k ys (x.eval env ls)).map fun σ' => (.int .i64 (ys.length : Int), σ')
  | .mins x xs => (minmax true (x.eval env ls) (xs.map (·.eval env ls))).map (·, σ)
  | .maxs x xs => (minmax false (x.eval env ls) (xs.map (·.eval env ls))).map (·, σ)
  | .mkfn f first cap => some (.fn f (first.map (·.eval env ls)) (cap.map (·.eval env ls)), σ)
  | .ext i x => (extV i (x.eval env ls)).map (·, σ)
  | .nilck x => (nilckV σ (x.eval env ls)).map (·, σ)
  | .call f args mat => (C f (args.map (·.eval env ls)) σ).map (mater mat)
  | .callv f args => (callV C (f.eval env ls) (args.map (·.eval env ls)) σ).map (mater false)
  | .mkmap => some (.mp σ.length, σ ++ [.map []])
  | .mput m k v => (mputV σ (k.eval env ls) (v.eval env ls) (m.eval env ls)).map (.any, ·)
  | .look zero ok m k => if isIntV (k.eval env ls) then (mapOf σ (m.eval env ls)).bind fun es => (lookup (k.eval env ls) es).map fun r => (if ok then .tup [r.getD zero, .bool r.isSome] else r.getD zero, σ) else none
  | .mlen m => (mapOf σ (m.eval env ls)).map fun es => (.int .i64 (es.length : Int), σ)
  | .clr zero x => (clrV σ zero (x.eval env ls)).map (.any, ·)
  | .rngs x => rngV σ (x.eval env ls)
  | .nexts x => nextV σ (x.eval env ls)
  | .lookk ks zero ok m k => if keyFits ks (k.eval env ls) then (mapOf σ (m.eval env ls)).bind fun es => (lookupK ks (k.eval env ls) es).map fun r => (if ok then .tup [r.getD zero, .bool r.isSome] else r.getD zero, σ) else none
  | .mputk ks m k v => (mputKV ks σ (k.eval env ls) (v.eval env ls) (m.eval env ls)).map (.any, ·)
  | .b2s x => (b2sV σ (x.eval env ls)).map (·, σ)
  | .rngm x => rngmV σ (x.eval env ls)
  | .entry x => (entryV σ (x.eval env ls)).map (·, σ)
  | .bad => none
def wanted (env ls : List AVal) : Option (Opd × Bool) → Option Bool
  | none => some true
  | some (j, b) => match j.eval env ls with
    | .bool t => some (t == b)
    | .tup [] => some false
    | _ => none
def execOps (C : CallF) (env : List AVal) : List Ins → List AVal → Store → Option (List AVal × Store)
  | [], ls, σ => some (ls, σ)
  | i :: r, ls, σ => match wanted env ls i.guard with
    | some true => (stepOp C env ls σ i.op).bind fun q => execOps C env r (ls ++ [q.1]) q.2
    | some false => execOps C env r (ls ++ [.tup []]) σ
    | none => none
def execT (C : CallF) (env : List AVal) : List Ins → List AVal → List Store → Store → Option (List AVal × List Store × Store)
  | [], ls, ss, σ => some (ls, ss, σ)
  | i :: r, ls, ss, σ => match wanted env ls i.guard with
    | some true => (stepOp C env ls σ i.op).bind fun q => execT C env r (ls ++ [q.1]) (ss ++ [σ]) q.2
    | some false => execT C env r (ls ++ [.tup []]) (ss ++ [σ]) σ
    | none => none
def chkAll (C : CallF) (env ls : List AVal) (ops : List Ins) (ss : List Store) : List (Nat × Nat) → Option Unit
  | [] => some ()
  | (n, j) :: r => match ops[n]?, ss[j]? with
    | some i, some τ => (stepOp C env (ls.take n) τ i.op).bind fun q => if same q.1 (nth ls n) && sameS q.2 τ then chkAll C env ls ops ss r else none
    | _, _ => none
def outs (env old ls : List AVal) : List (Nat × Opd) → List AVal
  | [] => env
  | (s, j) :: r => outs (env.set s (j.eval old ls)) old ls r
structure St where
  env : List AVal
  st : Store
def clear (env : List AVal) : List Nat → List AVal
  | [] => env
  | i :: r => clear (env.set i .any) r
def roundEnd (base : Nat) (clr : List Nat) (s : St) : St :=
  if s.st.length = base then ⟨clear s.env clr, s.st⟩
  else ⟨(clear s.env clr).map (freeze base s.st), (s.st.take base).map (freezeObj base s.st)⟩
def loopN (base : Nat) (clr : List Nat) (f : St → Option (Ex × St)) : Nat → St → Option (Ex × St)
  | 0, _ => none
  | n + 1, s => (f s).bind fun r => match r.1 with
    | .nrm => loopN base clr f n (roundEnd base clr r.2)
    | e => some (e, r.2)
def sameEnd (r q : Ex × St) : Bool := decide (r.1 = q.1) && sameL r.2.env q.2.env && sameS r.2.st q.2.st
def jumped (l : Nat) (env : List AVal) (σ : Store) : Option (Ex × St) :=
  match σ[l]? with
  | some (.pend false none) => some (.nrm, ⟨env, σ.set l .dead⟩)
  | some (.pend false (some e)) => some (e, ⟨env, σ.set l .dead⟩)
  | _ => none
def liftAt (id ep j q k : Nat) (σ : Store) : Option Store :=
  match σ[id]? with
  | some (.arr k' e es) => if e = ep ∧ k ≠ 0 then (match es[j]? with
    | some (.agg cs) => (match cs[q]? with
      | some .nil0 => some (σ.set id (.arr k' e (es.set j (.agg (cs.set q (.sl σ.length 0 0 0))))) ++ [.arr k 0 []])
      | _ => none)
    | some .nil0 => if q = 0 then some (σ.set id (.arr k' e (es.set j (.sl σ.length 0 0 0))) ++ [.arr k 0 []]) else none
    | _ => none) else none
  | _ => none
def liftAll (id ep k : Nat) : Nat → Store → Option Store
  | 0, σ => some σ
  | n + 1, σ => (liftAll id ep k n σ).bind fun σ' => liftAt id ep n 0 k σ'
def liftV (p : AVal) (off k : Nat) (σ : Store) : Option Store :=
  match p with
  | .ptr id ep j o => liftAt id ep j (o + off) k σ
  | .sl id ep o n => if off = 999 then (if o = 0 then liftAll id ep k n σ else none) else liftAt id ep (o + off) 0 k σ
  | _ => none
def mround (base : Nat) (clr : List Nat) (env : List AVal) (σ : Store) (r : Option (Ex × St)) : Bool := match r with
  | some (.nrm, s) => (let q := roundEnd base clr s; sameL q.env env && sameS q.st σ)
  | _ => false
def mloopN (clr : List Nat) (it ok : Nat) (f : St → Option (Ex × St)) (s : St) : Option (Ex × St) :=
  match nth (clear s.env clr) it with
  | .it id => match s.st[id]? with
    | some (.mit es none k) =>
      let env := clear s.env clr
      if k = es.length ∧ ((List.range k).all fun j => es.all fun e =>
          mround s.st.length clr env (s.st.set id (.mit es (some e) j)) (f ⟨env.set ok (.bool true), s.st.set id (.mit es (some e) j)⟩)) = true then
        (f ⟨env.set ok (.bool false), s.st.set id (.mit es none 0)⟩).bind fun r => match r.1 with
          | .nrm => none
          | _ => some r
      else none
    | _ => none
  | _ => none
def exec (C : CallF) (n : Nat) : ACode → St → Option (Ex × St)
  | .skip, s => some (.nrm, s)
  | .reg ops os, s => (execOps C s.env ops [] s.st).map fun r => (.nrm, ⟨outs s.env s.env r.1 os, r.2⟩)
  | .regd ops os chk, s => (execT C s.env ops [] [] s.st).bind fun r => (chkAll C s.env r.1 ops (r.2.1 ++ [r.2.2]) chk).map fun _ => (.nrm, ⟨outs s.env s.env r.1 os, r.2.2⟩)
  | .seq a b, s => (exec C n a s).bind fun r => match r.1 with
    | .nrm => exec C n b r.2
    | e => some (e, r.2)
  | .cond c a b, s => match c.eval s.env [] with
    | .bool true => exec C n a s
    | .bool false => exec C n b s
    | _ => none
  | .blk id b, s => (exec C n b s).map fun r => match r.1 with
    | .ext j => if j = id then (.nrm, r.2) else r
    | _ => r
  | .loop clr b, s => loopN s.st.length clr (exec C n b) n ⟨clear s.env clr, s.st⟩
  | .exit id, s => some (.ext id, s)
  | .ret, s => some (.ret, s)
  | .rng m f site, s =>
    let l := s.st.length
    if s.env.length = m then
      (callF C (f.eval s.env []) [.yld l site s.env] (s.st ++ [.pend false none])).bind fun r => jumped l s.env r.2
    else none
  | .scope b, s => exec C n b s
  | .lift i off k b, s => (liftV (nth s.env i) off k s.st).bind fun σ => exec C n b ⟨s.env, σ⟩
  | .mloop clr it ok b, s => mloopN clr it ok (exec C n b) s
def getRes (s : St) : Res → Option AVal
  | .env i => some (nth s.env i)
  | .cell a n i => loadAt a n (nth s.env i) s.st
def getRess (s : St) : List Res → Option (List AVal)
  | [] => some []
  | r :: rs => (getRes s r).bind fun v => (getRess s rs).map (v :: ·)
def results (s : St) (l : List Res) : Option AVal := (getRess s l).map fun vs => match vs with
  | [v] => v
  | vs => .tup vs
def frsAt (k : Nat) (l l' : List AVal) : AVal := if l'.map ncells = l.map ncells then .frs k l' else .any
def freshOf (k : Nat) (σ : Store) (v : AVal) : AVal :=
  match v with
  | .nil0 => .frs k []
  | .sl id ep off len => match σ[id]? with
    | some (.arr k' e es) => if k' = k ∧ e = ep ∧ off = 0 ∧ len ≤ es.length then frsAt k (es.take len) ((es.take len).map (frozen (σ.set id .dead))) else .any
    | _ => .any
  | _ => .any
def deadOf (σ : Store) : AVal → Store
  | .sl id .. => σ.set id .dead
  | _ => σ
def finish (m : Mode) (σ : Store) (s : St) (v : AVal) : AVal × Store :=
  match m with
  | .pure => (frozen s.st v, σ)
  | .fresh k => (match v with
    | .tup (x :: vs) => .tup (freshOf k s.st x :: vs.map (frozen (deadOf s.st x)))
    | x => freshOf k s.st x, σ)
  | .keep => (v, s.st)
  | .trunc => if s.st.length = σ.length then (v, s.st) else (freeze σ.length s.st v, (s.st.take σ.length).map (freezeObj σ.length s.st))
def enter (f : AFunc) (args : List AVal) (σ : Store) : St :=
  match f.mode with
  | .pure | .fresh _ => ⟨(args.take f.np).map (snap σ) ++ List.replicate (f.nenv - f.np) .any, []⟩
  | _ => ⟨args.take f.np ++ List.replicate (f.nenv - f.np) .any, σ⟩
def leave (f : AFunc) (σ : Store) (r : Ex × St) : Option (AVal × Store) :=
  match r.1 with
  | .ext _ => none
  | _ => (results r.2 f.res).map fun v => finish f.mode σ r.2 v
def callG (C : CallF) (n : Nat) (g : AFunc) (args : List AVal) (σ : Store) : Option (AVal × Store) :=
  (exec C n g.body (enter g args σ)).bind (leave g σ)
def putEnv (env : List AVal) : List Nat → List AVal → List AVal
  | p :: ps, a :: es0 => putEnv (env.set p a) ps es0
  | _, _ => env
structure Code where
  fns : Nat → AEntry
  prims : Nat → Prim
def roundOver (l : Nat) (r : Ex × St) : Option (AVal × Store) :=
  match r.2.st[l]? with
  | some (.pend true none) =>
    match r.1 with
    | .nrm => some (.bool true, r.2.st.set l (.pend false none))
    | e => some (.bool false, r.2.st.set l (.pend false (some e)))
  | _ => none
def roundGo (C : CallF) (n l : Nat) (b : ACode) (r : Ex × St) : Option (AVal × Store) :=
  match r.1, r.2.st[l]? with
  | .nrm, some (.pend false none) => (exec C n b ⟨r.2.env, r.2.st.set l (.pend true none)⟩).bind (roundOver l)
  | _, _ => none
def callN (P : Code) : Nat → CallF
  | 0 => fun _ _ _ => none
  | n + 1 => fun f args σ => match P.fns f with
    | .none => none
    | .prim k => P.prims k (callN P n) args σ
    | .fn g => callG (callN P n) n g args σ
    | .nilfn g => match args with
      | x :: rest =>
        if emptyS σ x then (callG (callN P n) n g (.emp true :: rest) σ).bind fun r => (callG (callN P n) n g (.emp false :: rest) σ).bind fun q => if same r.1 q.1 && sameS r.2 q.2 then some r else none
        else callG (callN P n) n g args σ
      | [] => none
    | .round g => match args with
      | .frs l _ :: rest =>
        match σ[l]? with
        | some (.pend false none) =>
          if (rest.drop g.nenv).length = g.params.length then
            (exec (callN P n) n g.pre ⟨putEnv (rest.take g.nenv) g.params (rest.drop g.nenv), σ⟩).bind (roundGo (callN P n) n l g.body)
          else none
        | _ => none
      | _ => none
end Go.AM
section

namespace Go.AM
set_option linter.unusedSectionVars false
section lim
variable {α β : Type}
def Mono (F : Nat → Option α) : Prop := ∀ n r, F n = some r → F (n + 1) = some r
open Classical in
noncomputable def lim (F : Nat → Option α) : Option α := if h : ∃ n r, F n = some r then F (Classical.choose h) else none
theorem Mono.le {F : Nat → Option α} (h : Mono F) {n m : Nat} (hm : n ≤ m) {r : α} (hr : F n = some r) : F m = some r := by
  induction hm with
  | refl => exact hr
  | step _ ih => exact h _ _ ih
theorem lim_eq {F : Nat → Option α} (h : Mono F) (r : α) : lim F = some r ↔ ∃ n, F n = some r := by
  unfold lim
  constructor
  · split
    · exact fun hr => ⟨_, hr⟩
    · intro hr; cases hr
  · rintro ⟨n, hn⟩
    have hx : ∃ n r, F n = some r := ⟨n, r, hn⟩
    rw [dif_pos hx]
    obtain ⟨r', hr'⟩ := Classical.choose_spec hx
    have h1 := h.le (Nat.le_max_left n (Classical.choose hx)) hn
    have h2 := h.le (Nat.le_max_right n (Classical.choose hx)) hr'
    rw [h1] at h2; cases h2; exact hr'
theorem lim_of {F : Nat → Option α} (h : Mono F) {n : Nat} {r : α} (hr : F n = some r) : lim F = some r := (lim_eq h r).2 ⟨n, hr⟩
theorem opt_ext {a b : Option α} (h : ∀ r, a = some r ↔ b = some r) : a = b := by
  cases a with
  | none => cases b with
    | none => rfl
    | some y => exact absurd ((h y).2 rfl) (by simp)
  | some x => exact ((h x).1 rfl).symm
theorem Mono.const (x : Option α) : Mono fun _ => x := fun _ _ h => h
theorem lim_const (x : Option α) : lim (fun _ => x) = x := opt_ext fun r => by rw [lim_eq (Mono.const x)]; exact ⟨fun ⟨_, h⟩ => h, fun h => ⟨0, h⟩⟩
theorem Mono.bind {F : Nat → Option α} {G : α → Nat → Option β} (hF : Mono F) (hG : ∀ x, Mono (G x)) : Mono fun n => (F n).bind fun x => G x n := by
  intro n r h
  simp only [Option.bind_eq_some_iff] at h ⊢
  obtain ⟨x, hx, hr⟩ := h
  exact ⟨x, hF _ _ hx, hG _ _ _ hr⟩
theorem lim_bind {F : Nat → Option α} {G : α → Nat → Option β} (hF : Mono F) (hG : ∀ x, Mono (G x)) :
    lim (fun n => (F n).bind fun x => G x n) = (lim F).bind fun x => lim (G x) := by
  refine opt_ext fun r => ?_
  rw [lim_eq (hF.bind hG)]
  simp only [Option.bind_eq_some_iff]
  constructor
  · rintro ⟨n, x, hx, hr⟩
    exact ⟨x, lim_of hF hx, lim_of (hG x) hr⟩
  · rintro ⟨x, hx, hr⟩
    obtain ⟨n, hn⟩ := (lim_eq hF x).1 hx
    obtain ⟨m, hm⟩ := (lim_eq (hG x) r).1 hr
    exact ⟨max n m, x, hF.le (Nat.le_max_left n m) hn, (hG x).le (Nat.le_max_right n m) hm⟩
theorem Mono.map {F : Nat → Option α} (g : α → β) (hF : Mono F) : Mono fun n => (F n).map g := by
  intro n r h
  simp only [Option.map_eq_some_iff] at h ⊢
  obtain ⟨x, hx, hr⟩ := h
  exact ⟨x, hF _ _ hx, hr⟩
theorem lim_map {F : Nat → Option α} (g : α → β) (hF : Mono F) : lim (fun n => (F n).map g) = (lim F).map g := by
  refine opt_ext fun r => ?_
  rw [lim_eq (hF.map g)]
  simp only [Option.map_eq_some_iff]
  constructor
  · rintro ⟨n, x, hx, hr⟩; exact ⟨x, lim_of hF hx, hr⟩
  · rintro ⟨x, hx, hr⟩
    obtain ⟨n, hn⟩ := (lim_eq hF x).1 hx
    exact ⟨n, x, hn, hr⟩
theorem Mono.shift {F : Nat → Option α} (hF : Mono F) : Mono fun n => F (n + 1) := fun n r h => hF _ _ h
theorem lim_shift {F : Nat → Option α} (hF : Mono F) : lim (fun n => F (n + 1)) = lim F := by
  refine opt_ext fun r => ?_
  rw [lim_eq hF.shift, lim_eq hF]
  exact ⟨fun ⟨n, h⟩ => ⟨n + 1, h⟩, fun ⟨n, h⟩ => ⟨n, hF _ _ h⟩⟩
end lim
def CLe (C D : CallF) : Prop := ∀ f args σ r, C f args σ = some r → D f args σ = some r
theorem stepOp_mono {C D : CallF} (h : CLe C D) {env ls : List AVal} {σ : Store} {o : AOp} {r : AVal × Store} (hr : stepOp C env ls σ o = some r) :
    stepOp D env ls σ o = some r := by
  cases o
  case call f args mat =>
    simp only [stepOp, Option.map_eq_some_iff] at hr ⊢
    obtain ⟨x, hx, rfl⟩ := hr
    exact ⟨x, h _ _ _ _ hx, rfl⟩
  case callv f args =>
    simp only [stepOp, Option.map_eq_some_iff] at hr ⊢
    obtain ⟨x, hx, rfl⟩ := hr
    refine ⟨x, ?_, rfl⟩
    unfold callV at hx ⊢
    split at hx
    · exact h _ _ _ _ hx
    · split at hx
      · rename_i hp
        rw [if_pos hp]
        exact h _ _ _ _ hx
      · cases hx
    · cases hx
  all_goals exact hr
theorem execOps_mono {C D : CallF} (h : CLe C D) {env : List AVal} : ∀ {is : List Ins} {ls : List AVal} {σ : Store} {r : List AVal × Store},
    execOps C env is ls σ = some r → execOps D env is ls σ = some r
  | [], _, _, _, hr => hr
  | i :: is, ls, σ, r, hr => by
    simp only [execOps] at hr ⊢
    cases hw : wanted env ls i.guard with
    | none => rw [hw] at hr; cases hr
    | some t =>
      rw [hw] at hr
      cases t with
      | false => exact execOps_mono h hr
      | true =>
        simp only [Option.bind_eq_some_iff] at hr ⊢
        obtain ⟨q, hq, hr⟩ := hr
        exact ⟨q, stepOp_mono h hq, execOps_mono h hr⟩
theorem execT_mono {C D : CallF} (h : CLe C D) {env : List AVal} : ∀ {is : List Ins} {ls : List AVal} {ss : List Store} {σ : Store} {r : List AVal × List Store × Store},
    execT C env is ls ss σ = some r → execT D env is ls ss σ = some r
  | [], _, _, _, _, hr => hr
  | i :: is, ls, ss, σ, r, hr => by
    simp only [execT] at hr ⊢
    cases hw : wanted env ls i.guard with
    | none => rw [hw] at hr; cases hr
    | some t =>
      rw [hw] at hr
      cases t with
      | false => exact execT_mono h hr
      | true =>
        simp only [Option.bind_eq_some_iff] at hr ⊢
        obtain ⟨q, hq, hr⟩ := hr
        exact ⟨q, stepOp_mono h hq, execT_mono h hr⟩
theorem chkAll_mono {C D : CallF} (h : CLe C D) {env ls : List AVal} {ops : List Ins} {ss : List Store} : ∀ {l : List (Nat × Nat)} {r : Unit}, chkAll C env ls ops ss l = some r → chkAll D env ls ops ss l = some r
  | [], _, hr => hr
  | (n, j) :: l, r, hr => by
    simp only [chkAll] at hr ⊢
    split at hr
    · rw [Option.bind_eq_some_iff] at hr ⊢
      obtain ⟨q, hq, hr⟩ := hr
      refine ⟨q, stepOp_mono h hq, ?_⟩
      split at hr
      · rename_i hc
        rw [if_pos hc]
        exact chkAll_mono h hr
      · cases hr
    · cases hr
theorem loopN_mono {base : Nat} {clr : List Nat} {f g : St → Option (Ex × St)} (h : ∀ s r, f s = some r → g s = some r) :
    ∀ {n m : Nat} {s : St} {r : Ex × St}, n ≤ m → loopN base clr f n s = some r → loopN base clr g m s = some r
  | 0, _, _, _, _, hr => by cases hr
  | n + 1, 0, _, _, hm, _ => by omega
  | n + 1, m + 1, s, r, hm, hr => by
    simp only [loopN, Option.bind_eq_some_iff] at hr ⊢
    obtain ⟨⟨e, q⟩, hx, hr⟩ := hr
    refine ⟨(e, q), h _ _ hx, ?_⟩
    cases e with
    | nrm => exact loopN_mono h (by omega) hr
    | ext _ => exact hr
    | ret => exact hr
theorem mround_mono {base : Nat} {clr : List Nat} {env : List AVal} {σ : Store} {f g : St → Option (Ex × St)} (h : ∀ s r, f s = some r → g s = some r) {s : St} (hr : mround base clr env σ (f s) = true) : mround base clr env σ (g s) = true := by
  unfold mround at hr
  split at hr
  · rename_i q hq
    rw [h _ _ hq]
    exact hr
  · cases hr
theorem mloopN_mono {clr : List Nat} {it ok : Nat} {f g : St → Option (Ex × St)} (h : ∀ s r, f s = some r → g s = some r) {s : St} {r : Ex × St} (hr : mloopN clr it ok f s = some r) : mloopN clr it ok g s = some r := by
  unfold mloopN at hr ⊢
  split at hr
  · rename_i id hid
    split at hr
    · rename_i es k ho
      dsimp only at hr ⊢
      split at hr
      · rename_i hc
        obtain ⟨hc1, hc2⟩ := hc
        have hc3 : ((List.range k).all fun j => es.all fun e =>
            mround s.st.length clr (clear s.env clr) (s.st.set id (.mit es (some e) j)) (g ⟨(clear s.env clr).set ok (.bool true), s.st.set id (.mit es (some e) j)⟩)) = true := by
          rw [List.all_eq_true] at hc2 ⊢
          intro j hj
          have := hc2 j hj
          rw [List.all_eq_true] at this ⊢
          exact fun e he => mround_mono h (this e he)
        rw [if_pos ⟨hc1, hc3⟩]
        rw [Option.bind_eq_some_iff] at hr ⊢
        obtain ⟨x, hx, hr⟩ := hr
        exact ⟨x, h _ _ hx, hr⟩
      · cases hr
    · cases hr
  · cases hr
theorem exec_mono {C D : CallF} (h : CLe C D) {n m : Nat} (hm : n ≤ m) : ∀ {c : ACode} {s : St} {r : Ex × St}, exec C n c s = some r → exec D m c s = some r
  | .skip, _, _, hr => hr
  | .exit _, _, _, hr => hr
  | .ret, _, _, hr => hr
  | .reg ops os, s, r, hr => by
    simp only [exec, Option.map_eq_some_iff] at hr ⊢
    obtain ⟨x, hx, rfl⟩ := hr
    exact ⟨x, execOps_mono h hx, rfl⟩
  | .seq a b, s, r, hr => by
    simp only [exec, Option.bind_eq_some_iff] at hr ⊢
    obtain ⟨⟨e, q⟩, hx, hr⟩ := hr
    refine ⟨(e, q), exec_mono h hm hx, ?_⟩
    cases e with
    | nrm => exact exec_mono h hm hr
    | ext _ => exact hr
    | ret => exact hr
  | .regd ops os chk, s, r, hr => by
    simp only [exec] at hr ⊢
    rw [Option.bind_eq_some_iff] at hr ⊢
    obtain ⟨x, hx, hr⟩ := hr
    refine ⟨x, execT_mono h hx, ?_⟩
    rw [Option.map_eq_some_iff] at hr ⊢
    obtain ⟨y, hy, hr⟩ := hr
    exact ⟨y, chkAll_mono h hy, hr⟩
  | .cond c a b, s, r, hr => by
    simp only [exec] at hr ⊢
    split at hr
    · exact exec_mono h hm hr
    · exact exec_mono h hm hr
    · cases hr
  | .blk id b, s, r, hr => by
    simp only [exec, Option.map_eq_some_iff] at hr ⊢
    obtain ⟨x, hx, rfl⟩ := hr
    exact ⟨x, exec_mono h hm hx, rfl⟩
  | .loop clr b, s, r, hr => by
    simp only [exec] at hr ⊢
    exact loopN_mono (fun s r h' => exec_mono h hm h') hm hr
  | .scope b, s, r, hr => by
    simp only [exec] at hr ⊢
    exact exec_mono h hm hr
  | .mloop clr it ok b, s, r, hr => by
    simp only [exec] at hr ⊢
    exact mloopN_mono (fun s r h' => exec_mono h hm h') hr
  | .lift i off k b, s, r, hr => by
    simp only [exec] at hr ⊢
    rw [Option.bind_eq_some_iff] at hr ⊢
    obtain ⟨x, hx, hr⟩ := hr
    exact ⟨x, hx, exec_mono h hm hr⟩
  | .rng k f site, s, r, hr => by
    simp only [exec] at hr ⊢
    split at hr
    · rename_i hk
      rw [if_pos hk]
      rw [Option.bind_eq_some_iff] at hr ⊢
      obtain ⟨x, hx, hr⟩ := hr
      refine ⟨x, ?_, hr⟩
      unfold callF at hx ⊢
      split at hx <;> first | exact h _ _ _ _ hx | cases hx
    · cases hr
theorem callG_mono {C D : CallF} (h : CLe C D) {n m : Nat} (hm : n ≤ m) {g : AFunc} {args : List AVal} {σ : Store} {r : AVal × Store} (hr : callG C n g args σ = some r) : callG D m g args σ = some r := by
  unfold callG at hr ⊢
  rw [Option.bind_eq_some_iff] at hr ⊢
  obtain ⟨x, hx, hr⟩ := hr
  exact ⟨x, exec_mono h hm hx, hr⟩
theorem roundGo_mono {C D : CallF} (h : CLe C D) {n m : Nat} (hm : n ≤ m) {l : Nat} {b : ACode} {q : Ex × St} {r : AVal × Store} (hr : roundGo C n l b q = some r) : roundGo D m l b q = some r := by
  unfold roundGo at hr ⊢
  split at hr
  · rename_i h1 h2
    rw [Option.bind_eq_some_iff] at hr ⊢
    obtain ⟨x, hx, hr⟩ := hr
    exact ⟨x, exec_mono h hm hx, hr⟩
  · cases hr
def Code.Good (P : Code) : Prop := ∀ k C D args σ r, CLe C D → P.prims k C args σ = some r → P.prims k D args σ = some r
theorem callN_step {P : Code} (hP : P.Good) : ∀ n, CLe (callN P n) (callN P (n + 1))
  | 0 => fun _ _ _ _ h => by cases h
  | n + 1 => fun f args σ r h => by
    have ih := callN_step hP n
    simp only [callN] at h ⊢
    split at h
    · cases h
    · exact hP _ _ _ _ _ _ ih h
    · exact callG_mono ih (Nat.le_succ n) h
    · split at h
      · split at h
        · rename_i hc
          rw [if_pos hc]
          rw [Option.bind_eq_some_iff] at h ⊢
          obtain ⟨x, hx, hr⟩ := h
          refine ⟨x, callG_mono ih (Nat.le_succ n) hx, ?_⟩
          rw [Option.bind_eq_some_iff] at hr ⊢
          obtain ⟨y, hy, hr⟩ := hr
          exact ⟨y, callG_mono ih (Nat.le_succ n) hy, hr⟩
        · rename_i hc
          rw [if_neg hc]
          exact callG_mono ih (Nat.le_succ n) h
      · cases h
    · split at h
      · split at h
        · split at h
          · rename_i hl
            rw [if_pos hl]
            rw [Option.bind_eq_some_iff] at h ⊢
            obtain ⟨x, hx, hr⟩ := h
            exact ⟨x, exec_mono ih (Nat.le_succ n) hx, roundGo_mono ih (Nat.le_succ n) hr⟩
          · cases h
        · cases h
      · cases h
theorem callN_mono {P : Code} (hP : P.Good) (f : Nat) (args : List AVal) (σ : Store) : Mono fun n => callN P n f args σ :=
  fun n r h => callN_step hP n f args σ r h
noncomputable def acall (P : Code) (f : Nat) (args : List AVal) (σ : Store) : Option (AVal × Store) := lim fun n => callN P n f args σ
noncomputable def run (P : Code) (c : ACode) (s : St) : Option (Ex × St) := lim fun n => exec (callN P n) n c s
noncomputable def runOps (P : Code) (env : List AVal) (is : List Ins) (ls : List AVal) (σ : Store) : Option (List AVal × Store) :=
  lim fun n => execOps (callN P n) env is ls σ
noncomputable def step (P : Code) (env ls : List AVal) (σ : Store) (o : AOp) : Option (AVal × Store) := lim fun n => stepOp (callN P n) env ls σ o
section eqs
variable {P : Code} (hP : P.Good)
include hP
theorem exec_Mono (c : ACode) (s : St) : Mono fun n => exec (callN P n) n c s := fun n _ h => exec_mono (callN_step hP n) (Nat.le_succ n) h
theorem ops_Mono (env : List AVal) (is : List Ins) (ls : List AVal) (σ : Store) : Mono fun n => execOps (callN P n) env is ls σ :=
  fun n _ h => execOps_mono (callN_step hP n) h
theorem step_Mono (env ls : List AVal) (σ : Store) (o : AOp) : Mono fun n => stepOp (callN P n) env ls σ o := fun n _ h => stepOp_mono (callN_step hP n) h
theorem runOps_nil (env ls : List AVal) (σ : Store) : runOps P env [] ls σ = some (ls, σ) := lim_const _
theorem runOps_cons (env : List AVal) (i : Ins) (is : List Ins) (ls : List AVal) (σ : Store) :
    runOps P env (i :: is) ls σ = match wanted env ls i.guard with
      | some true => (step P env ls σ i.op).bind fun q => runOps P env is (ls ++ [q.1]) q.2
      | some false => runOps P env is (ls ++ [.tup []]) σ
      | none => none := by
  unfold runOps
  simp only [execOps]
  cases wanted env ls i.guard with
  | none => exact lim_const _
  | some t => cases t with
    | false => rfl
    | true => exact lim_bind (G := fun q n => execOps (callN P n) env is (ls ++ [q.1]) q.2) (step_Mono hP _ _ _ _) fun x => ops_Mono hP _ _ _ _
theorem step_call (env ls : List AVal) (σ : Store) (f : Nat) (args : List Opd) (mat : Bool) :
    step P env ls σ (.call f args mat) = (acall P f (args.map (·.eval env ls)) σ).map (mater mat) := by
  unfold step acall
  simp only [stepOp]
  exact lim_map _ (callN_mono hP _ _ _)
noncomputable def acallV (P : Code) (f : AVal) (args : List AVal) (σ : Store) : Option (AVal × Store) :=
  match f with
  | .fn f first cap => acall P f (first ++ args ++ cap) σ
  | .yld l site env => if pendAt σ l then acall P site (.frs l [] :: env ++ args) σ else none
  | _ => none
theorem lim_callV (f : AVal) (args : List AVal) (σ : Store) : lim (fun n => callV (callN P n) f args σ) = acallV P f args σ := by
  cases f
  case yld l site env =>
    simp only [callV, acallV]
    cases pendAt σ l
    · exact lim_const _
    · rfl
  all_goals first | rfl | exact lim_const _
theorem callV_Mono (f : AVal) (args : List AVal) (σ : Store) : Mono fun n => callV (callN P n) f args σ := by
  intro n r h
  unfold callV at h ⊢
  split at h
  · exact callN_step hP n _ _ _ _ h
  · split at h
    · rename_i hp
      dsimp only
      rw [if_pos hp]
      exact callN_step hP n _ _ _ _ h
    · cases h
  · cases h
noncomputable def acallF (P : Code) (f : AVal) (args : List AVal) (σ : Store) : Option (AVal × Store) :=
  match f with
  | .fn f first cap => acall P f (first ++ args ++ cap) σ
  | _ => none
theorem lim_callF (f : AVal) (args : List AVal) (σ : Store) : lim (fun n => callF (callN P n) f args σ) = acallF P f args σ := by
  cases f <;> first | rfl | exact lim_const _
theorem callF_Mono (f : AVal) (args : List AVal) (σ : Store) : Mono fun n => callF (callN P n) f args σ := by
  intro n r h
  unfold callF at h ⊢
  split at h
  · exact callN_step hP n _ _ _ _ h
  · cases h
theorem step_callv (env ls : List AVal) (σ : Store) (f : Opd) (args : List Opd) :
    step P env ls σ (.callv f args) = (acallV P (f.eval env ls) (args.map (·.eval env ls)) σ).map (mater false) := by
  unfold step
  simp only [stepOp]
  rw [lim_map _ (callV_Mono hP _ _ _), lim_callV hP]
theorem run_skip (s : St) : run P .skip s = some (.nrm, s) := lim_const _
theorem run_exit (id : Nat) (s : St) : run P (.exit id) s = some (.ext id, s) := lim_const _
theorem run_ret (s : St) : run P .ret s = some (.ret, s) := lim_const _
theorem run_reg (is : List Ins) (os : List (Nat × Opd)) (s : St) :
    run P (.reg is os) s = (runOps P s.env is [] s.st).map fun r => (.nrm, ⟨outs s.env s.env r.1 os, r.2⟩) := by
  unfold run runOps
  simp only [exec]
  exact lim_map _ (ops_Mono hP _ _ _ _)
noncomputable def runT (P : Code) (env : List AVal) (is : List Ins) (ls : List AVal) (ss : List Store) (σ : Store) : Option (List AVal × List Store × Store) :=
  lim fun n => execT (callN P n) env is ls ss σ
theorem T_Mono (env : List AVal) (is : List Ins) (ls : List AVal) (ss : List Store) (σ : Store) : Mono fun n => execT (callN P n) env is ls ss σ :=
  fun n _ h => execT_mono (callN_step hP n) h
theorem runT_nil (env ls : List AVal) (ss : List Store) (σ : Store) : runT P env [] ls ss σ = some (ls, ss, σ) := lim_const _
theorem runT_cons (env : List AVal) (i : Ins) (is : List Ins) (ls : List AVal) (ss : List Store) (σ : Store) :
    runT P env (i :: is) ls ss σ = match wanted env ls i.guard with
      | some true => (step P env ls σ i.op).bind fun q => runT P env is (ls ++ [q.1]) (ss ++ [σ]) q.2
      | some false => runT P env is (ls ++ [.tup []]) (ss ++ [σ]) σ
      | none => none := by
  unfold runT
  simp only [execT]
  cases wanted env ls i.guard with
  | none => exact lim_const _
  | some t => cases t with
    | false => rfl
    | true => exact lim_bind (G := fun q n => execT (callN P n) env is (ls ++ [q.1]) (ss ++ [σ]) q.2) (step_Mono hP _ _ _ _) fun x => T_Mono hP _ _ _ _ _
noncomputable def runChk (P : Code) (env ls : List AVal) (ops : List Ins) (ss : List Store) (l : List (Nat × Nat)) : Option Unit := lim fun n => chkAll (callN P n) env ls ops ss l
theorem chk_Mono (env ls : List AVal) (ops : List Ins) (ss : List Store) (l : List (Nat × Nat)) : Mono fun n => chkAll (callN P n) env ls ops ss l := fun n _ h => chkAll_mono (callN_step hP n) h
theorem runChk_nil (env ls : List AVal) (ops : List Ins) (ss : List Store) : runChk P env ls ops ss [] = some () := lim_const _
theorem runChk_cons (env ls : List AVal) (ops : List Ins) (ss : List Store) (n j : Nat) (l : List (Nat × Nat)) :
    runChk P env ls ops ss ((n, j) :: l) = match ops[n]?, ss[j]? with
      | some i, some τ => (step P env (ls.take n) τ i.op).bind fun q => if same q.1 (nth ls n) && sameS q.2 τ then runChk P env ls ops ss l else none
      | _, _ => none := by
  unfold runChk
  simp only [chkAll]
  cases ops[n]? with
  | none => exact lim_const _
  | some i => cases ss[j]? with
    | none => exact lim_const _
    | some τ =>
      dsimp only
      rw [lim_bind (G := fun q k => if same q.1 (nth ls n) && sameS q.2 τ then chkAll (callN P k) env ls ops ss l else none) (step_Mono hP _ _ _ _) fun q => ?_]
      · unfold step
        congr 1; funext q
        split
        · rfl
        · exact lim_const _
      · split
        · exact chk_Mono hP _ _ _ _ _
        · exact Mono.const _
theorem run_regd (is : List Ins) (os : List (Nat × Opd)) (chk : List (Nat × Nat)) (s : St) :
    run P (.regd is os chk) s = (runT P s.env is [] [] s.st).bind fun r => (runChk P s.env r.1 is (r.2.1 ++ [r.2.2]) chk).map fun _ => (.nrm, ⟨outs s.env s.env r.1 os, r.2.2⟩) := by
  unfold run runT runChk
  simp only [exec]
  rw [lim_bind (G := fun r n => (chkAll (callN P n) s.env r.1 is (r.2.1 ++ [r.2.2]) chk).map fun _ => (Ex.nrm, (⟨outs s.env s.env r.1 os, r.2.2⟩ : St))) (T_Mono hP _ _ _ _ _) fun r => Mono.map _ (chk_Mono hP _ _ _ _ _)]
  congr 1; funext r
  exact lim_map _ (chk_Mono hP _ _ _ _ _)
theorem run_seq (a b : ACode) (s : St) :
    run P (.seq a b) s = (run P a s).bind fun r => match r.1 with
      | .nrm => run P b r.2
      | e => some (e, r.2) := by
  unfold run
  simp only [exec]
  rw [lim_bind (exec_Mono hP a s) (fun r => ?_)]
  · congr 1; funext r
    cases r.1 with
    | nrm => rfl
    | ext id => exact lim_const _
    | ret => exact lim_const _
  · cases r.1 with
    | nrm => exact exec_Mono hP _ _
    | ext id => exact Mono.const _
    | ret => exact Mono.const _
theorem run_cond (c : Opd) (a b : ACode) (s : St) :
    run P (.cond c a b) s = match c.eval s.env [] with
      | .bool true => run P a s
      | .bool false => run P b s
      | _ => none := by
  unfold run
  simp only [exec]
  generalize c.eval s.env [] = v
  cases v with
  | bool b => cases b <;> rfl
  | _ => exact lim_const _
theorem run_blk (id : Nat) (b : ACode) (s : St) :
    run P (.blk id b) s = (run P b s).map fun r => match r.1 with
      | .ext j => if j = id then (.nrm, r.2) else r
      | _ => r := by
  unfold run
  simp only [exec]
  exact lim_map _ (exec_Mono hP _ _)
theorem run_scope (b : ACode) (s : St) : run P (.scope b) s = run P b s := by
  unfold run
  simp only [exec]
theorem run_lift (i off k : Nat) (b : ACode) (s : St) : run P (.lift i off k b) s = (liftV (nth s.env i) off k s.st).bind fun σ => run P b ⟨s.env, σ⟩ := by
  unfold run
  simp only [exec]
  cases liftV (nth s.env i) off k s.st with
  | none => exact lim_const _
  | some σ => rfl
theorem run_rng (k : Nat) (f : Opd) (site : Nat) (s : St) :
    run P (.rng k f site) s = if s.env.length = k then (acallF P (f.eval s.env []) [.yld s.st.length site s.env] (s.st ++ [.pend false none])).bind fun r => jumped s.st.length s.env r.2 else none := by
  unfold run
  simp only [exec]
  split
  · rw [lim_bind (callF_Mono hP _ _ _) (fun r => Mono.const _), lim_callF hP]
    congr 1; funext r
    exact lim_const _
  · exact lim_const _
noncomputable def rounds (P : Code) (base : Nat) (clr : List Nat) (b : ACode) (s : St) : Option (Ex × St) :=
  lim fun n => loopN base clr (exec (callN P n) n b) n s
theorem rounds_Mono (base : Nat) (clr : List Nat) (b : ACode) (s : St) : Mono fun n => loopN base clr (exec (callN P n) n b) n s :=
  fun n _ h => loopN_mono (fun _ _ h' => exec_mono (callN_step hP n) (Nat.le_succ n) h') (Nat.le_succ n) h
theorem run_loop (clr : List Nat) (b : ACode) (s : St) : run P (.loop clr b) s = rounds P s.st.length clr b ⟨clear s.env clr, s.st⟩ := by
  unfold run rounds
  simp only [exec]
theorem rounds_eq (base : Nat) (clr : List Nat) (b : ACode) (s : St) :
    rounds P base clr b s = (run P b s).bind fun r => match r.1 with
      | .nrm => rounds P base clr b (roundEnd base clr r.2)
      | e => some (e, r.2) := by
  have h1 : rounds P base clr b s = lim fun n => (exec (callN P n) n b s).bind fun r => match r.1 with
      | .nrm => loopN base clr (exec (callN P n) n b) n (roundEnd base clr r.2)
      | e => some (e, r.2) := by
    refine opt_ext fun q => ?_
    have hm : Mono fun n => (exec (callN P n) n b s).bind fun r => match r.1 with
      | .nrm => loopN base clr (exec (callN P n) n b) n (roundEnd base clr r.2)
      | e => some (e, r.2) := by
      refine Mono.bind (G := fun r n => match r.1 with
        | .nrm => loopN base clr (exec (callN P n) n b) n (roundEnd base clr r.2)
        | e => some (e, r.2)) (exec_Mono hP b s) fun r => ?_
      cases r.1 with
      | nrm => exact rounds_Mono hP _ _ _ _
      | ext id => exact Mono.const _
      | ret => exact Mono.const _
    rw [rounds, lim_eq (rounds_Mono hP base clr b s), lim_eq hm]
    constructor
    · rintro ⟨n, hn⟩
      cases n with
      | zero => cases hn
      | succ n =>
        refine ⟨n + 1, ?_⟩
        rw [loopN, Option.bind_eq_some_iff] at hn
        obtain ⟨⟨e, q⟩, hx, hr⟩ := hn
        rw [Option.bind_eq_some_iff]
        refine ⟨(e, q), hx, ?_⟩
        cases e with
        | nrm => exact loopN_mono (fun _ _ h => h) (Nat.le_succ n) hr
        | ext _ => exact hr
        | ret => exact hr
    · rintro ⟨n, hn⟩
      refine ⟨n + 1, ?_⟩
      rw [Option.bind_eq_some_iff] at hn
      obtain ⟨⟨e, q⟩, hx, hr⟩ := hn
      rw [loopN, Option.bind_eq_some_iff]
      refine ⟨(e, q), exec_mono (callN_step hP n) (Nat.le_succ n) hx, ?_⟩
      cases e with
      | nrm => exact loopN_mono (fun _ _ h => exec_mono (callN_step hP n) (Nat.le_succ n) h) (Nat.le_refl n) hr
      | ext _ => exact hr
      | ret => exact hr
  rw [h1]
  rw [lim_bind (G := fun r n => match r.1 with
      | .nrm => loopN base clr (exec (callN P n) n b) n (roundEnd base clr r.2)
      | e => some (e, r.2)) (exec_Mono hP b s) (fun r => ?_)]
  · unfold run
    congr 1; funext r
    cases r.1 with
    | nrm => rfl
    | ext id => exact lim_const _
    | ret => exact lim_const _
  · cases r.1 with
    | nrm => exact rounds_Mono hP _ _ _ _
    | ext id => exact Mono.const _
    | ret => exact Mono.const _
theorem acall_fn {f : Nat} {g : AFunc} (h : P.fns f = .fn g) (args : List AVal) (σ : Store) :
    acall P f args σ = (run P g.body (enter g args σ)).bind (leave g σ) := by
  unfold acall
  rw [← lim_shift (callN_mono hP _ _ _)]
  simp only [callN, h, callG]
  rw [lim_bind (exec_Mono hP _ _) (fun _ => Mono.const _)]
  unfold run
  congr 1; funext r
  exact lim_const _
theorem G_Mono (g : AFunc) (args : List AVal) (σ : Store) : Mono fun n => callG (callN P n) n g args σ := fun n _ h => callG_mono (callN_step hP n) (Nat.le_succ n) h
noncomputable def acallG (P : Code) (g : AFunc) (args : List AVal) (σ : Store) : Option (AVal × Store) := (run P g.body (enter g args σ)).bind (leave g σ)
theorem lim_callG (g : AFunc) (args : List AVal) (σ : Store) : lim (fun n => callG (callN P n) n g args σ) = acallG P g args σ := by
  unfold callG acallG
  rw [lim_bind (exec_Mono hP _ _) (fun _ => Mono.const _)]
  unfold run
  congr 1; funext r
  exact lim_const _
theorem acall_nilfn {f : Nat} {g : AFunc} (h : P.fns f = .nilfn g) (x : AVal) (rest : List AVal) (σ : Store) :
    acall P f (x :: rest) σ = if emptyS σ x then (acallG P g (.emp true :: rest) σ).bind fun r => (acallG P g (.emp false :: rest) σ).bind fun q => if same r.1 q.1 && sameS r.2 q.2 then some r else none
      else acallG P g (x :: rest) σ := by
  unfold acall
  rw [← lim_shift (callN_mono hP _ _ _)]
  simp only [callN, h]
  generalize emptyS σ x = v
  cases v with
  | false => exact lim_callG hP _ _ _
  | true =>
      simp only [if_true]
      rw [lim_bind (G := fun r n => (callG (callN P n) n g (.emp false :: rest) σ).bind fun q => if same r.1 q.1 && sameS r.2 q.2 then some r else none) (G_Mono hP _ _ _) (fun r => Mono.bind (G_Mono hP _ _ _) fun q => Mono.const _), lim_callG hP]
      congr 1; funext r
      rw [lim_bind (G_Mono hP _ _ _) (fun q => Mono.const _), lim_callG hP]
      congr 1; funext q
      exact lim_const _
noncomputable def runRound (P : Code) (l : Nat) (b : ACode) (r : Ex × St) : Option (AVal × Store) :=
  match r.1, r.2.st[l]? with
  | .nrm, some (.pend false none) => (run P b ⟨r.2.env, r.2.st.set l (.pend true none)⟩).bind (roundOver l)
  | _, _ => none
theorem round_Mono (l : Nat) (b : ACode) (r : Ex × St) : Mono fun n => roundGo (callN P n) n l b r := fun n _ h => roundGo_mono (callN_step hP n) (Nat.le_succ n) h
theorem lim_round (l : Nat) (b : ACode) (r : Ex × St) : lim (fun n => roundGo (callN P n) n l b r) = runRound P l b r := by
  unfold roundGo runRound
  obtain ⟨e, env, σ⟩ := r
  cases e with
  | ext _ => exact lim_const _
  | ret => exact lim_const _
  | nrm =>
    dsimp only
    generalize σ[l]? = v
    have key : lim (fun n => (exec (callN P n) n b ⟨env, σ.set l (.pend true none)⟩).bind (roundOver l)) = (run P b ⟨env, σ.set l (.pend true none)⟩).bind (roundOver l) := by
      rw [lim_bind (exec_Mono hP _ _) (fun _ => Mono.const _)]
      unfold run
      congr 1; funext q
      exact lim_const _
    cases v with
    | none => exact lim_const _
    | some o => cases o with
      | pend b j => cases b with
        | true => exact lim_const _
        | false => cases j with
          | none => exact key
          | some _ => exact lim_const _
      | _ => exact lim_const _
theorem acall_round {f : Nat} {g : ARound} (h : P.fns f = .round g) (l : Nat) (e rest : List AVal) (σ : Store) :
    acall P f (.frs l e :: rest) σ = match σ[l]? with
      | some (.pend false none) => if (rest.drop g.nenv).length = g.params.length then
          (run P g.pre ⟨putEnv (rest.take g.nenv) g.params (rest.drop g.nenv), σ⟩).bind (runRound P l g.body)
        else none
      | _ => none := by
  unfold acall
  rw [← lim_shift (callN_mono hP _ _ _)]
  simp only [callN, h]
  generalize σ[l]? = v
  have key : ∀ s' : St, lim (fun n => (exec (callN P n) n g.pre s').bind (roundGo (callN P n) n l g.body)) = (run P g.pre s').bind (runRound P l g.body) := fun s' => by
    rw [lim_bind (G := fun r n => roundGo (callN P n) n l g.body r) (exec_Mono hP _ _) (fun r => round_Mono hP _ _ _)]
    unfold run
    congr 1; funext r
    exact lim_round hP _ _ _
  cases v with
  | none => exact lim_const _
  | some o => cases o with
    | pend b j => cases b with
      | true => exact lim_const _
      | false => cases j with
        | none =>
          dsimp only
          split
          · exact key _
          · exact lim_const _
        | some e => exact lim_const _
    | _ => exact lim_const _
theorem acall_prim {f k n : Nat} (h : P.fns f = .prim k) {args : List AVal} {σ : Store} {r : AVal × Store} (hr : P.prims k (callN P n) args σ = some r) :
    acall P f args σ = some r := by
  refine lim_of (callN_mono hP _ _ _) (n := n + 1) ?_
  simp only [callN, h]
  exact hr
end eqs
end Go.AM
end

namespace Go.AM
inductive Hd where
  | arr (k ep : Nat)
  | map
  | pend
  | it
  | dead
  deriving DecidableEq
def hd (σ : Store) (id : Nat) : Hd := match σ[id]? with
  | some (.arr k ep _) => .arr k ep
  | some (.map _) => .map
  | some (.pend _ _) => .pend
  | some (.it _ _) => .it
  | some (.mit _ _ _) => .it
  | some .dead => .dead
  | none => .dead
structure LoopRec where
  fn : FuncId
  tmps : Array Value
  params : Array Tmp
  assign : Go.Code
  body : Go.Code
  defers : Nat
structure Ctx where
  sld : Nat → Prop
  bor : Nat → Prop
  H : Nat → Hd
  N : Nat
  place : Nat → Option Nat
  room : Nat → Nat
  loops : Nat → LoopRec
def Ctx.still (c : Ctx) (b : Bool) : Ctx := { c with bor := if b then c.bor else c.sld, H := fun _ => .dead, N := 0 }
abbrev SiteOk := Nat → LoopRec → List Nat → Prop
structure Names where
  fm : Nat → FuncId
  site : SiteOk
  glob : Nat → Option AVal
variable (M : Names) (w : World)
inductive R : Ctx → AVal → Value → Prop
  | any {c v} : R c .any v
  | emp {c b cap} {a : Option Addr} : a.isNone = b → R c (.emp b) (.slice a 0 cap)
  | int {c k n} : R c (.int k n) (.int k n)
  | bool {c b} : R c (.bool b) (.bool b)
  | str {c s} {t : ByteArray} : t.data.toList = s → R c (.str s) (.string t)
  | nilp {c} : R c .nilp (.pointer none)
  | nilf {c} : R c .nilf .nilFunc
  | nilm {c} : R c .nilm (.map none)
  | agg {c cs} {vs : Array Value} (f : Nat → Value) : vs.size = cs.length → (∀ i (h : i < cs.length), vs[i]? = some (f i) ∧ (f i).oneCell' = true) →
      (∀ i (h : i < cs.length), ncells cs[i] ≤ 1 ∧ isAgg cs[i] = false) → (∀ i (h : i < cs.length), R c cs[i] (f i)) → R c (.agg cs) (.agg vs)
  | tup {c cs} {vs : Array Value} (f : Nat → Value) : vs.size = cs.length → (∀ i (h : i < cs.length), vs[i]? = some (f i)) →
      (∀ i (h : i < cs.length), R c cs[i] (f i)) → R c (.tup cs) (.tuple vs)
  | imm {c b xs cap} {a : Addr} (K : Nat) (f : Nat → Nat → Value) : (if b then c.bor a.block else c.sld a.block) → a.spot = none → xs.length ≤ cap → K ≠ 0 →
      (∀ x ∈ xs, ncells x = K) → (∀ i j, i < xs.length → j < K → w.cell? ⟨a.block, a.off + i * K + j, none⟩ = some (f i j) ∧ (f i j).oneCell' = true) →
      (∀ i (hi : i < xs.length) j (hj : j < (cellsOf xs[i]).length), R (c.still b) (cellsOf xs[i])[j] (f i j)) → R c (.imm b xs) (.slice (some a) xs.length cap)
  | imm0 {c b cap} {a : Option Addr} : R c (.imm b []) (.slice a 0 cap)
  | lst {c xs cap} {a : Addr} (K : Nat) (f : Nat → Nat → Value) : c.sld a.block → a.spot = none → xs.length ≤ cap → K ≠ 0 →
      (∀ x ∈ xs, ncells x = K) → (∀ i j, i < xs.length → j < K → w.cell? ⟨a.block, a.off + i * K + j, none⟩ = some (f i j) ∧ (f i j).oneCell' = true) →
      (∀ i (hi : i < xs.length) j (hj : j < (cellsOf xs[i]).length), R c (cellsOf xs[i])[j] (f i j)) → R c (.lst xs) (.slice (some a) xs.length cap)
  | lst0 {c cap} {a : Option Addr} : R c (.lst []) (.slice a 0 cap)
  | nil0 {c} {a : Option Addr} : R c .nil0 (.slice a 0 0)
  | sl {c id ep off len cap k blk} : id < c.N → c.H id = .arr k ep → c.place id = some blk → len ≤ cap → (off + cap) * k ≤ c.room id →
      R c (.sl id ep off len) (.slice (some ⟨blk, off * k, none⟩) len cap)
  | sl0 {c id ep off k} {a : Option Addr} : id < c.N → c.H id = .arr k ep → R c (.sl id ep off 0) (.slice a 0 0)
  | slOld {c id ep off len v} : v.oneCell' = true → id < c.N → (∀ k e, c.H id = .arr k e → ep < e) → (c.H id ≠ .map) → (c.H id ≠ .pend) → R c (.sl id ep off len) v
  | ptr {c id ep i off k blk} : id < c.N → c.H id = .arr k ep → c.place id = some blk → R c (.ptr id ep i off) (.pointer (some ⟨blk, i * k + off, none⟩))
  | ptrOld {c id ep i off v} : v.oneCell' = true → id < c.N → (∀ k e, c.H id = .arr k e → ep < e) → (c.H id ≠ .map) → (c.H id ≠ .pend) → R c (.ptr id ep i off) v
  | asl {c id ep i off n k blk} : id < c.N → c.H id = .arr k ep → c.place id = some blk → R c (.asl id ep i off n) (.slice (some ⟨blk, i * k + off, none⟩) n n)
  | aslOld {c id ep i off n v} : id < c.N → (∀ k e, c.H id = .arr k e → ep < e) → (c.H id ≠ .map) → (c.H id ≠ .pend) → R c (.asl id ep i off n) v
  | cptr {c b x off} {o blk : Nat} (f : Nat → Value) : (if b then c.bor blk else c.sld blk) → ncells x ≠ 0 →
      (∀ j, j < ncells x → w.cell? ⟨blk, o + j, none⟩ = some (f j) ∧ (f j).oneCell' = true) →
      (∀ j (hj : j < (cellsOf x).length), R (if b then c else c.still false) (cellsOf x)[j] (f j)) → R c (.cptr b x off) (.pointer (some ⟨blk, o + off, none⟩))
  | fn {c n first cap} {fs cs : Array Value} (f g : Nat → Value) : fs.size = first.length → cs.size = cap.length → (∀ i (h : i < first.length), fs[i]? = some (f i)) → (∀ i (h : i < cap.length), cs[i]? = some (g i)) →
      (∀ i (h : i < first.length), R c first[i] (f i)) → (∀ i (h : i < cap.length), R c cap[i] (g i)) → R c (.fn n first cap) (.func (.func (M.fm n)) fs cs)
  | imap {c b es} {r clock : Nat} {en : Array MapEntry} (f g : Nat → Value) : (if b then c.bor r else c.sld r) → w.heap[r]? = some (.map en clock) → en.size = es.length →
      (∀ i (h : i < es.length), ∃ e, en[i]? = some e ∧ e.key = f i ∧ e.val = g i ∧ isKey (es[i]).1 = true ∧ e.born < clock) → (∀ i (h : i < es.length), R (c.still b) (es[i]).1 (f i)) → (∀ i (h : i < es.length), R (c.still b) (es[i]).2 (g i)) →
      R c (.imap b es) (.map (some r))
  | mp {c id blk} : id < c.N → c.H id = .map → c.place id = some blk → R c (.mp id) (.map (some blk))
  | mpOld {c id v} : v.oneCell' = true → id < c.N → c.H id = .dead → R c (.mp id) v
  | yld {c l site env em blk} (f : Nat → Value) : l < c.N → c.H l = .pend → c.place l = some blk → M.site site (c.loops l) em → em.length = env.length →
      (∀ i (h : i < em.length) (hx : i < env.length), (c.loops l).tmps[em[i]]? = some (f i)) → (∀ i (hx : i < env.length), R c env[i] (f i)) → R c (.yld l site env) (.func (.yield blk) #[] #[])
  | yldOld {c l site env v} : v.oneCell' = true → l < c.N → c.H l = .dead → R c (.yld l site env) v
  | it {c id blk} : id < c.N → c.H id = .it → c.place id = some blk → R c (.it id) (.pointer (some ⟨blk, 0, none⟩))
  | itOld {c id v} : v.oneCell' = true → id < c.N → c.H id = .dead → R c (.it id) v
def Hd.le : Hd → Hd → Prop
  | a, b => a = b ∨ b = .dead ∨ (∃ k e e', a = .arr k e ∧ b = .arr k e' ∧ e < e')
structure Ext (c : Ctx) (w : World) (c' : Ctx) (w' : World) : Prop where
  sld : ∀ b, c.sld b → c'.sld b
  bor : ∀ b, c.bor b → c'.bor b
  rest : ∀ b, c.bor b ∨ c.sld b → w'.heap[b]? = w.heap[b]?
  N : c.N ≤ c'.N
  head : ∀ id, id < c.N → (c.H id).le (c'.H id)
  place : ∀ id, id < c.N → c.H id = c'.H id → c.H id ≠ .dead → c'.place id = c.place id ∧ c'.room id = c.room id ∧ c'.loops id = c.loops id
variable {M w}
theorem Ext.refl (c : Ctx) (w : World) : Ext c w c w :=
  ⟨fun _ h => h, fun _ h => h, fun _ _ => rfl, Nat.le_refl _, fun _ _ => .inl rfl, fun _ _ _ _ => ⟨rfl, rfl, rfl⟩⟩
theorem Hd.le_refl (a : Hd) : a.le a := .inl rfl
theorem Hd.le_dead {b : Hd} (h : Hd.le .dead b) : b = .dead := by
  rcases h with h | h | ⟨k, e, e', h, _⟩
  · exact h.symm
  · exact h
  · cases h
theorem Ext.still {c c' : Ctx} {w w' : World} (h : Ext c w c' w') (b : Bool) : Ext (c.still b) w (c'.still b) w' where
  sld := h.sld
  bor := by
    intro x hx
    cases b
    · exact h.sld x hx
    · exact h.bor x hx
  rest := by
    intro x hx
    cases b
    · exact h.rest x (.inr (hx.elim id id))
    · exact h.rest x hx
  N := Nat.le_refl _
  head := fun id hid => absurd hid (Nat.not_lt_zero _)
  place := fun id hid => absurd hid (Nat.not_lt_zero _)
theorem cell_of_heap {w w' : World} {b : Nat} (h : w'.heap[b]? = w.heap[b]?) (off : Nat) : w'.cell? ⟨b, off, none⟩ = w.cell? ⟨b, off, none⟩ := by
  simp only [World.cell?, h]
theorem R.ext {c c' : Ctx} {w' : World} {v : AVal} {x : Value} (h : R M w c v x) (he : Ext c w c' w') : R M w' c' v x := by
  induction h generalizing c' with
  | any => exact .any
  | emp h => exact .emp h
  | int => exact .int
  | bool => exact .bool
  | str h => exact .str h
  | nilp => exact .nilp
  | nilf => exact .nilf
  | nilm => exact .nilm
  | agg f h1 h2 h3 _ ih => exact .agg f h1 h2 h3 fun i hi => ih i hi he
  | tup f h1 h2 _ ih => exact .tup f h1 h2 fun i hi => ih i hi he
  | @imm c b xs cap a K f h1 h2 h3 h4 h5 h6 _ ih =>
    have hr : w'.heap[a.block]? = w.heap[a.block]? := he.rest _ (by cases b <;> simp at h1 <;> simp [h1])
    refine .imm K f ?_ h2 h3 h4 h5 (fun i j hi hj => by rw [cell_of_heap hr]; exact h6 i j hi hj) fun i hi j hj => ih i hi j hj (he.still b)
    cases b
    · exact he.sld _ h1
    · exact he.bor _ h1
  | imm0 => exact .imm0
  | @lst c xs cap a K f h1 h2 h3 h4 h5 h6 _ ih =>
    have hr : w'.heap[a.block]? = w.heap[a.block]? := he.rest _ (.inr h1)
    exact .lst K f (he.sld _ h1) h2 h3 h4 h5 (fun i j hi hj => by rw [cell_of_heap hr]; exact h6 i j hi hj) fun i hi j hj => ih i hi j hj he
  | lst0 => exact .lst0
  | nil0 => exact .nil0
  | @sl c id ep off len cap k blk h1 h2 h3 h4 h5 =>
    have hl := he.head id h1
    have hlt := Nat.lt_of_lt_of_le h1 he.N
    by_cases hq : c.H id = c'.H id
    · obtain ⟨p1, p2, _⟩ := he.place id h1 hq (by rw [h2]; simp)
      exact .sl hlt (hq ▸ h2) (p1 ▸ h3) h4 (p2 ▸ h5)
    · rw [h2] at hl hq
      rcases hl with hl | hl | ⟨k', e, e', hl1, hl2, hl3⟩
      · exact absurd hl hq
      · exact .slOld rfl hlt (by rw [hl]; simp) (by rw [hl]; simp) (by rw [hl]; simp)
      · cases hl1
        exact .slOld rfl hlt (by rw [hl2]; rintro k e ⟨⟩; exact hl3) (by rw [hl2]; simp) (by rw [hl2]; simp)
  | @sl0 c id ep off k a h1 h2 =>
    have hl := he.head id h1
    have hlt := Nat.lt_of_lt_of_le h1 he.N
    rw [h2] at hl
    rcases hl with hl | hl | ⟨k', e, e', hl1, hl2, hl3⟩
    · exact .sl0 hlt hl.symm
    · exact .slOld rfl hlt (by rw [hl]; simp) (by rw [hl]; simp) (by rw [hl]; simp)
    · cases hl1
      exact .slOld rfl hlt (by rw [hl2]; rintro k e ⟨⟩; exact hl3) (by rw [hl2]; simp) (by rw [hl2]; simp)
  | @slOld c id ep off len v h0 h1 h2 h3 h4 =>
    have hl := he.head id h1
    have hlt := Nat.lt_of_lt_of_le h1 he.N
    refine .slOld h0 hlt ?_ ?_ ?_
    · intro k e hk
      rcases hl with hl | hl | ⟨k', e1, e', hl1, hl2, hl3⟩
      · exact h2 k e (hl ▸ hk)
      · rw [hl] at hk; cases hk
      · rw [hl2] at hk; cases hk; exact Nat.lt_trans (h2 _ _ hl1) hl3
    · rcases hl with hl | hl | ⟨k', e1, e', hl1, hl2, hl3⟩
      · rw [← hl]; exact h3
      · rw [hl]; simp
      · rw [hl2]; simp
    · rcases hl with hl | hl | ⟨k', e1, e', hl1, hl2, hl3⟩
      · rw [← hl]; exact h4
      · rw [hl]; simp
      · rw [hl2]; simp
  | @ptr c id ep i off k blk h1 h2 h3 =>
    have hl := he.head id h1
    have hlt := Nat.lt_of_lt_of_le h1 he.N
    by_cases hq : c.H id = c'.H id
    · obtain ⟨p1, p2, _⟩ := he.place id h1 hq (by rw [h2]; simp)
      exact .ptr hlt (hq ▸ h2) (p1 ▸ h3)
    · rw [h2] at hl hq
      rcases hl with hl | hl | ⟨k', e, e', hl1, hl2, hl3⟩
      · exact absurd hl hq
      · exact .ptrOld rfl hlt (by rw [hl]; simp) (by rw [hl]; simp) (by rw [hl]; simp)
      · cases hl1
        exact .ptrOld rfl hlt (by rw [hl2]; rintro k e ⟨⟩; exact hl3) (by rw [hl2]; simp) (by rw [hl2]; simp)
  | @ptrOld c id ep i off v h0 h1 h2 h3 h4 =>
    have hl := he.head id h1
    have hlt := Nat.lt_of_lt_of_le h1 he.N
    refine .ptrOld h0 hlt ?_ ?_ ?_
    · intro k e hk
      rcases hl with hl | hl | ⟨k', e1, e', hl1, hl2, hl3⟩
      · exact h2 k e (hl ▸ hk)
      · rw [hl] at hk; cases hk
      · rw [hl2] at hk; cases hk; exact Nat.lt_trans (h2 _ _ hl1) hl3
    · rcases hl with hl | hl | ⟨k', e1, e', hl1, hl2, hl3⟩
      · rw [← hl]; exact h3
      · rw [hl]; simp
      · rw [hl2]; simp
    · rcases hl with hl | hl | ⟨k', e1, e', hl1, hl2, hl3⟩
      · rw [← hl]; exact h4
      · rw [hl]; simp
      · rw [hl2]; simp
  | @asl c id ep i off n k blk h1 h2 h3 =>
    have hl := he.head id h1
    have hlt := Nat.lt_of_lt_of_le h1 he.N
    by_cases hq : c.H id = c'.H id
    · obtain ⟨p1, p2, _⟩ := he.place id h1 hq (by rw [h2]; simp)
      exact .asl hlt (hq ▸ h2) (p1 ▸ h3)
    · rw [h2] at hl hq
      rcases hl with hl | hl | ⟨k', e, e', hl1, hl2, hl3⟩
      · exact absurd hl hq
      · exact .aslOld hlt (by rw [hl]; simp) (by rw [hl]; simp) (by rw [hl]; simp)
      · cases hl1
        exact .aslOld hlt (by rw [hl2]; rintro k e ⟨⟩; exact hl3) (by rw [hl2]; simp) (by rw [hl2]; simp)
  | @aslOld c id ep i off n v h1 h2 h3 h4 =>
    have hl := he.head id h1
    have hlt := Nat.lt_of_lt_of_le h1 he.N
    refine .aslOld hlt ?_ ?_ ?_
    · intro k e hk
      rcases hl with hl | hl | ⟨k', e1, e', hl1, hl2, hl3⟩
      · exact h2 k e (hl ▸ hk)
      · rw [hl] at hk; cases hk
      · rw [hl2] at hk; cases hk; exact Nat.lt_trans (h2 _ _ hl1) hl3
    · rcases hl with hl | hl | ⟨k', e1, e', hl1, hl2, hl3⟩
      · rw [← hl]; exact h3
      · rw [hl]; simp
      · rw [hl2]; simp
    · rcases hl with hl | hl | ⟨k', e1, e', hl1, hl2, hl3⟩
      · rw [← hl]; exact h4
      · rw [hl]; simp
      · rw [hl2]; simp
  | @cptr c b x off o blk f h1 h2 h3 _ ih =>
    have hr : w'.heap[blk]? = w.heap[blk]? := he.rest _ (by cases b <;> simp at h1 <;> simp [h1])
    refine .cptr f ?_ h2 (fun j hj => by rw [cell_of_heap hr]; exact h3 j hj) ?_
    · cases b
      · exact he.sld _ h1
      · exact he.bor _ h1
    · intro j hj
      cases b
      · exact ih j hj (he.still false)
      · exact ih j hj he
  | fn f g h1 h2 h3 h4 _ _ ih1 ih2 => exact .fn f g h1 h2 h3 h4 (fun i hi => ih1 i hi he) fun i hi => ih2 i hi he
  | @imap c b es r clock en f g h1 h2 h3 h4 _ _ ih1 ih2 =>
    have hr : w'.heap[r]? = w.heap[r]? := he.rest _ (by cases b <;> simp at h1 <;> simp [h1])
    refine .imap f g ?_ (hr ▸ h2) h3 h4 (fun i hi => ih1 i hi (he.still b)) fun i hi => ih2 i hi (he.still b)
    cases b
    · exact he.sld _ h1
    · exact he.bor _ h1
  | @mp c id blk h1 h2 h3 =>
    have hl := he.head id h1
    have hlt := Nat.lt_of_lt_of_le h1 he.N
    rcases hl with hl | hl | ⟨k', e, e', hl1, hl2, hl3⟩
    · obtain ⟨p1, p2, _⟩ := he.place id h1 hl (by rw [h2]; simp)
      exact .mp hlt (hl ▸ h2) (p1 ▸ h3)
    · exact .mpOld rfl hlt hl
    · rw [h2] at hl1; cases hl1
  | @mpOld c id v h0 h1 h2 =>
    have hl := he.head id h1
    rw [h2] at hl
    exact .mpOld h0 (Nat.lt_of_lt_of_le h1 he.N) (Hd.le_dead hl)
  | @yld c l site env em blk f h1 h2 h3 h4 h5 h6 _ ih =>
    have hl := he.head l h1
    have hlt := Nat.lt_of_lt_of_le h1 he.N
    rcases hl with hl | hl | ⟨k', e, e', hl1, hl2, hl3⟩
    · obtain ⟨p1, _, p3⟩ := he.place l h1 hl (by rw [h2]; simp)
      exact .yld f hlt (hl ▸ h2) (p1 ▸ h3) (p3 ▸ h4) h5 (p3 ▸ h6) fun i hi => ih i hi he
    · exact .yldOld rfl hlt hl
    · rw [h2] at hl1; cases hl1
  | @yldOld c l site env v h0 h1 h2 =>
    have hl := he.head l h1
    rw [h2] at hl
    exact .yldOld h0 (Nat.lt_of_lt_of_le h1 he.N) (Hd.le_dead hl)
  | @it c id blk h1 h2 h3 =>
    have hl := he.head id h1
    have hlt := Nat.lt_of_lt_of_le h1 he.N
    rcases hl with hl | hl | ⟨k', e, e', hl1, hl2, hl3⟩
    · obtain ⟨p1, p2, _⟩ := he.place id h1 hl (by rw [h2]; simp)
      exact .it hlt (hl ▸ h2) (p1 ▸ h3)
    · exact .itOld rfl hlt hl
    · rw [h2] at hl1; cases hl1
  | @itOld c id v h0 h1 h2 =>
    have hl := he.head id h1
    rw [h2] at hl
    exact .itOld h0 (Nat.lt_of_lt_of_le h1 he.N) (Hd.le_dead hl)
end Go.AM

namespace Go.AM
variable (M : Names) (w : World)
def jumpOf : Ex → Option Go.Code
  | .nrm => none
  | .ext id => some (.exit id)
  | .ret => some .ret
def recOf (r : LoopRec) (st : LoopState) (p : Option Go.Code) : Loop :=
  { state := st, pending := p, fn := r.fn, tmps := r.tmps, params := r.params, assign := r.assign, body := r.body, defers := r.defers }
def ObjOk (c : Ctx) (id : Nat) : Obj → Prop
  | .arr k _ es => k ≠ 0 ∧ (∀ x ∈ es, ncells x = k) ∧ (c.place id = none → es = []) ∧ ∀ b, c.place id = some b →
      ∃ (cs : Array Value) (T : TypeId) (f : Nat → Nat → Value), w.heap[b]? = some (.cells cs T (0, 0)) ∧ es.length * k ≤ cs.size ∧ c.room id = cs.size ∧
        (∀ i j, i < es.length → j < k → cs[i * k + j]? = some (f i j) ∧ (f i j).oneCell' = true) ∧
        ∀ i (hi : i < es.length) j (hj : j < (cellsOf es[i]).length), R M w c (cellsOf es[i])[j] (f i j)
  | .map es => ∃ (b clock : Nat) (en : Array MapEntry) (f g : Nat → Value), c.place id = some b ∧ w.heap[b]? = some (.map en clock) ∧ en.size = es.length ∧
      (∀ i (h : i < es.length), ∃ e, en[i]? = some e ∧ e.key = f i ∧ e.val = g i ∧ isKey (es[i]).1 = true ∧ e.born < clock) ∧
      (∀ i (h : i < es.length), R M w c (es[i]).1 (f i)) ∧ (∀ i (h : i < es.length), R M w c (es[i]).2 (g i))
  | .pend busy j => ∃ b, c.place id = some b ∧
      w.heap[b]? = some (.loop (match busy, j with
        | true, _ => recOf (c.loops id) .busy none
        | false, none => recOf (c.loops id) .ready none
        | false, some e => recOf (c.loops id) .done (jumpOf e)))
  | .it s pos => ∃ (b : Nat) (t : ByteArray), c.place id = some b ∧ t.data.toList = s ∧ w.heap[b]? = some (.stringIter t pos)
  | .mit es cur k => ∃ (b r last cl : Nat) (seen : Array Nat) (en : Array MapEntry) (f g : Nat → Value), c.place id = some b ∧ w.heap[b]? = some (.mapIter (some r) cl seen last) ∧ c.sld r ∧ w.heap[r]? = some (.map en cl) ∧ en.size = es.length ∧
      (∀ i (h : i < es.length), ∃ e, en[i]? = some e ∧ e.key = f i ∧ e.val = g i ∧ isKey (es[i]).1 = true ∧ e.born < cl) ∧
      (∀ i (h : i < es.length), R M w (c.still false) (es[i]).1 (f i)) ∧ (∀ i (h : i < es.length), R M w (c.still false) (es[i]).2 (g i)) ∧
      (en.toList.filter fun e => !decide (e.born ∈ seen)).length ≤ k ∧ (seen.isEmpty = false → last = cl) ∧
      (∀ e, cur = some e → last = cl ∧ ∃ st q, seen.back? = some st ∧ en.find? (fun q => q.born == st) = some q ∧ R M w (c.still false) e.1 q.key ∧ R M w (c.still false) e.2 q.val)
  | .dead => True
structure Sim (c : Ctx) (σ : Store) : Prop where
  H : c.H = hd σ
  N : c.N = σ.length
  sb : ∀ b, c.sld b → c.bor b
  low : ∀ b, c.bor b → b < w.heap.size
  plow : ∀ id b, c.H id ≠ .dead → c.place id = some b → b < w.heap.size ∧ ¬ c.bor b
  inj : ∀ i j b, c.H i ≠ .dead → c.H j ≠ .dead → c.place i = some b → c.place j = some b → i = j
  obj : ∀ id o, σ[id]? = some o → ObjOk M w c id o
variable {M w}
theorem ObjOk.ext {c c' : Ctx} {w' : World} {id : Nat} {o : Obj} (h : ObjOk M w c id o) (he : Ext c w c' w')
    (hp : o ≠ .dead → c'.place id = c.place id ∧ c'.room id = c.room id ∧ c'.loops id = c.loops id) (hb : o ≠ .dead → ∀ b, c.place id = some b → w'.heap[b]? = w.heap[b]?) : ObjOk M w' c' id o := by
  cases o with
  | dead => trivial
  | arr k ep es =>
    obtain ⟨h1, h2, h3, h4⟩ := h
    obtain ⟨p1, p2, _⟩ := hp (by simp)
    refine ⟨h1, h2, fun hn => h3 (p1 ▸ hn), fun b hb' => ?_⟩
    rw [p1] at hb'
    obtain ⟨cs, T, f, q1, q2, q3, q4, q5⟩ := h4 b hb'
    exact ⟨cs, T, f, by rw [hb (by simp) b hb']; exact q1, q2, p2 ▸ q3, q4, fun i hi j hj => (q5 i hi j hj).ext he⟩
  | map es =>
    obtain ⟨b, cl, en, f, g, q1, q2, q3, q4, q5, q6⟩ := h
    obtain ⟨p1, p2, _⟩ := hp (by simp)
    exact ⟨b, cl, en, f, g, p1 ▸ q1, by rw [hb (by simp) b q1]; exact q2, q3, q4, fun i hi => (q5 i hi).ext he, fun i hi => (q6 i hi).ext he⟩
  | pend bz j =>
    obtain ⟨b, q1, q2⟩ := h
    obtain ⟨p1, _, p3⟩ := hp (by simp)
    exact ⟨b, p1 ▸ q1, by rw [hb (by simp) b q1, q2, p3]⟩
  | mit es cur k =>
    obtain ⟨b, r, last, cl, seen, en, f, g, q1, q2, q3, q4, q5, q6, q7, q8, q9, q10, q11⟩ := h
    obtain ⟨p1, _, _⟩ := hp (by simp)
    refine ⟨b, r, last, cl, seen, en, f, g, p1 ▸ q1, by rw [hb (by simp) b q1]; exact q2, he.sld _ q3, by rw [he.rest _ (.inr q3)]; exact q4, q5, q6, fun i hi => (q7 i hi).ext (he.still false), fun i hi => (q8 i hi).ext (he.still false), q9, q10, fun e h => ?_⟩
    obtain ⟨l1, st, q, l2, l3, l4, l5⟩ := q11 e h
    exact ⟨l1, st, q, l2, l3, l4.ext (he.still false), l5.ext (he.still false)⟩
  | it s pos =>
    obtain ⟨b, t, q1, q2, q3⟩ := h
    obtain ⟨p1, _, p3⟩ := hp (by simp)
    exact ⟨b, t, p1 ▸ q1, q2, by rw [hb (by simp) b q1, q3]⟩
theorem hd_of {σ : Store} {id : Nat} {o : Obj} (h : σ[id]? = some o) : hd σ id = match o with
    | .arr k ep _ => .arr k ep
    | .map _ => .map
    | .pend _ _ => .pend
    | .it _ _ => .it
    | .mit _ _ _ => .it
    | .dead => .dead := by
  simp only [hd, h]; cases o <;> rfl
theorem hd_live {σ : Store} {id : Nat} (h : hd σ id ≠ .dead) : ∃ o, σ[id]? = some o ∧ o ≠ .dead := by
  cases hs : σ[id]? with
  | none => exact absurd (by unfold hd; rw [hs]) h
  | some o =>
    refine ⟨o, rfl, fun ho => ?_⟩
    subst ho
    exact h (by unfold hd; rw [hs])
theorem hd_lt {σ : Store} {id : Nat} (h : hd σ id ≠ .dead) : id < σ.length := by
  obtain ⟨o, ho, _⟩ := hd_live h
  exact (List.getElem?_eq_some_iff.1 ho).1
theorem hd_dead {σ : Store} {id : Nat} {o : Obj} (h : σ[id]? = some o) : hd σ id = .dead ↔ o = .dead := by
  rw [hd_of h]; cases o <;> simp
theorem Ext.heap {c : Ctx} {w' : World} (h : w'.heap = w.heap) : Ext c w c w' :=
  ⟨fun _ h => h, fun _ h => h, fun _ _ => by rw [h], Nat.le_refl _, fun _ _ => .inl rfl, fun _ _ _ _ => ⟨rfl, rfl, rfl⟩⟩
theorem Sim.heap {c : Ctx} {σ : Store} {w' : World} (hs : Sim M w c σ) (h : w'.heap = w.heap) : Sim M w' c σ :=
  ⟨hs.H, hs.N, hs.sb, by rw [h]; exact hs.low, by rw [h]; exact hs.plow, hs.inj, fun id o ho => (hs.obj id o ho).ext (.heap h) (fun _ => ⟨rfl, rfl, rfl⟩) fun _ b _ => by rw [h]⟩
theorem Ext.trans {c c' c'' : Ctx} {w w' w'' : World} (h : Ext c w c' w') (k : Ext c' w' c'' w'') : Ext c w c'' w'' where
  sld := fun b hb => k.sld b (h.sld b hb)
  bor := fun b hb => k.bor b (h.bor b hb)
  rest := fun b hb => by rw [k.rest b (hb.imp (h.bor b) (h.sld b)), h.rest b hb]
  N := Nat.le_trans h.N k.N
  head := fun id hid => by
    have h1 := h.head id hid
    have h2 := k.head id (Nat.lt_of_lt_of_le hid h.N)
    rcases h1 with h1 | h1 | ⟨q, e, e', a1, a2, a3⟩
    · rw [h1]; exact h2
    · rw [h1] at h2; exact .inr (.inl (Hd.le_dead h2))
    · rcases h2 with h2 | h2 | ⟨q', f, f', b1, b2, b3⟩
      · exact .inr (.inr ⟨q, e, e', a1, h2 ▸ a2, a3⟩)
      · exact .inr (.inl h2)
      · rw [a2] at b1; cases b1; exact .inr (.inr ⟨q, e, f', a1, b2, Nat.lt_trans a3 b3⟩)
  place := fun id hid hq hd => by
    have h1 := h.head id hid
    have h2 := k.head id (Nat.lt_of_lt_of_le hid h.N)
    have hm : c.H id = c'.H id := by
      rcases h1 with h1 | h1 | ⟨q, e, e', a1, a2, a3⟩
      · exact h1
      · rw [h1] at h2; rw [Hd.le_dead h2] at hq; exact absurd hq hd
      · rcases h2 with h2 | h2 | ⟨q', f, f', b1, b2, b3⟩
        · rw [← h2, a1, a2] at hq; cases hq; exact absurd a3 (Nat.lt_irrefl _)
        · rw [h2] at hq; exact absurd hq hd
        · rw [a2] at b1; cases b1; rw [a1, b2] at hq; cases hq; exact absurd (Nat.lt_trans a3 b3) (Nat.lt_irrefl _)
    obtain ⟨p1, p2, p3⟩ := h.place id hid hm hd
    obtain ⟨r1, r2, r3⟩ := k.place id (Nat.lt_of_lt_of_le hid h.N) (hm ▸ hq) (hm ▸ hd)
    exact ⟨r1.trans p1, r2.trans p2, r3.trans p3⟩
def newW (w : World) (o : Go.Obj) : World := { w with heap := w.heap.push o }
def Ctx.grow (c : Ctx) (σ : Store) (p : Option Nat) (room : Nat) (lp : LoopRec) : Ctx :=
  { c with H := hd σ, N := σ.length, place := fun i => if i = c.N then p else c.place i, room := fun i => if i = c.N then room else c.room i, loops := fun i => if i = c.N then lp else c.loops i }
theorem hd_push_lt {σ : Store} {o : Obj} {id : Nat} (h : id < σ.length) : hd (σ ++ [o]) id = hd σ id := by
  unfold hd; rw [List.getElem?_append_left h]
theorem hd_push_ge {σ : Store} {o : Obj} {id : Nat} (h : σ.length < id) : hd (σ ++ [o]) id = .dead := by
  unfold hd; rw [List.getElem?_eq_none (by simp; omega)]
theorem get_push {σ : Store} {o : Obj} : (σ ++ [o])[σ.length]? = some o := by simp
theorem Ext.grow {c : Ctx} {σ : Store} {w' : World} (hs : Sim M w c σ) (o : Obj) (p : Option Nat) (room : Nat) (lp : LoopRec) (hw : ∀ b, b < w.heap.size → w'.heap[b]? = w.heap[b]?) :
    Ext c w (c.grow (σ ++ [o]) p room lp) w' where
  sld := fun _ h => h
  bor := fun _ h => h
  rest := fun b hb => hw b (hs.low b (hb.elim id (hs.sb b)))
  N := by simp [Ctx.grow, hs.N]
  head := fun id hid => by rw [hs.N] at hid; simp only [Ctx.grow, hs.H]; rw [hd_push_lt hid]; exact .inl rfl
  place := fun id hid _ _ => by
    have : id ≠ c.N := Nat.ne_of_lt hid
    simp [Ctx.grow, this]
theorem Sim.grow {c : Ctx} {σ : Store} {w' : World} (hs : Sim M w c σ) (o : Obj) (p : Option Nat) (room : Nat) (lp : LoopRec)
    (hw : ∀ b, b < w.heap.size → w'.heap[b]? = w.heap[b]?) (hz : w.heap.size ≤ w'.heap.size) (hp : ∀ b, p = some b → w.heap.size ≤ b ∧ b < w'.heap.size)
    (hobj : ObjOk M w' (c.grow (σ ++ [o]) p room lp) σ.length o) : Sim M w' (c.grow (σ ++ [o]) p room lp) (σ ++ [o]) where
  H := rfl
  N := rfl
  sb := hs.sb
  low := fun b hb => Nat.lt_of_lt_of_le (hs.low b hb) hz
  plow := fun id b hd hb => by
    simp only [Ctx.grow] at hd hb ⊢
    split at hb
    · obtain ⟨h1, h2⟩ := hp b hb
      exact ⟨h2, fun hc => absurd (hs.low b hc) (by omega)⟩
    · rename_i hne
      have hlt : id < σ.length := by
        have := hd_lt hd
        rw [hs.N] at hne
        simp at this; omega
      rw [hd_push_lt hlt, ← hs.H] at hd
      obtain ⟨h1, h2⟩ := hs.plow id b hd hb
      exact ⟨Nat.lt_of_lt_of_le h1 hz, h2⟩
  inj := fun i j b hi hj hbi hbj => by
    simp only [Ctx.grow] at hi hj hbi hbj
    have key : ∀ i, hd (σ ++ [o]) i ≠ .dead → i ≠ c.N → c.H i ≠ .dead := fun i hi hne => by
      have hlt : i < σ.length := by
        have := hd_lt hi
        rw [hs.N] at hne
        simp at this; omega
      rwa [hd_push_lt hlt, ← hs.H] at hi
    split at hbi
    · split at hbj
      · omega
      · rename_i h1 h2
        have := (hs.plow j b (key j hj h2) hbj).1
        have := (hp b hbi).1
        omega
    · rename_i h1
      split at hbj
      · have := (hs.plow i b (key i hi h1) hbi).1
        have := (hp b hbj).1
        omega
      · rename_i h2
        exact hs.inj i j b (key i hi h1) (key j hj h2) hbi hbj
  obj := fun id o' ho => by
    by_cases hlt : id < σ.length
    · rw [List.getElem?_append_left hlt] at ho
      have hne : id ≠ c.N := by rw [hs.N]; omega
      refine (hs.obj id o' ho).ext (Ext.grow hs o p room lp hw) (fun _ => by simp [Ctx.grow, hne]) fun hnd b hb => hw b ?_
      refine (hs.plow id b ?_ hb).1
      rw [hs.H]
      exact fun h => hnd ((hd_dead ho).1 h)
    · have : id = σ.length := by
        have := (List.getElem?_eq_some_iff.1 ho).1
        simp at this; omega
      subst this
      rw [get_push] at ho; cases ho
      exact hobj
end Go.AM

namespace Go.AM
variable {M : Names} {w : World} {P : Program}
theorem addr_add (b o j : Nat) : (⟨b, o, none⟩ : Addr).add j = ⟨b, o + j, none⟩ := by
  unfold Addr.add; split
  · rename_i h; subst h; rfl
  · rfl
theorem cells_one {x : Value} (h : x.oneCell' = true) : x.cells = #[x] := by
  cases x <;> first | rfl | (simp [Value.oneCell'] at h)
theorem R.small {c : Ctx} {v : AVal} {x : Value} (h : R M w c v x) (hx : x.oneCell' = true) : ncells v ≤ 1 ∧ isAgg v = false := by
  cases h <;> first | exact ⟨Nat.le_refl _, rfl⟩ | exact ⟨Nat.zero_le _, rfl⟩ | (simp [Value.oneCell'] at hx)
theorem R.oneOf {c : Ctx} {v : AVal} {x : Value} (h : R M w c v x) (h1 : ncells v = 1) (h2 : isAgg v = false) : x.oneCell' = true := by
  cases h <;> first | rfl | assumption | (simp [isAgg] at h2; done) | (simp [ncells] at h1; done)
theorem plain_any {M' : Names} {w' : World} {c c' : Ctx} {k : AVal} {ck : Value} (hk : R M w c k ck) (h : plainCell k = true) : R M' w' c' k ck := by
  cases k <;> simp [plainCell] at h <;> cases hk
  · exact .int
  · exact .bool
  · exact .str (by assumption)
theorem key_any {M' : Names} {w' : World} {c c' : Ctx} {k : AVal} {ck : Value} (hk : R M w c k ck) (h : isKey k = true) : R M' w' c' k ck := by
  cases k with
  | int => exact plain_any hk rfl
  | str => exact plain_any hk rfl
  | agg cs =>
    simp only [isKey, List.all_eq_true] at h
    cases hk with | agg f h1 h2 h3 h4 => exact .agg f h1 h2 h3 fun i hi => plain_any (h4 i hi) (h _ (List.getElem_mem hi))
  | _ => simp [isKey] at h
theorem cells_len {v : AVal} (h : ncells v ≠ 0) : (cellsOf v).length = ncells v := by
  cases v <;> first | rfl | exact absurd rfl h
theorem isAgg_iff {v : AVal} (h : isAgg v = true) : ∃ cs, v = .agg cs := by
  cases v <;> first | exact ⟨_, rfl⟩ | (simp [isAgg] at h)
theorem cells_not {v : AVal} (h : isAgg v = false) : cellsOf v = [v] := by
  cases v <;> first | rfl | (simp [isAgg] at h)
structure CellsR (M : Names) (w : World) (c : Ctx) (x : AVal) (f : Nat → Value) : Prop where
  one : ∀ j, j < ncells x → (f j).oneCell' = true
  rel : ∀ j (h : j < (cellsOf x).length), R M w c (cellsOf x)[j] (f j)
theorem mkAgg {c : Ctx} {cs : List AVal} (f : Nat → Value) (h1 : ∀ j, j < cs.length → (f j).oneCell' = true) (h2 : ∀ j (h : j < cs.length), R M w c cs[j] (f j)) :
    R M w c (.agg cs) (.agg ((List.range cs.length).map f).toArray) := by
  refine .agg f (by simp) (fun i hi => ⟨by simp [hi], h1 i hi⟩) (fun i hi => ?_) h2
  exact (h2 i hi).small (h1 i hi)
def tyOk (P : Program) (T : TypeId) (a : Bool) (s : Nat) : Bool :=
  (P.info? T).map (·.size) == some s && (match P.underlying T with
    | some (.struct _) | some (.array _ _) => a
    | some _ => !a
    | none => false) && (a || s == 1)
theorem run_sizeOf {T : TypeId} {s : Nat} (h : (P.info? T).map (·.size) = some s) (w : World) : (sizeOf T).run P w = .ok s w := by
  unfold sizeOf typeInfo
  cases hq : P.info? T with
  | none => simp [hq] at h
  | some i => simp [hq] at h ⊢; exact h
theorem run_isAgg {T : TypeId} {a : Bool} {s : Nat} (h : tyOk P T a s = true) (w : World) : (Go.isAgg T).run P w = .ok a w := by
  unfold tyOk at h
  simp only [Bool.and_eq_true] at h
  have h2 := h.1.2
  unfold Go.isAgg Go.underlying
  cases hq : P.underlying T with
  | none => simp [hq] at h2
  | some d => rw [hq] at h2; cases d <;> simp_all
theorem tyOk_size {T : TypeId} {a : Bool} {s : Nat} (h : tyOk P T a s = true) : (P.info? T).map (·.size) = some s := by
  unfold tyOk at h
  simp only [Bool.and_eq_true, beq_iff_eq] at h
  exact h.1.1
theorem tyOk_one {T : TypeId} {s : Nat} (h : tyOk P T false s = true) : s = 1 := by
  unfold tyOk at h
  simp only [Bool.and_eq_true, beq_iff_eq, Bool.false_or] at h
  exact h.2
theorem run_loadVar {T : TypeId} {a : Bool} {s : Nat} (h : tyOk P T a s = true) (b o : Nat) (f : Nat → Value) (hc : ∀ j, j < s → w.cell? ⟨b, o + j, none⟩ = some (f j)) :
    (loadVar T ⟨b, o, none⟩).run P w = .ok (if a then .agg ((List.range s).map f).toArray else f 0) w := by
  unfold loadVar
  cases a with
  | true =>
    simp only [Sem.run_bind, run_isAgg h, Result.andThen_ok, if_true, run_sizeOf (tyOk_size h), Sem.run_pure]
    rw [run_loadCells w _ s f (fun j hj => by rw [addr_add]; exact hc j hj)]
    rfl
  | false =>
    obtain rfl := tyOk_one h
    simp only [Sem.run_bind, run_isAgg h, Result.andThen_ok, Bool.false_eq_true, if_false, run_load]
    have := hc 0 (by omega)
    simp only [Nat.add_zero] at this
    rw [this]
theorem getPart_R {c : Ctx} {a : Bool} {s off : Nat} {x y : AVal} {f : Nat → Value} (h : CellsR M w c x f) (hx : ncells x ≠ 0) (hg : getPart a s x off = some y) (hs : a = false → s = 1) :
    off + s ≤ ncells x ∧ R M w c y (if a then .agg ((List.range s).map fun j => f (off + j)).toArray else f off) := by
  unfold getPart at hg
  split at hg
  · rename_i hc
    obtain ⟨rfl, h2, h3⟩ := hc
    cases hg
    refine ⟨by omega, ?_⟩
    cases a with
    | true =>
      obtain ⟨cs, rfl⟩ := isAgg_iff h3
      simp only [Nat.zero_add, if_true]
      have h2' : cs.length = s := h2
      subst h2'
      exact mkAgg f (fun j hj => h.one j hj) (fun j hj => h.rel j hj)
    | false =>
      have hcs := cells_not h3
      have := h.rel 0 (by rw [hcs]; simp)
      simp only [hcs, List.getElem_cons_zero] at this
      exact this
  · split at hg
    · rename_i ha
      subst ha
      split at hg
      · rename_i hl
        cases hg
        refine ⟨hl, ?_⟩
        have hlen : (cellsOf x).length = ncells x := cells_len hx
        have hl2 : (((cellsOf x).drop off).take s).length = s := by simp; omega
        have := mkAgg (M := M) (w := w) (c := c) (cs := ((cellsOf x).drop off).take s) (fun j => f (off + j)) (fun j hj => h.one _ (by omega)) (fun j hj => by
          have := h.rel (off + j) (by omega)
          simp only [List.getElem_take, List.getElem_drop]
          exact this)
        rw [hl2] at this
        exact this
      · cases hg
    · rename_i ha
      have ha' : a = false := by cases a <;> simp_all
      subst ha'
      obtain rfl := hs rfl
      obtain ⟨hlt, rfl⟩ := List.getElem?_eq_some_iff.1 hg
      refine ⟨by rw [cells_len hx] at hlt; omega, ?_⟩
      exact h.rel off hlt
end Go.AM
