/- Part of the proof. -/
import GoSem.Core.Sem
import GoSem.Op.String
import GoSem.Core.Utf8
import Derived.Test.YtmpmbfpkpannjaaGreatDoorAm00
import Derived.CallsIn
import Derived.Laws.Sem
import Derived.Laws.Cells
import Derived.Laws.Rows
import Derived.Laws.Tables
import Derived.Laws.Strings
import Derived.Laws.Slices
set_option linter.unusedVariables false
set_option linter.unusedSimpArgs false
set_option linter.unusedSectionVars false
namespace Go.AM
inductive aq where
 |int (k:IntKind) (n:Int)
 |bool (b:Bool)
 |str (s:List UInt8)
 |nilp
 |nilf
 |nilm
 |agg (cs:List aq)
 |tup (vs:List aq)
 |aa (b:Bool) (xs:List aq)
 |lst (xs:List aq)
 |ai
 |sl (id ep off len:Nat)
 |ptr (id ep i off:Nat)
 |asl (id ep i off n:Nat)
 |cptr (b:Bool) (x:aq) (off:Nat)
 |fn (f:Nat) (first cap:List aq)
 |imap (b:Bool) (es:List (aq×aq))
 |mp (id:Nat)
 |yld (l site:Nat) (env:List aq)
 |frs (k:Nat) (xs:List aq)
 |emp (b:Bool)
 |it (id:Nat)
 |any
 deriving Inhabited
inductive Ex where
 |nrm
 |ext (id:Nat)
 |ret
 deriving DecidableEq,Inhabited
inductive Obj where
 |arr (k ep:Nat) (es:List aq)
 |map (es:List (aq×aq))
 |pend (busy:Bool) (j:Option Ex)
 |it (s:List UInt8) (pos:Nat)
 |mit (es:List (aq×aq)) (cur:Option (aq×aq)) (k:Nat)
 |dead
 deriving Inhabited
abbrev aw:=List Obj
def yI:aq→Bool
 |.int ..=>true
 |.str _=>true
 |_=>false
def isAgg:aq→Bool
 |.agg _=>true
 |_=>false
def cellsOf:aq→List aq
 |.agg cs=>cs
 |v=>[v]
def aM:aq→Nat
 |.agg cs=>cs.length
 |.any|.tup _|.frs _ _|.asl ..=>0
 |_=>1
def xO(a:Bool)(s:Nat)(x:aq)(off:Nat):Option aq:=
 if off=0∧aM x=s∧isAgg x=a then some x
 else if a then (if off+s≤aM x then some (.agg (((cellsOf x).drop off).take s)) else none)
 else (cellsOf x)[off]?
def C0(s:Nat)(x:aq)(off:Nat)(v:aq):Option aq:=
 if aM v=s then
  if off=0∧aM x=s∧isAgg x=isAgg v then some v
  else if off+s≤aM x∧isAgg x=true then some (.agg ((cellsOf x).take off++cellsOf v++(cellsOf x).drop (off+s)))
  else none
 else none
def sliceAt(σ:aw)(id ep off len:Nat):Option (List aq):=
 match σ[id]? with
 |some (.arr _ e es)=>if e=ep∧off+len≤es.length then some ((es.drop off).take len) else none
 |_=>none
def ul(σ:aw)(id ep i:Nat):Option aq:=
 match σ[id]? with
 |some (.arr _ e es)=>if e=ep then es[i]? else none
 |_=>none
def Yh(σ:aw)(id:Nat):Option Nat:=
 match σ[id]? with
 |some (.arr k _ _)=>some k
 |_=>none
def fresh(σ:aw)(id ep:Nat):Bool:=
 match σ[id]? with
 |some (.arr _ e _)=>e==ep
 |_=>false
def ip(σ:aw)(id:Nat):Option (List (aq×aq)):=
 match σ[id]? with
 |some (.map es)=>some es
 |_=>none
def oY(fl:Bool)(l l':List aq):aq:=if l'.map aM=l.map aM then .aa fl l' else .any
def jQ(fl:Bool)(x x':aq)(off:Nat):aq:=if aM x'=aM x then .cptr fl x' off else .any
def fz(fl top:Bool)(base:Nat)(σ:aw):Nat→aq→aq
 |0,_=>.any
 |n+1,v=>match v with
  |.agg cs=>.agg (cs.map (fz fl top base σ n))
  |.tup vs=>.tup (vs.map (fz fl top base σ n))
  |.ai=>if !fl&&top then .ai else .aa false []
  |.aa b xs=>if b&&!fl&&!top then .any else .aa b xs
  |.lst xs=>oY fl xs (xs.map (fz fl false base σ n))
  |.cptr b x o=>if b then (if fl then jQ true x (fz fl false base σ n x) o else if top then jQ true x (fz fl top base σ n x) o else .any) else .cptr false x o
  |.imap b es=>if b&&!fl&&!top then .any else .imap b es
  |.sl id ep off len=>if id<base then (if top then .sl id ep off len else .any) else (sliceAt σ id ep off len).elim .any fun l=>oY fl l (l.map (fz fl false base σ n))
  |.ptr id ep i off=>if id<base then (if top then .ptr id ep i off else .any) else (ul σ id ep i).elim .any fun x=>jQ fl x (fz fl false base σ n x) off
  |.asl id ep i off m=>if id<base&&top then .asl id ep i off m else .any
  |.mp id=>if id<base then (if top then .mp id else .any) else (ip σ id).elim .any fun es=>.imap fl (es.map fun e=>(e.1,fz fl false base σ n e.2))
  |.fn f first cap=>.fn f (first.map (fz fl top base σ n)) (cap.map (fz fl top base σ n))
  |.yld l site env=>if l<base&&top then .yld l site (env.map (fz fl top base σ n)) else .any
  |.it id=>if id<base&&top then .it id else .any
  |.frs _ _=>.any
  |v=>v
def dE:Nat:=20
def snap(σ:aw)(v:aq):aq:=fz true false 0 σ dE v
def rr(σ:aw)(v:aq):aq:=fz false false 0 σ dE v
def cn(base:Nat)(σ:aw)(v:aq):aq:=fz false true base σ dE v
def Kp(k ep:Nat)(l l':List aq):Obj:=if l'.map aM=l.map aM then .arr k ep l' else .dead
def bw(base:Nat)(σ:aw):Obj→Obj
 |.arr k ep es=>Kp k ep es (es.map (cn base σ))
 |.map es=>.map (es.map fun e=>(e.1,cn base σ e.2))
 |o=>o
def neg(n:Bool)(t:Bool):aq:=.bool (if n then !t else t)
def rd(σ:aw):aq→Option (List aq)
 |.aa _ xs=>some xs
 |.lst xs=>some xs
 |.ai=>some []
 |.emp _=>some []
 |.sl id ep off len=>sliceAt σ id ep off len
 |.str s=>some (s.map fun c=>.int .u8 c.toNat)
 |_=>none
mutual
def same:aq→aq→Bool
 |.int k n,.int k' n'=>k==k'&&n==n'
 |.bool a,.bool b=>a==b
 |.str a,.str b=>a==b
 |.nilp,.nilp=>true
 |.nilf,.nilf=>true
 |.nilm,.nilm=>true
 |.agg a,.agg b=>qZ a b
 |.tup a,.tup b=>qZ a b
 |.aa b xs,.aa b' ys=>b==b'&&qZ xs ys
 |.lst xs,.lst ys=>qZ xs ys
 |.ai,.ai=>true
 |.sl a b c d,.sl a' b' c' d'=>a==a'&&b==b'&&c==c'&&d==d'
 |.ptr a b c d,.ptr a' b' c' d'=>a==a'&&b==b'&&c==c'&&d==d'
 |.asl a b c d e,.asl a' b' c' d' e'=>a==a'&&b==b'&&c==c'&&d==d'&&e==e'
 |.cptr b x o,.cptr b' y o'=>b==b'&&same x y&&o==o'
 |.fn f a b,.fn f' a' b'=>f==f'&&qZ a a'&&qZ b b'
 |.imap b es,.imap b' es'=>b==b'&&yX es es'
 |.mp a,.mp b=>a==b
 |.yld l s env,.yld l' s' env'=>l==l'&&s==s'&&qZ env env'
 |.frs k xs,.frs k' ys=>k==k'&&qZ xs ys
 |.emp a,.emp b=>a==b
 |.it a,.it b=>a==b
 |.any,.any=>true
 |_,_=>false
def qZ:List aq→List aq→Bool
 |[],[]=>true
 |a::x,b::y=>same a b&&qZ x y
 |_,_=>false
def yX:List (aq×aq)→List (aq×aq)→Bool
 |[],[]=>true
 |(a,b)::x,(a',b')::y=>same a a'&&same b b'&&yX x y
 |_,_=>false
end
def Oh:Option (aq×aq)→Option (aq×aq)→Bool
 |none,none=>true
 |some a,some b=>same a.1 b.1&&same a.2 b.2
 |_,_=>false
def Oz:Obj→Obj→Bool
 |.arr k e xs,.arr k' e' ys=>k==k'&&e==e'&&qZ xs ys
 |.map es,.map es'=>yX es es'
 |.pend b j,.pend b' j'=>b==b'&&decide (j=j')
 |.it s p,.it s' p'=>s==s'&&p==p'
 |.mit a b c,.mit a' b' c'=>yX a a'&&Oh b b'&&c==c'
 |.dead,.dead=>true
 |_,_=>false
def su:aw→aw→Bool
 |[],[]=>true
 |a::x,b::y=>Oz a b&&su x y
 |_,_=>false
inductive db where
 |env (i:Nat)
 |loc (j:Nat)
 |val (v:aq)
 deriving Inhabited
inductive IK where
 |mov (x:db)
 |pick (c a b:db)
 |box (k:Nat) (x:db)
 |build (zero:List aq) (parts:List (Nat×Nat×db))
 |mknil (k:Nat)
 |mkl (k:Nat) (xs:List db)
 |mksl (k:Nat) (xs:List db)
 |mkslz (k:Nat) (zero:aq) (n:Nat) (parts:List (Nat×db))
 |make (k:Nat) (zero:aq) (n c:db)
 |load (a:Bool) (s:Nat) (x:db)
 |store (s:Nat) (x v:db)
 |fld (off:Nat) (x:db)
 |fldv (a:Bool) (s off:Nat) (x:db)
 |idxs (k:Nat) (x i:db)
 |idxa (n s:Nat) (x i:db)
 |idxv (a:Bool) (n s:Nat) (x i:db)
 |idxt (x i:db)
 |bin (op:BinOp) (x y:db)
 |eqb (n:Bool) (x y:db)
 |eqa (n:Bool) (ks:List Nat) (x y:db)
 |nils (n:Bool) (x:db)
 |una (op:UnOp) (x:db)
 |conv (k:IntKind) (x:db)
 |slice (k:Nat) (x:db) (lo hi:Option db)
 |slicet (x:db) (lo hi:Option db)
 |slice0 (x:db)
 |aslice (n:Nat) (x:db)
 |len (x:db)
 |lent (x:db)
 |cap (x:db)
 |app (k:Nat) (x y:db)
 |appz (k:Nat) (zero:aq) (x n:db)
 |copy (k:Nat) (x y:db)
 |mins (x:db) (xs:List db)
 |maxs (x:db) (xs:List db)
 |mkfn (f:Nat) (first cap:List db)
 |ext (i:Nat) (x:db)
 |nilck (x:db)
 |call (f:Nat) (args:List db) (mat:Bool)
 |callv (f:db) (args:List db)
 |mkmap
 |mput (m k v:db)
 |look (zero:aq) (ok:Bool) (m k:db)
 |mlen (m:db)
 |clr (zero:aq) (x:db)
 |rngs (x:db)
 |nexts (x:db)
 |lookk (ks:List Nat) (zero:aq) (ok:Bool) (m k:db)
 |mputk (ks:List Nat) (m k v:db)
 |b2s (x:db)
 |bad
 deriving Inhabited
structure cr where
 op:IK
 guard:Option (db×Bool):=none
 deriving Inhabited
inductive az where
 |skip
 |reg (ops:List cr) (sT:List (Nat×db))
 |regd (ops:List cr) (sT:List (Nat×db)) (chk:List (Nat×Nat))
 |seq (a b:az)
 |cond (c:db) (a b:az)
 |blk (id:Nat) (b:az)
 |loop (clr:List Nat) (b:az)
 |exit (id:Nat)
 |ret
 |rng (n:Nat) (f:db) (site:Nat)
 |scope (b:az)
 |lift (i off k:Nat) (b:az)
 deriving Inhabited
inductive C9 where
 |pure
 |fresh (k:Nat)
 |keep
 |trunc
 deriving DecidableEq,Inhabited
inductive Oi where
 |env (i:Nat)
 |cell (a:Bool) (s i:Nat)
 deriving Inhabited
structure br where
 nenv:Nat
 np:Nat
 mode:C9
 res:List Oi
 body:az
 deriving Inhabited
structure yO where
 nenv:Nat
 params:List Nat
 pre:az
 body:az
 deriving Inhabited
abbrev ir:=Nat→List aq→aw→Option (aq×aw)
abbrev ahG:=ir→List aq→aw→Option (aq×aw)
inductive li where
 |none
 |fn (f:br)
 |nilfn (f:br)
 |round (r:yO)
 |prim (k:Nat)
 deriving Inhabited
def pC(l:List aq)(i:Nat):aq:=l[i]?.getD .any
def db.eval(env ls:List aq):db→aq
 |.env i=>pC env i
 |.loc j=>pC ls j
 |.val v=>v
def lX:aq→aq→Option Bool
 |.int k a,.int k' b=>if k=k' then some (a==b) else none
 |.bool a,.bool b=>some (a==b)
 |.str a,.str b=>some (a==b)
 |_,_=>none
def oP:List aq→List aq→Option Bool
 |[],[]=>some true
 |a::x,b::y=>(lX a b).bind fun t=>if t then oP x y else (oP x y).map fun _=>false
 |_,_=>none
def alu:aq→Option Bool
 |.nilp|.nilf|.nilm=>some true
 |.cptr ..|.fn ..=>some false
 |_=>none
def apK:aq→Bool
 |.nilf|.fn ..=>true
 |_=>false
def amQ:aq→Bool
 |.nilp|.cptr ..=>true
 |_=>false
def intBits(op:BinOp)(k:IntKind)(x y:Int):Option Int:=
 let a:=BitVec.ofInt k.bits x
 let b:=BitVec.ofInt k.bits y
 match op with
 |.and=>some (k.wrap (a &&& b).toNat)
 |.or=>some (k.wrap (a |||b).toNat)
 |.xor=>some (k.wrap (a ^^^ b).toNat)
 |.andNot=>some (k.wrap (a &&& ~~~b).toNat)
 |_=>none
def K7(op:BinOp)(k:IntKind)(a b:Int):Option aq:=
 match op with
 |.add=>some (.int k (k.wrap (a+b)))
 |.sub=>some (.int k (k.wrap (a-b)))
 |.mul=>some (.int k (k.wrap (a*b)))
 |.quo=>if b=0 then none else some (.int k (k.wrap (a.tdiv b)))
 |.rem=>if b=0 then none else some (.int k (a.tmod b))
 |.eql=>some (.bool (a==b))
 |.neq=>some (.bool (a != b))
 |.lss=>some (.bool (decide (a<b)))
 |.leq=>some (.bool (decide (a≤b)))
 |.gtr=>some (.bool (decide (a>b)))
 |.geq=>some (.bool (decide (a≥b)))
 |.shl|.shr=>none
 |_=>(intBits op k a b).map (.int k)
def bC:Nat:=2^36
def eS(op:BinOp)(a b:List UInt8):Option aq:=
 match op with
 |.add=>if a.length+b.length≤bC then some (.str (a++b)) else none
 |.eql=>some (.bool (a==b))
 |.neq=>some (.bool (!(a==b)))
 |.lss=>some (.bool (Op.bytesLess a b))
 |.leq=>some (.bool (Op.bytesLess a b ||a==b))
 |.gtr=>some (.bool (!(Op.bytesLess a b ||a==b)))
 |.geq=>some (.bool (!(Op.bytesLess a b)))
 |_=>none
def shift(op:BinOp)(k:IntKind)(a b:Int):Option aq:=
 if b<0 then none else
 match op with
 |.shl=>some (.int k (k.wrap (a*2^(min b.toNat k.bits))))
 |.shr=>some (.int k (a.fdiv (2^(min b.toNat k.bits))))
 |_=>none
def bin(op:BinOp)(x y:aq):Option aq:=
 match x,y with
 |.int k a,.int k' b=>
  match op with
  |.shl=>shift op k a b
  |.shr=>shift op k a b
  |_=>if k=k' then K7 op k a b else none
 |.str a,.str b=>eS op a b
 |_,_=>none
def eqb(n:Bool)(x y:aq):Option aq:=
 match x,y with
 |.bool a,.bool b=>some (neg n (a==b))
 |_,_=>none
def sF:aq→Nat
 |.int ..=>0
 |.bool _=>1
 |.str _=>2
 |_=>3
def eR:List Nat→List aq→List aq→Option Bool
 |[],_,_=>some true
 |k::ks,a::x,b::y=>if sF a=k then (lX a b).bind fun t=>if t then eR ks x y else some false else none
 |_,_,_=>none
def eqa(n:Bool)(ks:List Nat)(x y:aq):Option aq:=
 match x,y with
 |.agg a,.agg b=>(eR ks a b).map (neg n)
 |_,_=>none
def kw(σ:aw)(x:aq):Bool:=
 match x with
 |.str _=>false
 |x=>match rd σ x with
  |some []=>true
  |_=>false
def uN(n:Bool)(σ:aw)(x:aq):Option aq:=
 match x with
 |.emp b=>some (neg n b)
 |.str _=>none
 |x=>match rd σ x with
  |some (_::_)=>some (neg n false)
  |_=>none
def una(op:UnOp)(x:aq):Option aq:=
 match op,x with
 |.neg,.int k n=>some (.int k (k.wrap (0-n)))
 |.xor,.int k n=>(intBits .xor k (if k.signed then -1 else k.max) n).map (.int k)
 |.not,.bool b=>some (.bool (!b))
 |_,_=>none
def tI(σ:aw):aq→Option Nat
 |.aa _ xs=>some xs.length
 |.lst xs=>some xs.length
 |.ai=>some 0
 |.emp _=>some 0
 |.sl id ep _ n=>if fresh σ id ep then some n else none
 |_=>none
def Jn:aq→Option Nat
 |.str s=>some s.length
 |_=>none
def Cz(σ:aw):aq→Bool
 |.aa _ _|.lst _|.ai=>true
 |.sl id ep _ _=>fresh σ id ep
 |_=>false
def rf:aq→Option Nat
 |.int _ n=>if 0≤n then some n.toNat else none
 |_=>none
def aslice(σ:aw)(k:Nat)(x:aq)(lo hi:Nat):Option aq:=
 match x with
 |.aa b xs=>if lo≤hi∧hi≤xs.length∧xs.all (fun y=>aM y==k) then some (.aa b ((xs.drop lo).take (hi-lo))) else none
 |.lst xs=>if lo≤hi∧hi≤xs.length∧xs.all (fun y=>aM y==k) then some (.lst ((xs.drop lo).take (hi-lo))) else none
 |.ai=>if lo=0∧hi=0 then some .ai else none
 |.sl id ep off n=>if lo≤hi∧hi≤n∧Yh σ id=some k then some (.sl id ep (off+lo) (hi-lo)) else none
 |_=>none
def vT(x:aq)(lo hi:Nat):Option aq:=
 match x with
 |.str s=>if lo≤hi∧hi≤s.length then some (.str ((s.drop lo).take (hi-lo))) else none
 |_=>none
def append(k:Nat)(x:aq)(ys:List aq)(σ:aw):Option (aq×aw):=
 if ys.length=0 then (if Cz σ x then some (x,σ) else none) else
 if ys.all (fun y=>aM y==k) then
  match x with
  |.ai=>if ys.length≤bC then some (.sl σ.length 0 0 ys.length,σ++[.arr k 0 ys]) else none
  |.sl id ep off n=>match σ[id]? with
   |some (.arr k' e es)=>
    if k'=k∧e=ep∧off+n≤es.length∧off=0∧n+ys.length≤bC then
     some (.sl id (ep+1) 0 (n+ys.length),σ.set id (.arr k (ep+1) (es.take n++ys)))
    else none
   |_=>none
  |_=>none
 else none
def loadAt(a:Bool)(s:Nat)(p:aq)(σ:aw):Option aq:=
 match p with
 |.cptr _ x off=>xO a s x off
 |.ptr id ep i off=>(ul σ id ep i).bind fun x=>xO a s x off
 |_=>none
def storeAt(s:Nat)(p v:aq)(σ:aw):Option aw:=
 match p with
 |.ptr id ep i off=>match σ[id]? with
  |some (.arr k e es)=>
   if e=ep then (es[i]?).bind fun x=>(C0 s x off v).map fun x'=>σ.set id (.arr k e (es.set i x')) else none
  |_=>none
 |_=>none
def qH(a b:aq):Option Bool:=match a,b with
 |.int k x,.int k' y=>if k=k' then some (x==y) else none
 |_,_=>none
def lookup(k:aq):List (aq×aq)→Option (Option aq)
 |[]=>some none
 |e::r=>match qH e.1 k with
  |some true=>some (some e.2)
  |some false=>lookup k r
  |none=>none
def mput(k v:aq):List (aq×aq)→Option (List (aq×aq))
 |[]=>some [(k,v)]
 |e::r=>match qH e.1 k with
  |some true=>some ((e.1,v)::r)
  |some false=>(mput k v r).map (e::·)
  |none=>none
def oS:aq→Bool
 |.int ..=>true
 |.str _=>true
 |.bool _=>true
 |_=>false
def ma:aq→Bool
 |.int ..=>true
 |.str _=>true
 |.agg cs=>cs.all oS
 |_=>false
def vW:aq→Bool
 |.int ..=>true
 |_=>false
def g9(ks:List Nat):aq→Bool
 |.str _=>ks==[]
 |.agg cs=>ks != []&&cs.map sF==ks&&cs.all oS
 |_=>false
def oZ(ks:List Nat)(k e:aq):Option Bool:=
 if g9 ks e then (match k,e with
  |.str a,.str b=>some (a==b)
  |.agg a,.agg b=>eR ks a b
  |_,_=>none) else none
def dy(ks:List Nat)(k:aq):List (aq×aq)→Option (Option aq)
 |[]=>some none
 |e::r=>match oZ ks k e.1 with
  |some true=>some (some e.2)
  |some false=>dy ks k r
  |none=>none
def rc(ks:List Nat)(k v:aq):List (aq×aq)→Option (List (aq×aq))
 |[]=>some [(k,v)]
 |e::r=>match oZ ks k e.1 with
  |some true=>some ((e.1,v)::r)
  |some false=>(rc ks k v r).map (e::·)
  |none=>none
def opt(env ls:List aq)(d:Nat):Option db→Option Nat
 |none=>some d
 |some o=>rf (o.eval env ls)
def fill(zero:List aq):List (Nat×Nat×aq)→Option (List aq)
 |[]=>some zero
 |(off,s,v)::r=>if aM v=s∧s≠0∧off+s≤zero.length then fill (zero.take off++cellsOf v++zero.drop (off+s)) r else none
def MI(l:List aq):List (Nat×aq)→List aq
 |[]=>l
 |(i,v)::r=>MI (l.set i v) r
def wY(lt:Bool):aq→List aq→Option aq
 |x,[]=>some x
 |.int k a,.int k' b::r=>if k=k' then wY lt (.int k (if lt then (if b<a then b else a) else (if a<b then b else a))) r else none
 |_,_=>none
def pD(σ:aw)(l:Nat):Bool:=match σ[l]? with
 |some (.pend false none)=>true
 |_=>false
def IG(C:ir)(f:aq)(args:List aq)(σ:aw):Option (aq×aw):=
 match f with
 |.fn f first cap=>C f (first++args++cap) σ
 |.yld l site env=>if pD σ l then C site (.frs l []::env++args) σ else none
 |_=>none
def Hh(C:ir)(f:aq)(args:List aq)(σ:aw):Option (aq×aw):=
 match f with
 |.fn f first cap=>C f (first++args++cap) σ
 |_=>none
def vO(mat:Bool)(v:aq)(σ:aw):aq×aw:=
 match v with
 |.frs k xs=>if mat then (.sl σ.length 0 0 xs.length,σ++[.arr k 0 xs]) else (.aa false xs,σ)
 |v=>(v,σ)
def mater(mat:Bool)(r:aq×aw):aq×aw:=
 match r.1 with
 |.tup (v::vs)=>let q:=vO mat v r.2;(.tup (q.1::vs),q.2)
 |v=>vO mat v r.2
def JA(σ:aw)(off:Nat):aq→Option aq
 |.ptr id ep i o=>if fresh σ id ep then some (.ptr id ep i (o+off)) else none
 |.cptr b y o=>some (.cptr b y (o+off))
 |_=>none
def CH(σ:aw)(k n:Nat):aq→Option aq
 |.aa b xs=>(xs[n]?).bind fun y=>if aM y=k then some (.cptr b y 0) else none
 |.lst xs=>(xs[n]?).bind fun y=>if aM y=k then some (.cptr true y 0) else none
 |.sl id ep off m=>if n<m∧Yh σ id=some k∧fresh σ id ep then some (.ptr id ep (off+n) 0) else none
 |_=>none
def ME(σ:aw):aq→Option aq
 |.ptr id ep i o=>if fresh σ id ep then some (.ptr id ep i o) else none
 |.cptr b y o=>some (.cptr b y o)
 |.fn f a b=>some (.fn f a b)
 |_=>none
def SY(k:IntKind):aq→Option aq
 |.int _ n=>some (.int k (k.wrap n))
 |_=>none
def Y8(i:Nat):aq→Option aq
 |.tup vs=>vs[i]?
 |_=>none
def NP(n:Nat):aq→Option aq
 |.str t=>(t[n]?).map fun c=>.int .u8 c.toNat
 |_=>none
def yw(σ:aw):aq→Option (List (aq×aq))
 |.imap _ es=>some es
 |.nilm=>some []
 |.mp id=>ip σ id
 |_=>none
def N8(σ:aw)(key v:aq):aq→Option aw
 |.mp id=>(ip σ id).bind fun es=>if vW key then (mput key v es).map fun es'=>σ.set id (.map es') else none
 |_=>none
def Iy(ks:List Nat)(σ:aw)(key v:aq):aq→Option aw
 |.mp id=>(ip σ id).bind fun es=>if g9 ks key then (rc ks key v es).map fun es'=>σ.set id (.map es') else none
 |_=>none
def yR:List aq→Option (List UInt8)
 |[]=>some []
 |.int .u8 n::r=>(yR r).map (UInt8.ofNat n.toNat::·)
 |_=>none
def Xf(σ:aw):aq→Option aq
 |.str _=>none
 |x=>(rd σ x).bind fun ys=>(yR ys).map .str
def Zm(σ:aw)(zero:aq):aq→Option aw
 |.sl id ep off n=>match σ[id]? with
  |some (.arr k e es)=>if e=ep∧off+n≤es.length∧aM zero=k then some (σ.set id (.arr k e (es.take off++List.replicate n zero++es.drop (off+n)))) else none
  |_=>none
 |.ai=>some σ
 |_=>none
def TM(a b:aq):aq→Option aq
 |.bool t=>some (if t then a else b)
 |_=>none
def Ht(a:Bool)(s off:Nat)(x:aq):Option aq:=if isAgg x=true∧aM x≠0 then xO a s x off else none
def abD(σ:aw)(n:Nat):aq→Option aq
 |.ptr id ep i o=>if fresh σ id ep then some (.asl id ep i o n) else none
 |.cptr false (.agg cs) 0=>if cs.length=n∧cs.all (fun y=>aM y==1&&!isAgg y)=true then some (.aa false cs) else none
 |_=>none
def acJ:aq→Nat
 |.sl _ _ _ n=>n
 |.asl _ _ _ _ n=>n
 |_=>0
def Ku(σ:aw)(n:Nat):aq→Option (List aq)
 |.sl id ep off len=>(rd σ (.sl id ep off len)).map (·.take n)
 |y=>rd σ y
def NZ(σ:aw)(k0:Nat)(ys:List aq):aq→Option aw
 |.asl id ep i off n=>match σ[id]? with
  |some (.arr k e es)=>if e=ep∧k0=1∧ys.length≤n∧ys.all (fun y=>aM y==1&&!isAgg y) then (es[i]?).bind fun x=>
    if isAgg x=true∧off+n≤aM x then some (σ.set id (.arr k e (es.set i (.agg ((cellsOf x).take off++ys++(cellsOf x).drop (off+ys.length)))))) else none
   else none
  |_=>none
 |.sl id ep off n=>match σ[id]? with
  |some (.arr k e es)=>if e=ep∧k=k0∧ys.length≤n∧off+n≤es.length∧ys.all (fun y=>aM y==k) then
    some (σ.set id (.arr k e (es.take off++ys++es.drop (off+ys.length)))) else none
  |_=>none
 |_=>none
def uz(σ:aw):aq→Option (aq×aw)
 |.it id=>match σ[id]? with
  |some (.it s pos)=>if pos<s.length then
    some (.tup [.bool true,.int .i64 pos,.int .i32 (Utf8.decode ⟨s.toArray⟩ pos).1],σ.set id (.it s (pos+(Utf8.decode ⟨s.toArray⟩ pos).2)))
   else some (.tup [.bool false],σ)
  |_=>none
 |_=>none
def QV(σ:aw):aq→Option (aq×aw)
 |.str s=>some (.it σ.length,σ++[.it s 0])
 |_=>none
def adl:aq→Option aq
 |.ai=>some (.int .i64 0)
 |_=>none
def bH(C:ir)(env ls:List aq)(σ:aw):IK→Option (aq×aw)
 |.mov x=>some (x.eval env ls,σ)
 |.pick c a b=>(TM (a.eval env ls) (b.eval env ls) (c.eval env ls)).map (·,σ)
 |.box k x=>let v:=x.eval env ls;if aM v=k then some (.ptr σ.length 0 0 0,σ++[.arr k 0 [v]]) else none
 |.build zero parts=>(fill zero (parts.map fun p=>(p.1,p.2.1,p.2.2.eval env ls))).map fun cs=>(.agg cs,σ)
 |.mknil k=>some (.sl σ.length 0 0 0,σ++[.arr k 0 []])
 |.mkl k xs=>let vs:=xs.map (·.eval env ls);if vs.all (fun v=>aM v==k) then some (.lst vs,σ) else none
 |.mksl k xs=>let vs:=xs.map (·.eval env ls)
  if vs=[] then some (.ai,σ) else
  if vs.all (fun v=>aM v==k) then some (.sl σ.length 0 0 vs.length,σ++[.arr k 0 vs]) else none
 |.mkslz k zero n parts=>let vs:=MI (List.replicate n zero) (parts.map fun p=>(p.1,p.2.eval env ls))
  if vs.all (fun v=>aM v==k) then some (.sl σ.length 0 0 n,σ++[.arr k 0 vs]) else none
 |.make k zero n c=>(rf (n.eval env ls)).bind fun m=>(rf (c.eval env ls)).bind fun d=>
   if m=d∧aM zero=k∧m≤bC then some (.sl σ.length 0 0 m,σ++[.arr k 0 (List.replicate m zero)]) else none
 |.load a s x=>(loadAt a s (x.eval env ls) σ).map (·,σ)
 |.store s x v=>(storeAt s (x.eval env ls) (v.eval env ls) σ).map (.any,·)
 |.fld off x=>(JA σ off (x.eval env ls)).map (·,σ)
 |.fldv a s off x=>(Ht a s off (x.eval env ls)).map (·,σ)
 |.idxs k x i=>(rf (i.eval env ls)).bind fun n=>(CH σ k n (x.eval env ls)).map (·,σ)
 |.idxa m s x i=>(rf (i.eval env ls)).bind fun n=>if n<m then (JA σ (n*s) (x.eval env ls)).map (·,σ) else none
 |.idxv a m s x i=>(rf (i.eval env ls)).bind fun n=>if n<m then (Ht a s (n*s) (x.eval env ls)).map (·,σ) else none
 |.idxt x i=>(rf (i.eval env ls)).bind fun n=>(NP n (x.eval env ls)).map (·,σ)
 |.bin op x y=>(bin op (x.eval env ls) (y.eval env ls)).map (·,σ)
 |.eqb n x y=>(eqb n (x.eval env ls) (y.eval env ls)).map (·,σ)
 |.eqa n ks x y=>(eqa n ks (x.eval env ls) (y.eval env ls)).map (·,σ)
 |.nils n x=>(uN n σ (x.eval env ls)).map (·,σ)
 |.una op x=>(una op (x.eval env ls)).map (·,σ)
 |.conv k x=>(SY k (x.eval env ls)).map (·,σ)
 |.slice k x lo hi=>let v:=x.eval env ls
  (tI σ v).bind fun n=>(opt env ls 0 lo).bind fun l=>(opt env ls n hi).bind fun h=>(aslice σ k v l h).map (·,σ)
 |.slicet x lo hi=>let v:=x.eval env ls
  (Jn v).bind fun n=>(opt env ls 0 lo).bind fun l=>(opt env ls n hi).bind fun h=>(vT v l h).map (·,σ)
 |.slice0 x=>(tI σ (x.eval env ls)).map fun _=>(.ai,σ)
 |.aslice n x=>(abD σ n (x.eval env ls)).map (·,σ)
 |.len x=>(tI σ (x.eval env ls)).map fun (n:Nat)=>(.int .i64 (n:Int),σ)
 |.lent x=>(Jn (x.eval env ls)).map fun (n:Nat)=>(.int .i64 (n:Int),σ)
 |.cap x=>(adl (x.eval env ls)).map (·,σ)
 |.app k x y=>(rd σ (y.eval env ls)).bind fun ys=>append k (x.eval env ls) ys σ
 |.appz k zero x n=>(rf (n.eval env ls)).bind fun m=>if aM zero=k∧m≤bC then append k (x.eval env ls) (List.replicate m zero) σ else none
 |.copy k x y=>(Ku σ (acJ (x.eval env ls)) (y.eval env ls)).bind fun ys=>(NZ σ k ys (x.eval env ls)).map fun σ'=>(.int .i64 (ys.length:Int),σ')
 |.mins x xs=>(wY true (x.eval env ls) (xs.map (·.eval env ls))).map (·,σ)
 |.maxs x xs=>(wY false (x.eval env ls) (xs.map (·.eval env ls))).map (·,σ)
 |.mkfn f first cap=>some (.fn f (first.map (·.eval env ls)) (cap.map (·.eval env ls)),σ)
 |.ext i x=>(Y8 i (x.eval env ls)).map (·,σ)
 |.nilck x=>(ME σ (x.eval env ls)).map (·,σ)
 |.call f args mat=>(C f (args.map (·.eval env ls)) σ).map (mater mat)
 |.callv f args=>(IG C (f.eval env ls) (args.map (·.eval env ls)) σ).map (mater false)
 |.mkmap=>some (.mp σ.length,σ++[.map []])
 |.mput m k v=>(N8 σ (k.eval env ls) (v.eval env ls) (m.eval env ls)).map (.any,·)
 |.look zero ok m k=>if vW (k.eval env ls) then (yw σ (m.eval env ls)).bind fun es=>(lookup (k.eval env ls) es).map fun r=>(if ok then .tup [r.getD zero,.bool r.isSome] else r.getD zero,σ) else none
 |.mlen m=>(yw σ (m.eval env ls)).map fun es=>(.int .i64 (es.length:Int),σ)
 |.clr zero x=>(Zm σ zero (x.eval env ls)).map (.any,·)
 |.rngs x=>QV σ (x.eval env ls)
 |.nexts x=>uz σ (x.eval env ls)
 |.lookk ks zero ok m k=>if g9 ks (k.eval env ls) then (yw σ (m.eval env ls)).bind fun es=>(dy ks (k.eval env ls) es).map fun r=>(if ok then .tup [r.getD zero,.bool r.isSome] else r.getD zero,σ) else none
 |.mputk ks m k v=>(Iy ks σ (k.eval env ls) (v.eval env ls) (m.eval env ls)).map (.any,·)
 |.b2s x=>(Xf σ (x.eval env ls)).map (·,σ)
 |.bad=>none
def wanted(env ls:List aq):Option (db×Bool)→Option Bool
 |none=>some true
 |some (j,b)=>match j.eval env ls with
  |.bool t=>some (t==b)
  |.tup []=>some false
  |_=>none
def ml(C:ir)(env:List aq):List cr→List aq→aw→Option (List aq×aw)
 |[],ls,σ=>some (ls,σ)
 |i::r,ls,σ=>match wanted env ls i.guard with
  |some true=>(bH C env ls σ i.op).bind fun q=>ml C env r (ls++[q.1]) q.2
  |some false=>ml C env r (ls++[.tup []]) σ
  |none=>none
def uO(C:ir)(env:List aq):List cr→List aq→List aw→aw→Option (List aq×List aw×aw)
 |[],ls,ss,σ=>some (ls,ss,σ)
 |i::r,ls,ss,σ=>match wanted env ls i.guard with
  |some true=>(bH C env ls σ i.op).bind fun q=>uO C env r (ls++[q.1]) (ss++[σ]) q.2
  |some false=>uO C env r (ls++[.tup []]) (ss++[σ]) σ
  |none=>none
def rG(C:ir)(env ls:List aq)(ops:List cr)(ss:List aw):List (Nat×Nat)→Option Unit
 |[]=>some ()
 |(n,j)::r=>match ops[n]?,ss[j]? with
  |some i,some τ=>(bH C env (ls.take n) τ i.op).bind fun q=>if same q.1 (pC ls n)&&su q.2 τ then rG C env ls ops ss r else none
  |_,_=>none
def sT(env old ls:List aq):List (Nat×db)→List aq
 |[]=>env
 |(s,j)::r=>sT (env.set s (j.eval old ls)) old ls r
structure St where
 env:List aq
 st:aw
def clear(env:List aq):List Nat→List aq
 |[]=>env
 |i::r=>clear (env.set i .any) r
def bQ(base:Nat)(clr:List Nat)(s:St):St:=
 if s.st.length=base∨clr.head?=some 9999 then ⟨clear s.env clr,s.st⟩
 else ⟨(clear s.env clr).map (cn base s.st),(s.st.take base).map (bw base s.st)⟩
def rX(base:Nat)(clr:List Nat)(f:St→Option (Ex×St)):Nat→St→Option (Ex×St)
 |0,_=>none
 |n+1,s=>(f s).bind fun r=>match r.1 with
  |.nrm=>rX base clr f n (bQ base clr r.2)
  |e=>some (e,r.2)
def sJ(l:Nat)(env:List aq)(σ:aw):Option (Ex×St):=
 match σ[l]? with
 |some (.pend false none)=>some (.nrm,⟨env,σ.set l .dead⟩)
 |some (.pend false (some e))=>some (e,⟨env,σ.set l .dead⟩)
 |_=>none
def DI(id ep j q k:Nat)(σ:aw):Option aw:=
 match σ[id]? with
 |some (.arr k' e es)=>if e=ep∧k≠0 then (match es[j]? with
  |some (.agg cs)=>(match cs[q]? with
   |some .ai=>some (σ.set id (.arr k' e (es.set j (.agg (cs.set q (.sl σ.length 0 0 0)))))++[.arr k 0 []])
   |_=>none)
  |some .ai=>if q=0 then some (σ.set id (.arr k' e (es.set j (.sl σ.length 0 0 0)))++[.arr k 0 []]) else none
  |_=>none) else none
 |_=>none
def Cc(id ep k:Nat):Nat→aw→Option aw
 |0,σ=>some σ
 |n+1,σ=>(Cc id ep k n σ).bind fun σ'=>DI id ep n 0 k σ'
def Ia(p:aq)(off k:Nat)(σ:aw):Option aw:=
 match p with
 |.ptr id ep j o=>DI id ep j (o+off) k σ
 |.sl id ep o n=>if off=999 then (if o=0 then Cc id ep k n σ else none) else DI id ep (o+off) 0 k σ
 |_=>none
def exec(C:ir)(n:Nat):az→St→Option (Ex×St)
 |.skip,s=>some (.nrm,s)
 |.reg ops os,s=>(ml C s.env ops [] s.st).map fun r=>(.nrm,⟨sT s.env s.env r.1 os,r.2⟩)
 |.regd ops os chk,s=>(uO C s.env ops [] [] s.st).bind fun r=>(rG C s.env r.1 ops (r.2.1++[r.2.2]) chk).map fun _=>(.nrm,⟨sT s.env s.env r.1 os,r.2.2⟩)
 |.seq a b,s=>(exec C n a s).bind fun r=>match r.1 with
  |.nrm=>exec C n b r.2
  |e=>some (e,r.2)
 |.cond c a b,s=>match c.eval s.env [] with
  |.bool true=>exec C n a s
  |.bool false=>exec C n b s
  |_=>none
 |.blk id b,s=>(exec C n b s).map fun r=>match r.1 with
  |.ext j=>if j=id then (.nrm,r.2) else r
  |_=>r
 |.loop clr b,s=>rX s.st.length clr (exec C n b) n ⟨clear s.env clr,s.st⟩
 |.exit id,s=>some (.ext id,s)
 |.ret,s=>some (.ret,s)
 |.rng m f site,s=>
  let l:=s.st.length
  if s.env.length=m then
   (Hh C (f.eval s.env []) [.yld l site s.env] (s.st++[.pend false none])).bind fun r=>sJ l s.env r.2
  else none
 |.scope b,s=>exec C n b s
 |.lift i off k b,s=>(Ia (pC s.env i) off k s.st).bind fun σ=>exec C n b ⟨s.env,σ⟩
def LJ(s:St):Oi→Option aq
 |.env i=>some (pC s.env i)
 |.cell a n i=>loadAt a n (pC s.env i) s.st
def As(s:St):List Oi→Option (List aq)
 |[]=>some []
 |r::rs=>(LJ s r).bind fun v=>(As s rs).map (v::·)
def results(s:St)(l:List Oi):Option aq:=(As s l).map fun vs=>match vs with
 |[v]=>v
 |vs=>.tup vs
def UQ(k:Nat)(l l':List aq):aq:=if l'.map aM=l.map aM then .frs k l' else .any
def rL(k:Nat)(σ:aw)(v:aq):aq:=
 match v with
 |.ai=>.frs k []
 |.sl id ep off len=>match σ[id]? with
  |some (.arr k' e es)=>if k'=k∧e=ep∧off=0∧len≤es.length then UQ k (es.take len) ((es.take len).map (rr (σ.set id .dead))) else .any
  |_=>.any
 |_=>.any
def BP(σ:aw):aq→aw
 |.sl id ..=>σ.set id .dead
 |_=>σ
def iw(m:C9)(σ:aw)(s:St)(v:aq):aq×aw:=
 match m with
 |.pure=>(rr s.st v,σ)
 |.fresh k=>(match v with
  |.tup (x::vs)=>.tup (rL k s.st x::vs.map (rr (BP s.st x)))
  |x=>rL k s.st x,σ)
 |.keep=>(v,s.st)
 |.trunc=>if s.st.length=σ.length then (v,s.st) else (cn σ.length s.st v,(s.st.take σ.length).map (bw σ.length s.st))
def enter(f:br)(args:List aq)(σ:aw):St:=
 match f.mode with
 |.pure|.fresh _=>⟨(args.take f.np).map (snap σ)++List.replicate (f.nenv-f.np) .any,[]⟩
 |_=>⟨args.take f.np++List.replicate (f.nenv-f.np) .any,σ⟩
def qY(f:br)(σ:aw)(r:Ex×St):Option (aq×aw):=
 match r.1 with
 |.ext _=>none
 |_=>(results r.2 f.res).map fun v=>iw f.mode σ r.2 v
def pJ(C:ir)(n:Nat)(g:br)(args:List aq)(σ:aw):Option (aq×aw):=
 (exec C n g.body (enter g args σ)).bind (qY g σ)
def sA(env:List aq):List Nat→List aq→List aq
 |p::ps,a::es0=>sA (env.set p a) ps es0
 |_,_=>env
structure Code where
 fns:Nat→li
 prims:Nat→ahG
def lE(l:Nat)(r:Ex×St):Option (aq×aw):=
 match r.2.st[l]? with
 |some (.pend true none)=>
  match r.1 with
  |.nrm=>some (.bool true,r.2.st.set l (.pend false none))
  |e=>some (.bool false,r.2.st.set l (.pend false (some e)))
 |_=>none
def pq(C:ir)(n l:Nat)(b:az)(r:Ex×St):Option (aq×aw):=
 match r.1,r.2.st[l]? with
 |.nrm,some (.pend false none)=>(exec C n b ⟨r.2.env,r.2.st.set l (.pend true none)⟩).bind (lE l)
 |_,_=>none
def dV(P:Code):Nat→ir
 |0=>fun _ _ _=>none
 |n+1=>fun f args σ=>match P.fns f with
  |.none=>none
  |.prim k=>P.prims k (dV P n) args σ
  |.fn g=>pJ (dV P n) n g args σ
  |.nilfn g=>match args with
   |x::rest=>
    if kw σ x then (pJ (dV P n) n g (.emp true::rest) σ).bind fun r=>(pJ (dV P n) n g (.emp false::rest) σ).bind fun q=>if same r.1 q.1&&su r.2 q.2 then some r else none
    else pJ (dV P n) n g args σ
   |[]=>none
  |.round g=>match args with
   |.frs l _::rest=>
    match σ[l]? with
    |some (.pend false none)=>
     if (rest.drop g.nenv).length=g.params.length then
      (exec (dV P n) n g.pre ⟨sA (rest.take g.nenv) g.params (rest.drop g.nenv),σ⟩).bind (pq (dV P n) n l g.body)
     else none
    |_=>none
   |_=>none
end Go.AM
namespace Go.AM
set_option linter.unusedSectionVars false
section lim
variable {α β:Type}
def jv(F:Nat→Option α):Prop:=∀n r,F n=some r→F (n+1)=some r
open Classical in
noncomputable def lim(F:Nat→Option α):Option α:=if h:∃n r,F n=some r then F (Classical.choose h) else none
theorem jv.le{F:Nat→Option α}(h:jv F){n m:Nat}(b:n≤m){r:α}(a:F n=some r):F m=some r:=by
 induction b with
 |refl=>exact a
 |step _ c=>exact h _ _ c
theorem sL{F:Nat→Option α}(h:jv F)(r:α):lim F=some r↔∃n,F n=some r:=by
 unfold lim;constructor
 ·split
  ·exact fun c=>⟨_,c⟩
  intro c;cases c
 rintro⟨n,d⟩;have b:∃n r,F n=some r:=⟨n,r,d⟩;rw[dif_pos b];obtain⟨g,a⟩:=lh b;have f:=h.le (Nat.le_max_left n (Classical.choose b)) d;have e:=h.le (Nat.le_max_right n (Classical.choose b)) a;rw[f]at e;cases e;exact a
theorem Ig{F:Nat→Option α}(h:jv F){n:Nat}{r:α}(a:F n=some r):lim F=some r:=(sL h r).2 ⟨n,a⟩
theorem Cg{a b:Option α}(h:∀r,a=some r↔b=some r):a=b:=by
 cases a with
 |none=>cases b with
  |none=>rfl
  |some y=>exact absurd ((h y).2 rfl) (by simp)
 |some x=>exact ((h x).1 rfl).symm
theorem jv.const(x:Option α):jv fun _=>x:=fun _ _ h=>h
theorem bG(x:Option α):lim (fun _=>x)=x:=Cg fun r=>by rw[sL (jv.const x)];exact⟨fun ⟨_,h⟩=>h,fun h=>⟨0,h⟩⟩
theorem jv.bind{F:Nat→Option α}{G:α→Nat→Option β}(d:jv F)(b:∀x,jv (G x)):jv fun n=>(F n).bind fun x=>G x n:=by
 intro n r h;simp only[aK]at h ⊢;obtain⟨x,a,c⟩:=h;exact⟨x,d _ _ a,b _ _ _ c⟩
theorem lC{F:Nat→Option α}{G:α→Nat→Option β}(b:jv F)(a:∀x,jv (G x)) :
  lim (fun n=>(F n).bind fun x=>G x n)=(lim F).bind fun x=>lim (G x):=by
 refine Cg fun r=>?_;rw[sL (b.bind a)];simp only[aK];constructor
 ·rintro⟨n,x,c,d⟩;exact⟨x,Ig b c,Ig (a x) d⟩
 rintro⟨x,c,d⟩;obtain⟨n,e⟩:=(sL b x).1 c;obtain⟨m,f⟩:=(sL (a x) r).1 d;exact⟨max n m,x,b.le (Nat.le_max_left n m) e,(a x).le (Nat.le_max_right n m) f⟩
theorem jv.map{F:Nat→Option α}(g:α→β)(c:jv F):jv fun n=>(F n).map g:=by
 intro n r h;simp only[aQ]at h ⊢;obtain⟨x,a,b⟩:=h;exact⟨x,c _ _ a,b⟩
theorem Cp{F:Nat→Option α}(g:α→β)(c:jv F):lim (fun n=>(F n).map g)=(lim F).map g:=by
 refine Cg fun r=>?_;rw[sL (c.map g)];simp only[aQ];constructor
 ·rintro⟨n,x,a,b⟩;exact⟨x,Ig c a,b⟩
 rintro⟨x,a,b⟩;obtain⟨n,d⟩:=(sL c x).1 a;exact⟨n,x,d,b⟩
theorem jv.shift{F:Nat→Option α}(a:jv F):jv fun n=>F (n+1):=fun n r h=>a _ _ h
theorem EM{F:Nat→Option α}(a:jv F):lim (fun n=>F (n+1))=lim F:=by
 refine Cg fun r=>?_;rw[sL a.shift,sL a];exact⟨fun ⟨n,h⟩=>⟨n+1,h⟩,fun ⟨n,h⟩=>⟨n,a _ _ h⟩⟩
end lim
def WM(C D:ir):Prop:=∀f args σ r,C f args σ=some r→D f args σ=some r
theorem vx{C D:ir}(h:WM C D){env ls:List aq}{σ:aw}{o:IK}{r:aq×aw}(b:bH C env ls σ o=some r) :
  bH D env ls σ o=some r:=by
 cases o
 case call f args mat=>
  simp only[bH,aQ]at b ⊢;obtain⟨x,a,rfl⟩:=b;exact⟨x,h _ _ _ _ a,rfl⟩
 case callv f args=>
  simp only[bH,aQ]at b ⊢;obtain⟨x,a,rfl⟩:=b;refine⟨x,?_,rfl⟩;unfold IG at a ⊢;split at a
  ·exact h _ _ _ _ a
  ·split at a
   ·rename_i c;rw[if_pos c];exact h _ _ _ _ a
   cases a
  cases a
 all_goals exact b
theorem s8{C D:ir}(h:WM C D){env:List aq}:∀{b:List cr} {ls:List aq} {σ:aw} {r:List aq×aw},
  ml C env b ls σ=some r→ml D env b ls σ=some r
 |[],_,_,_,a=>a
 |i::b,ls,σ,r,a=>by
  simp only[ml]at a ⊢;cases hw:wanted env ls i.guard with
  |none=>rw[hw]at a;cases a
  |some t=>
   rw[hw]at a;cases t with
   |false=>exact s8 h a
   |true=>
    simp only[aK]at a ⊢;obtain⟨q,c,a⟩:=a;exact⟨q,vx h c,s8 h a⟩
theorem wL{C D:ir}(h:WM C D){env:List aq}:∀{b:List cr} {ls:List aq} {ss:List aw} {σ:aw} {r:List aq×List aw×aw},
  uO C env b ls ss σ=some r→uO D env b ls ss σ=some r
 |[],_,_,_,_,a=>a
 |i::b,ls,ss,σ,r,a=>by
  simp only[uO]at a ⊢;cases hw:wanted env ls i.guard with
  |none=>rw[hw]at a;cases a
  |some t=>
   rw[hw]at a;cases t with
   |false=>exact wL h a
   |true=>
    simp only[aK]at a ⊢;obtain⟨q,c,a⟩:=a;exact⟨q,vx h c,wL h a⟩
theorem yA{C D:ir}(h:WM C D){env ls:List aq}{b:List cr}{ss:List aw}:∀{l:List (Nat×Nat)} {r:Unit},rG C env ls b ss l=some r→rG D env ls b ss l=some r
 |[],_,a=>a
 |(n,j)::l,r,a=>by
  simp only[rG]at a ⊢;split at a
  ·rw[aK]at a ⊢;obtain⟨q,d,a⟩:=a;refine⟨q,vx h d,?_⟩;split at a
   ·rename_i c;rw[if_pos c];exact yA h a
   cases a
  cases a
theorem ud{base:Nat}{clr:List Nat}{f g:St→Option (Ex×St)}(h:∀s r,f s=some r→g s=some r) :
  ∀{n m:Nat} {s:St} {r:Ex×St},n≤m→rX base clr f n s=some r→rX base clr g m s=some r
 |0,_,_,_,_,a=>by cases a
 |n+1,0,_,_,c,_=>by omega
 |n+1,m+1,s,r,c,a=>by
  simp only[rX,aK]at a ⊢;obtain⟨⟨e,q⟩,b,a⟩:=a;refine⟨(e,q),h _ _ b,?_⟩;cases e with
  |nrm=>exact ud h (by omega) a
  |ext _=>exact a
  |ret=>exact a
theorem im{C D:ir}(h:WM C D){n m:Nat}(j:n≤m):∀{c:az} {s:St} {r:Ex×St},exec C n c s=some r→exec D m c s=some r
 |.skip,_,_,d=>d
 |.exit _,_,_,d=>d
 |.ret,_,_,d=>d
 |.reg l os,s,r,d=>by
  simp only[exec,aQ]at d ⊢;obtain⟨x,g,rfl⟩:=d;exact⟨x,s8 h g,rfl⟩
 |.seq a b,s,r,d=>by
  simp only[exec,aK]at d ⊢;obtain⟨⟨e,q⟩,g,d⟩:=d;refine⟨(e,q),im h j g,?_⟩;cases e with
  |nrm=>exact im h j d
  |ext _=>exact d
  |ret=>exact d
 |.regd l os v,s,r,d=>by
  simp only[exec]at d ⊢;rw[aK]at d ⊢;obtain⟨x,g,d⟩:=d;refine⟨x,wL h g,?_⟩;rw[aQ]at d ⊢;obtain⟨y,p,d⟩:=d;exact⟨y,yA h p,d⟩
 |.cond c a b,s,r,d=>by
  simp only[exec]at d ⊢;split at d
  ·exact im h j d
  ·exact im h j d
  cases d
 |.blk id b,s,r,d=>by
  simp only[exec,aQ]at d ⊢;obtain⟨x,g,rfl⟩:=d;exact⟨x,im h j g,rfl⟩
 |.loop clr b,s,r,d=>by
  simp only[exec]at d ⊢;exact ud (fun s r t=>im h j t) j d
 |.scope b,s,r,d=>by
  simp only[exec]at d ⊢;exact im h j d
 |.lift i off k b,s,r,d=>by
  simp only[exec]at d ⊢;rw[aK]at d ⊢;obtain⟨x,g,d⟩:=d;exact⟨x,g,im h j d⟩
 |.rng k f o,s,r,d=>by
  simp only[exec]at d ⊢;split at d
  ·rename_i u;rw[if_pos u];rw[aK]at d ⊢;obtain⟨x,g,d⟩:=d;refine⟨x,?_,d⟩;unfold Hh at g ⊢;split at g<;>first|exact h _ _ _ _ g|cases g
  cases d
theorem mg{C D:ir}(h:WM C D){n m:Nat}(c:n≤m){g:br}{args:List aq}{σ:aw}{r:aq×aw}(a:pJ C n g args σ=some r):pJ D m g args σ=some r:=by
 unfold pJ at a ⊢;rw[aK]at a ⊢;obtain⟨x,b,a⟩:=a;exact⟨x,im h c b,a⟩
theorem wT{C D:ir}(h:WM C D){n m:Nat}(d:n≤m){l:Nat}{b:az}{q:Ex×St}{r:aq×aw}(a:pq C n l b q=some r):pq D m l b q=some r:=by
 unfold pq at a ⊢;split at a
 ·rename_i e f;rw[aK]at a ⊢;obtain⟨x,c,a⟩:=a;exact⟨x,im h d c,a⟩
 cases a
def Code.Good(P:Code):Prop:=∀k C D args σ r,WM C D→P.prims k C args σ=some r→P.prims k D args σ=some r
theorem gF{P:Code}(hP:P.Good):∀n,WM (dV P n) (dV P (n+1))
 |0=>fun _ _ _ _ h=>by cases h
 |n+1=>fun f args σ r h=>by
  have a:=gF hP n;simp only[dV]at h ⊢;split at h
  ·cases h
  ·exact hP _ _ _ _ _ _ a h
  ·exact mg a (eL n) h
  ·split at h
   ·split at h
    ·rename_i c;rw[if_pos c];rw[aK]at h ⊢;obtain⟨x,d,b⟩:=h;refine⟨x,mg a (eL n) d,?_⟩;rw[aK]at b ⊢;obtain⟨y,e,b⟩:=b;exact⟨y,mg a (eL n) e,b⟩
    rename_i c;rw[if_neg c];exact mg a (eL n) h
   cases h
  split at h
  ·split at h
   ·split at h
    ·rename_i g;rw[if_pos g];rw[aK]at h ⊢;obtain⟨x,d,b⟩:=h;exact⟨x,im a (eL n) d,wT a (eL n) b⟩
    cases h
   cases h
  cases h
theorem mf{P:Code}(hP:P.Good)(f:Nat)(args:List aq)(σ:aw):jv fun n=>dV P n f args σ:=
 fun n r h=>gF hP n f args σ r h
noncomputable def cC(P:Code)(f:Nat)(args:List aq)(σ:aw):Option (aq×aw):=lim fun n=>dV P n f args σ
noncomputable def run(P:Code)(c:az)(s:St):Option (Ex×St):=lim fun n=>exec (dV P n) n c s
noncomputable def o9(P:Code)(env:List aq)(is:List cr)(ls:List aq)(σ:aw):Option (List aq×aw):=
 lim fun n=>ml (dV P n) env is ls σ
noncomputable def step(P:Code)(env ls:List aq)(σ:aw)(o:IK):Option (aq×aw):=lim fun n=>bH (dV P n) env ls σ o
section eqs
variable {P:Code} (hP:P.Good)
include hP
theorem oI(c:az)(s:St):jv fun n=>exec (dV P n) n c s:=fun n _ h=>im (gF hP n) (eL n) h
theorem OC(env:List aq)(a:List cr)(ls:List aq)(σ:aw):jv fun n=>ml (dV P n) env a ls σ:=
 fun n _ h=>s8 (gF hP n) h
theorem DC(env ls:List aq)(σ:aw)(o:IK):jv fun n=>bH (dV P n) env ls σ o:=fun n _ h=>vx (gF hP n) h
theorem Re(env ls:List aq)(σ:aw):o9 P env [] ls σ=some (ls,σ):=bG _
theorem FQ(env:List aq)(i:cr)(a:List cr)(ls:List aq)(σ:aw) :
  o9 P env (i::a) ls σ=match wanted env ls i.guard with
   |some true=>(step P env ls σ i.op).bind fun q=>o9 P env a (ls++[q.1]) q.2
   |some false=>o9 P env a (ls++[.tup []]) σ
   |none=>none:=by
 unfold o9;simp only[ml];cases wanted env ls i.guard with
 |none=>exact bG _
 |some t=>cases t with
  |false=>rfl
  |true=>exact lC (G:=fun q n=>ml (dV P n) env a (ls++[q.1]) q.2) (DC hP _ _ _ _) fun x=>OC hP _ _ _ _
theorem VA(env ls:List aq)(σ:aw)(f:Nat)(args:List db)(a:Bool) :
  step P env ls σ (.call f args a)=(cC P f (args.map (·.eval env ls)) σ).map (mater a):=by
 unfold step cC;simp only[bH];exact Cp _ (mf hP _ _ _)
noncomputable def jp(P:Code)(f:aq)(args:List aq)(σ:aw):Option (aq×aw):=
 match f with
 |.fn f first cap=>cC P f (first++args++cap) σ
 |.yld l site env=>if pD σ l then cC P site (.frs l []::env++args) σ else none
 |_=>none
theorem VM(f:aq)(args:List aq)(σ:aw):lim (fun n=>IG (dV P n) f args σ)=jp P f args σ:=by
 cases f
 case yld l site env=>
  simp only[IG,jp];cases pD σ l
  ·exact bG _
  rfl
 all_goals first|rfl|exact bG _
theorem QO(f:aq)(args:List aq)(σ:aw):jv fun n=>IG (dV P n) f args σ:=by
 intro n r h;unfold IG at h ⊢;split at h
 ·exact gF hP n _ _ _ _ h
 ·split at h
  ·rename_i a;dsimp only;rw[if_pos a];exact gF hP n _ _ _ _ h
  cases h
 cases h
noncomputable def MA(P:Code)(f:aq)(args:List aq)(σ:aw):Option (aq×aw):=
 match f with
 |.fn f first cap=>cC P f (first++args++cap) σ
 |_=>none
theorem WT(f:aq)(args:List aq)(σ:aw):lim (fun n=>Hh (dV P n) f args σ)=MA P f args σ:=by
 cases f<;>first|rfl|exact bG _
theorem P6(f:aq)(args:List aq)(σ:aw):jv fun n=>Hh (dV P n) f args σ:=by
 intro n r h;unfold Hh at h ⊢;split at h
 ·exact gF hP n _ _ _ _ h
 cases h
theorem QY(env ls:List aq)(σ:aw)(f:db)(args:List db) :
  step P env ls σ (.callv f args)=(jp P (f.eval env ls) (args.map (·.eval env ls)) σ).map (mater false):=by
 unfold step;simp only[bH];rw[Cp _ (QO hP _ _ _),VM hP]
theorem Xn(s:St):run P .skip s=some (.nrm,s):=bG _
theorem abi(id:Nat)(s:St):run P (.exit id) s=some (.ext id,s):=bG _
theorem acL(s:St):run P .ret s=some (.ret,s):=bG _
theorem aer(a:List cr)(os:List (Nat×db))(s:St) :
  run P (.reg a os) s=(o9 P s.env a [] s.st).map fun r=>(.nrm,⟨sT s.env s.env r.1 os,r.2⟩):=by
 unfold run o9;simp only[exec];exact Cp _ (OC hP _ _ _ _)
noncomputable def BV(P:Code)(env:List aq)(is:List cr)(ls:List aq)(ss:List aw)(σ:aw):Option (List aq×List aw×aw):=
 lim fun n=>uO (dV P n) env is ls ss σ
theorem Xe(env:List aq)(a:List cr)(ls:List aq)(ss:List aw)(σ:aw):jv fun n=>uO (dV P n) env a ls ss σ:=
 fun n _ h=>wL (gF hP n) h
theorem ZY(env ls:List aq)(ss:List aw)(σ:aw):BV P env [] ls ss σ=some (ls,ss,σ):=bG _
theorem KD(env:List aq)(i:cr)(a:List cr)(ls:List aq)(ss:List aw)(σ:aw) :
  BV P env (i::a) ls ss σ=match wanted env ls i.guard with
   |some true=>(step P env ls σ i.op).bind fun q=>BV P env a (ls++[q.1]) (ss++[σ]) q.2
   |some false=>BV P env a (ls++[.tup []]) (ss++[σ]) σ
   |none=>none:=by
 unfold BV;simp only[uO];cases wanted env ls i.guard with
 |none=>exact bG _
 |some t=>cases t with
  |false=>rfl
  |true=>exact lC (G:=fun q n=>uO (dV P n) env a (ls++[q.1]) (ss++[σ]) q.2) (DC hP _ _ _ _) fun x=>Xe hP _ _ _ _ _
noncomputable def sP(P:Code)(env ls:List aq)(ops:List cr)(ss:List aw)(l:List (Nat×Nat)):Option Unit:=lim fun n=>rG (dV P n) env ls ops ss l
theorem HH(env ls:List aq)(a:List cr)(ss:List aw)(l:List (Nat×Nat)):jv fun n=>rG (dV P n) env ls a ss l:=fun n _ h=>yA (gF hP n) h
theorem Se(env ls:List aq)(a:List cr)(ss:List aw):sP P env ls a ss []=some ():=bG _
theorem N5(env ls:List aq)(a:List cr)(ss:List aw)(n j:Nat)(l:List (Nat×Nat)) :
  sP P env ls a ss ((n,j)::l)=match a[n]?,ss[j]? with
   |some i,some τ=>(step P env (ls.take n) τ i.op).bind fun q=>if same q.1 (pC ls n)&&su q.2 τ then sP P env ls a ss l else none
   |_,_=>none:=by
 unfold sP;simp only[rG];cases a[n]? with
 |none=>exact bG _
 |some i=>cases ss[j]? with
  |none=>exact bG _
  |some τ=>
   dsimp only;rw[lC (G:=fun q k=>if same q.1 (pC ls n)&&su q.2 τ then rG (dV P k) env ls a ss l else none) (DC hP _ _ _ _) fun q=>?_]
   ·unfold step;congr 1;funext q;split
    ·rfl
    exact bG _
   split
   ·exact HH hP _ _ _ _ _
   exact jv.const _
theorem abn(b:List cr)(os:List (Nat×db))(a:List (Nat×Nat))(s:St) :
  run P (.regd b os a) s=(BV P s.env b [] [] s.st).bind fun r=>(sP P s.env r.1 b (r.2.1++[r.2.2]) a).map fun _=>(.nrm,⟨sT s.env s.env r.1 os,r.2.2⟩):=by
 unfold run BV sP;simp only[exec];rw[lC (G:=fun r n=>(rG (dV P n) s.env r.1 b (r.2.1++[r.2.2]) a).map fun _=>(Ex.nrm,(⟨sT s.env s.env r.1 os,r.2.2⟩:St))) (Xe hP _ _ _ _ _) fun r=>jv.map _ (HH hP _ _ _ _ _)];congr 1;funext r;exact Cp _ (HH hP _ _ _ _ _)
theorem adg(a b:az)(s:St) :
  run P (.seq a b) s=(run P a s).bind fun r=>match r.1 with
   |.nrm=>run P b r.2
   |e=>some (e,r.2):=by
 unfold run;simp only[exec];rw[lC (oI hP a s) (fun r=>?_)]
 ·congr 1;funext r;cases r.1 with
  |nrm=>rfl
  |ext id=>exact bG _
  |ret=>exact bG _
 cases r.1 with
 |nrm=>exact oI hP _ _
 |ext id=>exact jv.const _
 |ret=>exact jv.const _
theorem Yz(c:db)(a b:az)(s:St) :
  run P (.cond c a b) s=match c.eval s.env [] with
   |.bool true=>run P a s
   |.bool false=>run P b s
   |_=>none:=by
 unfold run;simp only[exec];generalize c.eval s.env []=v;cases v with
 |bool b=>cases b<;>rfl
 |_=>exact bG _
theorem ac1(id:Nat)(b:az)(s:St) :
  run P (.blk id b) s=(run P b s).map fun r=>match r.1 with
   |.ext j=>if j=id then (.nrm,r.2) else r
   |_=>r:=by
 unfold run;simp only[exec];exact Cp _ (oI hP _ _)
theorem WY(b:az)(s:St):run P (.scope b) s=run P b s:=by
 unfold run;simp only[exec]
theorem YD(i off k:Nat)(b:az)(s:St):run P (.lift i off k b) s=(Ia (pC s.env i) off k s.st).bind fun σ=>run P b ⟨s.env,σ⟩:=by
 unfold run;simp only[exec];cases Ia (pC s.env i) off k s.st with
 |none=>exact bG _
 |some σ=>rfl
theorem acn(k:Nat)(f:db)(a:Nat)(s:St) :
  run P (.rng k f a) s=if s.env.length=k then (MA P (f.eval s.env []) [.yld s.st.length a s.env] (s.st++[.pend false none])).bind fun r=>sJ s.st.length s.env r.2 else none:=by
 unfold run;simp only[exec];split
 ·rw[lC (P6 hP _ _ _) (fun r=>jv.const _),WT hP];congr 1;funext r;exact bG _
 exact bG _
noncomputable def bU(P:Code)(base:Nat)(clr:List Nat)(b:az)(s:St):Option (Ex×St):=
 lim fun n=>rX base clr (exec (dV P n) n b) n s
theorem yY(base:Nat)(clr:List Nat)(b:az)(s:St):jv fun n=>rX base clr (exec (dV P n) n b) n s:=
 fun n _ h=>ud (fun _ _ a=>im (gF hP n) (eL n) a) (eL n) h
theorem ZE(clr:List Nat)(b:az)(s:St):run P (.loop clr b) s=bU P s.st.length clr b ⟨clear s.env clr,s.st⟩:=by
 unfold run bU;simp only[exec]
theorem ru(base:Nat)(clr:List Nat)(b:az)(s:St) :
  bU P base clr b s=(run P b s).bind fun r=>match r.1 with
   |.nrm=>bU P base clr b (bQ base clr r.2)
   |e=>some (e,r.2):=by
 have f:bU P base clr b s=lim fun n=>(exec (dV P n) n b s).bind fun r=>match r.1 with
   |.nrm=>rX base clr (exec (dV P n) n b) n (bQ base clr r.2)
   |e=>some (e,r.2):=by
  refine Cg fun q=>?_;have g:jv fun n=>(exec (dV P n) n b s).bind fun r=>match r.1 with
   |.nrm=>rX base clr (exec (dV P n) n b) n (bQ base clr r.2)
   |e=>some (e,r.2):=by
   refine jv.bind (G:=fun r n=>match r.1 with
    |.nrm=>rX base clr (exec (dV P n) n b) n (bQ base clr r.2)
    |e=>some (e,r.2)) (oI hP b s) fun r=>?_
   cases r.1 with
   |nrm=>exact yY hP _ _ _ _
   |ext id=>exact jv.const _
   |ret=>exact jv.const _
  rw[bU,sL (yY hP base clr b s),sL g];constructor
  ·rintro⟨n,c⟩;cases n with
   |zero=>cases c
   |succ n=>
    refine⟨n+1,?_⟩;rw[rX,aK]at c;obtain⟨⟨e,q⟩,d,a⟩:=c;rw[aK];refine⟨(e,q),d,?_⟩;cases e with
    |nrm=>exact ud (fun _ _ h=>h) (eL n) a
    |ext _=>exact a
    |ret=>exact a
  rintro⟨n,c⟩;refine⟨n+1,?_⟩;rw[aK]at c;obtain⟨⟨e,q⟩,d,a⟩:=c;rw[rX,aK];refine⟨(e,q),im (gF hP n) (eL n) d,?_⟩;cases e with
  |nrm=>exact ud (fun _ _ h=>im (gF hP n) (eL n) h) (aF n) a
  |ext _=>exact a
  |ret=>exact a
 rw[f];rw[lC (G:=fun r n=>match r.1 with
   |.nrm=>rX base clr (exec (dV P n) n b) n (bQ base clr r.2)
   |e=>some (e,r.2)) (oI hP b s) (fun r=>?_)]
 ·unfold run;congr 1;funext r;cases r.1 with
  |nrm=>rfl
  |ext id=>exact bG _
  |ret=>exact bG _
 cases r.1 with
 |nrm=>exact yY hP _ _ _ _
 |ext id=>exact jv.const _
 |ret=>exact jv.const _
theorem yV{f:Nat}{g:br}(h:P.fns f=.fn g)(args:List aq)(σ:aw) :
  cC P f args σ=(run P g.body (enter g args σ)).bind (qY g σ):=by
 unfold cC;rw[←EM (mf hP _ _ _)];simp only[dV,h,pJ];rw[lC (oI hP _ _) (fun _=>jv.const _)];unfold run;congr 1;funext r;exact bG _
theorem R8(g:br)(args:List aq)(σ:aw):jv fun n=>pJ (dV P n) n g args σ:=fun n _ h=>mg (gF hP n) (eL n) h
noncomputable def mz(P:Code)(g:br)(args:List aq)(σ:aw):Option (aq×aw):=(run P g.body (enter g args σ)).bind (qY g σ)
theorem Ef(g:br)(args:List aq)(σ:aw):lim (fun n=>pJ (dV P n) n g args σ)=mz P g args σ:=by
 unfold pJ mz;rw[lC (oI hP _ _) (fun _=>jv.const _)];unfold run;congr 1;funext r;exact bG _
theorem kQ{f:Nat}{g:br}(h:P.fns f=.nilfn g)(x:aq)(a:List aq)(σ:aw) :
  cC P f (x::a) σ=if kw σ x then (mz P g (.emp true::a) σ).bind fun r=>(mz P g (.emp false::a) σ).bind fun q=>if same r.1 q.1&&su r.2 q.2 then some r else none
   else mz P g (x::a) σ:=by
 unfold cC;rw[←EM (mf hP _ _ _)];simp only[dV,h];generalize kw σ x=v;cases v with
 |false=>exact Ef hP _ _ _
 |true=>
   simp only[cw];rw[lC (G:=fun r n=>(pJ (dV P n) n g (.emp false::a) σ).bind fun q=>if same r.1 q.1&&su r.2 q.2 then some r else none) (R8 hP _ _ _) (fun r=>jv.bind (R8 hP _ _ _) fun q=>jv.const _),Ef hP];congr 1;funext r;rw[lC (R8 hP _ _ _) (fun q=>jv.const _),Ef hP];congr 1;funext q;exact bG _
noncomputable def sg(P:Code)(l:Nat)(b:az)(r:Ex×St):Option (aq×aw):=
 match r.1,r.2.st[l]? with
 |.nrm,some (.pend false none)=>(run P b ⟨r.2.env,r.2.st.set l (.pend true none)⟩).bind (lE l)
 |_,_=>none
theorem RP(l:Nat)(b:az)(r:Ex×St):jv fun n=>pq (dV P n) n l b r:=fun n _ h=>wT (gF hP n) (eL n) h
theorem WW(l:Nat)(b:az)(r:Ex×St):lim (fun n=>pq (dV P n) n l b r)=sg P l b r:=by
 unfold pq sg;obtain⟨e,env,σ⟩:=r;cases e with
 |ext _=>exact bG _
 |ret=>exact bG _
 |nrm=>
  dsimp only;generalize σ[l]?=v;have key:lim (fun n=>(exec (dV P n) n b ⟨env,σ.set l (.pend true none)⟩).bind (lE l))=(run P b ⟨env,σ.set l (.pend true none)⟩).bind (lE l):=by
   rw[lC (oI hP _ _) (fun _=>jv.const _)];unfold run;congr 1;funext q;exact bG _
  cases v with
  |none=>exact bG _
  |some o=>cases o with
   |pend b j=>cases b with
    |true=>exact bG _
    |false=>cases j with
     |none=>exact key
     |some _=>exact bG _
   |_=>exact bG _
theorem Fa{f:Nat}{g:yO}(h:P.fns f=.round g)(l:Nat)(e a:List aq)(σ:aw) :
  cC P f (.frs l e::a) σ=match σ[l]? with
   |some (.pend false none)=>if (a.drop g.nenv).length=g.params.length then
     (run P g.pre ⟨sA (a.take g.nenv) g.params (a.drop g.nenv),σ⟩).bind (sg P l g.body)
    else none
   |_=>none:=by
 unfold cC;rw[←EM (mf hP _ _ _)];simp only[dV,h];generalize σ[l]?=v;have key:∀s':St,lim (fun n=>(exec (dV P n) n g.pre s').bind (pq (dV P n) n l g.body))=(run P g.pre s').bind (sg P l g.body):=fun s'=>by
  rw[lC (G:=fun r n=>pq (dV P n) n l g.body r) (oI hP _ _) (fun r=>RP hP _ _ _)];unfold run;congr 1;funext r;exact WW hP _ _ _
 cases v with
 |none=>exact bG _
 |some o=>cases o with
  |pend b j=>cases b with
   |true=>exact bG _
   |false=>cases j with
    |none=>
     dsimp only;split
     ·exact key _
     exact bG _
    |some e=>exact bG _
  |_=>exact bG _
theorem xe{f k n:Nat}(h:P.fns f=.prim k){args:List aq}{σ:aw}{r:aq×aw}(a:P.prims k (dV P n) args σ=some r) :
  cC P f args σ=some r:=by
 refine Ig (mf hP _ _ _) (n:=n+1) ?_;simp only[dV,h];exact a
end eqs
end Go.AM
namespace Go.AM
inductive Hd where
 |arr (k ep:Nat)
 |map
 |pend
 |it
 |dead
 deriving DecidableEq
def hd(σ:aw)(id:Nat):Hd:=match σ[id]? with
 |some (.arr k ep _)=>.arr k ep
 |some (.map _)=>.map
 |some (.pend _ _)=>.pend
 |some (.it _ _)=>.it
 |some (.mit _ _ _)=>.it
 |some .dead=>.dead
 |none=>.dead
structure mi where
 fn:FuncId
 tmps:Array Value
 params:Array Tmp
 assign:Go.Code
 body:Go.Code
 defers:Nat
structure dk where
 sld:Nat→Prop
 bor:Nat→Prop
 H:Nat→Hd
 N:Nat
 place:Nat→Option Nat
 room:Nat→Nat
 loops:Nat→mi
def dk.still(c:dk)(b:Bool):dk:={ c with bor:=if b then c.bor else c.sld,H:=fun _=>.dead,N:=0 }
abbrev ahm:=Nat→mi→List Nat→Prop
structure dm where
 fm:Nat→FuncId
 site:ahm
 glob:Nat→Option aq
 tabs:World→(Nat→Prop)→Prop
 tabs_ext:∀w w' (s s':Nat→Prop),tabs w s→(∀b,s b→s' b)→(∀b,s b→w'.heap[b]?=w.heap[b]?)→tabs w' s'
variable (M:dm) (w:World)
inductive R:dk→aq→Value→Prop
 |any {c v}:R c .any v
 |emp {c b cap} {a:Option Addr}:a.isNone=b→R c (.emp b) (.slice a 0 cap)
 |int {c k n}:R c (.int k n) (.int k n)
 |bool {c b}:R c (.bool b) (.bool b)
 |str {c s} {t:ByteArray}:t.data.toList=s→R c (.str s) (.string t)
 |nilp {c}:R c .nilp (.pointer none)
 |nilf {c}:R c .nilf .nilFunc
 |nilm {c}:R c .nilm (.map none)
 |agg {c cs} {vs:Array Value} (f:Nat→Value):vs.size=cs.length→(∀i (h:i<cs.length),vs[i]?=some (f i)∧(f i).oneCell'=true) →
   (∀i (h:i<cs.length),aM cs[i]≤1∧isAgg cs[i]=false)→(∀i (h:i<cs.length),R c cs[i] (f i))→R c (.agg cs) (.agg vs)
 |tup {c cs} {vs:Array Value} (f:Nat→Value):vs.size=cs.length→(∀i (h:i<cs.length),vs[i]?=some (f i)) →
   (∀i (h:i<cs.length),R c cs[i] (f i))→R c (.tup cs) (.tuple vs)
 |aa {c b xs cap} {a:Addr} (K:Nat) (f:Nat→Nat→Value):(if b then c.bor a.block else c.sld a.block)→a.spot=none→xs.length≤cap→K≠0 →
   (∀x∈xs,aM x=K)→(∀i j,i<xs.length→j<K→w.cell? ⟨a.block,a.off+i*K+j,none⟩=some (f i j)∧(f i j).oneCell'=true) →
   (∀i (hi:i<xs.length) j (hj:j<(cellsOf xs[i]).length),R (c.still b) (cellsOf xs[i])[j] (f i j))→R c (.aa b xs) (.slice (some a) xs.length cap)
 |imm0 {c b cap} {a:Option Addr}:R c (.aa b []) (.slice a 0 cap)
 |lst {c xs cap} {a:Addr} (K:Nat) (f:Nat→Nat→Value):c.sld a.block→a.spot=none→xs.length≤cap→K≠0 →
   (∀x∈xs,aM x=K)→(∀i j,i<xs.length→j<K→w.cell? ⟨a.block,a.off+i*K+j,none⟩=some (f i j)∧(f i j).oneCell'=true) →
   (∀i (hi:i<xs.length) j (hj:j<(cellsOf xs[i]).length),R c (cellsOf xs[i])[j] (f i j))→R c (.lst xs) (.slice (some a) xs.length cap)
 |lst0 {c cap} {a:Option Addr}:R c (.lst []) (.slice a 0 cap)
 |ai {c} {a:Option Addr}:R c .ai (.slice a 0 0)
 |sl {c id ep off len cap k blk}:id<c.N→c.H id=.arr k ep→c.place id=some blk→len≤cap→(off+cap)*k≤c.room id →
   R c (.sl id ep off len) (.slice (some ⟨blk,off*k,none⟩) len cap)
 |sl0 {c id ep off k} {a:Option Addr}:id<c.N→c.H id=.arr k ep→R c (.sl id ep off 0) (.slice a 0 0)
 |slOld {c id ep off len v}:v.oneCell'=true→id<c.N→(∀k e,c.H id=.arr k e→ep<e)→(c.H id≠.map)→(c.H id≠.pend)→R c (.sl id ep off len) v
 |ptr {c id ep i off k blk}:id<c.N→c.H id=.arr k ep→c.place id=some blk→R c (.ptr id ep i off) (.pointer (some ⟨blk,i*k+off,none⟩))
 |ptrOld {c id ep i off v}:v.oneCell'=true→id<c.N→(∀k e,c.H id=.arr k e→ep<e)→(c.H id≠.map)→(c.H id≠.pend)→R c (.ptr id ep i off) v
 |asl {c id ep i off n k blk}:id<c.N→c.H id=.arr k ep→c.place id=some blk→R c (.asl id ep i off n) (.slice (some ⟨blk,i*k+off,none⟩) n n)
 |aslOld {c id ep i off n v}:id<c.N→(∀k e,c.H id=.arr k e→ep<e)→(c.H id≠.map)→(c.H id≠.pend)→R c (.asl id ep i off n) v
 |cptr {c b x off} {o blk:Nat} (f:Nat→Value):(if b then c.bor blk else c.sld blk)→aM x≠0 →
   (∀j,j<aM x→w.cell? ⟨blk,o+j,none⟩=some (f j)∧(f j).oneCell'=true) →
   (∀j (hj:j<(cellsOf x).length),R (if b then c else c.still false) (cellsOf x)[j] (f j))→R c (.cptr b x off) (.pointer (some ⟨blk,o+off,none⟩))
 |fn {c n first cap} {fs cs:Array Value} (f g:Nat→Value):fs.size=first.length→cs.size=cap.length→(∀i (h:i<first.length),fs[i]?=some (f i))→(∀i (h:i<cap.length),cs[i]?=some (g i)) →
   (∀i (h:i<first.length),R c first[i] (f i))→(∀i (h:i<cap.length),R c cap[i] (g i))→R c (.fn n first cap) (.func (.func (M.fm n)) fs cs)
 |imap {c b es} {r clock:Nat} {en:Array MapEntry} (f g:Nat→Value):(if b then c.bor r else c.sld r)→w.heap[r]?=some (.map en clock)→en.size=es.length →
   (∀i (h:i<es.length),∃e,en[i]?=some e∧e.key=f i∧e.val=g i∧ma (es[i]).1=true∧e.born<clock)→(∀i (h:i<es.length),R (c.still b) (es[i]).1 (f i))→(∀i (h:i<es.length),R (c.still b) (es[i]).2 (g i)) →
   R c (.imap b es) (.map (some r))
 |mp {c id blk}:id<c.N→c.H id=.map→c.place id=some blk→R c (.mp id) (.map (some blk))
 |mpOld {c id v}:v.oneCell'=true→id<c.N→c.H id=.dead→R c (.mp id) v
 |yld {c l site env em blk} (f:Nat→Value):l<c.N→c.H l=.pend→c.place l=some blk→M.site site (c.loops l) em→em.length=env.length →
   (∀i (h:i<em.length) (hx:i<env.length),(c.loops l).tmps[em[i]]?=some (f i))→(∀i (hx:i<env.length),R c env[i] (f i))→R c (.yld l site env) (.func (.yield blk) #[] #[])
 |yldOld {c l site env v}:v.oneCell'=true→l<c.N→c.H l=.dead→R c (.yld l site env) v
 |it {c id blk}:id<c.N→c.H id=.it→c.place id=some blk→R c (.it id) (.pointer (some ⟨blk,0,none⟩))
 |itOld {c id v}:v.oneCell'=true→id<c.N→c.H id=.dead→R c (.it id) v
def Hd.le:Hd→Hd→Prop
 |a,b=>a=b∨b=.dead∨(∃k e e',a=.arr k e∧b=.arr k e'∧e<e')
structure Ext (c:dk) (w:World) (c':dk) (w':World):Prop where
 sld:∀b,c.sld b→c'.sld b
 bor:∀b,c.bor b→c'.bor b
 rest:∀b,c.bor b∨c.sld b→w'.heap[b]?=w.heap[b]?
 N:c.N≤c'.N
 head:∀id,id<c.N→(c.H id).le (c'.H id)
 place:∀id,id<c.N→c.H id=c'.H id→c.H id≠.dead→c'.place id=c.place id∧c'.room id=c.room id∧c'.loops id=c.loops id
variable {M w}
theorem Ext.refl(c:dk)(w:World):Ext c w c w:=
 ⟨fun _ h=>h,fun _ h=>h,fun _ _=>rfl,aF _,fun _ _=>.inl rfl,fun _ _ _ _=>⟨rfl,rfl,rfl⟩⟩
theorem Hd.le_refl(a:Hd):a.le a:=.inl rfl
theorem Hd.le_dead{b:Hd}(h:Hd.le .dead b):b=.dead:=by
 rcases h with h|h|⟨k,e,a,h,_⟩
 ·exact h.symm
 ·exact h
 cases h
theorem Ext.still{c c':dk}{w w':World}(h:Ext c w c' w')(b:Bool):Ext (c.still b) w (c'.still b) w' where
 sld:=h.sld
 bor:=by
  intro x a;cases b
  ·exact h.sld x a
  exact h.bor x a
 rest:=by
  intro x a;cases b
  ·exact h.rest x (.inr (a.elim id id))
  exact h.rest x a
 N:=aF _
 head:=fun id hid=>absurd hid (cZ _)
 place:=fun id hid=>absurd hid (cZ _)
theorem qR{w w':World}{b:Nat}(h:w'.heap[b]?=w.heap[b]?)(off:Nat):w'.cell? ⟨b,off,none⟩=w.cell? ⟨b,off,none⟩:=by
 simp only[World.cell?,h]
theorem R.ext{c c':dk}{w':World}{v:aq}{x:Value}(h:R M w c v x)(t:Ext c w c' w'):R M w' c' v x:=by
 induction h generalizing c' with
 |any=>exact .any
 |emp h=>exact .emp h
 |int=>exact .int
 |bool=>exact .bool
 |str h=>exact .str h
 |nilp=>exact .nilp
 |nilf=>exact .nilf
 |nilm=>exact .nilm
 |agg f p u z _ G=>exact .agg f p u z fun i hi=>G i hi t
 |tup f p u _ G=>exact .tup f p u fun i hi=>G i hi t
 |@aa c b xs cap a K f p u z A P S _ G=>
  have N:w'.heap[a.block]?=w.heap[a.block]?:=t.rest _ (by cases b<;>simp at p<;>simp[p]);refine .aa K f ?_ u z A P (fun i j hi F=>by rw[qR N];exact S i j hi F) fun i hi j F=>G i hi j F (t.still b);cases b
  ·exact t.sld _ p
  exact t.bor _ p
 |imm0=>exact .imm0
 |@lst c xs cap a K f p u z A P S _ G=>
  have N:w'.heap[a.block]?=w.heap[a.block]?:=t.rest _ (.inr p);exact .lst K f (t.sld _ p) u z A P (fun i j hi F=>by rw[qR N];exact S i j hi F) fun i hi j F=>G i hi j F t
 |lst0=>exact .lst0
 |ai=>exact .ai
 |@sl c id ep off len cap k blk p u z A P=>
  have d:=t.head id p;have q:=bu p t.N;by_cases E:c.H id=c'.H id
  ·obtain⟨H,Q,_⟩:=t.place id p E (by rw[u];simp);exact .sl q (E▸u) (H▸z) A (Q▸P)
  rw[u]at d E;rcases d with d|d|⟨D,e,C,s,m,y⟩
  ·exact absurd d E
  ·exact .slOld rfl q (by rw[d];simp) (by rw[d];simp) (by rw[d];simp)
  cases s;exact .slOld rfl q (by rw[m];rintro k e ⟨⟩;exact y) (by rw[m];simp) (by rw[m];simp)
 |@sl0 c id ep off k a p u=>
  have d:=t.head id p;have q:=bu p t.N;rw[u]at d;rcases d with d|d|⟨D,e,C,s,m,y⟩
  ·exact .sl0 q d.symm
  ·exact .slOld rfl q (by rw[d];simp) (by rw[d];simp) (by rw[d];simp)
  cases s;exact .slOld rfl q (by rw[m];rintro k e ⟨⟩;exact y) (by rw[m];simp) (by rw[m];simp)
 |@slOld c id ep off len v I p u z A=>
  have d:=t.head id p;have q:=bu p t.N;refine .slOld I q ?_ ?_ ?_
  ·intro k e B;rcases d with d|d|⟨D,J,C,s,m,y⟩
   ·exact u k e (d▸B)
   ·rw[d]at B;cases B
   rw[m]at B;cases B;exact mP (u _ _ s) y
  ·rcases d with d|d|⟨D,J,C,s,m,y⟩
   ·rw[←d];exact z
   ·rw[d];simp
   rw[m];simp
  rcases d with d|d|⟨D,J,C,s,m,y⟩
  ·rw[←d];exact A
  ·rw[d];simp
  rw[m];simp
 |@ptr c id ep i off k blk p u z=>
  have d:=t.head id p;have q:=bu p t.N;by_cases E:c.H id=c'.H id
  ·obtain⟨H,Q,_⟩:=t.place id p E (by rw[u];simp);exact .ptr q (E▸u) (H▸z)
  rw[u]at d E;rcases d with d|d|⟨D,e,C,s,m,y⟩
  ·exact absurd d E
  ·exact .ptrOld rfl q (by rw[d];simp) (by rw[d];simp) (by rw[d];simp)
  cases s;exact .ptrOld rfl q (by rw[m];rintro k e ⟨⟩;exact y) (by rw[m];simp) (by rw[m];simp)
 |@ptrOld c id ep i off v I p u z A=>
  have d:=t.head id p;have q:=bu p t.N;refine .ptrOld I q ?_ ?_ ?_
  ·intro k e B;rcases d with d|d|⟨D,J,C,s,m,y⟩
   ·exact u k e (d▸B)
   ·rw[d]at B;cases B
   rw[m]at B;cases B;exact mP (u _ _ s) y
  ·rcases d with d|d|⟨D,J,C,s,m,y⟩
   ·rw[←d];exact z
   ·rw[d];simp
   rw[m];simp
  rcases d with d|d|⟨D,J,C,s,m,y⟩
  ·rw[←d];exact A
  ·rw[d];simp
  rw[m];simp
 |@asl c id ep i off n k blk p u z=>
  have d:=t.head id p;have q:=bu p t.N;by_cases E:c.H id=c'.H id
  ·obtain⟨H,Q,_⟩:=t.place id p E (by rw[u];simp);exact .asl q (E▸u) (H▸z)
  rw[u]at d E;rcases d with d|d|⟨D,e,C,s,m,y⟩
  ·exact absurd d E
  ·exact .aslOld q (by rw[d];simp) (by rw[d];simp) (by rw[d];simp)
  cases s;exact .aslOld q (by rw[m];rintro k e ⟨⟩;exact y) (by rw[m];simp) (by rw[m];simp)
 |@aslOld c id ep i off n v p u z A=>
  have d:=t.head id p;have q:=bu p t.N;refine .aslOld q ?_ ?_ ?_
  ·intro k e B;rcases d with d|d|⟨D,J,C,s,m,y⟩
   ·exact u k e (d▸B)
   ·rw[d]at B;cases B
   rw[m]at B;cases B;exact mP (u _ _ s) y
  ·rcases d with d|d|⟨D,J,C,s,m,y⟩
   ·rw[←d];exact z
   ·rw[d];simp
   rw[m];simp
  rcases d with d|d|⟨D,J,C,s,m,y⟩
  ·rw[←d];exact A
  ·rw[d];simp
  rw[m];simp
 |@cptr c b x off o blk f p u z _ G=>
  have N:w'.heap[blk]?=w.heap[blk]?:=t.rest _ (by cases b<;>simp at p<;>simp[p]);refine .cptr f ?_ u (fun j F=>by rw[qR N];exact z j F) ?_
  ·cases b
   ·exact t.sld _ p
   exact t.bor _ p
  intro j F;cases b
  ·exact G j F (t.still false)
  exact G j F t
 |fn f g p u z A _ _ O L=>exact .fn f g p u z A (fun i hi=>O i hi t) fun i hi=>L i hi t
 |@imap c b es r U en f g p u z A _ _ O L=>
  have N:w'.heap[r]?=w.heap[r]?:=t.rest _ (by cases b<;>simp at p<;>simp[p]);refine .imap f g ?_ (N▸u) z A (fun i hi=>O i hi (t.still b)) fun i hi=>L i hi (t.still b);cases b
  ·exact t.sld _ p
  exact t.bor _ p
 |@mp c id blk p u z=>
  have d:=t.head id p;have q:=bu p t.N;rcases d with d|d|⟨D,e,C,s,m,y⟩
  ·obtain⟨H,Q,_⟩:=t.place id p d (by rw[u];simp);exact .mp q (d▸u) (H▸z)
  ·exact .mpOld rfl q d
  rw[u]at s;cases s
 |@mpOld c id v I p u=>
  have d:=t.head id p;rw[u]at d;exact .mpOld I (bu p t.N) (Hd.le_dead d)
 |@yld c l T env em blk f p u z A P S _ G=>
  have d:=t.head l p;have q:=bu p t.N;rcases d with d|d|⟨D,e,C,s,m,y⟩
  ·obtain⟨H,_,V⟩:=t.place l p d (by rw[u];simp);exact .yld f q (d▸u) (H▸z) (V▸A) P (V▸S) fun i hi=>G i hi t
  ·exact .yldOld rfl q d
  rw[u]at s;cases s
 |@yldOld c l T env v I p u=>
  have d:=t.head l p;rw[u]at d;exact .yldOld I (bu p t.N) (Hd.le_dead d)
 |@it c id blk p u z=>
  have d:=t.head id p;have q:=bu p t.N;rcases d with d|d|⟨D,e,C,s,m,y⟩
  ·obtain⟨H,Q,_⟩:=t.place id p d (by rw[u];simp);exact .it q (d▸u) (H▸z)
  ·exact .itOld rfl q d
  rw[u]at s;cases s
 |@itOld c id v I p u=>
  have d:=t.head id p;rw[u]at d;exact .itOld I (bu p t.N) (Hd.le_dead d)
end Go.AM
namespace Go.AM
variable (M:dm) (w:World)
def uo:Ex→Option Go.Code
 |.nrm=>none
 |.ext id=>some (.exit id)
 |.ret=>some .ret
def sn(r:mi)(st:LoopState)(p:Option Go.Code):Loop:=
 { state:=st,pending:=p,fn:=r.fn,tmps:=r.tmps,params:=r.params,assign:=r.assign,body:=r.body,defers:=r.defers }
def wA(c:dk)(id:Nat):Obj→Prop
 |.arr k _ es=>k≠0∧(∀x∈es,aM x=k)∧(c.place id=none→es=[])∧∀b,c.place id=some b →
   ∃(cs:Array Value) (T:TypeId) (f:Nat→Nat→Value),w.heap[b]?=some (.cells cs T (0,0))∧es.length*k≤cs.size∧c.room id=cs.size ∧
    (∀i j,i<es.length→j<k→cs[i*k+j]?=some (f i j)∧(f i j).oneCell'=true) ∧
    ∀i (hi:i<es.length) j (hj:j<(cellsOf es[i]).length),R M w c (cellsOf es[i])[j] (f i j)
 |.map es=>∃(b clock:Nat) (en:Array MapEntry) (f g:Nat→Value),c.place id=some b∧w.heap[b]?=some (.map en clock)∧en.size=es.length ∧
   (∀i (h:i<es.length),∃e,en[i]?=some e∧e.key=f i∧e.val=g i∧ma (es[i]).1=true∧e.born<clock) ∧
   (∀i (h:i<es.length),R M w c (es[i]).1 (f i))∧(∀i (h:i<es.length),R M w c (es[i]).2 (g i))
 |.pend busy j=>∃b,c.place id=some b ∧
   w.heap[b]?=some (.loop (match busy,j with
    |true,_=>sn (c.loops id) .busy none
    |false,none=>sn (c.loops id) .ready none
    |false,some e=>sn (c.loops id) .done (uo e)))
 |.it s pos=>∃(b:Nat) (t:ByteArray),c.place id=some b∧t.data.toList=s∧w.heap[b]?=some (.stringIter t pos)
 |.mit es cur k=>∃(b r last cl:Nat) (seen:Array Nat) (en:Array MapEntry) (f g:Nat→Value),c.place id=some b∧w.heap[b]?=some (.mapIter (some r) cl seen last)∧c.sld r∧w.heap[r]?=some (.map en cl)∧en.size=es.length ∧
   (∀i (h:i<es.length),∃e,en[i]?=some e∧e.key=f i∧e.val=g i∧ma (es[i]).1=true∧e.born<cl) ∧
   (∀i (h:i<es.length),R M w (c.still false) (es[i]).1 (f i))∧(∀i (h:i<es.length),R M w (c.still false) (es[i]).2 (g i)) ∧
   (en.toList.filter fun e=>!decide (e.born∈seen)).length≤k∧(seen.isEmpty=false→last=cl) ∧
   (∀e,cur=some e→last=cl∧∃st q,seen.back?=some st∧en.find? (fun q=>q.born==st)=some q∧R M w (c.still false) e.1 q.key∧R M w (c.still false) e.2 q.val)
 |.dead=>True
structure fd (c:dk) (σ:aw):Prop where
 H:c.H=hd σ
 N:c.N=σ.length
 sb:∀b,c.sld b→c.bor b
 low:∀b,c.bor b→b<w.heap.size
 plow:∀id b,c.H id≠.dead→c.place id=some b→b<w.heap.size∧¬c.bor b
 inj:∀i j b,c.H i≠.dead→c.H j≠.dead→c.place i=some b→c.place j=some b→i=j
 obj:∀id o,σ[id]?=some o→wA M w c id o
variable {M w}
theorem wA.ext{c c':dk}{w':World}{id:Nat}{o:Obj}(h:wA M w c id o)(m:Ext c w c' w')
  (x:o≠.dead→c'.place id=c.place id∧c'.room id=c.room id∧c'.loops id=c.loops id) (z:o≠.dead→∀b,c.place id=some b→w'.heap[b]?=w.heap[b]?):wA M w' c' id o:=by
 cases o with
 |dead=>trivial
 |arr k ep es=>
  obtain⟨O,W,R,S⟩:=h;obtain⟨d,E,_⟩:=x (by simp);refine⟨O,W,fun G=>R (d▸G),fun b p=>?_⟩;rw[d]at p;obtain⟨cs,T,f,a,l,n,y,u⟩:=S b p;exact⟨cs,T,f,by rw[z (by simp) b p];exact a,l,E▸n,y,fun i hi j K=>(u i hi j K).ext m⟩
 |map es=>
  obtain⟨b,B,en,f,g,a,l,n,y,u,D⟩:=h;obtain⟨d,E,_⟩:=x (by simp);exact⟨b,B,en,f,g,d▸a,by rw[z (by simp) b a];exact l,n,y,fun i hi=>(u i hi).ext m,fun i hi=>(D i hi).ext m⟩
 |pend X j=>
  obtain⟨b,a,l⟩:=h;obtain⟨d,_,F⟩:=x (by simp);exact⟨b,d▸a,by rw[z (by simp) b a,l,F]⟩
 |mit es I k=>
  obtain⟨b,r,v,B,seen,en,f,g,a,l,n,y,u,D,J,U,V,A,C⟩:=h;obtain⟨d,_,_⟩:=x (by simp);refine⟨b,r,v,B,seen,en,f,g,d▸a,by rw[z (by simp) b a];exact l,m.sld _ n,by rw[m.rest _ (.inr n)];exact y,u,D,fun i hi=>(J i hi).ext (m.still false),fun i hi=>(U i hi).ext (m.still false),V,A,fun e h=>?_⟩;obtain⟨L,st,q,H,P,Q,N⟩:=C e h;exact⟨L,st,q,H,P,Q.ext (m.still false),N.ext (m.still false)⟩
 |it s pos=>
  obtain⟨b,t,a,l,n⟩:=h;obtain⟨d,_,F⟩:=x (by simp);exact⟨b,t,d▸a,l,by rw[z (by simp) b a,n]⟩
theorem fe{σ:aw}{id:Nat}{o:Obj}(h:σ[id]?=some o):hd σ id=match o with
  |.arr k ep _=>.arr k ep
  |.map _=>.map
  |.pend _ _=>.pend
  |.it _ _=>.it
  |.mit _ _ _=>.it
  |.dead=>.dead:=by
 simp only[hd,h];cases o<;>rfl
theorem adE{σ:aw}{id:Nat}(h:hd σ id≠.dead):∃o,σ[id]?=some o∧o≠.dead:=by
 cases hs:σ[id]? with
 |none=>exact absurd (by unfold hd;rw[hs]) h
 |some o=>
  refine⟨o,rfl,fun a=>?_⟩;subst a;exact h (by unfold hd;rw[hs])
theorem Jg{σ:aw}{id:Nat}(h:hd σ id≠.dead):id<σ.length:=by
 obtain⟨o,a,_⟩:=adE h;exact (ak.1 a).1
theorem rO{σ:aw}{id:Nat}{o:Obj}(h:σ[id]?=some o):hd σ id=.dead↔o=.dead:=by
 rw[fe h];cases o<;>simp
theorem Ext.heap{c:dk}{w':World}(h:w'.heap=w.heap):Ext c w c w':=
 ⟨fun _ h=>h,fun _ h=>h,fun _ _=>by rw[h],aF _,fun _ _=>.inl rfl,fun _ _ _ _=>⟨rfl,rfl,rfl⟩⟩
theorem fd.heap{c:dk}{σ:aw}{w':World}(a:fd M w c σ)(h:w'.heap=w.heap):fd M w' c σ:=
 ⟨a.H,a.N,a.sb,by rw[h];exact a.low,by rw[h];exact a.plow,a.inj,fun id o d=>(a.obj id o d).ext (.heap h) (fun _=>⟨rfl,rfl,rfl⟩) fun _ b _=>by rw[h]⟩
theorem Ext.trans{c c' p:dk}{w w' l:World}(h:Ext c w c' w')(k:Ext c' w' p l):Ext c w p l where
 sld:=fun b i=>k.sld b (h.sld b i)
 bor:=fun b i=>k.bor b (h.bor b i)
 rest:=fun b i=>by rw[k.rest b (i.imp (h.bor b) (h.sld b)),h.rest b i]
 N:=bR h.N k.N
 head:=fun id hid=>by
  have d:=h.head id hid;have a:=k.head id (bu hid h.N);rcases d with d|d|⟨q,e,u,n,j,o⟩
  ·rw[d];exact a
  ·rw[d]at a;exact .inr (.inl (Hd.le_dead a))
  rcases a with a|a|⟨B,f,v,m,r,s⟩
  ·exact .inr (.inr ⟨q,e,u,n,a▸j,o⟩)
  ·exact .inr (.inl a)
  rw[j]at m;cases m;exact .inr (.inr ⟨q,e,v,n,r,mP o s⟩)
 place:=fun id hid g hd=>by
  have d:=h.head id hid;have a:=k.head id (bu hid h.N);have t:c.H id=c'.H id:=by
   rcases d with d|d|⟨q,e,u,n,j,o⟩
   ·exact d
   ·rw[d]at a;rw[Hd.le_dead a]at g;exact absurd g hd
   rcases a with a|a|⟨B,f,v,m,r,s⟩
   ·rw[←a,n,j]at g;cases g;exact absurd o (dI _)
   ·rw[a]at g;exact absurd g hd
   rw[j]at m;cases m;rw[n,r]at g;cases g;exact absurd (mP o s) (dI _)
  obtain⟨y,D,z⟩:=h.place id hid t hd;obtain⟨x,A,C⟩:=k.place id (bu hid h.N) (t▸g) (t▸hd);exact⟨x.trans y,A.trans D,C.trans z⟩
def lj(w:World)(o:Go.Obj):World:={ w with heap:=w.heap.push o }
def dk.grow(c:dk)(σ:aw)(p:Option Nat)(room:Nat)(lp:mi):dk:=
 { c with H:=hd σ,N:=σ.length,place:=fun i=>if i=c.N then p else c.place i,room:=fun i=>if i=c.N then room else c.room i,loops:=fun i=>if i=c.N then lp else c.loops i }
theorem ue{σ:aw}{o:Obj}{id:Nat}(h:id<σ.length):hd (σ++[o]) id=hd σ id:=by
 unfold hd;rw[aS h]
theorem oD{σ:aw}{o:Obj}:(σ++[o])[σ.length]?=some o:=by simp
theorem Ext.grow{c:dk}{σ:aw}{w':World}(a:fd M w c σ)(o:Obj)(p:Option Nat)(room:Nat)(f:mi)(d:∀b,b<w.heap.size→w'.heap[b]?=w.heap[b]?) :
  Ext c w (c.grow (σ++[o]) p room f) w' where
 sld:=fun _ h=>h
 bor:=fun _ h=>h
 rest:=fun b e=>d b (a.low b (e.elim id (a.sb b)))
 N:=by simp[dk.grow,a.N]
 head:=fun id hid=>by rw[a.N]at hid;simp only[dk.grow,a.H];rw[ue hid];exact .inl rfl
 place:=fun id hid _ _=>by
  have:id≠c.N:=Nat.ne_of_lt hid;simp[dk.grow,this]
theorem fd.grow{c:dk}{σ:aw}{w':World}(a:fd M w c σ)(o:Obj)(p:Option Nat)(room:Nat)(u:mi)
  (x:∀b,b<w.heap.size→w'.heap[b]?=w.heap[b]?) (v:w.heap.size≤w'.heap.size) (t:∀b,p=some b→w.heap.size≤b∧b<w'.heap.size)
  (q:wA M w' (c.grow (σ++[o]) p room u) σ.length o):fd M w' (c.grow (σ++[o]) p room u) (σ++[o]) where
 H:=rfl
 N:=rfl
 sb:=a.sb
 low:=fun b k=>bu (a.low b k) v
 plow:=fun id b hd k=>by
  simp only[dk.grow]at hd k ⊢;split at k
  ·obtain⟨m,l⟩:=t b k;exact⟨l,fun y=>absurd (a.low b y) (by omega)⟩
  rename_i e;have g:id<σ.length:=by
   have:=Jg hd;rw[a.N]at e;simp at this;omega
  rw[ue g,←a.H]at hd;obtain⟨m,l⟩:=a.plow id b hd k;exact⟨bu m v,l⟩
 inj:=fun i j b hi s f d=>by
  simp only[dk.grow]at hi s f d;have key:∀i,hd (σ++[o]) i≠.dead→i≠c.N→c.H i≠.dead:=fun i hi e=>by
   have g:i<σ.length:=by
    have:=Jg hi;rw[a.N]at e;simp at this;omega
   rwa [ue g,←a.H]at hi
  split at f
  ·split at d
   ·omega
   rename_i m l;have:=(a.plow j b (key j s l) d).1;have:=(t b f).1;omega
  rename_i m;split at d
  ·have:=(a.plow i b (key i hi m) f).1;have:=(t b d).1;omega
  rename_i l;exact a.inj i j b (key i hi m) (key j s l) f d
 obj:=fun id o' n=>by
  by_cases g:id<σ.length
  ·rw[aS g]at n;have e:id≠c.N:=by rw[a.N];omega
   refine (a.obj id o' n).ext (Ext.grow a o p room u x) (fun _=>by simp[dk.grow,e]) fun r b k=>x b ?_;refine (a.plow id b ?_ k).1;rw[a.H];exact fun h=>r ((rO n).1 h)
  have:id=σ.length:=by
   have:=(ak.1 n).1;simp at this;omega
  subst this;rw[oD]at n;cases n;exact q
end Go.AM
namespace Go.AM
variable {M:dm} {w:World} {P:Program}
theorem kK(b o j:Nat):(⟨b,o,none⟩:Addr).add j=⟨b,o+j,none⟩:=by
 unfold Addr.add;split
 ·rename_i h;subst h;rfl
 rfl
theorem Kj{x:Value}(h:x.oneCell'=true):x.cells=#[x]:=by
 cases x<;>first|rfl|(simp[Value.oneCell']at h)
theorem R.small{c:dk}{v:aq}{x:Value}(h:R M w c v x)(a:x.oneCell'=true):aM v≤1∧isAgg v=false:=by
 cases h<;>first|exact⟨aF _,rfl⟩|exact⟨cK _,rfl⟩|(simp[Value.oneCell']at a)
theorem R.oneOf{c:dk}{v:aq}{x:Value}(h:R M w c v x)(b:aM v=1)(a:isAgg v=false):x.oneCell'=true:=by
 cases h<;>first|rfl|assumption|(simp[isAgg]at a;done)|(simp[aM]at b;done)
theorem Ev{a:dm}{w':World}{c c':dk}{k:aq}{ck:Value}(b:R M w c k ck)(h:oS k=true):R a w' c' k ck:=by
 cases k<;>simp[oS]at h<;>cases b
 ·exact .int
 ·exact .bool
 exact .str (by assumption)
theorem Tl{j:dm}{w':World}{c c':dk}{k:aq}{ck:Value}(a:R M w c k ck)(h:ma k=true):R j w' c' k ck:=by
 cases k with
 |int=>exact Ev a rfl
 |str=>exact Ev a rfl
 |agg cs=>
  simp only[ma,aY]at h;cases a with|agg f d g e b=>exact .agg f d g e fun i hi=>Ev (b i hi) (h _ (aJ hi))
 |_=>simp[ma]at h
theorem pO{v:aq}(h:aM v≠0):(cellsOf v).length=aM v:=by
 cases v<;>first|rfl|exact absurd rfl h
theorem ry{v:aq}(h:isAgg v=true):∃cs,v=.agg cs:=by
 cases v<;>first|exact⟨_,rfl⟩|(simp[isAgg]at h)
theorem ro{v:aq}(h:isAgg v=false):cellsOf v=[v]:=by
 cases v<;>first|rfl|(simp[isAgg]at h)
structure uA (M:dm) (w:World) (c:dk) (x:aq) (f:Nat→Value):Prop where
 one:∀j,j<aM x→(f j).oneCell'=true
 rel:∀j (h:j<(cellsOf x).length),R M w c (cellsOf x)[j] (f j)
theorem aeB{c:dk}{cs:List aq}(f:Nat→Value)(a:∀j,j<cs.length→(f j).oneCell'=true)(b:∀j (h:j<cs.length),R M w c cs[j] (f j)) :
  R M w c (.agg cs) (.agg ((List.range cs.length).map f).toArray):=by
 refine .agg f (by simp) (fun i hi=>⟨by simp[hi],a i hi⟩) (fun i hi=>?_) b;exact (b i hi).small (a i hi)
def uh(P:Program)(T:TypeId)(a:Bool)(s:Nat):Bool:=
 (P.info? T).map (·.size)==some s&&(match P.underlying T with
  |some (.struct _)|some (.array _ _)=>a
  |some _=>!a
  |none=>false)&&(a ||s==1)
theorem gi{T:TypeId}{s:Nat}(h:(P.info? T).map (·.size)=some s)(w:World):(sizeOf T).run P w=.ok s w:=by
 unfold sizeOf typeInfo;cases hq:P.info? T with
 |none=>simp[hq]at h
 |some i=>simp[hq]at h ⊢;exact h
theorem uc{T:TypeId}{a:Bool}{s:Nat}(h:uh P T a s=true)(w:World):(Go.isAgg T).run P w=.ok a w:=by
 unfold uh at h;simp only[ax]at h;have b:=h.1.2;unfold Go.isAgg Go.underlying;cases hq:P.underlying T with
 |none=>simp[hq]at b
 |some d=>rw[hq]at b;cases d<;>simp_all
theorem wq{T:TypeId}{a:Bool}{s:Nat}(h:uh P T a s=true):(P.info? T).map (·.size)=some s:=by
 unfold uh at h;simp only[ax,aX]at h;exact h.1.1
theorem zu{T:TypeId}{s:Nat}(h:uh P T false s=true):s=1:=by
 unfold uh at h;simp only[ax,aX,jO]at h;exact h.2
theorem FJ{T:TypeId}{a:Bool}{s:Nat}(h:uh P T a s=true)(b o:Nat)(f:Nat→Value)(c:∀j,j<s→w.cell? ⟨b,o+j,none⟩=some (f j)) :
  (loadVar T ⟨b,o,none⟩).run P w=.ok (if a then .agg ((List.range s).map f).toArray else f 0) w:=by
 unfold loadVar;cases a with
 |true=>
  simp only[Sem.run_bind,uc h,Result.andThen_ok,cw,gi (wq h),Sem.run_pure];rw[run_loadCells w _ s f (fun j d=>by rw[kK];exact c j d)];rfl
 |false=>
  obtain rfl:=zu h;simp only[Sem.run_bind,uc h,Result.andThen_ok,bq,cI,run_load];have:=c 0 (by omega);simp only[eX]at this;rw[this]
theorem EO{c:dk}{a:Bool}{s off:Nat}{x y:aq}{f:Nat→Value}(h:uA M w c x f)(n:aM x≠0)(b:xO a s x off=some y)(r:a=false→s=1) :
  off+s≤aM x∧R M w c y (if a then .agg ((List.range s).map fun j=>f (off+j)).toArray else f off):=by
 unfold xO at b;split at b
 ·rename_i q;obtain⟨rfl,t,p⟩:=q;cases b;refine⟨by omega,?_⟩;cases a with
  |true=>
   obtain⟨cs,rfl⟩:=ry p;simp only[cE,cw];have k:cs.length=s:=t;subst k;exact aeB f (fun j e=>h.one j e) (fun j e=>h.rel j e)
  |false=>
   have d:=ro p;have:=h.rel 0 (by rw[d];simp);simp only[d,cV]at this;exact this
 split at b
 ·rename_i o;subst o;split at b
  ·rename_i u;cases b;refine⟨u,?_⟩;have m:(cellsOf x).length=aM x:=pO n;have i:(((cellsOf x).drop off).take s).length=s:=by simp;omega
   have:=aeB (M:=M) (w:=w) (c:=c) (cs:=((cellsOf x).drop off).take s) (fun j=>f (off+j)) (fun j e=>h.one _ (by omega)) (fun j e=>by
    have:=h.rel (off+j) (by omega);simp only[dP,eG];exact this)
   rw[i]at this;exact this
  cases b
 rename_i o;have l:a=false:=by cases a<;>simp_all
 subst l;obtain rfl:=r rfl;obtain⟨g,rfl⟩:=ak.1 b;refine⟨by rw[pO n]at g;omega,?_⟩;exact h.rel off g
end Go.AM
namespace Go.AM
variable {M:dm} {w:World} {P:Program}
structure Same (w w':World):Prop where
 tape:w'.tape=w.tape
 os:w'.os=w.os
 output:w'.output=w.output
 drawn:w'.drawn≤w'.drawn
theorem Same.refl(w:World):Same w w:=⟨rfl,rfl,rfl,aF _⟩
theorem Same.trans{a b c:World}(h:Same a b)(k:Same b c):Same a c:=⟨k.tape.trans h.tape,k.os.trans h.os,k.output.trans h.output,aF _⟩
structure uW (w w':World) (b:Nat) (o:Go.Obj):Prop extends Same w w' where
 heap:w'.heap=w.heap.setIfInBounds b o
theorem uW.get{w w':World}{b:Nat}{o:Go.Obj}(h:uW w w' b o)(i:Nat)(a:b<w.heap.size):w'.heap[i]?=if i=b then some o else w.heap[i]?:=by
 rw[h.heap,dJ];by_cases hi:i=b
 ·subst hi;simp[a]
 rw[if_neg (fun e=>hi e.symm),if_neg hi]
theorem uW.size{w w':World}{b:Nat}{o:Go.Obj}(h:uW w w' b o):w'.heap.size=w.heap.size:=by rw[h.heap];simp
theorem Pt{w:World}{b o:Nat}{a:Array Value}{T:TypeId}{v:Value}(h:w.heap[b]?=some (.cells a T (0,0))) :
  uW w (w.setCell ⟨b,o,none⟩ v) b (.cells (a.setIfInBounds o v) T (0,0)):=by
 refine⟨⟨rfl,rfl,rfl,aF _⟩,?_⟩;obtain⟨c,d⟩:=bE.1 h;simp only[World.setCell];apply eO;intro i;rw[gy,dJ];split
 ·rename_i e;subst e;rw[h];rfl
 rfl
theorem nI(b o:Nat)(T:TypeId):∀(vs:List Value) (i:Nat) (a:Array Value) (w:World),w.heap[b]?=some (.cells a T (0,0))→o+i+vs.length≤a.size→(∀v∈vs,v.oneCell'=true) →
  ∃(w':World) (c:Array Value),(storeCells ⟨b,o,none⟩ vs i).run P w=.ok () w'∧uW w w' b (.cells c T (0,0))∧c.size=a.size ∧
   ∀j,c[j]?=if o+i≤j∧j<o+i+vs.length then vs[j-(o+i)]? else a[j]?
 |[],i,a,w,h,_,_=>by
  refine⟨w,a,rfl,⟨.refl w,?_⟩,rfl,fun j=>?_⟩
  ·obtain⟨d,D⟩:=bE.1 h;apply eO;intro k;rw[dJ];split
   ·rename_i e;subst e;rw[h]
   rfl
  rw[if_neg (by rintro⟨C,s⟩;simp at s;omega)]
 |v::vs,i,a,w,h,p,n=>by
  have d:o+i<a.size:=by simp at p;omega
  have u:w.cell? ⟨b,o+i,none⟩=some a[o+i]:=by
   simp[World.cell?,h,d]
  have l:=Pt (o:=o+i) (v:=v) h;have B:b<w.heap.size:=(bE.1 h).1;have t:(w.setCell ⟨b,o+i,none⟩ v).heap[b]?=some (.cells (a.setIfInBounds (o+i) v) T (0,0)):=by
   rw[l.get _ B,if_pos rfl]
  obtain⟨w',c,y,m,q,r⟩:=nI b o T vs (i+1) _ _ t (by simp at p ⊢;omega) (fun x A=>n x (cf _ A));refine⟨w',c,?_,⟨l.toSame.trans m.toSame,?_⟩,by rw[q];simp,fun j=>?_⟩
  ·simp only[storeCells,Sem.run_bind,kK];rw[run_store P w _ v .plain (n v (dH ..)),u];have z:w.frozen? ⟨b,o+i,none⟩=false:=by simp[World.frozen?,h]
   simp only[z,bq,cI,Result.andThen_ok];exact y
  ·rw[m.heap,l.heap];apply eO;intro k;simp only[dJ,ni];split<;>rfl
  rw[r j];by_cases g:o+(i+1)≤j∧j<o+(i+1)+vs.length
  ·rw[if_pos g,if_pos (by simp;omega)];rw[show j-(o+i)=(j-(o+(i+1)))+1 by omega];simp
  rw[if_neg g,dJ];by_cases f:o+i=j
  ·subst f;rw[if_pos rfl,if_pos d,if_pos (by simp)];simp
  rw[if_neg f,if_neg (by simp;omega)]
theorem fd.setObj'{c:dk}{σ:aw}{w':World}(a:fd M w c σ){id:Nat}{v l:Obj}{b:Nat}{o:Go.Obj}(hid:σ[id]?=some v)(z:v≠.dead)(A:hd (σ.set id l) id=hd σ id)
  (y:c.place id=some b) (p:uW w w' b o) (k:wA M w' c id l):fd M w' c (σ.set id l)∧Ext c w c w':=by
 have q:id<σ.length:=(ak.1 hid).1;have B:hd (σ.set id l)=hd σ:=by
  funext i;by_cases hi:id=i
  ·subst hi;exact A
  unfold hd;rw[aD hi]
 have f:c.H id≠.dead:=by rw[a.H];exact fun h=>z ((rO hid).1 h)
 obtain⟨r,m⟩:=a.plow id b f y;have d:∀x,x≠b→w'.heap[x]?=w.heap[x]?:=fun x s=>by rw[p.get _ r,if_neg s]
 have g:Ext c w c w':=⟨fun _ h=>h,fun _ h=>h,fun x s=>d x (fun e=>by subst e;exact m (s.elim (fun h=>h) (a.sb _))),aF _,fun _ _=>.inl rfl,fun _ _ _ _=>⟨rfl,rfl,rfl⟩⟩;refine⟨⟨by rw[B];exact a.H,by rw[a.N];simp,a.sb,by rw[p.size];exact a.low,by rw[p.size];exact a.plow,a.inj,fun i o' j=>?_⟩,g⟩;by_cases hi:id=i
 ·subst hi;rw[aU q]at j;cases j;exact k
 rw[aD hi]at j;refine (a.obj i o' j).ext g (fun _=>⟨rfl,rfl,rfl⟩) fun n u t=>d u (fun e=>?_);subst e;exact hi (a.inj id i u f (by rw[a.H];exact fun h=>n ((rO j).1 h)) y t)
theorem fd.setObj{c:dk}{σ:aw}{w':World}(d:fd M w c σ){id k ep:Nat}{es es':List aq}{b:Nat}{o:Go.Obj}(hid:σ[id]?=some (.arr k ep es))
  (f:c.place id=some b) (e:uW w w' b o) (a:wA M w' c id (.arr k ep es')):fd M w' c (σ.set id (.arr k ep es'))∧Ext c w c w':=
 d.setObj' hid (by simp) (by rw[fe (aU (ak.1 hid).1),fe hid]) f e a
end Go.AM
namespace Go.AM
variable {M:dm} {w:World} {P:Program}
structure iR (c:dk) (w:World) (c':dk) (w':World):Prop extends Ext c w c' w' where
 same:Same w w'
 size:w.heap.size≤w'.heap.size
 frame:∀b,b<w.heap.size→(∀id,c.H id≠.dead→c.place id≠some b)→w'.heap[b]?=w.heap[b]?
 liv:∀id b,c'.H id≠.dead→c'.place id=some b→b<w.heap.size→∃i,c.H i≠.dead∧c.place i=some b
 old:∀b,c'.sld b→b<w.heap.size→c.sld b∨∃i,c.H i≠.dead∧c.place i=some b
 oldb:∀b,c'.bor b→b<w.heap.size→c.bor b∨∃i,c.H i≠.dead∧c.place i=some b
theorem iR.refl(c:dk)(w:World):iR c w c w:=
 { Ext.refl c w with same:=.refl w,size:=aF _,frame:=fun _ _ _=>rfl,liv:=fun id _ b a _=>⟨id,b,a⟩,old:=fun _ h _=>.inl h,oldb:=fun _ h _=>.inl h }
theorem iR.trans{c c' l:dk}{w w' j:World}(h:iR c w c' w')(k:iR c' w' l j):iR c w l j:=
 { Ext.trans h.toExt k.toExt with
  same:=h.same.trans k.same
  size:=bR h.size k.size
  frame:=fun b a m=>by
   rw[k.frame b (bu a h.size) (fun id e g=>?_),h.frame b a m];obtain⟨i,f,d⟩:=h.liv id b e g a;exact m i f d
  old:=fun b e a=>by
   rcases k.old b e (bu a h.size) with g|⟨i,f,d⟩
   ·exact h.old b g a
   exact .inr (h.liv i b f d a)
  oldb:=fun b e a=>by
   rcases k.oldb b e (bu a h.size) with g|⟨i,f,d⟩
   ·exact h.oldb b g a
   exact .inr (h.liv i b f d a)
  liv:=fun id b e g a=>by
   obtain⟨i,f,d⟩:=k.liv id b e g (bu a h.size);exact h.liv i b f d a }
def p5(M:dm)(P:Program)(c:dk)(w:World)(s:Sem Next)(v:aq)(σ':aw):Prop:=
 ∃nx w' c' cv,s.run P w=.ok nx w'∧(nx=.value cv∨(nx=.skip∧cv=undef))∧fd M w' c' σ'∧iR c w c' w'∧R M w' c' v cv
theorem p5.quiet{c:dk}{σ:aw}{s:Sem Value}{v:aq}{cv:Value}(b:fd M w c σ)(h:s.run P w=.ok cv w)(a:R M w c v cv) :
  p5 M P c w (do pure (.value (←s))) v σ:=
 ⟨_,w,c,cv,by simp[h],.inl rfl,b,.refl c w,a⟩
theorem p5.of{c c':dk}{w':World}{a:aw}{s:Sem Value}{v:aq}{cv:Value}(h:s.run P w=.ok cv w')(b:fd M w' c' a)(d:iR c w c' w')(e:R M w' c' v cv) :
  p5 M P c w (do pure (.value (←s))) v a:=
 ⟨_,w',c',cv,by simp[h],.inl rfl,b,d,e⟩
theorem p5.now{c:dk}{σ:aw}{v:aq}{cv:Value}(b:fd M w c σ)(a:R M w c v cv):p5 M P c w (pure (.value cv)) v σ:=
 ⟨_,w,c,cv,rfl,.inl rfl,b,.refl c w,a⟩
theorem Ext.ofStill{c:dk}(a:∀b,c.sld b→c.bor b)(b:Bool):Ext (c.still b) w c w where
 sld:=fun _ h=>h
 bor:=fun x h=>by
  cases b
  ·exact a x h
  exact h
 rest:=fun _ _=>rfl
 N:=cK _
 head:=fun id hid=>absurd hid (cZ _)
 place:=fun id hid=>absurd hid (cZ _)
theorem B0{σ:aw}{id ep i:Nat}{x:aq}(h:ul σ id ep i=some x):∃k es,σ[id]?=some (.arr k ep es)∧es[i]?=some x:=by
 unfold ul at h;split at h
 ·rename_i k e es b;split at h
  ·rename_i a;subst a;exact⟨_,_,b,h⟩
  cases h
 cases h
theorem pN{σ:aw}{id ep off len:Nat}{xs:List aq}(h:sliceAt σ id ep off len=some xs) :
  ∃k es,σ[id]?=some (.arr k ep es)∧off+len≤es.length∧xs=(es.drop off).take len:=by
 unfold sliceAt at h;split at h
 ·rename_i k e es b;split at h
  ·rename_i a;obtain⟨rfl,c⟩:=a;cases h;exact⟨_,_,b,c,rfl⟩
  cases h
 cases h
theorem fd.elem{c:dk}{σ:aw}(p:fd M w c σ){id k ep i:Nat}{es:List aq}{x:aq}(l:σ[id]?=some (.arr k ep es))(q:es[i]?=some x) :
  ∃b f,c.place id=some b∧uA M w c x f∧aM x=k∧k≠0∧∀j,j<k→w.cell? ⟨b,i*k+j,none⟩=some (f j):=by
 obtain⟨o,r,m,n⟩:=p.obj id _ l;obtain⟨hi,rfl⟩:=ak.1 q;cases hp:c.place id with
 |none=>rw[m hp]at hi;exact absurd hi (by simp)
 |some b=>
  obtain⟨cs,T,f,g,s,t,d,h⟩:=n b hp;have e:aM es[i]=k:=r _ (aJ hi);refine⟨b,f i,rfl,⟨fun j a=>(d i j hi (e▸a)).2,fun j a=>h i hi j a⟩,e,o,fun j a=>?_⟩;simp only[World.cell?,g];exact (d i j hi a).1
theorem Vo{c:dk}{σ:aw}(g:fd M w c σ){id ep i off:Nat}{p:Value}(j:R M w c (.ptr id ep i off) p){k:Nat}{es:List aq}(f:σ[id]?=some (.arr k ep es)) :
  ∃b,c.place id=some b∧p=.pointer (some ⟨b,i*k+off,none⟩):=by
 have d:c.H id=.arr k ep:=by rw[g.H,fe f]
 cases j with
 |ptr e a h=>rw[d]at a;cases a;exact⟨_,h,rfl⟩
 |ptrOld l e a=>exact absurd (a _ _ d) (dI _)
theorem aba{c:dk}{σ:aw}(r:fd M w c σ){p:aq}{C:Value}(A:R M w c p C){T:TypeId}{a:Bool}{s:Nat}(m:uh P T a s=true){v:aq}
  (h:loadAt a s p σ=some v):∃cv,(Instr.loadAt T C).run P w=.ok cv w∧R M w c v cv:=by
 unfold loadAt at h;split at h
 ·rename_i b x off;cases A with
  |@cptr _ _ _ _ o blk f J G z B=>
   have d:uA M w c x f:=⟨fun j g=>(z j g).2,fun j g=>by
    cases b with
    |true=>exact B j g
    |false=>exact (B j g).ext (Ext.ofStill r.sb false)⟩
   obtain⟨t,q⟩:=EO d G h (fun u=>by subst u;exact zu m);refine⟨_,?_,q⟩;unfold Instr.loadAt Instr.sureAddr;simp only[Sem.run_bind,Sem.run_pure,Result.andThen_ok];rw[FJ m blk (o+off) (fun j=>f (off+j)) (fun j g=>by rw[dA];exact (z (off+j) (by omega)).1)];cases a<;>rfl
 ·rename_i id ep i off;simp only[aK]at h;obtain⟨x,E,D⟩:=h;obtain⟨k,es,y,n⟩:=B0 E;obtain⟨b,f,F,d,K,H,e⟩:=r.elem y n;obtain⟨I,l,rfl⟩:=Vo r A y;rw[F]at l;cases l;obtain⟨t,q⟩:=EO d (by omega) D (fun u=>by subst u;exact zu m);refine⟨_,?_,q⟩;unfold Instr.loadAt Instr.sureAddr;simp only[Sem.run_bind,Sem.run_pure,Result.andThen_ok];rw[FJ m b (i*k+off) (fun j=>f (off+j)) (fun j g=>by rw[dA];exact e (off+j) (by omega))];cases a<;>rfl
 cases h
theorem tO{c:dk}{v:aq}{cv:Value}(h:R M w c v cv)(g:aM v≠0):∃f:Nat→Value,uA M w c v f∧cv.cells.size=aM v∧∀j,j<aM v→cv.cells[j]?=some (f j):=by
 cases hv:Go.AM.isAgg v with
 |true=>
  obtain⟨cs,rfl⟩:=ry hv;cases h with
  |agg f b e k i=>exact⟨f,⟨fun j a=>(e j a).2,i⟩,b,fun j a=>(e j a).1⟩
 |false=>
  have b:aM v=1:=by
   cases v<;>first|rfl|exact absurd rfl g|(simp[Go.AM.isAgg]at hv)
  have d:=h.oneOf b hv;refine⟨fun _=>cv,⟨fun _ _=>d,fun j a=>?_⟩,by rw[Kj d,b];rfl,fun j a=>?_⟩
  ·simp only[ro hv]at a ⊢;have:j=0:=by simp at a;omega
   subst this;exact h
  rw[b]at a;have:j=0:=by omega
  subst this;rw[Kj d];rfl
theorem VE{c:dk}{s off:Nat}{x v l:aq}{f g:Nat→Value}(n:uA M w c x f)(o:aM x≠0)(i:uA M w c v g)(y:s≠0)(h:C0 s x off v=some l) :
  aM v=s∧off+s≤aM x∧aM l=aM x∧uA M w c l (fun j=>if off≤j∧j<off+s then g (j-off) else f j):=by
 unfold C0 at h;split at h
 ·rename_i d;split at h
  ·rename_i k;obtain⟨rfl,p,q⟩:=k;cases h;refine⟨d,by omega,by omega,⟨fun j b=>?_,fun j b=>?_⟩⟩
   ·rw[if_pos ⟨cK _,by omega⟩];exact i.one _ b
   have:=pO (v:=v) (by omega);rw[if_pos ⟨cK _,by omega⟩];exact i.rel _ b
  split at h
  ·rename_i k;obtain⟨p,q⟩:=k;cases h;have t:=pO o;have u:=pO (v:=v) (by omega);have a:((cellsOf x).take off++cellsOf v++(cellsOf x).drop (off+s)).length=aM x:=by simp;omega
   refine⟨d,p,a,⟨fun j b=>?_,fun j b=>?_⟩⟩
   ·rw[show aM (.agg ((cellsOf x).take off++cellsOf v++(cellsOf x).drop (off+s)))=aM x from a]at b;split
    ·exact i.one _ (by omega)
    exact n.one _ b
   change j<((cellsOf x).take off++cellsOf v++(cellsOf x).drop (off+s)).length at b;change R M w c ((cellsOf x).take off++cellsOf v++(cellsOf x).drop (off+s))[j] _;rw[a]at b;by_cases r:j<off
   ·rw[if_neg (by omega)];have:=n.rel j (by omega);rw[cq (by simp;omega),cq (by simp;omega)];simpa using this
   by_cases m:j<off+s
   ·rw[if_pos ⟨by omega,m⟩];have:=i.rel (j-off) (by omega);rw[cq (by simp;omega),cP (by simp;omega)];simp only[cY];have e:j-min off (cellsOf x).length=j-off:=by rw[eN (by omega)]
    simpa [e] using this
   rw[if_neg (by omega)];have:=n.rel j (by omega);rw[cP (by simp;omega)];simp only[eG,bZ,cY];have e:off+s+(j-(min off (cellsOf x).length+(cellsOf v).length))=j:=by rw[eN (by omega)];omega
   simpa [e] using this
  cases h
 cases h
theorem uA.ext{c c':dk}{w':World}{x:aq}{f:Nat→Value}(h:uA M w c x f)(b:Ext c w c' w'):uA M w' c' x f:=
 ⟨h.one,fun j a=>(h.rel j a).ext b⟩
theorem iR.setB{c:dk}{σ:aw}{w':World}(k:fd M w c σ){id b:Nat}{o:Go.Obj}(f:c.H id≠.dead)(d:c.place id=some b)(a:uW w w' b o)(l:Ext c w c w'):iR c w c w':=
 { l with
  same:=a.toSame
  size:=by rw[a.size];exact aF _
  frame:=fun x n g=>by rw[a.get _ (k.plow id b f d).1,if_neg (fun e=>g id f (by subst e;exact d))]
  liv:=fun i x j m _=>⟨i,j,m⟩
  old:=fun _ h _=>.inl h
  oldb:=fun _ h _=>.inl h }
theorem ac4{c:dk}{σ K:aw}(z:fd M w c σ){p v:aq}{cp cv:Value}(hp:R M w c p cp)(hv:R M w c v cv){T:TypeId}{s:Nat}(ht:(P.info? T).map (·.size)=some s)(ab:s≠0)
  (d:storeAt s p v σ=some K):∃w',(Instr.storeAt T cp cv).run P w=.ok () w'∧fd M w' c K∧iR c w c w':=by
 unfold storeAt at d;split at d
 ·rename_i id ep i off;split at d
  ·rename_i k e es N;split at d
   ·rename_i he;subst he;simp only[aK,aQ]at d;obtain⟨x,hx,x',t,rfl⟩:=d;obtain⟨b,f,E,Z,hk,ah,C⟩:=z.elem N hx;obtain⟨b',o,rfl⟩:=Vo z hp N;rw[E]at o;cases o;have r:c.H id≠.dead:=by rw[z.H,fe N];simp
    have Q:aM v=s:=by unfold C0 at t;split at t<;>first|assumption|cases t
    obtain⟨g,V,B,G⟩:=tO hv (by omega);obtain⟨_,ag,ae,H⟩:=VE Z (by omega) V ab t;obtain⟨o1,o2,o3,o4⟩:=z.obj id _ N;obtain⟨cs,T',F,q1,q2,q3,q4,q5⟩:=o4 b E;obtain⟨hi,af⟩:=ak.1 hx;have ad:i*k+off+s≤cs.size:=by
     have:(i+1)*k≤es.length*k:=cu k hi;rw[dN]at this;omega
    obtain⟨w',cs',hr,U,hz,A⟩:=nI (P:=P) b (i*k+off) T' cv.cells.toList 0 cs w q1 (by simp[B];omega) (fun y I=>by
     obtain⟨j,A,rfl⟩:=cM.1 I;have a:j<aM v:=by simp at A;omega
     have:=G j a;rw[cO (by simpa using A)]at this;have h2:=V.one j a;simp only[jd];rw[dW this];exact h2)
    have u:∀j,cs'[j]?=if i*k+off≤j∧j<i*k+off+s then some (g (j-(i*k+off))) else cs[j]?:=fun j=>by
     rw[A j];simp only[eX,cR,B,Q];split
     ·rename_i hc;have:=G (j-(i*k+off)) (by omega);simpa using this
     rfl
    have D:=z.plow id b r E;have n:Ext c w c w':=⟨fun _ h=>h,fun _ h=>h,fun y I=>by rw[U.get _ D.1,if_neg (fun e=>by subst e;exact D.2 (I.elim (fun h=>h) (z.sb _)))],aF _,fun _ _=>.inl rfl,fun _ _ _ _=>⟨rfl,rfl,rfl⟩⟩;have O:wA M w' c id (.arr k e (es.set i x')):=by
     refine⟨o1,fun y I=>?_,fun hn=>(by rw[E]at hn;cases hn),fun b' o=>?_⟩
     ·rcases eV I with h|h
      ·exact o2 y h
      rw[h];omega
     rw[E]at o;cases o;refine⟨cs',T',fun l j=>if l=i then (if off≤j∧j<off+s then g (j-off) else F i j) else F l j,by rw[U.get _ D.1,if_pos rfl],by simp;omega,by rw[hz];exact q3,fun l j q a=>?_,fun l q j a=>?_⟩
     ·simp only[gj]at q;dsimp only;by_cases m:l=i
      ·subst m;rw[if_pos rfl,u];by_cases L:off≤j∧j<off+s
       ·rw[if_pos ⟨by omega,by omega⟩,if_pos L];have X:l * k+j-(l * k+off)=j-off:=by omega
        rw[X];exact⟨rfl,V.one _ (by omega)⟩
       rw[if_neg (by omega),if_neg L];exact q4 l j q a
      rw[if_neg m,u,if_neg]
      ·exact q4 l j q a
      rintro⟨a1,a2⟩;rcases Nat.lt_or_gt_of_ne m with h|h
      ·have:(l+1)*k≤i*k:=cu k h;rw[dN]at this;omega
      have:(i+1)*k≤l * k:=cu k h;rw[dN]at this;omega
     by_cases m:l=i
     ·subst m;simp only[iL]at a ⊢;rw[if_pos trivial];have hF:∀j,j<k→f j=F l j:=fun j A=>by
       have S:=C j A;simp only[World.cell?,q1]at S;have h2:=(q4 l j hi A).1;simp at S;rw[h2]at S;exact (dW S).symm
      have:=(H.rel j a).ext n;have W:j<k:=by rw[pO (by omega)]at a;omega
      rw[←hF j W];exact this
     dsimp only;rw[if_neg m];have Y:l < es.length:=by simpa using q
     have X:(es.set i x')[l]=es[l]:=by rw[gV (fun h=>m h.symm)]
     simp only[X]at a ⊢;exact (q5 l Y j a).ext n
    obtain⟨J,_⟩:=z.setObj N E U O;refine⟨w',?_,J,iR.setB z r E U n⟩;unfold Instr.storeAt Instr.sureAddr storeVar;simp only[Sem.run_bind,Sem.run_pure,Result.andThen_ok,gi ht,Sem.run_ite,B,Q,ne_eq,not_true,cI];exact hr
   cases d
  cases d
 cases d
end Go.AM
namespace Go.AM
variable {M:dm} {w:World} {P:Program}
theorem gJ{o:Go.Obj}{b:Nat}(h:b<w.heap.size):(lj w o).heap[b]?=w.heap[b]?:=by
 show (w.heap.push o)[b]?=_;rw[Array.getElem?_push,if_neg (Nat.ne_of_lt h)]
theorem rZ{o:Go.Obj}:(lj w o).heap[w.heap.size]?=some o:=by
 show (w.heap.push o)[w.heap.size]?=_;rw[Array.getElem?_push,if_pos rfl]
theorem fO{o:Go.Obj}:(lj w o).heap.size=w.heap.size+1:=by
 show (w.heap.push o).size=_;simp
theorem pP{o:Go.Obj}:Same w (lj w o):=⟨rfl,rfl,rfl,aF _⟩
theorem iR.grow{c:dk}{σ:aw}{w':World}(g:fd M w c σ)(o:Obj)(p:Option Nat)(room:Nat)(l:mi)(a:Same w w')
  (j:∀b,b<w.heap.size→w'.heap[b]?=w.heap[b]?) (m:w.heap.size≤w'.heap.size) (n:∀b,p=some b→w.heap.size≤b) :
  iR c w (c.grow (σ++[o]) p room l) w':=
 { Ext.grow g o p room l j with
  same:=a
  size:=m
  frame:=fun b k _=>j b k
  old:=fun _ h _=>.inl h
  oldb:=fun _ h _=>.inl h
  liv:=fun id b e d k=>by
   simp only[dk.grow]at e d;split at d
   ·exact absurd (n b d) (by omega)
   rename_i f;refine⟨id,?_,d⟩;have i:id<σ.length:=by
    have:=Jg e;rw[g.N]at f;simp at this;omega
   rw[g.H];rwa [ue i]at e }
theorem fd.newArr{c:dk}{σ:aw}(d:fd M w c σ){k ep:Nat}{es:List aq}{cs:Array Value}{T:TypeId}(f:Nat→Nat→Value)(q:k≠0)(e:∀x∈es,aM x=k)
  (h:es.length*k≤cs.size) (n:∀i j,i<es.length→j<k→cs[i*k+j]?=some (f i j)∧(f i j).oneCell'=true)
  (p:∀i (hi:i<es.length) j (m:j<(cellsOf es[i]).length),R M w c (cellsOf es[i])[j] (f i j)) :
  ∃c',c'.N=σ.length+1∧c'.H σ.length=.arr k ep∧c'.place σ.length=some w.heap.size∧c'.room σ.length=cs.size ∧
   fd M (lj w (.cells cs T (0,0))) c' (σ++[.arr k ep es])∧iR c w c' (lj w (.cells cs T (0,0))):=by
 have g:=Ext.grow (w':=lj w (.cells cs T (0,0))) d (.arr k ep es) (some w.heap.size) cs.size (c.loops 0) (fun b a=>gJ a);refine⟨c.grow (σ++[.arr k ep es]) (some w.heap.size) cs.size (c.loops 0),by simp[dk.grow],?_,by simp[dk.grow,d.N],by simp[dk.grow,d.N],?_,?_⟩
 ·show hd (σ++[.arr k ep es]) σ.length=_;rw[fe oD]
 ·refine d.grow _ _ _ _ (fun b a=>gJ a) (by rw[fO];omega) (fun b a=>by cases a;rw[fO];omega) ?_;refine⟨q,e,fun o=>by simp[dk.grow,d.N]at o,fun b a=>?_⟩;have l:b=w.heap.size:=by simp[dk.grow,d.N]at a;exact a.symm
  subst l;exact⟨cs,T,f,rZ,h,by simp[dk.grow,d.N],n,fun i hi j m=>(p i hi j m).ext g⟩
 exact iR.grow d _ _ _ _ pP (fun b a=>gJ a) (by rw[fO];omega) (fun b a=>by cases a;exact aF _)
theorem agv{c:dk}{σ:aw}(n:fd M w c σ){v:aq}{cv:Value}(m:R M w c v cv){T:TypeId}{k:Nat}(o:aM v=k)(e:k≠0) :
  p5 M P c w (do pure (.value (←Instr.box T cv))) (.ptr σ.length 0 0 0) (σ++[.arr k 0 [v]]):=by
 obtain⟨g,f,l,d⟩:=tO m (by omega)
 obtain⟨c',s,q,p,r,b,a⟩:=n.newArr (ep:=0) (T:=T) (es:=[v]) (cs:=cv.cells) (fun _ j=>g j) e (by simp[o]) (by simp;omega)
  (fun i j hi h=>by
   have:i=0:=by simp at hi;omega
   subst this;rw[mH,cE];exact⟨d j (by omega),f.one j (by omega)⟩)
  (fun i hi j h=>by
   have:i=0:=by simp at hi;omega
   subst this;exact f.rel j h)
 refine⟨_,_,c',_,by simp[Instr.box,newVar,newRow];exact⟨rfl,rfl⟩,.inl rfl,b,a,?_⟩;have:=R.ptr (M:=M) (w:=lj w (.cells cv.cells T (0,0))) (c:=c') (id:=σ.length) (ep:=0) (i:=0) (off:=0) (by omega) q p;simpa using this
def dk.addStill(c:dk)(b:Nat):dk:={ c with sld:=fun x=>c.sld x∨x=b,bor:=fun x=>c.bor x∨x=b }
theorem fd.addStill{c:dk}{σ:aw}(d:fd M w c σ)(o:Go.Obj) :
  fd M (lj w o) (c.addStill w.heap.size) σ∧iR c w (c.addStill w.heap.size) (lj w o):=by
 have f:Ext c w (c.addStill w.heap.size) (lj w o):=⟨fun _ h=>.inl h,fun _ h=>.inl h,fun b a=>gJ (d.low b (a.elim (fun h=>h) (d.sb b))),aF _,fun _ _=>.inl rfl,fun _ _ _ _=>⟨rfl,rfl,rfl⟩⟩;refine⟨⟨d.H,d.N,fun b a=>a.imp (d.sb b) id,fun b a=>?_,fun id b i j=>?_,d.inj,fun id o' k=>?_⟩,{ f with same:=pP,size:=by rw[fO];omega,frame:=fun b a _=>gJ a,liv:=fun id b i j _=>⟨id,i,j⟩,old:=fun b h a=>h.elim .inl (fun e=>by omega),oldb:=fun b h a=>h.elim .inl (fun e=>by omega) }⟩
 ·rw[fO];rcases a with a|a
  ·exact nU (d.low b a)
  omega
 ·obtain⟨m,l⟩:=d.plow id b i j;refine⟨by rw[fO];omega,fun a=>a.elim l (fun e=>by omega)⟩
 exact (d.obj id o' k).ext f (fun _=>⟨rfl,rfl,rfl⟩) fun g b a=>gJ (d.plow id b (by rw[d.H];exact fun h=>g ((rO k).1 h)) a).1
theorem BS{c:dk}{k:Nat}(u:k≠0):∀{vs:List aq} {cvs:List Value},vs.length=cvs.length→(∀i (h:i<vs.length) (q:i<cvs.length),R M w c vs[i] cvs[i])→(∀v∈vs,aM v=k) →
  ∃f:Nat→Nat→Value,(cvs.flatMap fun v=>v.cells.toList).length=vs.length*k ∧
   (∀i j,i<vs.length→j<k→(cvs.flatMap fun v=>v.cells.toList)[i*k+j]?=some (f i j)∧(f i j).oneCell'=true) ∧
   ∀i (hi:i<vs.length) j (d:j<(cellsOf vs[i]).length),R M w c (cellsOf vs[i])[j] (f i j)
 |[],[],_,_,_=>⟨fun _ _=>undef,by simp,fun i j hi=>absurd hi (by simp),fun i hi=>absurd hi (by simp)⟩
 |v::vs,cv::cvs,z,o,n=>by
  have m:=o 0 (by simp) (by simp);simp only[cV]at m;have b:aM v=k:=n v (dH ..);obtain⟨g,p,a,l⟩:=tO m (by omega);obtain⟨f,s,r,y⟩:=BS (c:=c) (k:=k) u (vs:=vs) (cvs:=cvs) (by simpa using z) (fun i h q=>by have:=o (i+1) (by simpa using h) (by simpa using q);simpa using this) (fun x t=>n x (cf _ t));refine⟨fun i j=>if i=0 then g j else f (i-1) j,?_,fun i j hi d=>?_,fun i hi j d=>?_⟩
  ·simp only[fN,bZ,s,bA,cR,a,b];rw[dN];omega
  ·simp only[fN];cases i with
   |zero=>
    rw[if_pos rfl,aS (by simp[a];omega)];simp only[mH,cE,fv];exact⟨l j (by omega),p.one j (by omega)⟩
   |succ i=>
    rw[if_neg (by omega),bI (by simp[a,b];rw[dN];omega)];have e:(i+1)*k+j-cv.cells.toList.length=i*k+j:=by simp[a,b];rw[dN];omega
    rw[e];have:=r i j (by simpa using hi) d;simpa using this
  cases i with
  |zero=>simpa using p.rel j (by simpa using d)
  |succ i=>
   dsimp only;rw[if_neg (by omega)];have:=y i (by simpa using hi) j (by simpa using d);simpa using this
end Go.AM
namespace Go.AM
variable {M:dm} {w:World} {P:Program}
def po(fm:Nat→FuncId):Nat→Value→aq→Bool
 |_,.int k n,.int k' m=>k==k'&&n==m
 |_,.bool b,.bool b'=>b==b'
 |_,.string s,.str l=>s.data.toList==l
 |_,.slice none 0 0,.ai=>true
 |_,.slice none 0 0,.aa _ []=>true
 |_,.pointer none,.nilp=>true
 |_,.nilFunc,.nilf=>true
 |_,.map none,.nilm=>true
 |_,.func (.func f) a b,.fn n [] []=>a.size==0&&b.size==0&&fm n==f
 |n+1,.agg vs,.agg cs=>vs.size==cs.length&&(vs.toList.zip cs).all fun p=>p.1.oneCell'&&po fm n p.1 p.2
 |_,_,_=>false
theorem tB{c:dk}:∀{n:Nat} {v:Value} {a:aq},po M.fm n v a=true→R M w c a v:=by
 intro n;induction n with
 |zero=>
  intro v a h;unfold po at h;split at h<;>simp_all
  ·exact .int
  ·exact .bool
  ·exact .str h
  ·exact .ai
  ·exact .imm0
  ·exact .nilp
  ·exact .nilf
  ·exact .nilm
  rename_i f a b m;obtain⟨⟨j,l⟩,rfl⟩:=h;exact .fn (fun _=>undef) (fun _=>undef) (by simp) (by simp) (by simp) (by simp) (by simp) (by simp)
 |succ n o=>
  intro v a h;cases hb:Go.AM.isAgg a with
  |false=>
   unfold po at h;split at h<;>simp_all
   ·exact .int
   ·exact .bool
   ·exact .str h
   ·exact .ai
   ·exact .imm0
   ·exact .nilp
   ·exact .nilf
   ·exact .nilm
   ·rename_i f a b m;obtain⟨⟨j,l⟩,rfl⟩:=h;exact .fn (fun _=>undef) (fun _=>undef) (by simp) (by simp) (by simp) (by simp) (by simp) (by simp)
   simp[Go.AM.isAgg]at hb
  |true=>
   obtain⟨cs,rfl⟩:=ry hb;cases v<;>first|(simp[po]at h;done)|skip
   rename_i vs;have q:(vs.size==cs.length&&(vs.toList.zip cs).all fun p=>p.1.oneCell'&&po M.fm n p.1 p.2)=true:=h;simp only[ax,aX,aY]at q;obtain⟨j,l⟩:=q;have key:∀i (hi:i<cs.length),∃x,vs[i]?=some x∧x.oneCell'=true∧po M.fm n x cs[i]=true:=fun i hi=>by
    have k:i<vs.size:=by omega
    refine⟨vs[i],by simp[k],?_⟩;have r:(vs[i],cs[i])∈vs.toList.zip cs:=by
     rw[cM];exact⟨i,by simp;omega,by simp⟩
    exact l _ r
   refine .agg (fun i=>vs.getD i undef) j (fun i hi=>?_) (fun i hi=>?_) (fun i hi=>?_)
   ·obtain⟨x,d,g,e⟩:=key i hi;have:vs.getD i undef=x:=by simp[bV,d]
    rw[this];exact⟨d,g⟩
   ·obtain⟨x,d,g,e⟩:=key i hi;exact (o e).small g
   obtain⟨x,d,g,e⟩:=key i hi;have:vs.getD i undef=x:=by simp[bV,d]
   rw[this];exact o e
def nM(M:dm)(w:World)(c:dk)(cs:List aq)(A:Array Value):Prop:=
 A.size=cs.length∧∀j (h:j<cs.length),∃x,A[j]?=some x∧x.oneCell'=true∧R M w c cs[j] x
theorem nM.agg{c:dk}{cs:List aq}{A:Array Value}(h:nM M w c cs A):R M w c (.agg cs) (.agg A):=by
 refine .agg (fun j=>A.getD j undef) h.1 (fun j a=>?_) (fun j a=>?_) (fun j a=>?_)
 ·obtain⟨x,b,d,_⟩:=h.2 j a;have:A.getD j undef=x:=by simp[bV,b]
  rw[this];exact⟨b,d⟩
 ·obtain⟨x,b,d,e⟩:=h.2 j a;exact e.small d
 obtain⟨x,b,d,e⟩:=h.2 j a;have:A.getD j undef=x:=by simp[bV,b]
 rw[this];exact e
theorem R.rcells{c:dk}{cs:List aq}{A:Array Value}(h:R M w c (.agg cs) (.agg A)):nM M w c cs A:=by
 cases h with
 |agg f e b g d=>exact⟨e,fun j a=>⟨f j,(b j a).1,(b j a).2,d j a⟩⟩
theorem EY(off:Nat):∀(l:List Value) (n:Nat) (A:Array Value),
  ((l.zipIdx n).foldl (fun cs p=>cs.setIfInBounds (off+p.2) p.1) A).size=A.size ∧
  ∀j,((l.zipIdx n).foldl (fun cs p=>cs.setIfInBounds (off+p.2) p.1) A)[j]?=if off+n≤j∧j<off+n+l.length∧j<A.size then l[j-(off+n)]? else A[j]?
 |[],n,A=>⟨rfl,fun j=>by rw[if_neg (by rintro⟨e,c,_⟩;simp at c;omega)];rfl⟩
 |v::l,n,A=>by
  obtain⟨e,c⟩:=EY off l (n+1) (A.setIfInBounds (off+n) v);simp only[List.zipIdx_cons,dX];refine⟨by rw[e];simp,fun j=>?_⟩;rw[c j];simp only[ni,bA];by_cases d:off+(n+1)≤j∧j<off+(n+1)+l.length∧j<A.size
  ·rw[if_pos d,if_pos (by omega),show j-(off+n)=(j-(off+(n+1)))+1 by omega];simp
  rw[if_neg d,dJ];by_cases a:off+n=j
  ·subst a;by_cases b:off+n<A.size
   ·rw[if_pos rfl,if_pos b,if_pos ⟨by omega,by omega,b⟩];simp
   rw[if_pos rfl,if_neg b,if_neg (by omega)];simp;omega
  rw[if_neg a,if_neg (by omega)]
theorem Yg(off:Nat)(l A:Array Value) :
  (l.zipIdx.foldl (fun cs (c,j)=>cs.setIfInBounds (off+j) c) A).size=A.size ∧
  ∀j,(l.zipIdx.foldl (fun cs (c,j)=>cs.setIfInBounds (off+j) c) A)[j]?=if off≤j∧j<off+l.size∧j<A.size then l[j-off]? else A[j]?:=by
 have h:=EY off l.toList 0 A;have e:l.zipIdx.foldl (fun cs (c,j)=>cs.setIfInBounds (off+j) c) A=(l.toList.zipIdx 0).foldl (fun cs p=>cs.setIfInBounds (off+p.2) p.1) A:=by
  rw[←Array.foldl_toList];simp
 rw[e];simpa using h
theorem XI{c:dk}(place:Nat→Option (Nat×Nat)):∀(d:List (Nat×Value)) (a:List (Nat×Nat×aq)) (zero cs:List aq) (A:Array Value),nM M w c zero A→d.length=a.length →
  (∀i (h:i<d.length) (N:i<a.length),place d[i].1=some (a[i].1,a[i].2.1)∧R M w c a[i].2.2 d[i].2)→fill zero a=some cs →
  ∃B,Instr.fill place A d=some B∧nM M w c cs B
 |[],[],zero,cs,A,h,_,_,f=>by cases f;exact⟨A,rfl,h⟩
 |[],_::_,_,_,_,_,l,_,_=>by simp at l
 |_::_,[],_,_,_,_,l,_,_=>by simp at l
 |(i,cv)::d,(off,s,v)::a,zero,cs,A,h,l,z,f=>by
  simp only[fill]at f;split at f
  ·rename_i E;obtain⟨P,Q,L⟩:=E;have q:=z 0 (by simp) (by simp);simp only[cV]at q;obtain⟨g,y,F,n⟩:=tO q.2 (by omega);obtain⟨G,J⟩:=Yg off cv.cells A;have O:=pO (v:=v) (by omega);have b:(zero.take off++cellsOf v++zero.drop (off+s)).length=zero.length:=by simp;omega
   have k:nM M w c (zero.take off++cellsOf v++zero.drop (off+s)) (cv.cells.zipIdx.foldl (fun cs (c,j)=>cs.setIfInBounds (off+j) c) A):=by
    refine⟨by rw[G,h.1,b],fun j m=>?_⟩;rw[b]at m;rw[J j];by_cases I:j<off
    ·rw[if_neg (by omega)];obtain⟨x,o,u,r⟩:=h.2 j m;refine⟨x,o,u,?_⟩;rw[cq (by simp;omega),cq (by simp;omega)];simpa using r
    by_cases H:j<off+s
    ·rw[if_pos ⟨by omega,by omega,by rw[h.1];exact m⟩,n _ (by omega)];refine⟨_,rfl,y.one _ (by omega),?_⟩;have:=y.rel (j-off) (by omega);rw[cq (by simp;omega),cP (by simp;omega)];simp only[cY];have e:j-min off zero.length=j-off:=by rw[eN (by omega)]
     simpa [e] using this
    rw[if_neg (by omega)];obtain⟨x,o,u,r⟩:=h.2 j m;refine⟨x,o,u,?_⟩;rw[cP (by simp;omega)];simp only[eG,bZ,cY];have e:off+s+(j-(min off zero.length+(cellsOf v).length))=j:=by rw[eN (by omega)];omega
    simpa [e] using r
   obtain⟨B,C,t⟩:=XI place d a _ cs _ k (by simpa using l) (fun i hi p=>by have:=z (i+1) (by simpa using hi) (by simpa using p);simpa using this) f;refine⟨B,?_,t⟩;simp only[Instr.fill,q.1];rw[if_neg]
   ·exact C
   have D:cv.cells.size=s:=by omega
   have K:=h.1;simp[D];omega
  cases f
theorem BJ(k:Nat):∀(cvs:List Value) (s:Nat) (A:Array Value),(∀v∈cvs,v.cells.size=k)→(s+cvs.length)*k≤A.size →
  ∃B,Instr.fill (fun i=>some (i*k,k)) A ((List.range' s cvs.length).zip cvs)=some B∧B.size=A.size ∧
   ∀p,B[p]?=if s*k≤p∧p<(s+cvs.length)*k then (cvs.flatMap fun v=>v.cells.toList)[p-s*k]? else A[p]?
 |[],s,A,_,_=>⟨A,rfl,rfl,fun p=>by rw[if_neg (by simp)]⟩
 |v::cvs,s,A,d,q=>by
  have b:=d v (dH ..);obtain⟨a,r⟩:=Yg (s*k) v.cells A;simp only[bA]at q;have e:(s+(cvs.length+1))*k=(s+1+cvs.length)*k:=by congr 1;omega
  have h:(s+1)*k=s*k+k:=by rw[dN];omega
  have o:(s+1)*k≤(s+1+cvs.length)*k:=cu k (by omega);obtain⟨B,m,l,g⟩:=BJ k cvs (s+1) (v.cells.zipIdx.foldl (fun cs (c,j)=>cs.setIfInBounds (s*k+j) c) A) (fun x n=>d x (cf _ n)) (by rw[a];omega);refine⟨B,?_,by rw[l,a],fun p=>?_⟩
  ·rw[show (List.range' s (v::cvs).length)=s::List.range' (s+1) cvs.length by simp[o8]];simp only[fV,Instr.fill];rw[if_neg]
   ·exact m
   simp[b];omega
  rw[g p,r p];simp only[bA,fN,b];by_cases f:(s+1)*k≤p∧p<(s+1+cvs.length)*k
  ·rw[if_pos f,if_pos (by omega),bI (by simp;omega)];congr 1;simp;omega
  rw[if_neg f];by_cases t:s*k≤p∧p<s*k+k
  ·rw[if_pos ⟨by omega,by omega,by omega⟩,if_pos (by omega),aS (by simp;omega)];simp
  rw[if_neg (by omega),if_neg (by omega)]
end Go.AM
namespace Go.AM
variable {M:dm} {w:World} {P:Program}
theorem sx{op:BinOp}{k:IntKind}{x y n:Int}(h:intBits op k x y=some n):(Op.intBits op k x y).run P w=.ok (.int k n) w:=by
 cases op<;>simp only[intBits]at h<;>first|(cases h;done)|(injection h with h;subst h;rfl)
theorem Sg{c:dk}{op:BinOp}{T:TypeId}{k:IntKind}{a b:Int}{v:aq}(e:op≠.shl∧op≠.shr)(h:K7 op k a b=some v) :
  ∃cv,(binOp op T (.int k a) (.int k b)).run P w=.ok cv w∧R M w c v cv:=by
 cases op<;>simp[K7]at h e<;>simp only[binOp,ne_eq,not_true,cI]
 case quo=>obtain⟨d,rfl⟩:=h;exact⟨_,by simp only[Op.intDiv,d,cI];rfl,.int⟩
 case rem=>obtain⟨d,rfl⟩:=h;exact⟨_,by simp only[Op.intDiv,d,cI];rfl,.int⟩
 case and=>obtain⟨n,d,rfl⟩:=h;exact⟨_,sx d,.int⟩
 case or=>obtain⟨n,d,rfl⟩:=h;exact⟨_,sx d,.int⟩
 case xor=>obtain⟨n,d,rfl⟩:=h;exact⟨_,sx d,.int⟩
 case andNot=>obtain⟨n,d,rfl⟩:=h;exact⟨_,sx d,.int⟩
 all_goals subst h;first|exact⟨_,rfl,.int⟩|exact⟨_,rfl,.bool⟩|(refine⟨.bool _,?_,.bool⟩;simp[Op.intCmp])
theorem Kk{c:dk}{op:BinOp}{T:TypeId}{k e:IntKind}{a b:Int}{v:aq}(h:shift op k a b=some v) :
  ∃cv,(binOp op T (.int k a) (.int e b)).run P w=.ok cv w∧R M w c v cv:=by
 unfold shift at h;split at h
 ·cases h
 rename_i d;cases op<;>simp at h<;>subst h
 ·exact⟨_,by simp only[binOp,Op.shift,d,cI];rfl,.int⟩
 exact⟨_,by simp only[binOp,Op.shift,d,cI];rfl,.int⟩
theorem OO{s t:ByteArray}:(s.toList==t.toList)=(s.data.toList==t.data.toList):=by
 rw[Go.ByteArray.toList_eq,Go.ByteArray.toList_eq]
theorem vf(op:BinOp)(T:TypeId)(x y:Operand){a b:Value}(h:(∃k n,a=.int k n)∨(∃s,a=.string s)∨(∃t,a=.bool t)):(eqGuard op T x y a b).run P w=.ok () w:=by
 rcases h with⟨k,n,rfl⟩|⟨s,rfl⟩|⟨t,rfl⟩<;>cases op<;>rfl
theorem adX{c:dk}{op:UnOp}{x v:aq}{b:Value}(a:R M w c x b)(h:una op x=some v):∃cv,(Op.unary op b).run P w=.ok cv w∧R M w c v cv:=by
 unfold una at h;split at h
 ·cases a;cases h;exact⟨_,by simp only[Op.unary,Op.intArith];rfl,.int⟩
 ·cases a;simp only[aQ]at h;obtain⟨n,d,rfl⟩:=h;exact⟨_,by simp only[Op.unary];exact sx d,.int⟩
 ·cases a;cases h;exact⟨_,rfl,.bool⟩
 cases h
theorem run_underlying{T:TypeId}{d:TypeDesc}(h:P.underlying T=some d)(w:World):(underlying T).run P w=.ok d w:=by
 unfold underlying;simp[h]
theorem aaG{c:dk}{S T:TypeId}{k a:IntKind}{n:Int}{d:TypeDesc}(e:P.underlying S=some d)(b:P.underlying T=some (.int k))(hd:∃j,d=.int j) :
  (convert S T (.int a n)).run P w=.ok (.int k (k.wrap n)) w:=by
 obtain⟨j,rfl⟩:=hd;unfold convert;simp only[Sem.run_bind,run_underlying e,run_underlying b,Result.andThen_ok];rfl
end Go.AM
