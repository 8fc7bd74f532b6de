/- Part of the proof. -/
import GoSem.Core.Sem
import GoSem.Op.String
import GoSem.Core.Utf8
import Derived.Test.YtmpmbfpkpannjaaGreatDoorCm00
import Derived.CallsIn
import Derived.Laws.Sem
import Derived.Laws.Cells
import Derived.Laws.Rows
import Derived.Laws.Tables
import Derived.Laws.Strings
import Derived.Laws.Slices
set_option linter.unusedVariables false
set_option linter.unusedSimpArgs false
set_option linter.unusedSectionVars false
namespace Go.AM
inductive aq where
 |int (k:IntKind) (n:Int)
 |bool (b:Bool)
 |str (s:List UInt8)
 |nilp
 |nilf
 |nilm
 |agg (cs:List aq)
 |tup (vs:List aq)
 |aa (b:Bool) (xs:List aq)
 |lst (xs:List aq)
 |ai
 |sl (id ep off len:Nat)
 |ptr (id ep i off:Nat)
 |asl (id ep i off n:Nat)
 |cptr (b:Bool) (x:aq) (off:Nat)
 |fn (f:Nat) (first cap:List aq)
 |imap (b:Bool) (es:List (aq×aq))
 |mp (id:Nat)
 |yld (l site:Nat) (env:List aq)
 |frs (k:Nat) (xs:List aq)
 |emp (b:Bool)
 |it (id:Nat)
 |any
 deriving Inhabited
inductive Ex where
 |nrm
 |ext (id:Nat)
 |ret
 deriving DecidableEq,Inhabited
inductive Obj where
 |arr (k ep:Nat) (es:List aq)
 |map (es:List (aq×aq))
 |pend (busy:Bool) (j:Option Ex)
 |it (s:List UInt8) (pos:Nat)
 |mit (es:List (aq×aq)) (cur:Option (aq×aq)) (k:Nat)
 |dead
 deriving Inhabited
abbrev aw:=List Obj
def zv:aq→Bool
 |.int ..=>true
 |.str _=>true
 |_=>false
def isAgg:aq→Bool
 |.agg _=>true
 |_=>false
def cellsOf:aq→List aq
 |.agg cs=>cs
 |v=>[v]
def aM:aq→Nat
 |.agg cs=>cs.length
 |.any|.tup _|.frs _ _|.asl ..=>0
 |_=>1
def xd(a:Bool)(s:Nat)(x:aq)(off:Nat):Option aq:=
 if off=0∧aM x=s∧isAgg x=a then some x
 else if a then (if off+s≤aM x then some (.agg (((cellsOf x).drop off).take s)) else none)
 else (cellsOf x)[off]?
def Dm(s:Nat)(x:aq)(off:Nat)(v:aq):Option aq:=
 if aM v=s then
  if off=0∧aM x=s∧isAgg x=isAgg v then some v
  else if off+s≤aM x∧isAgg x=true then some (.agg ((cellsOf x).take off++cellsOf v++(cellsOf x).drop (off+s)))
  else none
 else none
def sliceAt(σ:aw)(id ep off len:Nat):Option (List aq):=
 match σ[id]? with
 |some (.arr _ e es)=>if e=ep∧off+len≤es.length then some ((es.drop off).take len) else none
 |_=>none
def uq(σ:aw)(id ep i:Nat):Option aq:=
 match σ[id]? with
 |some (.arr _ e es)=>if e=ep then es[i]? else none
 |_=>none
def Y6(σ:aw)(id:Nat):Option Nat:=
 match σ[id]? with
 |some (.arr k _ _)=>some k
 |_=>none
def fresh(σ:aw)(id ep:Nat):Bool:=
 match σ[id]? with
 |some (.arr _ e _)=>e==ep
 |_=>false
def ic(σ:aw)(id:Nat):Option (List (aq×aq)):=
 match σ[id]? with
 |some (.map es)=>some es
 |_=>none
def oX(fl:Bool)(l l':List aq):aq:=if l'.map aM=l.map aM then .aa fl l' else .any
def jR(fl:Bool)(x x':aq)(off:Nat):aq:=if aM x'=aM x then .cptr fl x' off else .any
def fz(fl top:Bool)(base:Nat)(σ:aw):Nat→aq→aq
 |0,_=>.any
 |n+1,v=>match v with
  |.agg cs=>.agg (cs.map (fz fl top base σ n))
  |.tup vs=>.tup (vs.map (fz fl top base σ n))
  |.ai=>if !fl&&top then .ai else .aa false []
  |.aa b xs=>if b&&!fl&&!top then .any else .aa b xs
  |.lst xs=>oX fl xs (xs.map (fz fl false base σ n))
  |.cptr b x o=>if b then (if fl then jR true x (fz fl false base σ n x) o else if top then jR true x (fz fl top base σ n x) o else .any) else .cptr false x o
  |.imap b es=>if b&&!fl&&!top then .any else .imap b es
  |.sl id ep off len=>if id<base then (if top then .sl id ep off len else .any) else (sliceAt σ id ep off len).elim .any fun l=>oX fl l (l.map (fz fl false base σ n))
  |.ptr id ep i off=>if id<base then (if top then .ptr id ep i off else .any) else (uq σ id ep i).elim .any fun x=>jR fl x (fz fl false base σ n x) off
  |.asl id ep i off m=>if id<base&&top then .asl id ep i off m else .any
  |.mp id=>if id<base then (if top then .mp id else .any) else (ic σ id).elim .any fun es=>.imap fl (es.map fun e=>(e.1,fz fl false base σ n e.2))
  |.fn f first cap=>.fn f (first.map (fz fl top base σ n)) (cap.map (fz fl top base σ n))
  |.yld l site env=>if l<base&&top then .yld l site (env.map (fz fl top base σ n)) else .any
  |.it id=>if id<base&&top then .it id else .any
  |.frs _ _=>.any
  |v=>v
def dF:Nat:=20
def snap(σ:aw)(v:aq):aq:=fz true false 0 σ dF v
def rC(σ:aw)(v:aq):aq:=fz false false 0 σ dF v
def cq(base:Nat)(σ:aw)(v:aq):aq:=fz false true base σ dF v
def KJ(k ep:Nat)(l l':List aq):Obj:=if l'.map aM=l.map aM then .arr k ep l' else .dead
def bA(base:Nat)(σ:aw):Obj→Obj
 |.arr k ep es=>KJ k ep es (es.map (cq base σ))
 |.map es=>.map (es.map fun e=>(e.1,cq base σ e.2))
 |o=>o
def neg(n:Bool)(t:Bool):aq:=.bool (if n then !t else t)
def rd(σ:aw):aq→Option (List aq)
 |.aa _ xs=>some xs
 |.lst xs=>some xs
 |.ai=>some []
 |.emp _=>some []
 |.sl id ep off len=>sliceAt σ id ep off len
 |.str s=>some (s.map fun c=>.int .u8 c.toNat)
 |_=>none
mutual
def same:aq→aq→Bool
 |.int k n,.int k' n'=>k==k'&&n==n'
 |.bool a,.bool b=>a==b
 |.str a,.str b=>a==b
 |.nilp,.nilp=>true
 |.nilf,.nilf=>true
 |.nilm,.nilm=>true
 |.agg a,.agg b=>qY a b
 |.tup a,.tup b=>qY a b
 |.aa b xs,.aa b' ys=>b==b'&&qY xs ys
 |.lst xs,.lst ys=>qY xs ys
 |.ai,.ai=>true
 |.sl a b c d,.sl a' b' c' d'=>a==a'&&b==b'&&c==c'&&d==d'
 |.ptr a b c d,.ptr a' b' c' d'=>a==a'&&b==b'&&c==c'&&d==d'
 |.asl a b c d e,.asl a' b' c' d' e'=>a==a'&&b==b'&&c==c'&&d==d'&&e==e'
 |.cptr b x o,.cptr b' y o'=>b==b'&&same x y&&o==o'
 |.fn f a b,.fn f' a' b'=>f==f'&&qY a a'&&qY b b'
 |.imap b es,.imap b' es'=>b==b'&&yM es es'
 |.mp a,.mp b=>a==b
 |.yld l s env,.yld l' s' env'=>l==l'&&s==s'&&qY env env'
 |.frs k xs,.frs k' ys=>k==k'&&qY xs ys
 |.emp a,.emp b=>a==b
 |.it a,.it b=>a==b
 |.any,.any=>true
 |_,_=>false
def qY:List aq→List aq→Bool
 |[],[]=>true
 |a::x,b::y=>same a b&&qY x y
 |_,_=>false
def yM:List (aq×aq)→List (aq×aq)→Bool
 |[],[]=>true
 |(a,b)::x,(a',b')::y=>same a a'&&same b b'&&yM x y
 |_,_=>false
end
def Oz:Option (aq×aq)→Option (aq×aq)→Bool
 |none,none=>true
 |some a,some b=>same a.1 b.1&&same a.2 b.2
 |_,_=>false
def NQ:Obj→Obj→Bool
 |.arr k e xs,.arr k' e' ys=>k==k'&&e==e'&&qY xs ys
 |.map es,.map es'=>yM es es'
 |.pend b j,.pend b' j'=>b==b'&&decide (j=j')
 |.it s p,.it s' p'=>s==s'&&p==p'
 |.mit a b c,.mit a' b' c'=>yM a a'&&Oz b b'&&c==c'
 |.dead,.dead=>true
 |_,_=>false
def sr:aw→aw→Bool
 |[],[]=>true
 |a::x,b::y=>NQ a b&&sr x y
 |_,_=>false
inductive dd where
 |env (i:Nat)
 |loc (j:Nat)
 |val (v:aq)
 deriving Inhabited
inductive If where
 |mov (x:dd)
 |pick (c a b:dd)
 |box (k:Nat) (x:dd)
 |build (zero:List aq) (parts:List (Nat×Nat×dd))
 |mknil (k:Nat)
 |mkl (k:Nat) (xs:List dd)
 |mksl (k:Nat) (xs:List dd)
 |mkslz (k:Nat) (zero:aq) (n:Nat) (parts:List (Nat×dd))
 |make (k:Nat) (zero:aq) (n c:dd)
 |load (a:Bool) (s:Nat) (x:dd)
 |store (s:Nat) (x v:dd)
 |fld (off:Nat) (x:dd)
 |fldv (a:Bool) (s off:Nat) (x:dd)
 |idxs (k:Nat) (x i:dd)
 |idxa (n s:Nat) (x i:dd)
 |idxv (a:Bool) (n s:Nat) (x i:dd)
 |idxt (x i:dd)
 |bin (op:BinOp) (x y:dd)
 |eqb (n:Bool) (x y:dd)
 |eqa (n:Bool) (ks:List Nat) (x y:dd)
 |nils (n:Bool) (x:dd)
 |una (op:UnOp) (x:dd)
 |conv (k:IntKind) (x:dd)
 |slice (k:Nat) (x:dd) (lo hi:Option dd)
 |slicet (x:dd) (lo hi:Option dd)
 |slice0 (x:dd)
 |aslice (n:Nat) (x:dd)
 |len (x:dd)
 |lent (x:dd)
 |cap (x:dd)
 |app (k:Nat) (x y:dd)
 |appz (k:Nat) (zero:aq) (x n:dd)
 |copy (k:Nat) (x y:dd)
 |mins (x:dd) (xs:List dd)
 |maxs (x:dd) (xs:List dd)
 |mkfn (f:Nat) (first cap:List dd)
 |ext (i:Nat) (x:dd)
 |nilck (x:dd)
 |call (f:Nat) (args:List dd) (mat:Bool)
 |callv (f:dd) (args:List dd)
 |mkmap
 |mput (m k v:dd)
 |look (zero:aq) (ok:Bool) (m k:dd)
 |mlen (m:dd)
 |clr (zero:aq) (x:dd)
 |rngs (x:dd)
 |nexts (x:dd)
 |lookk (ks:List Nat) (zero:aq) (ok:Bool) (m k:dd)
 |mputk (ks:List Nat) (m k v:dd)
 |b2s (x:dd)
 |bad
 deriving Inhabited
structure cr where
 op:If
 guard:Option (dd×Bool):=none
 deriving Inhabited
inductive az where
 |skip
 |reg (ops:List cr) (sL:List (Nat×dd))
 |regd (ops:List cr) (sL:List (Nat×dd)) (chk:List (Nat×Nat))
 |seq (a b:az)
 |cond (c:dd) (a b:az)
 |blk (id:Nat) (b:az)
 |loop (clr:List Nat) (b:az)
 |exit (id:Nat)
 |ret
 |rng (n:Nat) (f:dd) (site:Nat)
 |scope (b:az)
 |lift (i off k:Nat) (b:az)
 deriving Inhabited
inductive C4 where
 |pure
 |fresh (k:Nat)
 |keep
 |trunc
 deriving DecidableEq,Inhabited
inductive NG where
 |env (i:Nat)
 |cell (a:Bool) (s i:Nat)
 deriving Inhabited
structure br where
 nenv:Nat
 np:Nat
 mode:C4
 res:List NG
 body:az
 deriving Inhabited
structure yH where
 nenv:Nat
 params:List Nat
 pre:az
 body:az
 deriving Inhabited
abbrev ip:=Nat→List aq→aw→Option (aq×aw)
abbrev aiM:=ip→List aq→aw→Option (aq×aw)
inductive kW where
 |none
 |fn (f:br)
 |nilfn (f:br)
 |round (r:yH)
 |prim (k:Nat)
 deriving Inhabited
def pr(l:List aq)(i:Nat):aq:=l[i]?.getD .any
def dd.eval(env ls:List aq):dd→aq
 |.env i=>pr env i
 |.loc j=>pr ls j
 |.val v=>v
def lR:aq→aq→Option Bool
 |.int k a,.int k' b=>if k=k' then some (a==b) else none
 |.bool a,.bool b=>some (a==b)
 |.str a,.str b=>some (a==b)
 |_,_=>none
def oJ:List aq→List aq→Option Bool
 |[],[]=>some true
 |a::x,b::y=>(lR a b).bind fun t=>if t then oJ x y else (oJ x y).map fun _=>false
 |_,_=>none
def ang:aq→Option Bool
 |.nilp|.nilf|.nilm=>some true
 |.cptr ..|.fn ..=>some false
 |_=>none
def apy:aq→Bool
 |.nilf|.fn ..=>true
 |_=>false
def akp:aq→Bool
 |.nilp|.cptr ..=>true
 |_=>false
def intBits(op:BinOp)(k:IntKind)(x y:Int):Option Int:=
 let a:=BitVec.ofInt k.bits x
 let b:=BitVec.ofInt k.bits y
 match op with
 |.and=>some (k.wrap (a &&& b).toNat)
 |.or=>some (k.wrap (a |||b).toNat)
 |.xor=>some (k.wrap (a ^^^ b).toNat)
 |.andNot=>some (k.wrap (a &&& ~~~b).toNat)
 |_=>none
def Lk(op:BinOp)(k:IntKind)(a b:Int):Option aq:=
 match op with
 |.add=>some (.int k (k.wrap (a+b)))
 |.sub=>some (.int k (k.wrap (a-b)))
 |.mul=>some (.int k (k.wrap (a*b)))
 |.quo=>if b=0 then none else some (.int k (k.wrap (a.tdiv b)))
 |.rem=>if b=0 then none else some (.int k (a.tmod b))
 |.eql=>some (.bool (a==b))
 |.neq=>some (.bool (a != b))
 |.lss=>some (.bool (decide (a<b)))
 |.leq=>some (.bool (decide (a≤b)))
 |.gtr=>some (.bool (decide (a>b)))
 |.geq=>some (.bool (decide (a≥b)))
 |.shl|.shr=>none
 |_=>(intBits op k a b).map (.int k)
def bD:Nat:=2^36
def eT(op:BinOp)(a b:List UInt8):Option aq:=
 match op with
 |.add=>if a.length+b.length≤bD then some (.str (a++b)) else none
 |.eql=>some (.bool (a==b))
 |.neq=>some (.bool (!(a==b)))
 |.lss=>some (.bool (Op.bytesLess a b))
 |.leq=>some (.bool (Op.bytesLess a b ||a==b))
 |.gtr=>some (.bool (!(Op.bytesLess a b ||a==b)))
 |.geq=>some (.bool (!(Op.bytesLess a b)))
 |_=>none
def shift(op:BinOp)(k:IntKind)(a b:Int):Option aq:=
 if b<0 then none else
 match op with
 |.shl=>some (.int k (k.wrap (a*2^(min b.toNat k.bits))))
 |.shr=>some (.int k (a.fdiv (2^(min b.toNat k.bits))))
 |_=>none
def bin(op:BinOp)(x y:aq):Option aq:=
 match x,y with
 |.int k a,.int k' b=>
  match op with
  |.shl=>shift op k a b
  |.shr=>shift op k a b
  |_=>if k=k' then Lk op k a b else none
 |.str a,.str b=>eT op a b
 |_,_=>none
def eqb(n:Bool)(x y:aq):Option aq:=
 match x,y with
 |.bool a,.bool b=>some (neg n (a==b))
 |_,_=>none
def sR:aq→Nat
 |.int ..=>0
 |.bool _=>1
 |.str _=>2
 |_=>3
def eR:List Nat→List aq→List aq→Option Bool
 |[],_,_=>some true
 |k::ks,a::x,b::y=>if sR a=k then (lR a b).bind fun t=>if t then eR ks x y else some false else none
 |_,_,_=>none
def eqa(n:Bool)(ks:List Nat)(x y:aq):Option aq:=
 match x,y with
 |.agg a,.agg b=>(eR ks a b).map (neg n)
 |_,_=>none
def jK(σ:aw)(x:aq):Bool:=
 match x with
 |.str _=>false
 |x=>match rd σ x with
  |some []=>true
  |_=>false
def ut(n:Bool)(σ:aw)(x:aq):Option aq:=
 match x with
 |.emp b=>some (neg n b)
 |.str _=>none
 |x=>match rd σ x with
  |some (_::_)=>some (neg n false)
  |_=>none
def una(op:UnOp)(x:aq):Option aq:=
 match op,x with
 |.neg,.int k n=>some (.int k (k.wrap (0-n)))
 |.xor,.int k n=>(intBits .xor k (if k.signed then -1 else k.max) n).map (.int k)
 |.not,.bool b=>some (.bool (!b))
 |_,_=>none
def td(σ:aw):aq→Option Nat
 |.aa _ xs=>some xs.length
 |.lst xs=>some xs.length
 |.ai=>some 0
 |.emp _=>some 0
 |.sl id ep _ n=>if fresh σ id ep then some n else none
 |_=>none
def JK:aq→Option Nat
 |.str s=>some s.length
 |_=>none
def CX(σ:aw):aq→Bool
 |.aa _ _|.lst _|.ai=>true
 |.sl id ep _ _=>fresh σ id ep
 |_=>false
def rc:aq→Option Nat
 |.int _ n=>if 0≤n then some n.toNat else none
 |_=>none
def aslice(σ:aw)(k:Nat)(x:aq)(lo hi:Nat):Option aq:=
 match x with
 |.aa b xs=>if lo≤hi∧hi≤xs.length∧xs.all (fun y=>aM y==k) then some (.aa b ((xs.drop lo).take (hi-lo))) else none
 |.lst xs=>if lo≤hi∧hi≤xs.length∧xs.all (fun y=>aM y==k) then some (.lst ((xs.drop lo).take (hi-lo))) else none
 |.ai=>if lo=0∧hi=0 then some .ai else none
 |.sl id ep off n=>if lo≤hi∧hi≤n∧Y6 σ id=some k then some (.sl id ep (off+lo) (hi-lo)) else none
 |_=>none
def vK(x:aq)(lo hi:Nat):Option aq:=
 match x with
 |.str s=>if lo≤hi∧hi≤s.length then some (.str ((s.drop lo).take (hi-lo))) else none
 |_=>none
def append(k:Nat)(x:aq)(ys:List aq)(σ:aw):Option (aq×aw):=
 if ys.length=0 then (if CX σ x then some (x,σ) else none) else
 if ys.all (fun y=>aM y==k) then
  match x with
  |.ai=>if ys.length≤bD then some (.sl σ.length 0 0 ys.length,σ++[.arr k 0 ys]) else none
  |.sl id ep off n=>match σ[id]? with
   |some (.arr k' e es)=>
    if k'=k∧e=ep∧off+n≤es.length∧off=0∧n+ys.length≤bD then
     some (.sl id (ep+1) 0 (n+ys.length),σ.set id (.arr k (ep+1) (es.take n++ys)))
    else none
   |_=>none
  |_=>none
 else none
def loadAt(a:Bool)(s:Nat)(p:aq)(σ:aw):Option aq:=
 match p with
 |.cptr _ x off=>xd a s x off
 |.ptr id ep i off=>(uq σ id ep i).bind fun x=>xd a s x off
 |_=>none
def storeAt(s:Nat)(p v:aq)(σ:aw):Option aw:=
 match p with
 |.ptr id ep i off=>match σ[id]? with
  |some (.arr k e es)=>
   if e=ep then (es[i]?).bind fun x=>(Dm s x off v).map fun x'=>σ.set id (.arr k e (es.set i x')) else none
  |_=>none
 |_=>none
def qK(a b:aq):Option Bool:=match a,b with
 |.int k x,.int k' y=>if k=k' then some (x==y) else none
 |_,_=>none
def lookup(k:aq):List (aq×aq)→Option (Option aq)
 |[]=>some none
 |e::r=>match qK e.1 k with
  |some true=>some (some e.2)
  |some false=>lookup k r
  |none=>none
def mput(k v:aq):List (aq×aq)→Option (List (aq×aq))
 |[]=>some [(k,v)]
 |e::r=>match qK e.1 k with
  |some true=>some ((e.1,v)::r)
  |some false=>(mput k v r).map (e::·)
  |none=>none
def oF:aq→Bool
 |.int ..=>true
 |.str _=>true
 |.bool _=>true
 |_=>false
def lX:aq→Bool
 |.int ..=>true
 |.str _=>true
 |.agg cs=>cs.all oF
 |_=>false
def vS:aq→Bool
 |.int ..=>true
 |_=>false
def gZ(ks:List Nat):aq→Bool
 |.str _=>ks==[]
 |.agg cs=>ks != []&&cs.map sR==ks&&cs.all oF
 |_=>false
def o5(ks:List Nat)(k e:aq):Option Bool:=
 if gZ ks e then (match k,e with
  |.str a,.str b=>some (a==b)
  |.agg a,.agg b=>eR ks a b
  |_,_=>none) else none
def dz(ks:List Nat)(k:aq):List (aq×aq)→Option (Option aq)
 |[]=>some none
 |e::r=>match o5 ks k e.1 with
  |some true=>some (some e.2)
  |some false=>dz ks k r
  |none=>none
def re(ks:List Nat)(k v:aq):List (aq×aq)→Option (List (aq×aq))
 |[]=>some [(k,v)]
 |e::r=>match o5 ks k e.1 with
  |some true=>some ((e.1,v)::r)
  |some false=>(re ks k v r).map (e::·)
  |none=>none
def ZJ(env ls:List aq)(d:Nat):Option dd→Option Nat
 |none=>some d
 |some o=>rc (o.eval env ls)
def fill(zero:List aq):List (Nat×Nat×aq)→Option (List aq)
 |[]=>some zero
 |(off,s,v)::r=>if aM v=s∧s≠0∧off+s≤zero.length then fill (zero.take off++cellsOf v++zero.drop (off+s)) r else none
def Nm(l:List aq):List (Nat×aq)→List aq
 |[]=>l
 |(i,v)::r=>Nm (l.set i v) r
def xa(lt:Bool):aq→List aq→Option aq
 |x,[]=>some x
 |.int k a,.int k' b::r=>if k=k' then xa lt (.int k (if lt then (if b<a then b else a) else (if a<b then b else a))) r else none
 |_,_=>none
def pt(σ:aw)(l:Nat):Bool:=match σ[l]? with
 |some (.pend false none)=>true
 |_=>false
def HU(C:ip)(f:aq)(args:List aq)(σ:aw):Option (aq×aw):=
 match f with
 |.fn f first cap=>C f (first++args++cap) σ
 |.yld l site env=>if pt σ l then C site (.frs l []::env++args) σ else none
 |_=>none
def I5(C:ip)(f:aq)(args:List aq)(σ:aw):Option (aq×aw):=
 match f with
 |.fn f first cap=>C f (first++args++cap) σ
 |_=>none
def vO(mat:Bool)(v:aq)(σ:aw):aq×aw:=
 match v with
 |.frs k xs=>if mat then (.sl σ.length 0 0 xs.length,σ++[.arr k 0 xs]) else (.aa false xs,σ)
 |v=>(v,σ)
def mater(mat:Bool)(r:aq×aw):aq×aw:=
 match r.1 with
 |.tup (v::vs)=>let q:=vO mat v r.2;(.tup (q.1::vs),q.2)
 |v=>vO mat v r.2
def JI(σ:aw)(off:Nat):aq→Option aq
 |.ptr id ep i o=>if fresh σ id ep then some (.ptr id ep i (o+off)) else none
 |.cptr b y o=>some (.cptr b y (o+off))
 |_=>none
def Dr(σ:aw)(k n:Nat):aq→Option aq
 |.aa b xs=>(xs[n]?).bind fun y=>if aM y=k then some (.cptr b y 0) else none
 |.lst xs=>(xs[n]?).bind fun y=>if aM y=k then some (.cptr true y 0) else none
 |.sl id ep off m=>if n<m∧Y6 σ id=some k∧fresh σ id ep then some (.ptr id ep (off+n) 0) else none
 |_=>none
def NB(σ:aw):aq→Option aq
 |.ptr id ep i o=>if fresh σ id ep then some (.ptr id ep i o) else none
 |.cptr b y o=>some (.cptr b y o)
 |.fn f a b=>some (.fn f a b)
 |_=>none
def TE(k:IntKind):aq→Option aq
 |.int _ n=>some (.int k (k.wrap n))
 |_=>none
def aaI(i:Nat):aq→Option aq
 |.tup vs=>vs[i]?
 |_=>none
def N8(n:Nat):aq→Option aq
 |.str t=>(t[n]?).map fun c=>.int .u8 c.toNat
 |_=>none
def zj(σ:aw):aq→Option (List (aq×aq))
 |.imap _ es=>some es
 |.nilm=>some []
 |.mp id=>ic σ id
 |_=>none
def PC(σ:aw)(key v:aq):aq→Option aw
 |.mp id=>(ic σ id).bind fun es=>if vS key then (mput key v es).map fun es'=>σ.set id (.map es') else none
 |_=>none
def Iy(ks:List Nat)(σ:aw)(key v:aq):aq→Option aw
 |.mp id=>(ic σ id).bind fun es=>if gZ ks key then (re ks key v es).map fun es'=>σ.set id (.map es') else none
 |_=>none
def yJ:List aq→Option (List UInt8)
 |[]=>some []
 |.int .u8 n::r=>(yJ r).map (UInt8.ofNat n.toNat::·)
 |_=>none
def abd(σ:aw):aq→Option aq
 |.str _=>none
 |x=>(rd σ x).bind fun ys=>(yJ ys).map .str
def ZI(σ:aw)(zero:aq):aq→Option aw
 |.sl id ep off n=>match σ[id]? with
  |some (.arr k e es)=>if e=ep∧off+n≤es.length∧aM zero=k then some (σ.set id (.arr k e (es.take off++List.replicate n zero++es.drop (off+n)))) else none
  |_=>none
 |.ai=>some σ
 |_=>none
def Tl(a b:aq):aq→Option aq
 |.bool t=>some (if t then a else b)
 |_=>none
def Im(a:Bool)(s off:Nat)(x:aq):Option aq:=if isAgg x=true∧aM x≠0 then xd a s x off else none
def abB(σ:aw)(n:Nat):aq→Option aq
 |.ptr id ep i o=>if fresh σ id ep then some (.asl id ep i o n) else none
 |.cptr false (.agg cs) 0=>if cs.length=n∧cs.all (fun y=>aM y==1&&!isAgg y)=true then some (.aa false cs) else none
 |_=>none
def ack:aq→Nat
 |.sl _ _ _ n=>n
 |.asl _ _ _ _ n=>n
 |_=>0
def KU(σ:aw)(n:Nat):aq→Option (List aq)
 |.sl id ep off len=>(rd σ (.sl id ep off len)).map (·.take n)
 |y=>rd σ y
def N7(σ:aw)(k0:Nat)(ys:List aq):aq→Option aw
 |.asl id ep i off n=>match σ[id]? with
  |some (.arr k e es)=>if e=ep∧k0=1∧ys.length≤n∧ys.all (fun y=>aM y==1&&!isAgg y) then (es[i]?).bind fun x=>
    if isAgg x=true∧off+n≤aM x then some (σ.set id (.arr k e (es.set i (.agg ((cellsOf x).take off++ys++(cellsOf x).drop (off+ys.length)))))) else none
   else none
  |_=>none
 |.sl id ep off n=>match σ[id]? with
  |some (.arr k e es)=>if e=ep∧k=k0∧ys.length≤n∧off+n≤es.length∧ys.all (fun y=>aM y==k) then
    some (σ.set id (.arr k e (es.take off++ys++es.drop (off+ys.length)))) else none
  |_=>none
 |_=>none
def uz(σ:aw):aq→Option (aq×aw)
 |.it id=>match σ[id]? with
  |some (.it s pos)=>if pos<s.length then
    some (.tup [.bool true,.int .i64 pos,.int .i32 (Utf8.decode ⟨s.toArray⟩ pos).1],σ.set id (.it s (pos+(Utf8.decode ⟨s.toArray⟩ pos).2)))
   else some (.tup [.bool false],σ)
  |_=>none
 |_=>none
def RY(σ:aw):aq→Option (aq×aw)
 |.str s=>some (.it σ.length,σ++[.it s 0])
 |_=>none
def adt:aq→Option aq
 |.ai=>some (.int .i64 0)
 |_=>none
def bJ(C:ip)(env ls:List aq)(σ:aw):If→Option (aq×aw)
 |.mov x=>some (x.eval env ls,σ)
 |.pick c a b=>(Tl (a.eval env ls) (b.eval env ls) (c.eval env ls)).map (·,σ)
 |.box k x=>let v:=x.eval env ls;if aM v=k then some (.ptr σ.length 0 0 0,σ++[.arr k 0 [v]]) else none
 |.build zero parts=>(fill zero (parts.map fun p=>(p.1,p.2.1,p.2.2.eval env ls))).map fun cs=>(.agg cs,σ)
 |.mknil k=>some (.sl σ.length 0 0 0,σ++[.arr k 0 []])
 |.mkl k xs=>let vs:=xs.map (·.eval env ls);if vs.all (fun v=>aM v==k) then some (.lst vs,σ) else none
 |.mksl k xs=>let vs:=xs.map (·.eval env ls)
  if vs=[] then some (.ai,σ) else
  if vs.all (fun v=>aM v==k) then some (.sl σ.length 0 0 vs.length,σ++[.arr k 0 vs]) else none
 |.mkslz k zero n parts=>let vs:=Nm (List.replicate n zero) (parts.map fun p=>(p.1,p.2.eval env ls))
  if vs.all (fun v=>aM v==k) then some (.sl σ.length 0 0 n,σ++[.arr k 0 vs]) else none
 |.make k zero n c=>(rc (n.eval env ls)).bind fun m=>(rc (c.eval env ls)).bind fun d=>
   if m=d∧aM zero=k∧m≤bD then some (.sl σ.length 0 0 m,σ++[.arr k 0 (List.replicate m zero)]) else none
 |.load a s x=>(loadAt a s (x.eval env ls) σ).map (·,σ)
 |.store s x v=>(storeAt s (x.eval env ls) (v.eval env ls) σ).map (.any,·)
 |.fld off x=>(JI σ off (x.eval env ls)).map (·,σ)
 |.fldv a s off x=>(Im a s off (x.eval env ls)).map (·,σ)
 |.idxs k x i=>(rc (i.eval env ls)).bind fun n=>(Dr σ k n (x.eval env ls)).map (·,σ)
 |.idxa m s x i=>(rc (i.eval env ls)).bind fun n=>if n<m then (JI σ (n*s) (x.eval env ls)).map (·,σ) else none
 |.idxv a m s x i=>(rc (i.eval env ls)).bind fun n=>if n<m then (Im a s (n*s) (x.eval env ls)).map (·,σ) else none
 |.idxt x i=>(rc (i.eval env ls)).bind fun n=>(N8 n (x.eval env ls)).map (·,σ)
 |.bin op x y=>(bin op (x.eval env ls) (y.eval env ls)).map (·,σ)
 |.eqb n x y=>(eqb n (x.eval env ls) (y.eval env ls)).map (·,σ)
 |.eqa n ks x y=>(eqa n ks (x.eval env ls) (y.eval env ls)).map (·,σ)
 |.nils n x=>(ut n σ (x.eval env ls)).map (·,σ)
 |.una op x=>(una op (x.eval env ls)).map (·,σ)
 |.conv k x=>(TE k (x.eval env ls)).map (·,σ)
 |.slice k x lo hi=>let v:=x.eval env ls
  (td σ v).bind fun n=>(ZJ env ls 0 lo).bind fun l=>(ZJ env ls n hi).bind fun h=>(aslice σ k v l h).map (·,σ)
 |.slicet x lo hi=>let v:=x.eval env ls
  (JK v).bind fun n=>(ZJ env ls 0 lo).bind fun l=>(ZJ env ls n hi).bind fun h=>(vK v l h).map (·,σ)
 |.slice0 x=>(td σ (x.eval env ls)).map fun _=>(.ai,σ)
 |.aslice n x=>(abB σ n (x.eval env ls)).map (·,σ)
 |.len x=>(td σ (x.eval env ls)).map fun (n:Nat)=>(.int .i64 (n:Int),σ)
 |.lent x=>(JK (x.eval env ls)).map fun (n:Nat)=>(.int .i64 (n:Int),σ)
 |.cap x=>(adt (x.eval env ls)).map (·,σ)
 |.app k x y=>(rd σ (y.eval env ls)).bind fun ys=>append k (x.eval env ls) ys σ
 |.appz k zero x n=>(rc (n.eval env ls)).bind fun m=>if aM zero=k∧m≤bD then append k (x.eval env ls) (List.replicate m zero) σ else none
 |.copy k x y=>(KU σ (ack (x.eval env ls)) (y.eval env ls)).bind fun ys=>(N7 σ k ys (x.eval env ls)).map fun σ'=>(.int .i64 (ys.length:Int),σ')
 |.mins x xs=>(xa true (x.eval env ls) (xs.map (·.eval env ls))).map (·,σ)
 |.maxs x xs=>(xa false (x.eval env ls) (xs.map (·.eval env ls))).map (·,σ)
 |.mkfn f first cap=>some (.fn f (first.map (·.eval env ls)) (cap.map (·.eval env ls)),σ)
 |.ext i x=>(aaI i (x.eval env ls)).map (·,σ)
 |.nilck x=>(NB σ (x.eval env ls)).map (·,σ)
 |.call f args mat=>(C f (args.map (·.eval env ls)) σ).map (mater mat)
 |.callv f args=>(HU C (f.eval env ls) (args.map (·.eval env ls)) σ).map (mater false)
 |.mkmap=>some (.mp σ.length,σ++[.map []])
 |.mput m k v=>(PC σ (k.eval env ls) (v.eval env ls) (m.eval env ls)).map (.any,·)
 |.look zero ok m k=>if vS (k.eval env ls) then (zj σ (m.eval env ls)).bind fun es=>(lookup (k.eval env ls) es).map fun r=>(if ok then .tup [r.getD zero,.bool r.isSome] else r.getD zero,σ) else none
 |.mlen m=>(zj σ (m.eval env ls)).map fun es=>(.int .i64 (es.length:Int),σ)
 |.clr zero x=>(ZI σ zero (x.eval env ls)).map (.any,·)
 |.rngs x=>RY σ (x.eval env ls)
 |.nexts x=>uz σ (x.eval env ls)
 |.lookk ks zero ok m k=>if gZ ks (k.eval env ls) then (zj σ (m.eval env ls)).bind fun es=>(dz ks (k.eval env ls) es).map fun r=>(if ok then .tup [r.getD zero,.bool r.isSome] else r.getD zero,σ) else none
 |.mputk ks m k v=>(Iy ks σ (k.eval env ls) (v.eval env ls) (m.eval env ls)).map (.any,·)
 |.b2s x=>(abd σ (x.eval env ls)).map (·,σ)
 |.bad=>none
def wanted(env ls:List aq):Option (dd×Bool)→Option Bool
 |none=>some true
 |some (j,b)=>match j.eval env ls with
  |.bool t=>some (t==b)
  |.tup []=>some false
  |_=>none
def lY(C:ip)(env:List aq):List cr→List aq→aw→Option (List aq×aw)
 |[],ls,σ=>some (ls,σ)
 |i::r,ls,σ=>match wanted env ls i.guard with
  |some true=>(bJ C env ls σ i.op).bind fun q=>lY C env r (ls++[q.1]) q.2
  |some false=>lY C env r (ls++[.tup []]) σ
  |none=>none
def um(C:ip)(env:List aq):List cr→List aq→List aw→aw→Option (List aq×List aw×aw)
 |[],ls,ss,σ=>some (ls,ss,σ)
 |i::r,ls,ss,σ=>match wanted env ls i.guard with
  |some true=>(bJ C env ls σ i.op).bind fun q=>um C env r (ls++[q.1]) (ss++[σ]) q.2
  |some false=>um C env r (ls++[.tup []]) (ss++[σ]) σ
  |none=>none
def rD(C:ip)(env ls:List aq)(ops:List cr)(ss:List aw):List (Nat×Nat)→Option Unit
 |[]=>some ()
 |(n,j)::r=>match ops[n]?,ss[j]? with
  |some i,some τ=>(bJ C env (ls.take n) τ i.op).bind fun q=>if same q.1 (pr ls n)&&sr q.2 τ then rD C env ls ops ss r else none
  |_,_=>none
def sL(env old ls:List aq):List (Nat×dd)→List aq
 |[]=>env
 |(s,j)::r=>sL (env.set s (j.eval old ls)) old ls r
structure St where
 env:List aq
 st:aw
def clear(env:List aq):List Nat→List aq
 |[]=>env
 |i::r=>clear (env.set i .any) r
def bN(base:Nat)(clr:List Nat)(s:St):St:=
 if s.st.length=base∨clr.head?=some 9999 then ⟨clear s.env clr,s.st⟩
 else ⟨(clear s.env clr).map (cq base s.st),(s.st.take base).map (bA base s.st)⟩
def sm(base:Nat)(clr:List Nat)(f:St→Option (Ex×St)):Nat→St→Option (Ex×St)
 |0,_=>none
 |n+1,s=>(f s).bind fun r=>match r.1 with
  |.nrm=>sm base clr f n (bN base clr r.2)
  |e=>some (e,r.2)
def sK(l:Nat)(env:List aq)(σ:aw):Option (Ex×St):=
 match σ[l]? with
 |some (.pend false none)=>some (.nrm,⟨env,σ.set l .dead⟩)
 |some (.pend false (some e))=>some (e,⟨env,σ.set l .dead⟩)
 |_=>none
def Eb(id ep j q k:Nat)(σ:aw):Option aw:=
 match σ[id]? with
 |some (.arr k' e es)=>if e=ep∧k≠0 then (match es[j]? with
  |some (.agg cs)=>(match cs[q]? with
   |some .ai=>some (σ.set id (.arr k' e (es.set j (.agg (cs.set q (.sl σ.length 0 0 0)))))++[.arr k 0 []])
   |_=>none)
  |some .ai=>if q=0 then some (σ.set id (.arr k' e (es.set j (.sl σ.length 0 0 0)))++[.arr k 0 []]) else none
  |_=>none) else none
 |_=>none
def Db(id ep k:Nat):Nat→aw→Option aw
 |0,σ=>some σ
 |n+1,σ=>(Db id ep k n σ).bind fun σ'=>Eb id ep n 0 k σ'
def HB(p:aq)(off k:Nat)(σ:aw):Option aw:=
 match p with
 |.ptr id ep j o=>Eb id ep j (o+off) k σ
 |.sl id ep o n=>if off=999 then (if o=0 then Db id ep k n σ else none) else Eb id ep (o+off) 0 k σ
 |_=>none
def exec(C:ip)(n:Nat):az→St→Option (Ex×St)
 |.skip,s=>some (.nrm,s)
 |.reg ops os,s=>(lY C s.env ops [] s.st).map fun r=>(.nrm,⟨sL s.env s.env r.1 os,r.2⟩)
 |.regd ops os chk,s=>(um C s.env ops [] [] s.st).bind fun r=>(rD C s.env r.1 ops (r.2.1++[r.2.2]) chk).map fun _=>(.nrm,⟨sL s.env s.env r.1 os,r.2.2⟩)
 |.seq a b,s=>(exec C n a s).bind fun r=>match r.1 with
  |.nrm=>exec C n b r.2
  |e=>some (e,r.2)
 |.cond c a b,s=>match c.eval s.env [] with
  |.bool true=>exec C n a s
  |.bool false=>exec C n b s
  |_=>none
 |.blk id b,s=>(exec C n b s).map fun r=>match r.1 with
  |.ext j=>if j=id then (.nrm,r.2) else r
  |_=>r
 |.loop clr b,s=>sm s.st.length clr (exec C n b) n ⟨clear s.env clr,s.st⟩
 |.exit id,s=>some (.ext id,s)
 |.ret,s=>some (.ret,s)
 |.rng m f site,s=>
  let l:=s.st.length
  if s.env.length=m then
   (I5 C (f.eval s.env []) [.yld l site s.env] (s.st++[.pend false none])).bind fun r=>sK l s.env r.2
  else none
 |.scope b,s=>exec C n b s
 |.lift i off k b,s=>(HB (pr s.env i) off k s.st).bind fun σ=>exec C n b ⟨s.env,σ⟩
def Ll(s:St):NG→Option aq
 |.env i=>some (pr s.env i)
 |.cell a n i=>loadAt a n (pr s.env i) s.st
def Az(s:St):List NG→Option (List aq)
 |[]=>some []
 |r::rs=>(Ll s r).bind fun v=>(Az s rs).map (v::·)
def results(s:St)(l:List NG):Option aq:=(Az s l).map fun vs=>match vs with
 |[v]=>v
 |vs=>.tup vs
def Vv(k:Nat)(l l':List aq):aq:=if l'.map aM=l.map aM then .frs k l' else .any
def rK(k:Nat)(σ:aw)(v:aq):aq:=
 match v with
 |.ai=>.frs k []
 |.sl id ep off len=>match σ[id]? with
  |some (.arr k' e es)=>if k'=k∧e=ep∧off=0∧len≤es.length then Vv k (es.take len) ((es.take len).map (rC (σ.set id .dead))) else .any
  |_=>.any
 |_=>.any
def Bw(σ:aw):aq→aw
 |.sl id ..=>σ.set id .dead
 |_=>σ
def iu(m:C4)(σ:aw)(s:St)(v:aq):aq×aw:=
 match m with
 |.pure=>(rC s.st v,σ)
 |.fresh k=>(match v with
  |.tup (x::vs)=>.tup (rK k s.st x::vs.map (rC (Bw s.st x)))
  |x=>rK k s.st x,σ)
 |.keep=>(v,s.st)
 |.trunc=>if s.st.length=σ.length then (v,s.st) else (cq σ.length s.st v,(s.st.take σ.length).map (bA σ.length s.st))
def enter(f:br)(args:List aq)(σ:aw):St:=
 match f.mode with
 |.pure|.fresh _=>⟨(args.take f.np).map (snap σ)++List.replicate (f.nenv-f.np) .any,[]⟩
 |_=>⟨args.take f.np++List.replicate (f.nenv-f.np) .any,σ⟩
def qV(f:br)(σ:aw)(r:Ex×St):Option (aq×aw):=
 match r.1 with
 |.ext _=>none
 |_=>(results r.2 f.res).map fun v=>iu f.mode σ r.2 v
def pD(C:ip)(n:Nat)(g:br)(args:List aq)(σ:aw):Option (aq×aw):=
 (exec C n g.body (enter g args σ)).bind (qV g σ)
def sH(env:List aq):List Nat→List aq→List aq
 |p::ps,a::es0=>sH (env.set p a) ps es0
 |_,_=>env
structure Code where
 fns:Nat→kW
 prims:Nat→aiM
def lF(l:Nat)(r:Ex×St):Option (aq×aw):=
 match r.2.st[l]? with
 |some (.pend true none)=>
  match r.1 with
  |.nrm=>some (.bool true,r.2.st.set l (.pend false none))
  |e=>some (.bool false,r.2.st.set l (.pend false (some e)))
 |_=>none
def po(C:ip)(n l:Nat)(b:az)(r:Ex×St):Option (aq×aw):=
 match r.1,r.2.st[l]? with
 |.nrm,some (.pend false none)=>(exec C n b ⟨r.2.env,r.2.st.set l (.pend true none)⟩).bind (lF l)
 |_,_=>none
def dV(P:Code):Nat→ip
 |0=>fun _ _ _=>none
 |n+1=>fun f args σ=>match P.fns f with
  |.none=>none
  |.prim k=>P.prims k (dV P n) args σ
  |.fn g=>pD (dV P n) n g args σ
  |.nilfn g=>match args with
   |x::rest=>
    if jK σ x then (pD (dV P n) n g (.emp true::rest) σ).bind fun r=>(pD (dV P n) n g (.emp false::rest) σ).bind fun q=>if same r.1 q.1&&sr r.2 q.2 then some r else none
    else pD (dV P n) n g args σ
   |[]=>none
  |.round g=>match args with
   |.frs l _::rest=>
    match σ[l]? with
    |some (.pend false none)=>
     if (rest.drop g.nenv).length=g.params.length then
      (exec (dV P n) n g.pre ⟨sH (rest.take g.nenv) g.params (rest.drop g.nenv),σ⟩).bind (po (dV P n) n l g.body)
     else none
    |_=>none
   |_=>none
end Go.AM
namespace Go.AM
set_option linter.unusedSectionVars false
section lim
variable {α β:Type}
def jB(F:Nat→Option α):Prop:=∀n r,F n=some r→F (n+1)=some r
open Classical in
noncomputable def lim(F:Nat→Option α):Option α:=if h:∃n r,F n=some r then F (Classical.choose h) else none
theorem jB.le{F:Nat→Option α}(h:jB F){n m:Nat}(a:n≤m){r:α}(b:F n=some r):F m=some r:=by
 induction a with
 |refl=>exact b
 |step _ c=>exact h _ _ c
theorem sy{F:Nat→Option α}(h:jB F)(r:α):lim F=some r↔∃n,F n=some r:=by
 unfold lim;constructor
 ·split
  ·exact fun c=>⟨_,c⟩
  intro c;cases c
 rintro⟨n,e⟩;have b:∃n r,F n=some r:=⟨n,r,e⟩;rw[dif_pos b];obtain⟨g,a⟩:=kT b;have f:=h.le (Nat.le_max_left n (Classical.choose b)) e;have d:=h.le (Nat.le_max_right n (Classical.choose b)) a;rw[f]at d;cases d;exact a
theorem IY{F:Nat→Option α}(h:jB F){n:Nat}{r:α}(a:F n=some r):lim F=some r:=(sy h r).2 ⟨n,a⟩
theorem B3{a b:Option α}(h:∀r,a=some r↔b=some r):a=b:=by
 cases a with
 |none=>cases b with
  |none=>rfl
  |some y=>exact absurd ((h y).2 rfl) (by simp)
 |some x=>exact ((h x).1 rfl).symm
theorem jB.const(x:Option α):jB fun _=>x:=fun _ _ h=>h
theorem bI(x:Option α):lim (fun _=>x)=x:=B3 fun r=>by rw[sy (jB.const x)];exact⟨fun ⟨_,h⟩=>h,fun h=>⟨0,h⟩⟩
theorem jB.bind{F:Nat→Option α}{G:α→Nat→Option β}(a:jB F)(b:∀x,jB (G x)):jB fun n=>(F n).bind fun x=>G x n:=by
 intro n r h;simp only[aL]at h ⊢;obtain⟨x,d,c⟩:=h;exact⟨x,a _ _ d,b _ _ _ c⟩
theorem lB{F:Nat→Option α}{G:α→Nat→Option β}(a:jB F)(b:∀x,jB (G x)) :
  lim (fun n=>(F n).bind fun x=>G x n)=(lim F).bind fun x=>lim (G x):=by
 refine B3 fun r=>?_;rw[sy (a.bind b)];simp only[aL];constructor
 ·rintro⟨n,x,d,c⟩;exact⟨x,IY a d,IY (b x) c⟩
 rintro⟨x,d,c⟩;obtain⟨n,f⟩:=(sy a x).1 d;obtain⟨m,e⟩:=(sy (b x) r).1 c;exact⟨max n m,x,a.le (Nat.le_max_left n m) f,(b x).le (Nat.le_max_right n m) e⟩
theorem jB.map{F:Nat→Option α}(g:α→β)(a:jB F):jB fun n=>(F n).map g:=by
 intro n r h;simp only[aT]at h ⊢;obtain⟨x,c,b⟩:=h;exact⟨x,a _ _ c,b⟩
theorem CG{F:Nat→Option α}(g:α→β)(a:jB F):lim (fun n=>(F n).map g)=(lim F).map g:=by
 refine B3 fun r=>?_;rw[sy (a.map g)];simp only[aT];constructor
 ·rintro⟨n,x,c,b⟩;exact⟨x,IY a c,b⟩
 rintro⟨x,c,b⟩;obtain⟨n,d⟩:=(sy a x).1 c;exact⟨n,x,d,b⟩
theorem jB.shift{F:Nat→Option α}(a:jB F):jB fun n=>F (n+1):=fun n r h=>a _ _ h
theorem Dv{F:Nat→Option α}(a:jB F):lim (fun n=>F (n+1))=lim F:=by
 refine B3 fun r=>?_;rw[sy a.shift,sy a];exact⟨fun ⟨n,h⟩=>⟨n+1,h⟩,fun ⟨n,h⟩=>⟨n,a _ _ h⟩⟩
end lim
def WB(C D:ip):Prop:=∀f args σ r,C f args σ=some r→D f args σ=some r
theorem vA{C D:ip}(h:WB C D){env ls:List aq}{σ:aw}{o:If}{r:aq×aw}(b:bJ C env ls σ o=some r) :
  bJ D env ls σ o=some r:=by
 cases o
 case call f args mat=>
  simp only[bJ,aT]at b ⊢;obtain⟨x,a,rfl⟩:=b;exact⟨x,h _ _ _ _ a,rfl⟩
 case callv f args=>
  simp only[bJ,aT]at b ⊢;obtain⟨x,a,rfl⟩:=b;refine⟨x,?_,rfl⟩;unfold HU at a ⊢;split at a
  ·exact h _ _ _ _ a
  ·split at a
   ·rename_i c;rw[if_pos c];exact h _ _ _ _ a
   cases a
  cases a
 all_goals exact b
theorem s8{C D:ip}(h:WB C D){env:List aq}:∀{b:List cr} {ls:List aq} {σ:aw} {r:List aq×aw},
  lY C env b ls σ=some r→lY D env b ls σ=some r
 |[],_,_,_,a=>a
 |i::b,ls,σ,r,a=>by
  simp only[lY]at a ⊢;cases hw:wanted env ls i.guard with
  |none=>rw[hw]at a;cases a
  |some t=>
   rw[hw]at a;cases t with
   |false=>exact s8 h a
   |true=>
    simp only[aL]at a ⊢;obtain⟨q,c,a⟩:=a;exact⟨q,vA h c,s8 h a⟩
theorem xw{C D:ip}(h:WB C D){env:List aq}:∀{b:List cr} {ls:List aq} {ss:List aw} {σ:aw} {r:List aq×List aw×aw},
  um C env b ls ss σ=some r→um D env b ls ss σ=some r
 |[],_,_,_,_,a=>a
 |i::b,ls,ss,σ,r,a=>by
  simp only[um]at a ⊢;cases hw:wanted env ls i.guard with
  |none=>rw[hw]at a;cases a
  |some t=>
   rw[hw]at a;cases t with
   |false=>exact xw h a
   |true=>
    simp only[aL]at a ⊢;obtain⟨q,c,a⟩:=a;exact⟨q,vA h c,xw h a⟩
theorem yU{C D:ip}(h:WB C D){env ls:List aq}{b:List cr}{ss:List aw}:∀{l:List (Nat×Nat)} {r:Unit},rD C env ls b ss l=some r→rD D env ls b ss l=some r
 |[],_,a=>a
 |(n,j)::l,r,a=>by
  simp only[rD]at a ⊢;split at a
  ·rw[aL]at a ⊢;obtain⟨q,d,a⟩:=a;refine⟨q,vA h d,?_⟩;split at a
   ·rename_i c;rw[if_pos c];exact yU h a
   cases a
  cases a
theorem uD{base:Nat}{clr:List Nat}{f g:St→Option (Ex×St)}(h:∀s r,f s=some r→g s=some r) :
  ∀{n m:Nat} {s:St} {r:Ex×St},n≤m→sm base clr f n s=some r→sm base clr g m s=some r
 |0,_,_,_,_,a=>by cases a
 |n+1,0,_,_,b,_=>by omega
 |n+1,m+1,s,r,b,a=>by
  simp only[sm,aL]at a ⊢;obtain⟨⟨e,q⟩,c,a⟩:=a;refine⟨(e,q),h _ _ c,?_⟩;cases e with
  |nrm=>exact uD h (by omega) a
  |ext _=>exact a
  |ret=>exact a
theorem ig{C D:ip}(h:WB C D){n m:Nat}(j:n≤m):∀{c:az} {s:St} {r:Ex×St},exec C n c s=some r→exec D m c s=some r
 |.skip,_,_,d=>d
 |.exit _,_,_,d=>d
 |.ret,_,_,d=>d
 |.reg l os,s,r,d=>by
  simp only[exec,aT]at d ⊢;obtain⟨x,g,rfl⟩:=d;exact⟨x,s8 h g,rfl⟩
 |.seq a b,s,r,d=>by
  simp only[exec,aL]at d ⊢;obtain⟨⟨e,q⟩,g,d⟩:=d;refine⟨(e,q),ig h j g,?_⟩;cases e with
  |nrm=>exact ig h j d
  |ext _=>exact d
  |ret=>exact d
 |.regd l os p,s,r,d=>by
  simp only[exec]at d ⊢;rw[aL]at d ⊢;obtain⟨x,g,d⟩:=d;refine⟨x,xw h g,?_⟩;rw[aT]at d ⊢;obtain⟨y,v,d⟩:=d;exact⟨y,yU h v,d⟩
 |.cond c a b,s,r,d=>by
  simp only[exec]at d ⊢;split at d
  ·exact ig h j d
  ·exact ig h j d
  cases d
 |.blk id b,s,r,d=>by
  simp only[exec,aT]at d ⊢;obtain⟨x,g,rfl⟩:=d;exact⟨x,ig h j g,rfl⟩
 |.loop clr b,s,r,d=>by
  simp only[exec]at d ⊢;exact uD (fun s r t=>ig h j t) j d
 |.scope b,s,r,d=>by
  simp only[exec]at d ⊢;exact ig h j d
 |.lift i off k b,s,r,d=>by
  simp only[exec]at d ⊢;rw[aL]at d ⊢;obtain⟨x,g,d⟩:=d;exact⟨x,g,ig h j d⟩
 |.rng k f o,s,r,d=>by
  simp only[exec]at d ⊢;split at d
  ·rename_i u;rw[if_pos u];rw[aL]at d ⊢;obtain⟨x,g,d⟩:=d;refine⟨x,?_,d⟩;unfold I5 at g ⊢;split at g<;>first|exact h _ _ _ _ g|cases g
  cases d
theorem mq{C D:ip}(h:WB C D){n m:Nat}(b:n≤m){g:br}{args:List aq}{σ:aw}{r:aq×aw}(a:pD C n g args σ=some r):pD D m g args σ=some r:=by
 unfold pD at a ⊢;rw[aL]at a ⊢;obtain⟨x,c,a⟩:=a;exact⟨x,ig h b c,a⟩
theorem xj{C D:ip}(h:WB C D){n m:Nat}(c:n≤m){l:Nat}{b:az}{q:Ex×St}{r:aq×aw}(a:po C n l b q=some r):po D m l b q=some r:=by
 unfold po at a ⊢;split at a
 ·rename_i e f;rw[aL]at a ⊢;obtain⟨x,d,a⟩:=a;exact⟨x,ig h c d,a⟩
 cases a
def Code.Good(P:Code):Prop:=∀k C D args σ r,WB C D→P.prims k C args σ=some r→P.prims k D args σ=some r
theorem gB{P:Code}(hP:P.Good):∀n,WB (dV P n) (dV P (n+1))
 |0=>fun _ _ _ _ h=>by cases h
 |n+1=>fun f args σ r h=>by
  have a:=gB hP n;simp only[dV]at h ⊢;split at h
  ·cases h
  ·exact hP _ _ _ _ _ _ a h
  ·exact mq a (eM n) h
  ·split at h
   ·split at h
    ·rename_i c;rw[if_pos c];rw[aL]at h ⊢;obtain⟨x,d,b⟩:=h;refine⟨x,mq a (eM n) d,?_⟩;rw[aL]at b ⊢;obtain⟨y,g,b⟩:=b;exact⟨y,mq a (eM n) g,b⟩
    rename_i c;rw[if_neg c];exact mq a (eM n) h
   cases h
  split at h
  ·split at h
   ·split at h
    ·rename_i e;rw[if_pos e];rw[aL]at h ⊢;obtain⟨x,d,b⟩:=h;exact⟨x,ig a (eM n) d,xj a (eM n) b⟩
    cases h
   cases h
  cases h
theorem mf{P:Code}(hP:P.Good)(f:Nat)(args:List aq)(σ:aw):jB fun n=>dV P n f args σ:=
 fun n r h=>gB hP n f args σ r h
noncomputable def cD(P:Code)(f:Nat)(args:List aq)(σ:aw):Option (aq×aw):=lim fun n=>dV P n f args σ
noncomputable def run(P:Code)(c:az)(s:St):Option (Ex×St):=lim fun n=>exec (dV P n) n c s
noncomputable def oT(P:Code)(env:List aq)(is:List cr)(ls:List aq)(σ:aw):Option (List aq×aw):=
 lim fun n=>lY (dV P n) env is ls σ
noncomputable def step(P:Code)(env ls:List aq)(σ:aw)(o:If):Option (aq×aw):=lim fun n=>bJ (dV P n) env ls σ o
section eqs
variable {P:Code} (hP:P.Good)
include hP
theorem oL(c:az)(s:St):jB fun n=>exec (dV P n) n c s:=fun n _ h=>ig (gB hP n) (eM n) h
theorem OZ(env:List aq)(a:List cr)(ls:List aq)(σ:aw):jB fun n=>lY (dV P n) env a ls σ:=
 fun n _ h=>s8 (gB hP n) h
theorem EB(env ls:List aq)(σ:aw)(o:If):jB fun n=>bJ (dV P n) env ls σ o:=fun n _ h=>vA (gB hP n) h
theorem RB(env ls:List aq)(σ:aw):oT P env [] ls σ=some (ls,σ):=bI _
theorem FB(env:List aq)(i:cr)(a:List cr)(ls:List aq)(σ:aw) :
  oT P env (i::a) ls σ=match wanted env ls i.guard with
   |some true=>(step P env ls σ i.op).bind fun q=>oT P env a (ls++[q.1]) q.2
   |some false=>oT P env a (ls++[.tup []]) σ
   |none=>none:=by
 unfold oT;simp only[lY];cases wanted env ls i.guard with
 |none=>exact bI _
 |some t=>cases t with
  |false=>rfl
  |true=>exact lB (G:=fun q n=>lY (dV P n) env a (ls++[q.1]) q.2) (EB hP _ _ _ _) fun x=>OZ hP _ _ _ _
theorem WW(env ls:List aq)(σ:aw)(f:Nat)(args:List dd)(a:Bool) :
  step P env ls σ (.call f args a)=(cD P f (args.map (·.eval env ls)) σ).map (mater a):=by
 unfold step cD;simp only[bJ];exact CG _ (mf hP _ _ _)
noncomputable def jh(P:Code)(f:aq)(args:List aq)(σ:aw):Option (aq×aw):=
 match f with
 |.fn f first cap=>cD P f (first++args++cap) σ
 |.yld l site env=>if pt σ l then cD P site (.frs l []::env++args) σ else none
 |_=>none
theorem Wz(f:aq)(args:List aq)(σ:aw):lim (fun n=>HU (dV P n) f args σ)=jh P f args σ:=by
 cases f
 case yld l site env=>
  simp only[HU,jh];cases pt σ l
  ·exact bI _
  rfl
 all_goals first|rfl|exact bI _
theorem Ri(f:aq)(args:List aq)(σ:aw):jB fun n=>HU (dV P n) f args σ:=by
 intro n r h;unfold HU at h ⊢;split at h
 ·exact gB hP n _ _ _ _ h
 ·split at h
  ·rename_i a;dsimp only;rw[if_pos a];exact gB hP n _ _ _ _ h
  cases h
 cases h
noncomputable def Mr(P:Code)(f:aq)(args:List aq)(σ:aw):Option (aq×aw):=
 match f with
 |.fn f first cap=>cD P f (first++args++cap) σ
 |_=>none
theorem VI(f:aq)(args:List aq)(σ:aw):lim (fun n=>I5 (dV P n) f args σ)=Mr P f args σ:=by
 cases f<;>first|rfl|exact bI _
theorem RZ(f:aq)(args:List aq)(σ:aw):jB fun n=>I5 (dV P n) f args σ:=by
 intro n r h;unfold I5 at h ⊢;split at h
 ·exact gB hP n _ _ _ _ h
 cases h
theorem Qr(env ls:List aq)(σ:aw)(f:dd)(args:List dd) :
  step P env ls σ (.callv f args)=(jh P (f.eval env ls) (args.map (·.eval env ls)) σ).map (mater false):=by
 unfold step;simp only[bJ];rw[CG _ (Ri hP _ _ _),Wz hP]
theorem Xo(s:St):run P .skip s=some (.nrm,s):=bI _
theorem aaz(id:Nat)(s:St):run P (.exit id) s=some (.ext id,s):=bI _
theorem ad2(s:St):run P .ret s=some (.ret,s):=bI _
theorem adi(a:List cr)(os:List (Nat×dd))(s:St) :
  run P (.reg a os) s=(oT P s.env a [] s.st).map fun r=>(.nrm,⟨sL s.env s.env r.1 os,r.2⟩):=by
 unfold run oT;simp only[exec];exact CG _ (OZ hP _ _ _ _)
noncomputable def BY(P:Code)(env:List aq)(is:List cr)(ls:List aq)(ss:List aw)(σ:aw):Option (List aq×List aw×aw):=
 lim fun n=>um (dV P n) env is ls ss σ
theorem Zb(env:List aq)(a:List cr)(ls:List aq)(ss:List aw)(σ:aw):jB fun n=>um (dV P n) env a ls ss σ:=
 fun n _ h=>xw (gB hP n) h
theorem abb(env ls:List aq)(ss:List aw)(σ:aw):BY P env [] ls ss σ=some (ls,ss,σ):=bI _
theorem KW(env:List aq)(i:cr)(a:List cr)(ls:List aq)(ss:List aw)(σ:aw) :
  BY P env (i::a) ls ss σ=match wanted env ls i.guard with
   |some true=>(step P env ls σ i.op).bind fun q=>BY P env a (ls++[q.1]) (ss++[σ]) q.2
   |some false=>BY P env a (ls++[.tup []]) (ss++[σ]) σ
   |none=>none:=by
 unfold BY;simp only[um];cases wanted env ls i.guard with
 |none=>exact bI _
 |some t=>cases t with
  |false=>rfl
  |true=>exact lB (G:=fun q n=>um (dV P n) env a (ls++[q.1]) (ss++[σ]) q.2) (EB hP _ _ _ _) fun x=>Zb hP _ _ _ _ _
noncomputable def sJ(P:Code)(env ls:List aq)(ops:List cr)(ss:List aw)(l:List (Nat×Nat)):Option Unit:=lim fun n=>rD (dV P n) env ls ops ss l
theorem Jc(env ls:List aq)(a:List cr)(ss:List aw)(l:List (Nat×Nat)):jB fun n=>rD (dV P n) env ls a ss l:=fun n _ h=>yU (gB hP n) h
theorem P4(env ls:List aq)(a:List cr)(ss:List aw):sJ P env ls a ss []=some ():=bI _
theorem PA(env ls:List aq)(a:List cr)(ss:List aw)(n j:Nat)(l:List (Nat×Nat)) :
  sJ P env ls a ss ((n,j)::l)=match a[n]?,ss[j]? with
   |some i,some τ=>(step P env (ls.take n) τ i.op).bind fun q=>if same q.1 (pr ls n)&&sr q.2 τ then sJ P env ls a ss l else none
   |_,_=>none:=by
 unfold sJ;simp only[rD];cases a[n]? with
 |none=>exact bI _
 |some i=>cases ss[j]? with
  |none=>exact bI _
  |some τ=>
   dsimp only;rw[lB (G:=fun q k=>if same q.1 (pr ls n)&&sr q.2 τ then rD (dV P k) env ls a ss l else none) (EB hP _ _ _ _) fun q=>?_]
   ·unfold step;congr 1;funext q;split
    ·rfl
    exact bI _
   split
   ·exact Jc hP _ _ _ _ _
   exact jB.const _
theorem XE(b:List cr)(os:List (Nat×dd))(a:List (Nat×Nat))(s:St) :
  run P (.regd b os a) s=(BY P s.env b [] [] s.st).bind fun r=>(sJ P s.env r.1 b (r.2.1++[r.2.2]) a).map fun _=>(.nrm,⟨sL s.env s.env r.1 os,r.2.2⟩):=by
 unfold run BY sJ;simp only[exec];rw[lB (G:=fun r n=>(rD (dV P n) s.env r.1 b (r.2.1++[r.2.2]) a).map fun _=>(Ex.nrm,(⟨sL s.env s.env r.1 os,r.2.2⟩:St))) (Zb hP _ _ _ _ _) fun r=>jB.map _ (Jc hP _ _ _ _ _)];congr 1;funext r;exact CG _ (Jc hP _ _ _ _ _)
theorem aeG(a b:az)(s:St) :
  run P (.seq a b) s=(run P a s).bind fun r=>match r.1 with
   |.nrm=>run P b r.2
   |e=>some (e,r.2):=by
 unfold run;simp only[exec];rw[lB (oL hP a s) (fun r=>?_)]
 ·congr 1;funext r;cases r.1 with
  |nrm=>rfl
  |ext id=>exact bI _
  |ret=>exact bI _
 cases r.1 with
 |nrm=>exact oL hP _ _
 |ext id=>exact jB.const _
 |ret=>exact jB.const _
theorem YQ(c:dd)(a b:az)(s:St) :
  run P (.cond c a b) s=match c.eval s.env [] with
   |.bool true=>run P a s
   |.bool false=>run P b s
   |_=>none:=by
 unfold run;simp only[exec];generalize c.eval s.env []=v;cases v with
 |bool b=>cases b<;>rfl
 |_=>exact bI _
theorem adj(id:Nat)(b:az)(s:St) :
  run P (.blk id b) s=(run P b s).map fun r=>match r.1 with
   |.ext j=>if j=id then (.nrm,r.2) else r
   |_=>r:=by
 unfold run;simp only[exec];exact CG _ (oL hP _ _)
theorem VK(b:az)(s:St):run P (.scope b) s=run P b s:=by
 unfold run;simp only[exec]
theorem aa1(i off k:Nat)(b:az)(s:St):run P (.lift i off k b) s=(HB (pr s.env i) off k s.st).bind fun σ=>run P b ⟨s.env,σ⟩:=by
 unfold run;simp only[exec];cases HB (pr s.env i) off k s.st with
 |none=>exact bI _
 |some σ=>rfl
theorem acs(k:Nat)(f:dd)(a:Nat)(s:St) :
  run P (.rng k f a) s=if s.env.length=k then (Mr P (f.eval s.env []) [.yld s.st.length a s.env] (s.st++[.pend false none])).bind fun r=>sK s.st.length s.env r.2 else none:=by
 unfold run;simp only[exec];split
 ·rw[lB (RZ hP _ _ _) (fun r=>jB.const _),VI hP];congr 1;funext r;exact bI _
 exact bI _
noncomputable def bT(P:Code)(base:Nat)(clr:List Nat)(b:az)(s:St):Option (Ex×St):=
 lim fun n=>sm base clr (exec (dV P n) n b) n s
theorem yD(base:Nat)(clr:List Nat)(b:az)(s:St):jB fun n=>sm base clr (exec (dV P n) n b) n s:=
 fun n _ h=>uD (fun _ _ a=>ig (gB hP n) (eM n) a) (eM n) h
theorem Z8(clr:List Nat)(b:az)(s:St):run P (.loop clr b) s=bT P s.st.length clr b ⟨clear s.env clr,s.st⟩:=by
 unfold run bT;simp only[exec]
theorem ry(base:Nat)(clr:List Nat)(b:az)(s:St) :
  bT P base clr b s=(run P b s).bind fun r=>match r.1 with
   |.nrm=>bT P base clr b (bN base clr r.2)
   |e=>some (e,r.2):=by
 have f:bT P base clr b s=lim fun n=>(exec (dV P n) n b s).bind fun r=>match r.1 with
   |.nrm=>sm base clr (exec (dV P n) n b) n (bN base clr r.2)
   |e=>some (e,r.2):=by
  refine B3 fun q=>?_;have g:jB fun n=>(exec (dV P n) n b s).bind fun r=>match r.1 with
   |.nrm=>sm base clr (exec (dV P n) n b) n (bN base clr r.2)
   |e=>some (e,r.2):=by
   refine jB.bind (G:=fun r n=>match r.1 with
    |.nrm=>sm base clr (exec (dV P n) n b) n (bN base clr r.2)
    |e=>some (e,r.2)) (oL hP b s) fun r=>?_
   cases r.1 with
   |nrm=>exact yD hP _ _ _ _
   |ext id=>exact jB.const _
   |ret=>exact jB.const _
  rw[bT,sy (yD hP base clr b s),sy g];constructor
  ·rintro⟨n,c⟩;cases n with
   |zero=>cases c
   |succ n=>
    refine⟨n+1,?_⟩;rw[sm,aL]at c;obtain⟨⟨e,q⟩,d,a⟩:=c;rw[aL];refine⟨(e,q),d,?_⟩;cases e with
    |nrm=>exact uD (fun _ _ h=>h) (eM n) a
    |ext _=>exact a
    |ret=>exact a
  rintro⟨n,c⟩;refine⟨n+1,?_⟩;rw[aL]at c;obtain⟨⟨e,q⟩,d,a⟩:=c;rw[sm,aL];refine⟨(e,q),ig (gB hP n) (eM n) d,?_⟩;cases e with
  |nrm=>exact uD (fun _ _ h=>ig (gB hP n) (eM n) h) (aF n) a
  |ext _=>exact a
  |ret=>exact a
 rw[f];rw[lB (G:=fun r n=>match r.1 with
   |.nrm=>sm base clr (exec (dV P n) n b) n (bN base clr r.2)
   |e=>some (e,r.2)) (oL hP b s) (fun r=>?_)]
 ·unfold run;congr 1;funext r;cases r.1 with
  |nrm=>rfl
  |ext id=>exact bI _
  |ret=>exact bI _
 cases r.1 with
 |nrm=>exact yD hP _ _ _ _
 |ext id=>exact jB.const _
 |ret=>exact jB.const _
theorem zy{f:Nat}{g:br}(h:P.fns f=.fn g)(args:List aq)(σ:aw) :
  cD P f args σ=(run P g.body (enter g args σ)).bind (qV g σ):=by
 unfold cD;rw[←Dv (mf hP _ _ _)];simp only[dV,h,pD];rw[lB (oL hP _ _) (fun _=>jB.const _)];unfold run;congr 1;funext r;exact bI _
theorem RD(g:br)(args:List aq)(σ:aw):jB fun n=>pD (dV P n) n g args σ:=fun n _ h=>mq (gB hP n) (eM n) h
noncomputable def me(P:Code)(g:br)(args:List aq)(σ:aw):Option (aq×aw):=(run P g.body (enter g args σ)).bind (qV g σ)
theorem DX(g:br)(args:List aq)(σ:aw):lim (fun n=>pD (dV P n) n g args σ)=me P g args σ:=by
 unfold pD me;rw[lB (oL hP _ _) (fun _=>jB.const _)];unfold run;congr 1;funext r;exact bI _
theorem kI{f:Nat}{g:br}(h:P.fns f=.nilfn g)(x:aq)(a:List aq)(σ:aw) :
  cD P f (x::a) σ=if jK σ x then (me P g (.emp true::a) σ).bind fun r=>(me P g (.emp false::a) σ).bind fun q=>if same r.1 q.1&&sr r.2 q.2 then some r else none
   else me P g (x::a) σ:=by
 unfold cD;rw[←Dv (mf hP _ _ _)];simp only[dV,h];generalize jK σ x=v;cases v with
 |false=>exact DX hP _ _ _
 |true=>
   simp only[cw];rw[lB (G:=fun r n=>(pD (dV P n) n g (.emp false::a) σ).bind fun q=>if same r.1 q.1&&sr r.2 q.2 then some r else none) (RD hP _ _ _) (fun r=>jB.bind (RD hP _ _ _) fun q=>jB.const _),DX hP];congr 1;funext r;rw[lB (RD hP _ _ _) (fun q=>jB.const _),DX hP];congr 1;funext q;exact bI _
noncomputable def sg(P:Code)(l:Nat)(b:az)(r:Ex×St):Option (aq×aw):=
 match r.1,r.2.st[l]? with
 |.nrm,some (.pend false none)=>(run P b ⟨r.2.env,r.2.st.set l (.pend true none)⟩).bind (lF l)
 |_,_=>none
theorem Sk(l:Nat)(b:az)(r:Ex×St):jB fun n=>po (dV P n) n l b r:=fun n _ h=>xj (gB hP n) (eM n) h
theorem Wn(l:Nat)(b:az)(r:Ex×St):lim (fun n=>po (dV P n) n l b r)=sg P l b r:=by
 unfold po sg;obtain⟨e,env,σ⟩:=r;cases e with
 |ext _=>exact bI _
 |ret=>exact bI _
 |nrm=>
  dsimp only;generalize σ[l]?=v;have key:lim (fun n=>(exec (dV P n) n b ⟨env,σ.set l (.pend true none)⟩).bind (lF l))=(run P b ⟨env,σ.set l (.pend true none)⟩).bind (lF l):=by
   rw[lB (oL hP _ _) (fun _=>jB.const _)];unfold run;congr 1;funext q;exact bI _
  cases v with
  |none=>exact bI _
  |some o=>cases o with
   |pend b j=>cases b with
    |true=>exact bI _
    |false=>cases j with
     |none=>exact key
     |some _=>exact bI _
   |_=>exact bI _
theorem EQ{f:Nat}{g:yH}(h:P.fns f=.round g)(l:Nat)(e a:List aq)(σ:aw) :
  cD P f (.frs l e::a) σ=match σ[l]? with
   |some (.pend false none)=>if (a.drop g.nenv).length=g.params.length then
     (run P g.pre ⟨sH (a.take g.nenv) g.params (a.drop g.nenv),σ⟩).bind (sg P l g.body)
    else none
   |_=>none:=by
 unfold cD;rw[←Dv (mf hP _ _ _)];simp only[dV,h];generalize σ[l]?=v;have key:∀s':St,lim (fun n=>(exec (dV P n) n g.pre s').bind (po (dV P n) n l g.body))=(run P g.pre s').bind (sg P l g.body):=fun s'=>by
  rw[lB (G:=fun r n=>po (dV P n) n l g.body r) (oL hP _ _) (fun r=>Sk hP _ _ _)];unfold run;congr 1;funext r;exact Wn hP _ _ _
 cases v with
 |none=>exact bI _
 |some o=>cases o with
  |pend b j=>cases b with
   |true=>exact bI _
   |false=>cases j with
    |none=>
     dsimp only;split
     ·exact key _
     exact bI _
    |some e=>exact bI _
  |_=>exact bI _
theorem wV{f k n:Nat}(h:P.fns f=.prim k){args:List aq}{σ:aw}{r:aq×aw}(a:P.prims k (dV P n) args σ=some r) :
  cD P f args σ=some r:=by
 refine IY (mf hP _ _ _) (n:=n+1) ?_;simp only[dV,h];exact a
end eqs
end Go.AM
namespace Go.AM
inductive Hd where
 |arr (k ep:Nat)
 |map
 |pend
 |it
 |dead
 deriving DecidableEq
def hd(σ:aw)(id:Nat):Hd:=match σ[id]? with
 |some (.arr k ep _)=>.arr k ep
 |some (.map _)=>.map
 |some (.pend _ _)=>.pend
 |some (.it _ _)=>.it
 |some (.mit _ _ _)=>.it
 |some .dead=>.dead
 |none=>.dead
structure mv where
 fn:FuncId
 tmps:Array Value
 params:Array Tmp
 assign:Go.Code
 body:Go.Code
 defers:Nat
structure dk where
 sld:Nat→Prop
 bor:Nat→Prop
 H:Nat→Hd
 N:Nat
 place:Nat→Option Nat
 room:Nat→Nat
 loops:Nat→mv
def dk.still(c:dk)(b:Bool):dk:={ c with bor:=if b then c.bor else c.sld,H:=fun _=>.dead,N:=0 }
abbrev ajo:=Nat→mv→List Nat→Prop
structure dm where
 fm:Nat→FuncId
 site:ajo
 glob:Nat→Option aq
 tabs:World→(Nat→Prop)→Prop
 tabs_ext:∀w w' (s s':Nat→Prop),tabs w s→(∀b,s b→s' b)→(∀b,s b→w'.heap[b]?=w.heap[b]?)→tabs w' s'
variable (M:dm) (w:World)
inductive R:dk→aq→Value→Prop
 |any {c v}:R c .any v
 |emp {c b cap} {a:Option Addr}:a.isNone=b→R c (.emp b) (.slice a 0 cap)
 |int {c k n}:R c (.int k n) (.int k n)
 |bool {c b}:R c (.bool b) (.bool b)
 |str {c s} {t:ByteArray}:t.data.toList=s→R c (.str s) (.string t)
 |nilp {c}:R c .nilp (.pointer none)
 |nilf {c}:R c .nilf .nilFunc
 |nilm {c}:R c .nilm (.map none)
 |agg {c cs} {vs:Array Value} (f:Nat→Value):vs.size=cs.length→(∀i (h:i<cs.length),vs[i]?=some (f i)∧(f i).oneCell'=true) →
   (∀i (h:i<cs.length),aM cs[i]≤1∧isAgg cs[i]=false)→(∀i (h:i<cs.length),R c cs[i] (f i))→R c (.agg cs) (.agg vs)
 |tup {c cs} {vs:Array Value} (f:Nat→Value):vs.size=cs.length→(∀i (h:i<cs.length),vs[i]?=some (f i)) →
   (∀i (h:i<cs.length),R c cs[i] (f i))→R c (.tup cs) (.tuple vs)
 |aa {c b xs cap} {a:Addr} (K:Nat) (f:Nat→Nat→Value):(if b then c.bor a.block else c.sld a.block)→a.spot=none→xs.length≤cap→K≠0 →
   (∀x∈xs,aM x=K)→(∀i j,i<xs.length→j<K→w.cell? ⟨a.block,a.off+i*K+j,none⟩=some (f i j)∧(f i j).oneCell'=true) →
   (∀i (hi:i<xs.length) j (hj:j<(cellsOf xs[i]).length),R (c.still b) (cellsOf xs[i])[j] (f i j))→R c (.aa b xs) (.slice (some a) xs.length cap)
 |imm0 {c b cap} {a:Option Addr}:R c (.aa b []) (.slice a 0 cap)
 |lst {c xs cap} {a:Addr} (K:Nat) (f:Nat→Nat→Value):c.sld a.block→a.spot=none→xs.length≤cap→K≠0 →
   (∀x∈xs,aM x=K)→(∀i j,i<xs.length→j<K→w.cell? ⟨a.block,a.off+i*K+j,none⟩=some (f i j)∧(f i j).oneCell'=true) →
   (∀i (hi:i<xs.length) j (hj:j<(cellsOf xs[i]).length),R c (cellsOf xs[i])[j] (f i j))→R c (.lst xs) (.slice (some a) xs.length cap)
 |lst0 {c cap} {a:Option Addr}:R c (.lst []) (.slice a 0 cap)
 |ai {c} {a:Option Addr}:R c .ai (.slice a 0 0)
 |sl {c id ep off len cap k blk}:id<c.N→c.H id=.arr k ep→c.place id=some blk→len≤cap→(off+cap)*k≤c.room id →
   R c (.sl id ep off len) (.slice (some ⟨blk,off*k,none⟩) len cap)
 |sl0 {c id ep off k} {a:Option Addr}:id<c.N→c.H id=.arr k ep→R c (.sl id ep off 0) (.slice a 0 0)
 |slOld {c id ep off len v}:v.oneCell'=true→id<c.N→(∀k e,c.H id=.arr k e→ep<e)→(c.H id≠.map)→(c.H id≠.pend)→R c (.sl id ep off len) v
 |ptr {c id ep i off k blk}:id<c.N→c.H id=.arr k ep→c.place id=some blk→R c (.ptr id ep i off) (.pointer (some ⟨blk,i*k+off,none⟩))
 |ptrOld {c id ep i off v}:v.oneCell'=true→id<c.N→(∀k e,c.H id=.arr k e→ep<e)→(c.H id≠.map)→(c.H id≠.pend)→R c (.ptr id ep i off) v
 |asl {c id ep i off n k blk}:id<c.N→c.H id=.arr k ep→c.place id=some blk→R c (.asl id ep i off n) (.slice (some ⟨blk,i*k+off,none⟩) n n)
 |aslOld {c id ep i off n v}:id<c.N→(∀k e,c.H id=.arr k e→ep<e)→(c.H id≠.map)→(c.H id≠.pend)→R c (.asl id ep i off n) v
 |cptr {c b x off} {o blk:Nat} (f:Nat→Value):(if b then c.bor blk else c.sld blk)→aM x≠0 →
   (∀j,j<aM x→w.cell? ⟨blk,o+j,none⟩=some (f j)∧(f j).oneCell'=true) →
   (∀j (hj:j<(cellsOf x).length),R (if b then c else c.still false) (cellsOf x)[j] (f j))→R c (.cptr b x off) (.pointer (some ⟨blk,o+off,none⟩))
 |fn {c n first cap} {fs cs:Array Value} (f g:Nat→Value):fs.size=first.length→cs.size=cap.length→(∀i (h:i<first.length),fs[i]?=some (f i))→(∀i (h:i<cap.length),cs[i]?=some (g i)) →
   (∀i (h:i<first.length),R c first[i] (f i))→(∀i (h:i<cap.length),R c cap[i] (g i))→R c (.fn n first cap) (.func (.func (M.fm n)) fs cs)
 |imap {c b es} {r clock:Nat} {en:Array MapEntry} (f g:Nat→Value):(if b then c.bor r else c.sld r)→w.heap[r]?=some (.map en clock)→en.size=es.length →
   (∀i (h:i<es.length),∃e,en[i]?=some e∧e.key=f i∧e.val=g i∧lX (es[i]).1=true∧e.born<clock)→(∀i (h:i<es.length),R (c.still b) (es[i]).1 (f i))→(∀i (h:i<es.length),R (c.still b) (es[i]).2 (g i)) →
   R c (.imap b es) (.map (some r))
 |mp {c id blk}:id<c.N→c.H id=.map→c.place id=some blk→R c (.mp id) (.map (some blk))
 |mpOld {c id v}:v.oneCell'=true→id<c.N→c.H id=.dead→R c (.mp id) v
 |yld {c l site env em blk} (f:Nat→Value):l<c.N→c.H l=.pend→c.place l=some blk→M.site site (c.loops l) em→em.length=env.length →
   (∀i (h:i<em.length) (hx:i<env.length),(c.loops l).tmps[em[i]]?=some (f i))→(∀i (hx:i<env.length),R c env[i] (f i))→R c (.yld l site env) (.func (.yield blk) #[] #[])
 |yldOld {c l site env v}:v.oneCell'=true→l<c.N→c.H l=.dead→R c (.yld l site env) v
 |it {c id blk}:id<c.N→c.H id=.it→c.place id=some blk→R c (.it id) (.pointer (some ⟨blk,0,none⟩))
 |itOld {c id v}:v.oneCell'=true→id<c.N→c.H id=.dead→R c (.it id) v
def Hd.le:Hd→Hd→Prop
 |a,b=>a=b∨b=.dead∨(∃k e e',a=.arr k e∧b=.arr k e'∧e<e')
structure Ext (c:dk) (w:World) (c':dk) (w':World):Prop where
 sld:∀b,c.sld b→c'.sld b
 bor:∀b,c.bor b→c'.bor b
 rest:∀b,c.bor b∨c.sld b→w'.heap[b]?=w.heap[b]?
 N:c.N≤c'.N
 head:∀id,id<c.N→(c.H id).le (c'.H id)
 place:∀id,id<c.N→c.H id=c'.H id→c.H id≠.dead→c'.place id=c.place id∧c'.room id=c.room id∧c'.loops id=c.loops id
variable {M w}
theorem Ext.refl(c:dk)(w:World):Ext c w c w:=
 ⟨fun _ h=>h,fun _ h=>h,fun _ _=>rfl,aF _,fun _ _=>.inl rfl,fun _ _ _ _=>⟨rfl,rfl,rfl⟩⟩
theorem Hd.le_refl(a:Hd):a.le a:=.inl rfl
theorem Hd.le_dead{b:Hd}(h:Hd.le .dead b):b=.dead:=by
 rcases h with h|h|⟨k,e,a,h,_⟩
 ·exact h.symm
 ·exact h
 cases h
theorem Ext.still{c c':dk}{w w':World}(h:Ext c w c' w')(b:Bool):Ext (c.still b) w (c'.still b) w' where
 sld:=h.sld
 bor:=by
  intro x a;cases b
  ·exact h.sld x a
  exact h.bor x a
 rest:=by
  intro x a;cases b
  ·exact h.rest x (.inr (a.elim id id))
  exact h.rest x a
 N:=aF _
 head:=fun id hid=>absurd hid (da _)
 place:=fun id hid=>absurd hid (da _)
theorem p7{w w':World}{b:Nat}(h:w'.heap[b]?=w.heap[b]?)(off:Nat):w'.cell? ⟨b,off,none⟩=w.cell? ⟨b,off,none⟩:=by
 simp only[World.cell?,h]
theorem R.ext{c c':dk}{w':World}{v:aq}{x:Value}(h:R M w c v x)(u:Ext c w c' w'):R M w' c' v x:=by
 induction h generalizing c' with
 |any=>exact .any
 |emp h=>exact .emp h
 |int=>exact .int
 |bool=>exact .bool
 |str h=>exact .str h
 |nilp=>exact .nilp
 |nilf=>exact .nilf
 |nilm=>exact .nilm
 |agg f p t z _ G=>exact .agg f p t z fun i hi=>G i hi u
 |tup f p t _ G=>exact .tup f p t fun i hi=>G i hi u
 |@aa c b xs cap a K f p t z A L Q _ G=>
  have N:w'.heap[a.block]?=w.heap[a.block]?:=u.rest _ (by cases b<;>simp at p<;>simp[p]);refine .aa K f ?_ t z A L (fun i j hi F=>by rw[p7 N];exact Q i j hi F) fun i hi j F=>G i hi j F (u.still b);cases b
  ·exact u.sld _ p
  exact u.bor _ p
 |imm0=>exact .imm0
 |@lst c xs cap a K f p t z A L Q _ G=>
  have N:w'.heap[a.block]?=w.heap[a.block]?:=u.rest _ (.inr p);exact .lst K f (u.sld _ p) t z A L (fun i j hi F=>by rw[p7 N];exact Q i j hi F) fun i hi j F=>G i hi j F u
 |lst0=>exact .lst0
 |ai=>exact .ai
 |@sl c id ep off len cap k blk p t z A L=>
  have d:=u.head id p;have q:=bu p u.N;by_cases E:c.H id=c'.H id
  ·obtain⟨H,S,_⟩:=u.place id p E (by rw[t];simp);exact .sl q (E▸t) (H▸z) A (S▸L)
  rw[t]at d E;rcases d with d|d|⟨D,e,C,s,m,y⟩
  ·exact absurd d E
  ·exact .slOld rfl q (by rw[d];simp) (by rw[d];simp) (by rw[d];simp)
  cases s;exact .slOld rfl q (by rw[m];rintro k e ⟨⟩;exact y) (by rw[m];simp) (by rw[m];simp)
 |@sl0 c id ep off k a p t=>
  have d:=u.head id p;have q:=bu p u.N;rw[t]at d;rcases d with d|d|⟨D,e,C,s,m,y⟩
  ·exact .sl0 q d.symm
  ·exact .slOld rfl q (by rw[d];simp) (by rw[d];simp) (by rw[d];simp)
  cases s;exact .slOld rfl q (by rw[m];rintro k e ⟨⟩;exact y) (by rw[m];simp) (by rw[m];simp)
 |@slOld c id ep off len v I p t z A=>
  have d:=u.head id p;have q:=bu p u.N;refine .slOld I q ?_ ?_ ?_
  ·intro k e B;rcases d with d|d|⟨D,J,C,s,m,y⟩
   ·exact t k e (d▸B)
   ·rw[d]at B;cases B
   rw[m]at B;cases B;exact mD (t _ _ s) y
  ·rcases d with d|d|⟨D,J,C,s,m,y⟩
   ·rw[←d];exact z
   ·rw[d];simp
   rw[m];simp
  rcases d with d|d|⟨D,J,C,s,m,y⟩
  ·rw[←d];exact A
  ·rw[d];simp
  rw[m];simp
 |@ptr c id ep i off k blk p t z=>
  have d:=u.head id p;have q:=bu p u.N;by_cases E:c.H id=c'.H id
  ·obtain⟨H,S,_⟩:=u.place id p E (by rw[t];simp);exact .ptr q (E▸t) (H▸z)
  rw[t]at d E;rcases d with d|d|⟨D,e,C,s,m,y⟩
  ·exact absurd d E
  ·exact .ptrOld rfl q (by rw[d];simp) (by rw[d];simp) (by rw[d];simp)
  cases s;exact .ptrOld rfl q (by rw[m];rintro k e ⟨⟩;exact y) (by rw[m];simp) (by rw[m];simp)
 |@ptrOld c id ep i off v I p t z A=>
  have d:=u.head id p;have q:=bu p u.N;refine .ptrOld I q ?_ ?_ ?_
  ·intro k e B;rcases d with d|d|⟨D,J,C,s,m,y⟩
   ·exact t k e (d▸B)
   ·rw[d]at B;cases B
   rw[m]at B;cases B;exact mD (t _ _ s) y
  ·rcases d with d|d|⟨D,J,C,s,m,y⟩
   ·rw[←d];exact z
   ·rw[d];simp
   rw[m];simp
  rcases d with d|d|⟨D,J,C,s,m,y⟩
  ·rw[←d];exact A
  ·rw[d];simp
  rw[m];simp
 |@asl c id ep i off n k blk p t z=>
  have d:=u.head id p;have q:=bu p u.N;by_cases E:c.H id=c'.H id
  ·obtain⟨H,S,_⟩:=u.place id p E (by rw[t];simp);exact .asl q (E▸t) (H▸z)
  rw[t]at d E;rcases d with d|d|⟨D,e,C,s,m,y⟩
  ·exact absurd d E
  ·exact .aslOld q (by rw[d];simp) (by rw[d];simp) (by rw[d];simp)
  cases s;exact .aslOld q (by rw[m];rintro k e ⟨⟩;exact y) (by rw[m];simp) (by rw[m];simp)
 |@aslOld c id ep i off n v p t z A=>
  have d:=u.head id p;have q:=bu p u.N;refine .aslOld q ?_ ?_ ?_
  ·intro k e B;rcases d with d|d|⟨D,J,C,s,m,y⟩
   ·exact t k e (d▸B)
   ·rw[d]at B;cases B
   rw[m]at B;cases B;exact mD (t _ _ s) y
  ·rcases d with d|d|⟨D,J,C,s,m,y⟩
   ·rw[←d];exact z
   ·rw[d];simp
   rw[m];simp
  rcases d with d|d|⟨D,J,C,s,m,y⟩
  ·rw[←d];exact A
  ·rw[d];simp
  rw[m];simp
 |@cptr c b x off o blk f p t z _ G=>
  have N:w'.heap[blk]?=w.heap[blk]?:=u.rest _ (by cases b<;>simp at p<;>simp[p]);refine .cptr f ?_ t (fun j F=>by rw[p7 N];exact z j F) ?_
  ·cases b
   ·exact u.sld _ p
   exact u.bor _ p
  intro j F;cases b
  ·exact G j F (u.still false)
  exact G j F u
 |fn f g p t z A _ _ O P=>exact .fn f g p t z A (fun i hi=>O i hi u) fun i hi=>P i hi u
 |@imap c b es r U en f g p t z A _ _ O P=>
  have N:w'.heap[r]?=w.heap[r]?:=u.rest _ (by cases b<;>simp at p<;>simp[p]);refine .imap f g ?_ (N▸t) z A (fun i hi=>O i hi (u.still b)) fun i hi=>P i hi (u.still b);cases b
  ·exact u.sld _ p
  exact u.bor _ p
 |@mp c id blk p t z=>
  have d:=u.head id p;have q:=bu p u.N;rcases d with d|d|⟨D,e,C,s,m,y⟩
  ·obtain⟨H,S,_⟩:=u.place id p d (by rw[t];simp);exact .mp q (d▸t) (H▸z)
  ·exact .mpOld rfl q d
  rw[t]at s;cases s
 |@mpOld c id v I p t=>
  have d:=u.head id p;rw[t]at d;exact .mpOld I (bu p u.N) (Hd.le_dead d)
 |@yld c l T env em blk f p t z A L Q _ G=>
  have d:=u.head l p;have q:=bu p u.N;rcases d with d|d|⟨D,e,C,s,m,y⟩
  ·obtain⟨H,_,V⟩:=u.place l p d (by rw[t];simp);exact .yld f q (d▸t) (H▸z) (V▸A) L (V▸Q) fun i hi=>G i hi u
  ·exact .yldOld rfl q d
  rw[t]at s;cases s
 |@yldOld c l T env v I p t=>
  have d:=u.head l p;rw[t]at d;exact .yldOld I (bu p u.N) (Hd.le_dead d)
 |@it c id blk p t z=>
  have d:=u.head id p;have q:=bu p u.N;rcases d with d|d|⟨D,e,C,s,m,y⟩
  ·obtain⟨H,S,_⟩:=u.place id p d (by rw[t];simp);exact .it q (d▸t) (H▸z)
  ·exact .itOld rfl q d
  rw[t]at s;cases s
 |@itOld c id v I p t=>
  have d:=u.head id p;rw[t]at d;exact .itOld I (bu p u.N) (Hd.le_dead d)
end Go.AM
namespace Go.AM
variable (M:dm) (w:World)
def uF:Ex→Option Go.Code
 |.nrm=>none
 |.ext id=>some (.exit id)
 |.ret=>some .ret
def rU(r:mv)(st:LoopState)(p:Option Go.Code):Loop:=
 { state:=st,pending:=p,fn:=r.fn,tmps:=r.tmps,params:=r.params,assign:=r.assign,body:=r.body,defers:=r.defers }
def wF(c:dk)(id:Nat):Obj→Prop
 |.arr k _ es=>k≠0∧(∀x∈es,aM x=k)∧(c.place id=none→es=[])∧∀b,c.place id=some b →
   ∃(cs:Array Value) (T:TypeId) (f:Nat→Nat→Value),w.heap[b]?=some (.cells cs T (0,0))∧es.length*k≤cs.size∧c.room id=cs.size ∧
    (∀i j,i<es.length→j<k→cs[i*k+j]?=some (f i j)∧(f i j).oneCell'=true) ∧
    ∀i (hi:i<es.length) j (hj:j<(cellsOf es[i]).length),R M w c (cellsOf es[i])[j] (f i j)
 |.map es=>∃(b clock:Nat) (en:Array MapEntry) (f g:Nat→Value),c.place id=some b∧w.heap[b]?=some (.map en clock)∧en.size=es.length ∧
   (∀i (h:i<es.length),∃e,en[i]?=some e∧e.key=f i∧e.val=g i∧lX (es[i]).1=true∧e.born<clock) ∧
   (∀i (h:i<es.length),R M w c (es[i]).1 (f i))∧(∀i (h:i<es.length),R M w c (es[i]).2 (g i))
 |.pend busy j=>∃b,c.place id=some b ∧
   w.heap[b]?=some (.loop (match busy,j with
    |true,_=>rU (c.loops id) .busy none
    |false,none=>rU (c.loops id) .ready none
    |false,some e=>rU (c.loops id) .done (uF e)))
 |.it s pos=>∃(b:Nat) (t:ByteArray),c.place id=some b∧t.data.toList=s∧w.heap[b]?=some (.stringIter t pos)
 |.mit es cur k=>∃(b r last cl:Nat) (seen:Array Nat) (en:Array MapEntry) (f g:Nat→Value),c.place id=some b∧w.heap[b]?=some (.mapIter (some r) cl seen last)∧c.sld r∧w.heap[r]?=some (.map en cl)∧en.size=es.length ∧
   (∀i (h:i<es.length),∃e,en[i]?=some e∧e.key=f i∧e.val=g i∧lX (es[i]).1=true∧e.born<cl) ∧
   (∀i (h:i<es.length),R M w (c.still false) (es[i]).1 (f i))∧(∀i (h:i<es.length),R M w (c.still false) (es[i]).2 (g i)) ∧
   (en.toList.filter fun e=>!decide (e.born∈seen)).length≤k∧(seen.isEmpty=false→last=cl) ∧
   (∀e,cur=some e→last=cl∧∃st q,seen.back?=some st∧en.find? (fun q=>q.born==st)=some q∧R M w (c.still false) e.1 q.key∧R M w (c.still false) e.2 q.val)
 |.dead=>True
structure fd (c:dk) (σ:aw):Prop where
 H:c.H=hd σ
 N:c.N=σ.length
 sb:∀b,c.sld b→c.bor b
 low:∀b,c.bor b→b<w.heap.size
 plow:∀id b,c.H id≠.dead→c.place id=some b→b<w.heap.size∧¬c.bor b
 inj:∀i j b,c.H i≠.dead→c.H j≠.dead→c.place i=some b→c.place j=some b→i=j
 obj:∀id o,σ[id]?=some o→wF M w c id o
variable {M w}
theorem wF.ext{c c':dk}{w':World}{id:Nat}{o:Obj}(h:wF M w c id o)(l:Ext c w c' w')
  (v:o≠.dead→c'.place id=c.place id∧c'.room id=c.room id∧c'.loops id=c.loops id) (u:o≠.dead→∀b,c.place id=some b→w'.heap[b]?=w.heap[b]?):wF M w' c' id o:=by
 cases o with
 |dead=>trivial
 |arr k ep es=>
  obtain⟨H,I,J,K⟩:=h;obtain⟨d,E,_⟩:=v (by simp);refine⟨H,I,fun N=>J (d▸N),fun b p=>?_⟩;rw[d]at p;obtain⟨cs,T,f,a,m,n,y,z⟩:=K b p;exact⟨cs,T,f,by rw[u (by simp) b p];exact a,m,E▸n,y,fun i hi j L=>(z i hi j L).ext l⟩
 |map es=>
  obtain⟨b,A,en,f,g,a,m,n,y,z,D⟩:=h;obtain⟨d,E,_⟩:=v (by simp);exact⟨b,A,en,f,g,d▸a,by rw[u (by simp) b a];exact m,n,y,fun i hi=>(z i hi).ext l,fun i hi=>(D i hi).ext l⟩
 |pend X j=>
  obtain⟨b,a,m⟩:=h;obtain⟨d,_,F⟩:=v (by simp);exact⟨b,d▸a,by rw[u (by simp) b a,m,F]⟩
 |mit es G k=>
  obtain⟨b,r,x,A,seen,en,f,g,a,m,n,y,z,D,U,V,W,B,C⟩:=h;obtain⟨d,_,_⟩:=v (by simp);refine⟨b,r,x,A,seen,en,f,g,d▸a,by rw[u (by simp) b a];exact m,l.sld _ n,by rw[l.rest _ (.inr n)];exact y,z,D,fun i hi=>(U i hi).ext (l.still false),fun i hi=>(V i hi).ext (l.still false),W,B,fun e h=>?_⟩;obtain⟨O,st,q,P,Q,R,S⟩:=C e h;exact⟨O,st,q,P,Q,R.ext (l.still false),S.ext (l.still false)⟩
 |it s pos=>
  obtain⟨b,t,a,m,n⟩:=h;obtain⟨d,_,F⟩:=v (by simp);exact⟨b,t,d▸a,m,by rw[u (by simp) b a,n]⟩
theorem fe{σ:aw}{id:Nat}{o:Obj}(h:σ[id]?=some o):hd σ id=match o with
  |.arr k ep _=>.arr k ep
  |.map _=>.map
  |.pend _ _=>.pend
  |.it _ _=>.it
  |.mit _ _ _=>.it
  |.dead=>.dead:=by
 simp only[hd,h];cases o<;>rfl
theorem aeh{σ:aw}{id:Nat}(h:hd σ id≠.dead):∃o,σ[id]?=some o∧o≠.dead:=by
 cases hs:σ[id]? with
 |none=>exact absurd (by unfold hd;rw[hs]) h
 |some o=>
  refine⟨o,rfl,fun a=>?_⟩;subst a;exact h (by unfold hd;rw[hs])
theorem IB{σ:aw}{id:Nat}(h:hd σ id≠.dead):id<σ.length:=by
 obtain⟨o,a,_⟩:=aeh h;exact (ak.1 a).1
theorem rH{σ:aw}{id:Nat}{o:Obj}(h:σ[id]?=some o):hd σ id=.dead↔o=.dead:=by
 rw[fe h];cases o<;>simp
theorem Ext.heap{c:dk}{w':World}(h:w'.heap=w.heap):Ext c w c w':=
 ⟨fun _ h=>h,fun _ h=>h,fun _ _=>by rw[h],aF _,fun _ _=>.inl rfl,fun _ _ _ _=>⟨rfl,rfl,rfl⟩⟩
theorem fd.heap{c:dk}{σ:aw}{w':World}(a:fd M w c σ)(h:w'.heap=w.heap):fd M w' c σ:=
 ⟨a.H,a.N,a.sb,by rw[h];exact a.low,by rw[h];exact a.plow,a.inj,fun id o d=>(a.obj id o d).ext (.heap h) (fun _=>⟨rfl,rfl,rfl⟩) fun _ b _=>by rw[h]⟩
theorem Ext.trans{c c' o:dk}{w w' p:World}(h:Ext c w c' w')(k:Ext c' w' o p):Ext c w o p where
 sld:=fun b i=>k.sld b (h.sld b i)
 bor:=fun b i=>k.bor b (h.bor b i)
 rest:=fun b i=>by rw[k.rest b (i.imp (h.bor b) (h.sld b)),h.rest b i]
 N:=bH h.N k.N
 head:=fun id hid=>by
  have d:=h.head id hid;have a:=k.head id (bu hid h.N);rcases d with d|d|⟨q,e,u,j,l,m⟩
  ·rw[d];exact a
  ·rw[d]at a;exact .inr (.inl (Hd.le_dead a))
  rcases a with a|a|⟨A,f,v,n,r,s⟩
  ·exact .inr (.inr ⟨q,e,u,j,a▸l,m⟩)
  ·exact .inr (.inl a)
  rw[l]at n;cases n;exact .inr (.inr ⟨q,e,v,j,r,mD m s⟩)
 place:=fun id hid g hd=>by
  have d:=h.head id hid;have a:=k.head id (bu hid h.N);have t:c.H id=c'.H id:=by
   rcases d with d|d|⟨q,e,u,j,l,m⟩
   ·exact d
   ·rw[d]at a;rw[Hd.le_dead a]at g;exact absurd g hd
   rcases a with a|a|⟨A,f,v,n,r,s⟩
   ·rw[←a,j,l]at g;cases g;exact absurd m (dG _)
   ·rw[a]at g;exact absurd g hd
   rw[l]at n;cases n;rw[j,r]at g;cases g;exact absurd (mD m s) (dG _)
  obtain⟨x,y,z⟩:=h.place id hid t hd;obtain⟨B,C,D⟩:=k.place id (bu hid h.N) (t▸g) (t▸hd);exact⟨B.trans x,C.trans y,D.trans z⟩
def lg(w:World)(o:Go.Obj):World:={ w with heap:=w.heap.push o }
def dk.grow(c:dk)(σ:aw)(p:Option Nat)(room:Nat)(lp:mv):dk:=
 { c with H:=hd σ,N:=σ.length,place:=fun i=>if i=c.N then p else c.place i,room:=fun i=>if i=c.N then room else c.room i,loops:=fun i=>if i=c.N then lp else c.loops i }
theorem uA{σ:aw}{o:Obj}{id:Nat}(h:id<σ.length):hd (σ++[o]) id=hd σ id:=by
 unfold hd;rw[aQ h]
theorem nM{σ:aw}{o:Obj}:(σ++[o])[σ.length]?=some o:=by simp
theorem Ext.grow{c:dk}{σ:aw}{w':World}(a:fd M w c σ)(o:Obj)(p:Option Nat)(room:Nat)(f:mv)(e:∀b,b<w.heap.size→w'.heap[b]?=w.heap[b]?) :
  Ext c w (c.grow (σ++[o]) p room f) w' where
 sld:=fun _ h=>h
 bor:=fun _ h=>h
 rest:=fun b d=>e b (a.low b (d.elim id (a.sb b)))
 N:=by simp[dk.grow,a.N]
 head:=fun id hid=>by rw[a.N]at hid;simp only[dk.grow,a.H];rw[uA hid];exact .inl rfl
 place:=fun id hid _ _=>by
  have:id≠c.N:=Nat.ne_of_lt hid;simp[dk.grow,this]
theorem fd.grow{c:dk}{σ:aw}{w':World}(a:fd M w c σ)(o:Obj)(p:Option Nat)(room:Nat)(u:mv)
  (v:∀b,b<w.heap.size→w'.heap[b]?=w.heap[b]?) (x:w.heap.size≤w'.heap.size) (t:∀b,p=some b→w.heap.size≤b∧b<w'.heap.size)
  (q:wF M w' (c.grow (σ++[o]) p room u) σ.length o):fd M w' (c.grow (σ++[o]) p room u) (σ++[o]) where
 H:=rfl
 N:=rfl
 sb:=a.sb
 low:=fun b k=>bu (a.low b k) x
 plow:=fun id b hd k=>by
  simp only[dk.grow]at hd k ⊢;split at k
  ·obtain⟨m,l⟩:=t b k;exact⟨l,fun y=>absurd (a.low b y) (by omega)⟩
  rename_i g;have f:id<σ.length:=by
   have:=IB hd;rw[a.N]at g;simp at this;omega
  rw[uA f,←a.H]at hd;obtain⟨m,l⟩:=a.plow id b hd k;exact⟨bu m x,l⟩
 inj:=fun i j b hi r e d=>by
  simp only[dk.grow]at hi r e d;have key:∀i,hd (σ++[o]) i≠.dead→i≠c.N→c.H i≠.dead:=fun i hi g=>by
   have f:i<σ.length:=by
    have:=IB hi;rw[a.N]at g;simp at this;omega
   rwa [uA f,←a.H]at hi
  split at e
  ·split at d
   ·omega
   rename_i m l;have:=(a.plow j b (key j r l) d).1;have:=(t b e).1;omega
  rename_i m;split at d
  ·have:=(a.plow i b (key i hi m) e).1;have:=(t b d).1;omega
  rename_i l;exact a.inj i j b (key i hi m) (key j r l) e d
 obj:=fun id o' n=>by
  by_cases f:id<σ.length
  ·rw[aQ f]at n;have g:id≠c.N:=by rw[a.N];omega
   refine (a.obj id o' n).ext (Ext.grow a o p room u v) (fun _=>by simp[dk.grow,g]) fun s b k=>v b ?_;refine (a.plow id b ?_ k).1;rw[a.H];exact fun h=>s ((rH n).1 h)
  have:id=σ.length:=by
   have:=(ak.1 n).1;simp at this;omega
  subst this;rw[nM]at n;cases n;exact q
end Go.AM
namespace Go.AM
variable {M:dm} {w:World} {P:Program}
theorem kJ(b o j:Nat):(⟨b,o,none⟩:Addr).add j=⟨b,o+j,none⟩:=by
 unfold Addr.add;split
 ·rename_i h;subst h;rfl
 rfl
theorem Km{x:Value}(h:x.oneCell'=true):x.cells=#[x]:=by
 cases x<;>first|rfl|(simp[Value.oneCell']at h)
theorem R.small{c:dk}{v:aq}{x:Value}(h:R M w c v x)(a:x.oneCell'=true):aM v≤1∧isAgg v=false:=by
 cases h<;>first|exact⟨aF _,rfl⟩|exact⟨cI _,rfl⟩|(simp[Value.oneCell']at a)
theorem R.oneOf{c:dk}{v:aq}{x:Value}(h:R M w c v x)(a:aM v=1)(b:isAgg v=false):x.oneCell'=true:=by
 cases h<;>first|rfl|assumption|(simp[isAgg]at b;done)|(simp[aM]at a;done)
theorem DW{a:dm}{w':World}{c c':dk}{k:aq}{ck:Value}(b:R M w c k ck)(h:oF k=true):R a w' c' k ck:=by
 cases k<;>simp[oF]at h<;>cases b
 ·exact .int
 ·exact .bool
 exact .str (by assumption)
theorem Td{b:dm}{w':World}{c c':dk}{k:aq}{ck:Value}(a:R M w c k ck)(h:lX k=true):R b w' c' k ck:=by
 cases k with
 |int=>exact DW a rfl
 |str=>exact DW a rfl
 |agg cs=>
  simp only[lX,bd]at h;cases a with|agg f d e g j=>exact .agg f d e g fun i hi=>DW (j i hi) (h _ (aJ hi))
 |_=>simp[lX]at h
theorem pB{v:aq}(h:aM v≠0):(cellsOf v).length=aM v:=by
 cases v<;>first|rfl|exact absurd rfl h
theorem rG{v:aq}(h:isAgg v=true):∃cs,v=.agg cs:=by
 cases v<;>first|exact⟨_,rfl⟩|(simp[isAgg]at h)
theorem rt{v:aq}(h:isAgg v=false):cellsOf v=[v]:=by
 cases v<;>first|rfl|(simp[isAgg]at h)
structure uB (M:dm) (w:World) (c:dk) (x:aq) (f:Nat→Value):Prop where
 one:∀j,j<aM x→(f j).oneCell'=true
 rel:∀j (h:j<(cellsOf x).length),R M w c (cellsOf x)[j] (f j)
theorem afj{c:dk}{cs:List aq}(f:Nat→Value)(a:∀j,j<cs.length→(f j).oneCell'=true)(b:∀j (h:j<cs.length),R M w c cs[j] (f j)) :
  R M w c (.agg cs) (.agg ((List.range cs.length).map f).toArray):=by
 refine .agg f (by simp) (fun i hi=>⟨by simp[hi],a i hi⟩) (fun i hi=>?_) b;exact (b i hi).small (a i hi)
def uo(P:Program)(T:TypeId)(a:Bool)(s:Nat):Bool:=
 (P.info? T).map (·.size)==some s&&(match P.underlying T with
  |some (.struct _)|some (.array _ _)=>a
  |some _=>!a
  |none=>false)&&(a ||s==1)
theorem gf{T:TypeId}{s:Nat}(h:(P.info? T).map (·.size)=some s)(w:World):(sizeOf T).run P w=.ok s w:=by
 unfold sizeOf typeInfo;cases hq:P.info? T with
 |none=>simp[hq]at h
 |some i=>simp[hq]at h ⊢;exact h
theorem tV{T:TypeId}{a:Bool}{s:Nat}(h:uo P T a s=true)(w:World):(Go.isAgg T).run P w=.ok a w:=by
 unfold uo at h;simp only[ax]at h;have b:=h.1.2;unfold Go.isAgg Go.underlying;cases hq:P.underlying T with
 |none=>simp[hq]at b
 |some d=>rw[hq]at b;cases d<;>simp_all
theorem wu{T:TypeId}{a:Bool}{s:Nat}(h:uo P T a s=true):(P.info? T).map (·.size)=some s:=by
 unfold uo at h;simp only[ax,aX]at h;exact h.1.1
theorem yT{T:TypeId}{s:Nat}(h:uo P T false s=true):s=1:=by
 unfold uo at h;simp only[ax,aX,jG]at h;exact h.2
theorem ES{T:TypeId}{a:Bool}{s:Nat}(h:uo P T a s=true)(b o:Nat)(f:Nat→Value)(c:∀j,j<s→w.cell? ⟨b,o+j,none⟩=some (f j)) :
  (loadVar T ⟨b,o,none⟩).run P w=.ok (if a then .agg ((List.range s).map f).toArray else f 0) w:=by
 unfold loadVar;cases a with
 |true=>
  simp only[Sem.run_bind,tV h,Result.andThen_ok,cw,gf (wu h),Sem.run_pure];rw[run_loadCells w _ s f (fun j d=>by rw[kJ];exact c j d)];rfl
 |false=>
  obtain rfl:=yT h;simp only[Sem.run_bind,tV h,Result.andThen_ok,bq,cH,run_load];have:=c 0 (by omega);simp only[ew]at this;rw[this]
theorem EC{c:dk}{a:Bool}{s off:Nat}{x y:aq}{f:Nat→Value}(h:uB M w c x f)(p:aM x≠0)(b:xd a s x off=some y)(u:a=false→s=1) :
  off+s≤aM x∧R M w c y (if a then .agg ((List.range s).map fun j=>f (off+j)).toArray else f off):=by
 unfold xd at b;split at b
 ·rename_i r;obtain⟨rfl,q,m⟩:=r;cases b;refine⟨by omega,?_⟩;cases a with
  |true=>
   obtain⟨cs,rfl⟩:=rG m;simp only[cE,cw];have i:cs.length=s:=q;subst i;exact afj f (fun j e=>h.one j e) (fun j e=>h.rel j e)
  |false=>
   have d:=rt m;have:=h.rel 0 (by rw[d];simp);simp only[d,cX]at this;exact this
 split at b
 ·rename_i n;subst n;split at b
  ·rename_i t;cases b;refine⟨t,?_⟩;have o:(cellsOf x).length=aM x:=pB p;have l:(((cellsOf x).drop off).take s).length=s:=by simp;omega
   have:=afj (M:=M) (w:=w) (c:=c) (cs:=((cellsOf x).drop off).take s) (fun j=>f (off+j)) (fun j e=>h.one _ (by omega)) (fun j e=>by
    have:=h.rel (off+j) (by omega);simp only[dO,eH];exact this)
   rw[l]at this;exact this
  cases b
 rename_i n;have k:a=false:=by cases a<;>simp_all
 subst k;obtain rfl:=u rfl;obtain⟨g,rfl⟩:=ak.1 b;refine⟨by rw[pB p]at g;omega,?_⟩;exact h.rel off g
end Go.AM
namespace Go.AM
variable {M:dm} {w:World} {P:Program}
structure Same (w w':World):Prop where
 tape:w'.tape=w.tape
 os:w'.os=w.os
 output:w'.output=w.output
 drawn:w'.drawn≤w'.drawn
theorem Same.refl(w:World):Same w w:=⟨rfl,rfl,rfl,aF _⟩
theorem Same.trans{a b c:World}(h:Same a b)(k:Same b c):Same a c:=⟨k.tape.trans h.tape,k.os.trans h.os,k.output.trans h.output,aF _⟩
structure u7 (w w':World) (b:Nat) (o:Go.Obj):Prop extends Same w w' where
 heap:w'.heap=w.heap.setIfInBounds b o
theorem u7.get{w w':World}{b:Nat}{o:Go.Obj}(h:u7 w w' b o)(i:Nat)(a:b<w.heap.size):w'.heap[i]?=if i=b then some o else w.heap[i]?:=by
 rw[h.heap,dI];by_cases hi:i=b
 ·subst hi;simp[a]
 rw[if_neg (fun e=>hi e.symm),if_neg hi]
theorem u7.size{w w':World}{b:Nat}{o:Go.Obj}(h:u7 w w' b o):w'.heap.size=w.heap.size:=by rw[h.heap];simp
theorem Pp{w:World}{b o:Nat}{a:Array Value}{T:TypeId}{v:Value}(h:w.heap[b]?=some (.cells a T (0,0))) :
  u7 w (w.setCell ⟨b,o,none⟩ v) b (.cells (a.setIfInBounds o v) T (0,0)):=by
 refine⟨⟨rfl,rfl,rfl,aF _⟩,?_⟩;obtain⟨c,d⟩:=bF.1 h;simp only[World.setCell];apply eN;intro i;rw[gw,dI];split
 ·rename_i e;subst e;rw[h];rfl
 rfl
theorem nT(b o:Nat)(T:TypeId):∀(vs:List Value) (i:Nat) (a:Array Value) (w:World),w.heap[b]?=some (.cells a T (0,0))→o+i+vs.length≤a.size→(∀v∈vs,v.oneCell'=true) →
  ∃(w':World) (c:Array Value),(storeCells ⟨b,o,none⟩ vs i).run P w=.ok () w'∧u7 w w' b (.cells c T (0,0))∧c.size=a.size ∧
   ∀j,c[j]?=if o+i≤j∧j<o+i+vs.length then vs[j-(o+i)]? else a[j]?
 |[],i,a,w,h,_,_=>by
  refine⟨w,a,rfl,⟨.refl w,?_⟩,rfl,fun j=>?_⟩
  ·obtain⟨d,C⟩:=bF.1 h;apply eN;intro k;rw[dI];split
   ·rename_i e;subst e;rw[h]
   rfl
  rw[if_neg (by rintro⟨D,B⟩;simp at B;omega)]
 |v::vs,i,a,w,h,n,m=>by
  have d:o+i<a.size:=by simp at n;omega
  have s:w.cell? ⟨b,o+i,none⟩=some a[o+i]:=by
   simp[World.cell?,h,d]
  have l:=Pp (o:=o+i) (v:=v) h;have r:b<w.heap.size:=(bF.1 h).1;have q:(w.setCell ⟨b,o+i,none⟩ v).heap[b]?=some (.cells (a.setIfInBounds (o+i) v) T (0,0)):=by
   rw[l.get _ r,if_pos rfl]
  obtain⟨w',c,y,p,A,u⟩:=nT b o T vs (i+1) _ _ q (by simp at n ⊢;omega) (fun x z=>m x (cd _ z));refine⟨w',c,?_,⟨l.toSame.trans p.toSame,?_⟩,by rw[A];simp,fun j=>?_⟩
  ·simp only[storeCells,Sem.run_bind,kJ];rw[run_store P w _ v .plain (m v (dH ..)),s];have t:w.frozen? ⟨b,o+i,none⟩=false:=by simp[World.frozen?,h]
   simp only[t,bq,cH,Result.andThen_ok];exact y
  ·rw[p.heap,l.heap];apply eN;intro k;simp only[dI,nr];split<;>rfl
  rw[u j];by_cases f:o+(i+1)≤j∧j<o+(i+1)+vs.length
  ·rw[if_pos f,if_pos (by simp;omega)];rw[show j-(o+i)=(j-(o+(i+1)))+1 by omega];simp
  rw[if_neg f,dI];by_cases g:o+i=j
  ·subst g;rw[if_pos rfl,if_pos d,if_pos (by simp)];simp
  rw[if_neg g,if_neg (by simp;omega)]
theorem fd.setObj'{c:dk}{σ:aw}{w':World}(a:fd M w c σ){id:Nat}{y l:Obj}{b:Nat}{o:Go.Obj}(hid:σ[id]?=some y)(z:y≠.dead)(B:hd (σ.set id l) id=hd σ id)
  (v:c.place id=some b) (s:u7 w w' b o) (k:wF M w' c id l):fd M w' c (σ.set id l)∧Ext c w c w':=by
 have q:id<σ.length:=(ak.1 hid).1;have A:hd (σ.set id l)=hd σ:=by
  funext i;by_cases hi:id=i
  ·subst hi;exact B
  unfold hd;rw[aD hi]
 have d:c.H id≠.dead:=by rw[a.H];exact fun h=>z ((rH hid).1 h)
 obtain⟨p,n⟩:=a.plow id b d v;have f:∀x,x≠b→w'.heap[x]?=w.heap[x]?:=fun x t=>by rw[s.get _ p,if_neg t]
 have g:Ext c w c w':=⟨fun _ h=>h,fun _ h=>h,fun x t=>f x (fun e=>by subst e;exact n (t.elim (fun h=>h) (a.sb _))),aF _,fun _ _=>.inl rfl,fun _ _ _ _=>⟨rfl,rfl,rfl⟩⟩;refine⟨⟨by rw[A];exact a.H,by rw[a.N];simp,a.sb,by rw[s.size];exact a.low,by rw[s.size];exact a.plow,a.inj,fun i o' j=>?_⟩,g⟩;by_cases hi:id=i
 ·subst hi;rw[aW q]at j;cases j;exact k
 rw[aD hi]at j;refine (a.obj i o' j).ext g (fun _=>⟨rfl,rfl,rfl⟩) fun r u m=>f u (fun e=>?_);subst e;exact hi (a.inj id i u d (by rw[a.H];exact fun h=>r ((rH j).1 h)) v m)
theorem fd.setObj{c:dk}{σ:aw}{w':World}(e:fd M w c σ){id k ep:Nat}{es es':List aq}{b:Nat}{o:Go.Obj}(hid:σ[id]?=some (.arr k ep es))
  (d:c.place id=some b) (f:u7 w w' b o) (a:wF M w' c id (.arr k ep es')):fd M w' c (σ.set id (.arr k ep es'))∧Ext c w c w':=
 e.setObj' hid (by simp) (by rw[fe (aW (ak.1 hid).1),fe hid]) d f a
end Go.AM
namespace Go.AM
variable {M:dm} {w:World} {P:Program}
structure iW (c:dk) (w:World) (c':dk) (w':World):Prop extends Ext c w c' w' where
 same:Same w w'
 size:w.heap.size≤w'.heap.size
 frame:∀b,b<w.heap.size→(∀id,c.H id≠.dead→c.place id≠some b)→w'.heap[b]?=w.heap[b]?
 liv:∀id b,c'.H id≠.dead→c'.place id=some b→b<w.heap.size→∃i,c.H i≠.dead∧c.place i=some b
 old:∀b,c'.sld b→b<w.heap.size→c.sld b∨∃i,c.H i≠.dead∧c.place i=some b
 oldb:∀b,c'.bor b→b<w.heap.size→c.bor b∨∃i,c.H i≠.dead∧c.place i=some b
theorem iW.refl(c:dk)(w:World):iW c w c w:=
 { Ext.refl c w with same:=.refl w,size:=aF _,frame:=fun _ _ _=>rfl,liv:=fun id _ a b _=>⟨id,a,b⟩,old:=fun _ h _=>.inl h,oldb:=fun _ h _=>.inl h }
theorem iW.trans{c c' j:dk}{w w' l:World}(h:iW c w c' w')(k:iW c' w' j l):iW c w j l:=
 { Ext.trans h.toExt k.toExt with
  same:=h.same.trans k.same
  size:=bH h.size k.size
  frame:=fun b a m=>by
   rw[k.frame b (bu a h.size) (fun id f g=>?_),h.frame b a m];obtain⟨i,d,e⟩:=h.liv id b f g a;exact m i d e
  old:=fun b f a=>by
   rcases k.old b f (bu a h.size) with g|⟨i,d,e⟩
   ·exact h.old b g a
   exact .inr (h.liv i b d e a)
  oldb:=fun b f a=>by
   rcases k.oldb b f (bu a h.size) with g|⟨i,d,e⟩
   ·exact h.oldb b g a
   exact .inr (h.liv i b d e a)
  liv:=fun id b f g a=>by
   obtain⟨i,d,e⟩:=k.liv id b f g (bu a h.size);exact h.liv i b d e a }
def qF(M:dm)(P:Program)(c:dk)(w:World)(s:Sem Next)(v:aq)(σ':aw):Prop:=
 ∃nx w' c' cv,s.run P w=.ok nx w'∧(nx=.value cv∨(nx=.skip∧cv=undef))∧fd M w' c' σ'∧iW c w c' w'∧R M w' c' v cv
theorem qF.quiet{c:dk}{σ:aw}{s:Sem Value}{v:aq}{cv:Value}(b:fd M w c σ)(h:s.run P w=.ok cv w)(a:R M w c v cv) :
  qF M P c w (do pure (.value (←s))) v σ:=
 ⟨_,w,c,cv,by simp[h],.inl rfl,b,.refl c w,a⟩
theorem qF.of{c c':dk}{w':World}{a:aw}{s:Sem Value}{v:aq}{cv:Value}(h:s.run P w=.ok cv w')(d:fd M w' c' a)(e:iW c w c' w')(b:R M w' c' v cv) :
  qF M P c w (do pure (.value (←s))) v a:=
 ⟨_,w',c',cv,by simp[h],.inl rfl,d,e,b⟩
theorem qF.now{c:dk}{σ:aw}{v:aq}{cv:Value}(b:fd M w c σ)(a:R M w c v cv):qF M P c w (pure (.value cv)) v σ:=
 ⟨_,w,c,cv,rfl,.inl rfl,b,.refl c w,a⟩
theorem Ext.ofStill{c:dk}(a:∀b,c.sld b→c.bor b)(b:Bool):Ext (c.still b) w c w where
 sld:=fun _ h=>h
 bor:=fun x h=>by
  cases b
  ·exact a x h
  exact h
 rest:=fun _ _=>rfl
 N:=cI _
 head:=fun id hid=>absurd hid (da _)
 place:=fun id hid=>absurd hid (da _)
theorem Bk{σ:aw}{id ep i:Nat}{x:aq}(h:uq σ id ep i=some x):∃k es,σ[id]?=some (.arr k ep es)∧es[i]?=some x:=by
 unfold uq at h;split at h
 ·rename_i k e es b;split at h
  ·rename_i a;subst a;exact⟨_,_,b,h⟩
  cases h
 cases h
theorem pF{σ:aw}{id ep off len:Nat}{xs:List aq}(h:sliceAt σ id ep off len=some xs) :
  ∃k es,σ[id]?=some (.arr k ep es)∧off+len≤es.length∧xs=(es.drop off).take len:=by
 unfold sliceAt at h;split at h
 ·rename_i k e es b;split at h
  ·rename_i a;obtain⟨rfl,c⟩:=a;cases h;exact⟨_,_,b,c,rfl⟩
  cases h
 cases h
theorem fd.elem{c:dk}{σ:aw}(o:fd M w c σ){id k ep i:Nat}{es:List aq}{x:aq}(n:σ[id]?=some (.arr k ep es))(p:es[i]?=some x) :
  ∃b f,c.place id=some b∧uB M w c x f∧aM x=k∧k≠0∧∀j,j<k→w.cell? ⟨b,i*k+j,none⟩=some (f j):=by
 obtain⟨g,h,l,m⟩:=o.obj id _ n;obtain⟨hi,rfl⟩:=ak.1 p;cases hp:c.place id with
 |none=>rw[l hp]at hi;exact absurd hi (by simp)
 |some b=>
  obtain⟨cs,T,f,q,s,t,e,r⟩:=m b hp;have d:aM es[i]=k:=h _ (aJ hi);refine⟨b,f i,rfl,⟨fun j a=>(e i j hi (d▸a)).2,fun j a=>r i hi j a⟩,d,g,fun j a=>?_⟩;simp only[World.cell?,q];exact (e i j hi a).1
theorem UK{c:dk}{σ:aw}(j:fd M w c σ){id ep i off:Nat}{p:Value}(h:R M w c (.ptr id ep i off) p){k:Nat}{es:List aq}(g:σ[id]?=some (.arr k ep es)) :
  ∃b,c.place id=some b∧p=.pointer (some ⟨b,i*k+off,none⟩):=by
 have d:c.H id=.arr k ep:=by rw[j.H,fe g]
 cases h with
 |ptr e a f=>rw[d]at a;cases a;exact⟨_,f,rfl⟩
 |ptrOld l e a=>exact absurd (a _ _ d) (dG _)
theorem YX{c:dk}{σ:aw}(u:fd M w c σ){p:aq}{y:Value}(C:R M w c p y){T:TypeId}{a:Bool}{s:Nat}(m:uo P T a s=true){v:aq}
  (h:loadAt a s p σ=some v):∃cv,(Instr.loadAt T y).run P w=.ok cv w∧R M w c v cv:=by
 unfold loadAt at h;split at h
 ·rename_i b x off;cases C with
  |@cptr _ _ _ _ o blk f J D z A=>
   have e:uB M w c x f:=⟨fun j g=>(z j g).2,fun j g=>by
    cases b with
    |true=>exact A j g
    |false=>exact (A j g).ext (Ext.ofStill u.sb false)⟩
   obtain⟨r,t⟩:=EC e D h (fun n=>by subst n;exact yT m);refine⟨_,?_,t⟩;unfold Instr.loadAt Instr.sureAddr;simp only[Sem.run_bind,Sem.run_pure,Result.andThen_ok];rw[ES m blk (o+off) (fun j=>f (off+j)) (fun j g=>by rw[dB];exact (z (off+j) (by omega)).1)];cases a<;>rfl
 ·rename_i id ep i off;simp only[aL]at h;obtain⟨x,H,F⟩:=h;obtain⟨k,es,B,q⟩:=Bk H;obtain⟨b,f,E,e,K,G,d⟩:=u.elem B q;obtain⟨I,l,rfl⟩:=UK u C B;rw[E]at l;cases l;obtain⟨r,t⟩:=EC e (by omega) F (fun n=>by subst n;exact yT m);refine⟨_,?_,t⟩;unfold Instr.loadAt Instr.sureAddr;simp only[Sem.run_bind,Sem.run_pure,Result.andThen_ok];rw[ES m b (i*k+off) (fun j=>f (off+j)) (fun j g=>by rw[dB];exact d (off+j) (by omega))];cases a<;>rfl
 cases h
theorem tR{c:dk}{v:aq}{cv:Value}(h:R M w c v cv)(i:aM v≠0):∃f:Nat→Value,uB M w c v f∧cv.cells.size=aM v∧∀j,j<aM v→cv.cells[j]?=some (f j):=by
 cases hv:Go.AM.isAgg v with
 |true=>
  obtain⟨cs,rfl⟩:=rG hv;cases h with
  |agg f b e k g=>exact⟨f,⟨fun j a=>(e j a).2,g⟩,b,fun j a=>(e j a).1⟩
 |false=>
  have b:aM v=1:=by
   cases v<;>first|rfl|exact absurd rfl i|(simp[Go.AM.isAgg]at hv)
  have d:=h.oneOf b hv;refine⟨fun _=>cv,⟨fun _ _=>d,fun j a=>?_⟩,by rw[Km d,b];rfl,fun j a=>?_⟩
  ·simp only[rt hv]at a ⊢;have:j=0:=by simp at a;omega
   subst this;exact h
  rw[b]at a;have:j=0:=by omega
  subst this;rw[Km d];rfl
theorem WO{c:dk}{s off:Nat}{x v o:aq}{f g:Nat→Value}(m:uB M w c x f)(n:aM x≠0)(i:uB M w c v g)(t:s≠0)(h:Dm s x off v=some o) :
  aM v=s∧off+s≤aM x∧aM o=aM x∧uB M w c o (fun j=>if off≤j∧j<off+s then g (j-off) else f j):=by
 unfold Dm at h;split at h
 ·rename_i d;split at h
  ·rename_i k;obtain⟨rfl,p,q⟩:=k;cases h;refine⟨d,by omega,by omega,⟨fun j b=>?_,fun j b=>?_⟩⟩
   ·rw[if_pos ⟨cI _,by omega⟩];exact i.one _ b
   have:=pB (v:=v) (by omega);rw[if_pos ⟨cI _,by omega⟩];exact i.rel _ b
  split at h
  ·rename_i k;obtain⟨p,q⟩:=k;cases h;have y:=pB n;have u:=pB (v:=v) (by omega);have a:((cellsOf x).take off++cellsOf v++(cellsOf x).drop (off+s)).length=aM x:=by simp;omega
   refine⟨d,p,a,⟨fun j b=>?_,fun j b=>?_⟩⟩
   ·rw[show aM (.agg ((cellsOf x).take off++cellsOf v++(cellsOf x).drop (off+s)))=aM x from a]at b;split
    ·exact i.one _ (by omega)
    exact m.one _ b
   change j<((cellsOf x).take off++cellsOf v++(cellsOf x).drop (off+s)).length at b;change R M w c ((cellsOf x).take off++cellsOf v++(cellsOf x).drop (off+s))[j] _;rw[a]at b;by_cases r:j<off
   ·rw[if_neg (by omega)];have:=m.rel j (by omega);rw[cg (by simp;omega),cg (by simp;omega)];simpa using this
   by_cases l:j<off+s
   ·rw[if_pos ⟨by omega,l⟩];have:=i.rel (j-off) (by omega);rw[cg (by simp;omega),cP (by simp;omega)];simp only[de];have e:j-min off (cellsOf x).length=j-off:=by rw[eK (by omega)]
    simpa [e] using this
   rw[if_neg (by omega)];have:=m.rel j (by omega);rw[cP (by simp;omega)];simp only[eH,cn,de];have e:off+s+(j-(min off (cellsOf x).length+(cellsOf v).length))=j:=by rw[eK (by omega)];omega
   simpa [e] using this
  cases h
 cases h
theorem uB.ext{c c':dk}{w':World}{x:aq}{f:Nat→Value}(h:uB M w c x f)(a:Ext c w c' w'):uB M w' c' x f:=
 ⟨h.one,fun j b=>(h.rel j b).ext a⟩
theorem iW.setB{c:dk}{σ:aw}{w':World}(m:fd M w c σ){id b:Nat}{o:Go.Obj}(f:c.H id≠.dead)(d:c.place id=some b)(a:u7 w w' b o)(k:Ext c w c w'):iW c w c w':=
 { k with
  same:=a.toSame
  size:=by rw[a.size];exact aF _
  frame:=fun x n l=>by rw[a.get _ (m.plow id b f d).1,if_neg (fun e=>l id f (by subst e;exact d))]
  liv:=fun i x g j _=>⟨i,g,j⟩
  old:=fun _ h _=>.inl h
  oldb:=fun _ h _=>.inl h }
theorem acV{c:dk}{σ Q:aw}(z:fd M w c σ){p v:aq}{cp cv:Value}(hp:R M w c p cp)(hv:R M w c v cv){T:TypeId}{s:Nat}(ht:(P.info? T).map (·.size)=some s)(ad:s≠0)
  (d:storeAt s p v σ=some Q):∃w',(Instr.storeAt T cp cv).run P w=.ok () w'∧fd M w' c Q∧iW c w c w':=by
 unfold storeAt at d;split at d
 ·rename_i id ep i off;split at d
  ·rename_i k e es J;split at d
   ·rename_i he;subst he;simp only[aL,aT]at d;obtain⟨x,hx,x',t,rfl⟩:=d;obtain⟨b,f,A,X,hk,af,C⟩:=z.elem J hx;obtain⟨b',n,rfl⟩:=UK z hp J;rw[A]at n;cases n;have r:c.H id≠.dead:=by rw[z.H,fe J];simp
    have I:aM v=s:=by unfold Dm at t;split at t<;>first|assumption|cases t
    obtain⟨g,Y,D,H⟩:=tR hv (by omega);obtain⟨_,ag,ah,G⟩:=WO X (by omega) Y ad t;obtain⟨o1,o2,o3,o4⟩:=z.obj id _ J;obtain⟨cs,T',F,q1,q2,q3,q4,q5⟩:=o4 b A;obtain⟨hi,aj⟩:=ak.1 hx;have ae:i*k+off+s≤cs.size:=by
     have:(i+1)*k≤es.length*k:=cu k hi;rw[dN]at this;omega
    obtain⟨w',cs',hr,U,hz,E⟩:=nT (P:=P) b (i*k+off) T' cv.cells.toList 0 cs w q1 (by simp[D];omega) (fun y O=>by
     obtain⟨j,E,rfl⟩:=cM.1 O;have a:j<aM v:=by simp at E;omega
     have:=H j a;rw[cQ (by simpa using E)]at this;have W:=Y.one j a;simp only[iU];rw[dW this];exact W)
    have u:∀j,cs'[j]?=if i*k+off≤j∧j<i*k+off+s then some (g (j-(i*k+off))) else cs[j]?:=fun j=>by
     rw[E j];simp only[ew,cR,D,I];split
     ·rename_i hc;have:=H (j-(i*k+off)) (by omega);simpa using this
     rfl
    have B:=z.plow id b r A;have o:Ext c w c w':=⟨fun _ h=>h,fun _ h=>h,fun y O=>by rw[U.get _ B.1,if_neg (fun e=>by subst e;exact B.2 (O.elim (fun h=>h) (z.sb _)))],aF _,fun _ _=>.inl rfl,fun _ _ _ _=>⟨rfl,rfl,rfl⟩⟩;have K:wF M w' c id (.arr k e (es.set i x')):=by
     refine⟨o1,fun y O=>?_,fun hn=>(by rw[A]at hn;cases hn),fun b' n=>?_⟩
     ·rcases eV O with h|h
      ·exact o2 y h
      rw[h];omega
     rw[A]at n;cases n;refine⟨cs',T',fun l j=>if l=i then (if off≤j∧j<off+s then g (j-off) else F i j) else F l j,by rw[U.get _ B.1,if_pos rfl],by simp;omega,by rw[hz];exact q3,fun l j q a=>?_,fun l q j a=>?_⟩
     ·simp only[gg]at q;dsimp only;by_cases m:l=i
      ·subst m;rw[if_pos rfl,u];by_cases L:off≤j∧j<off+s
       ·rw[if_pos ⟨by omega,by omega⟩,if_pos L];have V:l * k+j-(l * k+off)=j-off:=by omega
        rw[V];exact⟨rfl,Y.one _ (by omega)⟩
       rw[if_neg (by omega),if_neg L];exact q4 l j q a
      rw[if_neg m,u,if_neg]
      ·exact q4 l j q a
      rintro⟨a1,a2⟩;rcases Nat.lt_or_gt_of_ne m with h|h
      ·have:(l+1)*k≤i*k:=cu k h;rw[dN]at this;omega
      have:(i+1)*k≤l * k:=cu k h;rw[dN]at this;omega
     by_cases m:l=i
     ·subst m;simp only[iJ]at a ⊢;rw[if_pos trivial];have hF:∀j,j<k→f j=F l j:=fun j E=>by
       have S:=C j E;simp only[World.cell?,q1]at S;have W:=(q4 l j hi E).1;simp at S;rw[W]at S;exact (dW S).symm
      have:=(G.rel j a).ext o;have ab:j<k:=by rw[pB (by omega)]at a;omega
      rw[←hF j ab];exact this
     dsimp only;rw[if_neg m];have Z:l < es.length:=by simpa using q
     have V:(es.set i x')[l]=es[l]:=by rw[gV (fun h=>m h.symm)]
     simp only[V]at a ⊢;exact (q5 l Z j a).ext o
    obtain⟨N,_⟩:=z.setObj J A U K;refine⟨w',?_,N,iW.setB z r A U o⟩;unfold Instr.storeAt Instr.sureAddr storeVar;simp only[Sem.run_bind,Sem.run_pure,Result.andThen_ok,gf ht,Sem.run_ite,D,I,ne_eq,not_true,cH];exact hr
   cases d
  cases d
 cases d
end Go.AM
namespace Go.AM
variable {M:dm} {w:World} {P:Program}
theorem gI{o:Go.Obj}{b:Nat}(h:b<w.heap.size):(lg w o).heap[b]?=w.heap[b]?:=by
 show (w.heap.push o)[b]?=_;rw[Array.getElem?_push,if_neg (Nat.ne_of_lt h)]
theorem sf{o:Go.Obj}:(lg w o).heap[w.heap.size]?=some o:=by
 show (w.heap.push o)[w.heap.size]?=_;rw[Array.getElem?_push,if_pos rfl]
theorem fL{o:Go.Obj}:(lg w o).heap.size=w.heap.size+1:=by
 show (w.heap.push o).size=_;simp
theorem pI{o:Go.Obj}:Same w (lg w o):=⟨rfl,rfl,rfl,aF _⟩
theorem iW.grow{c:dk}{σ:aw}{w':World}(i:fd M w c σ)(o:Obj)(p:Option Nat)(room:Nat)(l:mv)(a:Same w w')
  (k:∀b,b<w.heap.size→w'.heap[b]?=w.heap[b]?) (n:w.heap.size≤w'.heap.size) (m:∀b,p=some b→w.heap.size≤b) :
  iW c w (c.grow (σ++[o]) p room l) w':=
 { Ext.grow i o p room l k with
  same:=a
  size:=n
  frame:=fun b j _=>k b j
  old:=fun _ h _=>.inl h
  oldb:=fun _ h _=>.inl h
  liv:=fun id b e d j=>by
   simp only[dk.grow]at e d;split at d
   ·exact absurd (m b d) (by omega)
   rename_i g;refine⟨id,?_,d⟩;have f:id<σ.length:=by
    have:=IB e;rw[i.N]at g;simp at this;omega
   rw[i.H];rwa [uA f]at e }
theorem fd.newArr{c:dk}{σ:aw}(d:fd M w c σ){k ep:Nat}{es:List aq}{cs:Array Value}{T:TypeId}(f:Nat→Nat→Value)(o:k≠0)(e:∀x∈es,aM x=k)
  (l:es.length*k≤cs.size) (n:∀i j,i<es.length→j<k→cs[i*k+j]?=some (f i j)∧(f i j).oneCell'=true)
  (q:∀i (hi:i<es.length) j (m:j<(cellsOf es[i]).length),R M w c (cellsOf es[i])[j] (f i j)) :
  ∃c',c'.N=σ.length+1∧c'.H σ.length=.arr k ep∧c'.place σ.length=some w.heap.size∧c'.room σ.length=cs.size ∧
   fd M (lg w (.cells cs T (0,0))) c' (σ++[.arr k ep es])∧iW c w c' (lg w (.cells cs T (0,0))):=by
 have g:=Ext.grow (w':=lg w (.cells cs T (0,0))) d (.arr k ep es) (some w.heap.size) cs.size (c.loops 0) (fun b a=>gI a);refine⟨c.grow (σ++[.arr k ep es]) (some w.heap.size) cs.size (c.loops 0),by simp[dk.grow],?_,by simp[dk.grow,d.N],by simp[dk.grow,d.N],?_,?_⟩
 ·show hd (σ++[.arr k ep es]) σ.length=_;rw[fe nM]
 ·refine d.grow _ _ _ _ (fun b a=>gI a) (by rw[fL];omega) (fun b a=>by cases a;rw[fL];omega) ?_;refine⟨o,e,fun p=>by simp[dk.grow,d.N]at p,fun b a=>?_⟩;have h:b=w.heap.size:=by simp[dk.grow,d.N]at a;exact a.symm
  subst h;exact⟨cs,T,f,sf,l,by simp[dk.grow,d.N],n,fun i hi j m=>(q i hi j m).ext g⟩
 exact iW.grow d _ _ _ _ pI (fun b a=>gI a) (by rw[fL];omega) (fun b a=>by cases a;exact aF _)
theorem af3{c:dk}{σ:aw}(p:fd M w c σ){v:aq}{cv:Value}(q:R M w c v cv){T:TypeId}{k:Nat}(o:aM v=k)(e:k≠0) :
  qF M P c w (do pure (.value (←Instr.box T cv))) (.ptr σ.length 0 0 0) (σ++[.arr k 0 [v]]):=by
 obtain⟨g,f,n,d⟩:=tR q (by omega)
 obtain⟨c',r,l,m,s,a,b⟩:=p.newArr (ep:=0) (T:=T) (es:=[v]) (cs:=cv.cells) (fun _ j=>g j) e (by simp[o]) (by simp;omega)
  (fun i j hi h=>by
   have:i=0:=by simp at hi;omega
   subst this;rw[mH,cE];exact⟨d j (by omega),f.one j (by omega)⟩)
  (fun i hi j h=>by
   have:i=0:=by simp at hi;omega
   subst this;exact f.rel j h)
 refine⟨_,_,c',_,by simp[Instr.box,newVar,newRow];exact⟨rfl,rfl⟩,.inl rfl,a,b,?_⟩;have:=R.ptr (M:=M) (w:=lg w (.cells cv.cells T (0,0))) (c:=c') (id:=σ.length) (ep:=0) (i:=0) (off:=0) (by omega) l m;simpa using this
def dk.addStill(c:dk)(b:Nat):dk:={ c with sld:=fun x=>c.sld x∨x=b,bor:=fun x=>c.bor x∨x=b }
theorem fd.addStill{c:dk}{σ:aw}(d:fd M w c σ)(o:Go.Obj) :
  fd M (lg w o) (c.addStill w.heap.size) σ∧iW c w (c.addStill w.heap.size) (lg w o):=by
 have f:Ext c w (c.addStill w.heap.size) (lg w o):=⟨fun _ h=>.inl h,fun _ h=>.inl h,fun b a=>gI (d.low b (a.elim (fun h=>h) (d.sb b))),aF _,fun _ _=>.inl rfl,fun _ _ _ _=>⟨rfl,rfl,rfl⟩⟩;refine⟨⟨d.H,d.N,fun b a=>a.imp (d.sb b) id,fun b a=>?_,fun id b g i=>?_,d.inj,fun id o' k=>?_⟩,{ f with same:=pI,size:=by rw[fL];omega,frame:=fun b a _=>gI a,liv:=fun id b g i _=>⟨id,g,i⟩,old:=fun b h a=>h.elim .inl (fun e=>by omega),oldb:=fun b h a=>h.elim .inl (fun e=>by omega) }⟩
 ·rw[fL];rcases a with a|a
  ·exact nP (d.low b a)
  omega
 ·obtain⟨m,l⟩:=d.plow id b g i;refine⟨by rw[fL];omega,fun a=>a.elim l (fun e=>by omega)⟩
 exact (d.obj id o' k).ext f (fun _=>⟨rfl,rfl,rfl⟩) fun j b a=>gI (d.plow id b (by rw[d.H];exact fun h=>j ((rH k).1 h)) a).1
theorem BD{c:dk}{k:Nat}(u:k≠0):∀{vs:List aq} {cvs:List Value},vs.length=cvs.length→(∀i (h:i<vs.length) (m:i<cvs.length),R M w c vs[i] cvs[i])→(∀v∈vs,aM v=k) →
  ∃f:Nat→Nat→Value,(cvs.flatMap fun v=>v.cells.toList).length=vs.length*k ∧
   (∀i j,i<vs.length→j<k→(cvs.flatMap fun v=>v.cells.toList)[i*k+j]?=some (f i j)∧(f i j).oneCell'=true) ∧
   ∀i (hi:i<vs.length) j (d:j<(cellsOf vs[i]).length),R M w c (cellsOf vs[i])[j] (f i j)
 |[],[],_,_,_=>⟨fun _ _=>undef,by simp,fun i j hi=>absurd hi (by simp),fun i hi=>absurd hi (by simp)⟩
 |v::vs,cv::cvs,y,q,p=>by
  have n:=q 0 (by simp) (by simp);simp only[cX]at n;have b:aM v=k:=p v (dH ..);obtain⟨g,o,a,l⟩:=tR n (by omega);obtain⟨f,r,s,t⟩:=BD (c:=c) (k:=k) u (vs:=vs) (cvs:=cvs) (by simpa using y) (fun i h m=>by have:=q (i+1) (by simpa using h) (by simpa using m);simpa using this) (fun x z=>p x (cd _ z));refine⟨fun i j=>if i=0 then g j else f (i-1) j,?_,fun i j hi d=>?_,fun i hi j d=>?_⟩
  ·simp only[gc,cn,r,bw,cR,a,b];rw[dN];omega
  ·simp only[gc];cases i with
   |zero=>
    rw[if_pos rfl,aQ (by simp[a];omega)];simp only[mH,cE,ff];exact⟨l j (by omega),o.one j (by omega)⟩
   |succ i=>
    rw[if_neg (by omega),bC (by simp[a,b];rw[dN];omega)];have e:(i+1)*k+j-cv.cells.toList.length=i*k+j:=by simp[a,b];rw[dN];omega
    rw[e];have:=s i j (by simpa using hi) d;simpa using this
  cases i with
  |zero=>simpa using o.rel j (by simpa using d)
  |succ i=>
   dsimp only;rw[if_neg (by omega)];have:=t i (by simpa using hi) j (by simpa using d);simpa using this
end Go.AM
namespace Go.AM
variable {M:dm} {w:World} {P:Program}
def pm(fm:Nat→FuncId):Nat→Value→aq→Bool
 |_,.int k n,.int k' m=>k==k'&&n==m
 |_,.bool b,.bool b'=>b==b'
 |_,.string s,.str l=>s.data.toList==l
 |_,.slice none 0 0,.ai=>true
 |_,.slice none 0 0,.aa _ []=>true
 |_,.pointer none,.nilp=>true
 |_,.nilFunc,.nilf=>true
 |_,.map none,.nilm=>true
 |_,.func (.func f) a b,.fn n [] []=>a.size==0&&b.size==0&&fm n==f
 |n+1,.agg vs,.agg cs=>vs.size==cs.length&&(vs.toList.zip cs).all fun p=>p.1.oneCell'&&pm fm n p.1 p.2
 |_,_,_=>false
theorem tt{c:dk}:∀{n:Nat} {v:Value} {a:aq},pm M.fm n v a=true→R M w c a v:=by
 intro n;induction n with
 |zero=>
  intro v a h;unfold pm at h;split at h<;>simp_all
  ·exact .int
  ·exact .bool
  ·exact .str h
  ·exact .ai
  ·exact .imm0
  ·exact .nilp
  ·exact .nilf
  ·exact .nilm
  rename_i f a b m;obtain⟨⟨j,k⟩,rfl⟩:=h;exact .fn (fun _=>undef) (fun _=>undef) (by simp) (by simp) (by simp) (by simp) (by simp) (by simp)
 |succ n q=>
  intro v a h;cases hb:Go.AM.isAgg a with
  |false=>
   unfold pm at h;split at h<;>simp_all
   ·exact .int
   ·exact .bool
   ·exact .str h
   ·exact .ai
   ·exact .imm0
   ·exact .nilp
   ·exact .nilf
   ·exact .nilm
   ·rename_i f a b m;obtain⟨⟨j,k⟩,rfl⟩:=h;exact .fn (fun _=>undef) (fun _=>undef) (by simp) (by simp) (by simp) (by simp) (by simp) (by simp)
   simp[Go.AM.isAgg]at hb
  |true=>
   obtain⟨cs,rfl⟩:=rG hb;cases v<;>first|(simp[pm]at h;done)|skip
   rename_i vs;have o:(vs.size==cs.length&&(vs.toList.zip cs).all fun p=>p.1.oneCell'&&pm M.fm n p.1 p.2)=true:=h;simp only[ax,aX,bd]at o;obtain⟨j,k⟩:=o;have key:∀i (hi:i<cs.length),∃x,vs[i]?=some x∧x.oneCell'=true∧pm M.fm n x cs[i]=true:=fun i hi=>by
    have l:i<vs.size:=by omega
    refine⟨vs[i],by simp[l],?_⟩;have r:(vs[i],cs[i])∈vs.toList.zip cs:=by
     rw[cM];exact⟨i,by simp;omega,by simp⟩
    exact k _ r
   refine .agg (fun i=>vs.getD i undef) j (fun i hi=>?_) (fun i hi=>?_) (fun i hi=>?_)
   ·obtain⟨x,d,e,g⟩:=key i hi;have:vs.getD i undef=x:=by simp[bV,d]
    rw[this];exact⟨d,e⟩
   ·obtain⟨x,d,e,g⟩:=key i hi;exact (q g).small e
   obtain⟨x,d,e,g⟩:=key i hi;have:vs.getD i undef=x:=by simp[bV,d]
   rw[this];exact q g
def oA(M:dm)(w:World)(c:dk)(cs:List aq)(A:Array Value):Prop:=
 A.size=cs.length∧∀j (h:j<cs.length),∃x,A[j]?=some x∧x.oneCell'=true∧R M w c cs[j] x
theorem oA.agg{c:dk}{cs:List aq}{A:Array Value}(h:oA M w c cs A):R M w c (.agg cs) (.agg A):=by
 refine .agg (fun j=>A.getD j undef) h.1 (fun j b=>?_) (fun j b=>?_) (fun j b=>?_)
 ·obtain⟨x,a,d,_⟩:=h.2 j b;have:A.getD j undef=x:=by simp[bV,a]
  rw[this];exact⟨a,d⟩
 ·obtain⟨x,a,d,e⟩:=h.2 j b;exact e.small d
 obtain⟨x,a,d,e⟩:=h.2 j b;have:A.getD j undef=x:=by simp[bV,a]
 rw[this];exact e
theorem R.rcells{c:dk}{cs:List aq}{A:Array Value}(h:R M w c (.agg cs) (.agg A)):oA M w c cs A:=by
 cases h with
 |agg f d b g e=>exact⟨d,fun j a=>⟨f j,(b j a).1,(b j a).2,e j a⟩⟩
theorem FP(off:Nat):∀(l:List Value) (n:Nat) (A:Array Value),
  ((l.zipIdx n).foldl (fun cs p=>cs.setIfInBounds (off+p.2) p.1) A).size=A.size ∧
  ∀j,((l.zipIdx n).foldl (fun cs p=>cs.setIfInBounds (off+p.2) p.1) A)[j]?=if off+n≤j∧j<off+n+l.length∧j<A.size then l[j-(off+n)]? else A[j]?
 |[],n,A=>⟨rfl,fun j=>by rw[if_neg (by rintro⟨d,b,_⟩;simp at b;omega)];rfl⟩
 |v::l,n,A=>by
  obtain⟨d,b⟩:=FP off l (n+1) (A.setIfInBounds (off+n) v);simp only[List.zipIdx_cons,dZ];refine⟨by rw[d];simp,fun j=>?_⟩;rw[b j];simp only[nr,bw];by_cases e:off+(n+1)≤j∧j<off+(n+1)+l.length∧j<A.size
  ·rw[if_pos e,if_pos (by omega),show j-(off+n)=(j-(off+(n+1)))+1 by omega];simp
  rw[if_neg e,dI];by_cases a:off+n=j
  ·subst a;by_cases c:off+n<A.size
   ·rw[if_pos rfl,if_pos c,if_pos ⟨by omega,by omega,c⟩];simp
   rw[if_pos rfl,if_neg c,if_neg (by omega)];simp;omega
  rw[if_neg a,if_neg (by omega)]
theorem aae(off:Nat)(l A:Array Value) :
  (l.zipIdx.foldl (fun cs (c,j)=>cs.setIfInBounds (off+j) c) A).size=A.size ∧
  ∀j,(l.zipIdx.foldl (fun cs (c,j)=>cs.setIfInBounds (off+j) c) A)[j]?=if off≤j∧j<off+l.size∧j<A.size then l[j-off]? else A[j]?:=by
 have h:=FP off l.toList 0 A;have e:l.zipIdx.foldl (fun cs (c,j)=>cs.setIfInBounds (off+j) c) A=(l.toList.zipIdx 0).foldl (fun cs p=>cs.setIfInBounds (off+p.2) p.1) A:=by
  rw[←Array.foldl_toList];simp
 rw[e];simpa using h
theorem abS{c:dk}(place:Nat→Option (Nat×Nat)):∀(d:List (Nat×Value)) (a:List (Nat×Nat×aq)) (zero cs:List aq) (A:Array Value),oA M w c zero A→d.length=a.length →
  (∀i (h:i<d.length) (L:i<a.length),place d[i].1=some (a[i].1,a[i].2.1)∧R M w c a[i].2.2 d[i].2)→fill zero a=some cs →
  ∃B,Instr.fill place A d=some B∧oA M w c cs B
 |[],[],zero,cs,A,h,_,_,f=>by cases f;exact⟨A,rfl,h⟩
 |[],_::_,_,_,_,_,k,_,_=>by simp at k
 |_::_,[],_,_,_,_,k,_,_=>by simp at k
 |(i,cv)::d,(off,s,v)::a,zero,cs,A,h,k,z,f=>by
  simp only[fill]at f;split at f
  ·rename_i E;obtain⟨N,O,P⟩:=E;have n:=z 0 (by simp) (by simp);simp only[cX]at n;obtain⟨g,y,F,p⟩:=tR n.2 (by omega);obtain⟨I,J⟩:=aae off cv.cells A;have Q:=pB (v:=v) (by omega);have b:(zero.take off++cellsOf v++zero.drop (off+s)).length=zero.length:=by simp;omega
   have l:oA M w c (zero.take off++cellsOf v++zero.drop (off+s)) (cv.cells.zipIdx.foldl (fun cs (c,j)=>cs.setIfInBounds (off+j) c) A):=by
    refine⟨by rw[I,h.1,b],fun j m=>?_⟩;rw[b]at m;rw[J j];by_cases G:j<off
    ·rw[if_neg (by omega)];obtain⟨x,r,t,u⟩:=h.2 j m;refine⟨x,r,t,?_⟩;rw[cg (by simp;omega),cg (by simp;omega)];simpa using u
    by_cases H:j<off+s
    ·rw[if_pos ⟨by omega,by omega,by rw[h.1];exact m⟩,p _ (by omega)];refine⟨_,rfl,y.one _ (by omega),?_⟩;have:=y.rel (j-off) (by omega);rw[cg (by simp;omega),cP (by simp;omega)];simp only[de];have e:j-min off zero.length=j-off:=by rw[eK (by omega)]
     simpa [e] using this
    rw[if_neg (by omega)];obtain⟨x,r,t,u⟩:=h.2 j m;refine⟨x,r,t,?_⟩;rw[cP (by simp;omega)];simp only[eH,cn,de];have e:off+s+(j-(min off zero.length+(cellsOf v).length))=j:=by rw[eK (by omega)];omega
    simpa [e] using u
   obtain⟨B,D,o⟩:=abS place d a _ cs _ l (by simpa using k) (fun i hi q=>by have:=z (i+1) (by simpa using hi) (by simpa using q);simpa using this) f;refine⟨B,?_,o⟩;simp only[Instr.fill,n.1];rw[if_neg]
   ·exact D
   have C:cv.cells.size=s:=by omega
   have K:=h.1;simp[C];omega
  cases f
theorem BH(k:Nat):∀(cvs:List Value) (s:Nat) (A:Array Value),(∀v∈cvs,v.cells.size=k)→(s+cvs.length)*k≤A.size →
  ∃B,Instr.fill (fun i=>some (i*k,k)) A ((List.range' s cvs.length).zip cvs)=some B∧B.size=A.size ∧
   ∀p,B[p]?=if s*k≤p∧p<(s+cvs.length)*k then (cvs.flatMap fun v=>v.cells.toList)[p-s*k]? else A[p]?
 |[],s,A,_,_=>⟨A,rfl,rfl,fun p=>by rw[if_neg (by simp)]⟩
 |v::cvs,s,A,a,m=>by
  have e:=a v (dH ..);obtain⟨f,r⟩:=aae (s*k) v.cells A;simp only[bw]at m;have b:(s+(cvs.length+1))*k=(s+1+cvs.length)*k:=by congr 1;omega
  have n:(s+1)*k=s*k+k:=by rw[dN];omega
  have o:(s+1)*k≤(s+1+cvs.length)*k:=cu k (by omega);obtain⟨B,g,h,l⟩:=BH k cvs (s+1) (v.cells.zipIdx.foldl (fun cs (c,j)=>cs.setIfInBounds (s*k+j) c) A) (fun x q=>a x (cd _ q)) (by rw[f];omega);refine⟨B,?_,by rw[h,f],fun p=>?_⟩
  ·rw[show (List.range' s (v::cvs).length)=s::List.range' (s+1) cvs.length by simp[oV]];simp only[fS,Instr.fill];rw[if_neg]
   ·exact g
   simp[e];omega
  rw[l p,r p];simp only[bw,gc,e];by_cases d:(s+1)*k≤p∧p<(s+1+cvs.length)*k
  ·rw[if_pos d,if_pos (by omega),bC (by simp;omega)];congr 1;simp;omega
  rw[if_neg d];by_cases t:s*k≤p∧p<s*k+k
  ·rw[if_pos ⟨by omega,by omega,by omega⟩,if_pos (by omega),aQ (by simp;omega)];simp
  rw[if_neg (by omega),if_neg (by omega)]
end Go.AM
namespace Go.AM
variable {M:dm} {w:World} {P:Program}
theorem rZ{op:BinOp}{k:IntKind}{x y n:Int}(h:intBits op k x y=some n):(Op.intBits op k x y).run P w=.ok (.int k n) w:=by
 cases op<;>simp only[intBits]at h<;>first|(cases h;done)|(injection h with h;subst h;rfl)
theorem RM{c:dk}{op:BinOp}{T:TypeId}{k:IntKind}{a b:Int}{v:aq}(e:op≠.shl∧op≠.shr)(h:Lk op k a b=some v) :
  ∃cv,(binOp op T (.int k a) (.int k b)).run P w=.ok cv w∧R M w c v cv:=by
 cases op<;>simp[Lk]at h e<;>simp only[binOp,ne_eq,not_true,cH]
 case quo=>obtain⟨d,rfl⟩:=h;exact⟨_,by simp only[Op.intDiv,d,cH];rfl,.int⟩
 case rem=>obtain⟨d,rfl⟩:=h;exact⟨_,by simp only[Op.intDiv,d,cH];rfl,.int⟩
 case and=>obtain⟨n,d,rfl⟩:=h;exact⟨_,rZ d,.int⟩
 case or=>obtain⟨n,d,rfl⟩:=h;exact⟨_,rZ d,.int⟩
 case xor=>obtain⟨n,d,rfl⟩:=h;exact⟨_,rZ d,.int⟩
 case andNot=>obtain⟨n,d,rfl⟩:=h;exact⟨_,rZ d,.int⟩
 all_goals subst h;first|exact⟨_,rfl,.int⟩|exact⟨_,rfl,.bool⟩|(refine⟨.bool _,?_,.bool⟩;simp[Op.intCmp])
theorem JZ{c:dk}{op:BinOp}{T:TypeId}{k e:IntKind}{a b:Int}{v:aq}(h:shift op k a b=some v) :
  ∃cv,(binOp op T (.int k a) (.int e b)).run P w=.ok cv w∧R M w c v cv:=by
 unfold shift at h;split at h
 ·cases h
 rename_i d;cases op<;>simp at h<;>subst h
 ·exact⟨_,by simp only[binOp,Op.shift,d,cH];rfl,.int⟩
 exact⟨_,by simp only[binOp,Op.shift,d,cH];rfl,.int⟩
theorem NI{s t:ByteArray}:(s.toList==t.toList)=(s.data.toList==t.data.toList):=by
 rw[Go.ByteArray.toList_eq,Go.ByteArray.toList_eq]
theorem vH(op:BinOp)(T:TypeId)(x y:Operand){a b:Value}(h:(∃k n,a=.int k n)∨(∃s,a=.string s)∨(∃t,a=.bool t)):(eqGuard op T x y a b).run P w=.ok () w:=by
 rcases h with⟨k,n,rfl⟩|⟨s,rfl⟩|⟨t,rfl⟩<;>cases op<;>rfl
theorem adI{c:dk}{op:UnOp}{x v:aq}{b:Value}(a:R M w c x b)(h:una op x=some v):∃cv,(Op.unary op b).run P w=.ok cv w∧R M w c v cv:=by
 unfold una at h;split at h
 ·cases a;cases h;exact⟨_,by simp only[Op.unary,Op.intArith];rfl,.int⟩
 ·cases a;simp only[aT]at h;obtain⟨n,d,rfl⟩:=h;exact⟨_,by simp only[Op.unary];exact rZ d,.int⟩
 ·cases a;cases h;exact⟨_,rfl,.bool⟩
 cases h
theorem run_underlying{T:TypeId}{d:TypeDesc}(h:P.underlying T=some d)(w:World):(underlying T).run P w=.ok d w:=by
 unfold underlying;simp[h]
theorem Zl{c:dk}{S T:TypeId}{k e:IntKind}{n:Int}{d:TypeDesc}(a:P.underlying S=some d)(b:P.underlying T=some (.int k))(hd:∃j,d=.int j) :
  (convert S T (.int e n)).run P w=.ok (.int k (k.wrap n)) w:=by
 obtain⟨j,rfl⟩:=hd;unfold convert;simp only[Sem.run_bind,run_underlying a,run_underlying b,Result.andThen_ok];rfl
end Go.AM
