/- Part of the proof. -/
import GoSem.Core.Sem
import GoSem.Op.String
import GoSem.Core.Utf8
import Derived.Test.YtchifcbclnonbaaGreatDoorAm00
import Derived.CallsIn
import Derived.Laws.Sem
import Derived.Laws.Cells
import Derived.Laws.Rows
import Derived.Laws.Tables
set_option linter.unusedVariables false
set_option linter.unusedSimpArgs false
set_option linter.unusedSectionVars false
namespace Go.AM
inductive ap where
 |int (k:IntKind) (n:Int)
 |bool (b:Bool)
 |str (s:List UInt8)
 |nilp
 |nilf
 |nilm
 |agg (cs:List ap)
 |tup (vs:List ap)
 |aa (b:Bool) (xs:List ap)
 |lst (xs:List ap)
 |ai
 |sl (id ep off len:Nat)
 |ptr (id ep i off:Nat)
 |asl (id ep i off n:Nat)
 |cptr (b:Bool) (x:ap) (off:Nat)
 |fn (f:Nat) (first cap:List ap)
 |imap (b:Bool) (es:List (ap×ap))
 |mp (id:Nat)
 |yld (l site:Nat) (env:List ap)
 |frs (k:Nat) (xs:List ap)
 |emp (b:Bool)
 |it (id:Nat)
 |any
 deriving Inhabited
inductive Ex where
 |nrm
 |ext (id:Nat)
 |ret
 deriving DecidableEq,Inhabited
inductive Obj where
 |arr (k ep:Nat) (es:List ap)
 |map (es:List (ap×ap))
 |pend (busy:Bool) (j:Option Ex)
 |it (s:List UInt8) (pos:Nat)
 |mit (es:List (ap×ap)) (cur:Option (ap×ap)) (k:Nat)
 |dead
 deriving Inhabited
abbrev aw:=List Obj
def wC:ap→Bool
 |.int ..=>true
 |.str _=>true
 |_=>false
def isAgg:ap→Bool
 |.agg _=>true
 |_=>false
def cellsOf:ap→List ap
 |.agg cs=>cs
 |v=>[v]
def aC:ap→Nat
 |.agg cs=>cs.length
 |.any|.tup _|.frs _ _|.asl ..=>0
 |_=>1
def ue(a:Bool)(s:Nat)(x:ap)(off:Nat):Option ap:=
 if off=0∧aC x=s∧isAgg x=a then some x
 else if a then (if off+s≤aC x then some (.agg (((cellsOf x).drop off).take s)) else none)
 else (cellsOf x)[off]?
def AI(s:Nat)(x:ap)(off:Nat)(v:ap):Option ap:=
 if aC v=s then
  if off=0∧aC x=s∧isAgg x=isAgg v then some v
  else if off+s≤aC x∧isAgg x=true then some (.agg ((cellsOf x).take off++cellsOf v++(cellsOf x).drop (off+s)))
  else none
 else none
def sliceAt(σ:aw)(id ep off len:Nat):Option (List ap):=
 match σ[id]? with
 |some (.arr _ e es)=>if e=ep∧off+len≤es.length then some ((es.drop off).take len) else none
 |_=>none
def rS(σ:aw)(id ep i:Nat):Option ap:=
 match σ[id]? with
 |some (.arr _ e es)=>if e=ep then es[i]? else none
 |_=>none
def T0(σ:aw)(id:Nat):Option Nat:=
 match σ[id]? with
 |some (.arr k _ _)=>some k
 |_=>none
def fresh(σ:aw)(id ep:Nat):Bool:=
 match σ[id]? with
 |some (.arr _ e _)=>e==ep
 |_=>false
def gj(σ:aw)(id:Nat):Option (List (ap×ap)):=
 match σ[id]? with
 |some (.map es)=>some es
 |_=>none
def kU(fl:Bool)(l l':List ap):ap:=if l'.map aC=l.map aC then .aa fl l' else .any
def iF(fl:Bool)(x x':ap)(off:Nat):ap:=if aC x'=aC x then .cptr fl x' off else .any
def fz(fl top:Bool)(base:Nat)(σ:aw):Nat→ap→ap
 |0,_=>.any
 |n+1,v=>match v with
  |.agg cs=>.agg (cs.map (fz fl top base σ n))
  |.tup vs=>.tup (vs.map (fz fl top base σ n))
  |.ai=>if !fl&&top then .ai else .aa false []
  |.aa b xs=>if b&&!fl&&!top then .any else .aa b xs
  |.lst xs=>kU fl xs (xs.map (fz fl false base σ n))
  |.cptr b x o=>if b then (if fl then iF true x (fz fl false base σ n x) o else if top then iF true x (fz fl top base σ n x) o else .any) else .cptr false x o
  |.imap b es=>if b&&!fl&&!top then .any else .imap b es
  |.sl id ep off len=>if id<base then (if top then .sl id ep off len else .any) else (sliceAt σ id ep off len).elim .any fun l=>kU fl l (l.map (fz fl false base σ n))
  |.ptr id ep i off=>if id<base then (if top then .ptr id ep i off else .any) else (rS σ id ep i).elim .any fun x=>iF fl x (fz fl false base σ n x) off
  |.asl id ep i off m=>if id<base&&top then .asl id ep i off m else .any
  |.mp id=>if id<base then (if top then .mp id else .any) else (gj σ id).elim .any fun es=>.imap fl (es.map fun e=>(e.1,fz fl false base σ n e.2))
  |.fn f first cap=>.fn f (first.map (fz fl top base σ n)) (cap.map (fz fl top base σ n))
  |.yld l site env=>if l<base&&top then .yld l site (env.map (fz fl top base σ n)) else .any
  |.it id=>if id<base&&top then .it id else .any
  |.frs _ _=>.any
  |v=>v
def dp:Nat:=20
def iC(σ:aw)(v:ap):ap:=fz true false 0 σ dp v
def oV(σ:aw)(v:ap):ap:=fz false false 0 σ dp v
def bG(base:Nat)(σ:aw)(v:ap):ap:=fz false true base σ dp v
def Ri(k ep:Nat)(l l':List ap):Obj:=if l'.map aC=l.map aC then .arr k ep l' else .dead
def aW(base:Nat)(σ:aw):Obj→Obj
 |.arr k ep es=>Ri k ep es (es.map (bG base σ))
 |.map es=>.map (es.map fun e=>(e.1,bG base σ e.2))
 |o=>o
def neg(n:Bool)(t:Bool):ap:=.bool (if n then !t else t)
def rd(σ:aw):ap→Option (List ap)
 |.aa _ xs=>some xs
 |.lst xs=>some xs
 |.ai=>some []
 |.emp _=>some []
 |.sl id ep off len=>sliceAt σ id ep off len
 |.str s=>some (s.map fun c=>.int .u8 c.toNat)
 |_=>none
mutual
def same:ap→ap→Bool
 |.int k n,.int k' n'=>k==k'&&n==n'
 |.bool a,.bool b=>a==b
 |.str a,.str b=>a==b
 |.nilp,.nilp=>true
 |.nilf,.nilf=>true
 |.nilm,.nilm=>true
 |.agg a,.agg b=>nS a b
 |.tup a,.tup b=>nS a b
 |.aa b xs,.aa b' ys=>b==b'&&nS xs ys
 |.lst xs,.lst ys=>nS xs ys
 |.ai,.ai=>true
 |.sl a b c d,.sl a' b' c' d'=>a==a'&&b==b'&&c==c'&&d==d'
 |.ptr a b c d,.ptr a' b' c' d'=>a==a'&&b==b'&&c==c'&&d==d'
 |.asl a b c d e,.asl a' b' c' d' e'=>a==a'&&b==b'&&c==c'&&d==d'&&e==e'
 |.cptr b x o,.cptr b' y o'=>b==b'&&same x y&&o==o'
 |.fn f a b,.fn f' a' b'=>f==f'&&nS a a'&&nS b b'
 |.imap b es,.imap b' es'=>b==b'&&wN es es'
 |.mp a,.mp b=>a==b
 |.yld l s env,.yld l' s' env'=>l==l'&&s==s'&&nS env env'
 |.frs k xs,.frs k' ys=>k==k'&&nS xs ys
 |.emp a,.emp b=>a==b
 |.it a,.it b=>a==b
 |.any,.any=>true
 |_,_=>false
def nS:List ap→List ap→Bool
 |[],[]=>true
 |a::x,b::y=>same a b&&nS x y
 |_,_=>false
def wN:List (ap×ap)→List (ap×ap)→Bool
 |[],[]=>true
 |(a,b)::x,(a',b')::y=>same a a'&&same b b'&&wN x y
 |_,_=>false
end
def Mp:Option (ap×ap)→Option (ap×ap)→Bool
 |none,none=>true
 |some a,some b=>same a.1 b.1&&same a.2 b.2
 |_,_=>false
def Mg:Obj→Obj→Bool
 |.arr k e xs,.arr k' e' ys=>k==k'&&e==e'&&nS xs ys
 |.map es,.map es'=>wN es es'
 |.pend b j,.pend b' j'=>b==b'&&decide (j=j')
 |.it s p,.it s' p'=>s==s'&&p==p'
 |.mit a b c,.mit a' b' c'=>wN a a'&&Mp b b'&&c==c'
 |.dead,.dead=>true
 |_,_=>false
def oL:aw→aw→Bool
 |[],[]=>true
 |a::x,b::y=>Mg a b&&oL x y
 |_,_=>false
inductive cB where
 |env (i:Nat)
 |loc (j:Nat)
 |val (v:ap)
 deriving Inhabited
inductive F4 where
 |mov (x:cB)
 |pick (c a b:cB)
 |box (k:Nat) (x:cB)
 |build (zero:List ap) (parts:List (Nat×Nat×cB))
 |mknil (k:Nat)
 |mkl (k:Nat) (xs:List cB)
 |mksl (k:Nat) (xs:List cB)
 |mkslz (k:Nat) (zero:ap) (n:Nat) (parts:List (Nat×cB))
 |make (k:Nat) (zero:ap) (n c:cB)
 |load (a:Bool) (s:Nat) (x:cB)
 |store (s:Nat) (x v:cB)
 |fld (off:Nat) (x:cB)
 |fldv (a:Bool) (s off:Nat) (x:cB)
 |idxs (k:Nat) (x i:cB)
 |idxa (n s:Nat) (x i:cB)
 |idxv (a:Bool) (n s:Nat) (x i:cB)
 |idxt (x i:cB)
 |bin (op:BinOp) (x y:cB)
 |eqb (n:Bool) (x y:cB)
 |eqa (n:Bool) (ks:List Nat) (x y:cB)
 |isnil (f n:Bool) (x:cB)
 |nils (n:Bool) (x:cB)
 |una (op:UnOp) (x:cB)
 |conv (k:IntKind) (x:cB)
 |slice (k:Nat) (x:cB) (lo hi:Option cB)
 |slicet (x:cB) (lo hi:Option cB)
 |slice0 (x:cB)
 |aslice (n:Nat) (x:cB)
 |len (x:cB)
 |lent (x:cB)
 |cap (x:cB)
 |app (k:Nat) (x y:cB)
 |appz (k:Nat) (zero:ap) (x n:cB)
 |copy (k:Nat) (x y:cB)
 |mins (x:cB) (xs:List cB)
 |maxs (x:cB) (xs:List cB)
 |mkfn (f:Nat) (first cap:List cB)
 |ext (i:Nat) (x:cB)
 |nilck (x:cB)
 |call (f:Nat) (args:List cB) (mat:Bool)
 |callv (f:cB) (args:List cB)
 |mkmap
 |mput (m k v:cB)
 |look (zero:ap) (ok:Bool) (m k:cB)
 |mlen (m:cB)
 |clr (zero:ap) (x:cB)
 |rngs (x:cB)
 |nexts (x:cB)
 |lookk (ks:List Nat) (zero:ap) (ok:Bool) (m k:cB)
 |mputk (ks:List Nat) (m k v:cB)
 |b2s (x:cB)
 |rngm (x:cB)
 |entry (x:cB)
 |bad
 deriving Inhabited
structure bC where
 op:F4
 guard:Option (cB×Bool):=none
 deriving Inhabited
inductive av where
 |skip
 |reg (ops:List bC) (qm:List (Nat×cB))
 |regd (ops:List bC) (qm:List (Nat×cB)) (chk:List (Nat×Nat))
 |seq (a b:av)
 |cond (c:cB) (a b:av)
 |blk (id:Nat) (b:av)
 |loop (clr:List Nat) (b:av)
 |exit (id:Nat)
 |ret
 |rng (n:Nat) (f:cB) (site:Nat)
 |scope (b:av)
 |lift (i off k:Nat) (b:av)
 |mloop (clr:List Nat) (it ok:Nat) (b:av)
 deriving Inhabited
inductive AC where
 |pure
 |fresh (k:Nat)
 |keep
 |trunc
 deriving DecidableEq,Inhabited
inductive K0 where
 |env (i:Nat)
 |cell (a:Bool) (s i:Nat)
 deriving Inhabited
structure aM where
 nenv:Nat
 np:Nat
 mode:AC
 res:List K0
 body:av
 deriving Inhabited
structure wM where
 nenv:Nat
 params:List Nat
 pre:av
 body:av
 deriving Inhabited
abbrev gl:=Nat→List ap→aw→Option (ap×aw)
abbrev adi:=gl→List ap→aw→Option (ap×aw)
inductive jq where
 |none
 |fn (f:aM)
 |nilfn (f:aM)
 |round (r:wM)
 |prim (k:Nat)
 deriving Inhabited
def lU(l:List ap)(i:Nat):ap:=l[i]?.getD .any
def cB.eval(env ls:List ap):cB→ap
 |.env i=>lU env i
 |.loc j=>lU ls j
 |.val v=>v
def lE:ap→ap→Option Bool
 |.int k a,.int k' b=>if k=k' then some (a==b) else none
 |.bool a,.bool b=>some (a==b)
 |.str a,.str b=>some (a==b)
 |_,_=>none
def kP:List ap→List ap→Option Bool
 |[],[]=>some true
 |a::x,b::y=>(lE a b).bind fun t=>if t then kP x y else (kP x y).map fun _=>false
 |_,_=>none
def HT:ap→Option Bool
 |.nilp|.nilf|.nilm=>some true
 |.cptr ..|.fn ..=>some false
 |_=>none
def WI:ap→Bool
 |.nilf|.fn ..=>true
 |_=>false
def LO:ap→Bool
 |.nilp|.cptr ..=>true
 |_=>false
def intBits(op:BinOp)(k:IntKind)(x y:Int):Option Int:=
 let a:=BitVec.ofInt k.bits x
 let b:=BitVec.ofInt k.bits y
 match op with
 |.and=>some (k.wrap (a &&& b).toNat)
 |.or=>some (k.wrap (a |||b).toNat)
 |.xor=>some (k.wrap (a ^^^ b).toNat)
 |.andNot=>some (k.wrap (a &&& ~~~b).toNat)
 |_=>none
def IQ(op:BinOp)(k:IntKind)(a b:Int):Option ap:=
 match op with
 |.add=>some (.int k (k.wrap (a+b)))
 |.sub=>some (.int k (k.wrap (a-b)))
 |.mul=>some (.int k (k.wrap (a*b)))
 |.quo=>if b=0 then none else some (.int k (k.wrap (a.tdiv b)))
 |.rem=>if b=0 then none else some (.int k (a.tmod b))
 |.eql=>some (.bool (a==b))
 |.neq=>some (.bool (a != b))
 |.lss=>some (.bool (decide (a<b)))
 |.leq=>some (.bool (decide (a≤b)))
 |.gtr=>some (.bool (decide (a>b)))
 |.geq=>some (.bool (decide (a≥b)))
 |.shl|.shr=>none
 |_=>(intBits op k a b).map (.int k)
def aV:Nat:=2^36
def ej(op:BinOp)(a b:List UInt8):Option ap:=
 match op with
 |.add=>if a.length+b.length≤aV then some (.str (a++b)) else none
 |.eql=>some (.bool (a==b))
 |.neq=>some (.bool (!(a==b)))
 |.lss=>some (.bool (Op.bytesLess a b))
 |.leq=>some (.bool (Op.bytesLess a b ||a==b))
 |.gtr=>some (.bool (!(Op.bytesLess a b ||a==b)))
 |.geq=>some (.bool (!(Op.bytesLess a b)))
 |_=>none
def shift(op:BinOp)(k:IntKind)(a b:Int):Option ap:=
 if b<0 then none else
 match op with
 |.shl=>some (.int k (k.wrap (a*2^(min b.toNat k.bits))))
 |.shr=>some (.int k (a.fdiv (2^(min b.toNat k.bits))))
 |_=>none
def bin(op:BinOp)(x y:ap):Option ap:=
 match x,y with
 |.int k a,.int k' b=>
  match op with
  |.shl=>shift op k a b
  |.shr=>shift op k a b
  |_=>if k=k' then IQ op k a b else none
 |.str a,.str b=>ej op a b
 |_,_=>none
def eqb(n:Bool)(x y:ap):Option ap:=
 match x,y with
 |.bool a,.bool b=>some (neg n (a==b))
 |_,_=>none
def tm:ap→Nat
 |.int ..=>0
 |.bool _=>1
 |.str _=>2
 |_=>3
def d7:List Nat→List ap→List ap→Option Bool
 |[],_,_=>some true
 |k::ks,a::x,b::y=>if tm a=k then (lE a b).bind fun t=>if t then d7 ks x y else some false else none
 |_,_,_=>none
def eqa(n:Bool)(ks:List Nat)(x y:ap):Option ap:=
 match x,y with
 |.agg a,.agg b=>(d7 ks a b).map (neg n)
 |_,_=>none
def isnil(n:Bool)(x:ap):Option ap:=(HT x).map (neg n)
def ip(σ:aw)(x:ap):Bool:=
 match x with
 |.str _=>false
 |x=>match rd σ x with
  |some []=>true
  |_=>false
def sj(n:Bool)(σ:aw)(x:ap):Option ap:=
 match x with
 |.emp b=>some (neg n b)
 |.str _=>none
 |x=>match rd σ x with
  |some (_::_)=>some (neg n false)
  |_=>none
def una(op:UnOp)(x:ap):Option ap:=
 match op,x with
 |.neg,.int k n=>some (.int k (k.wrap (0-n)))
 |.xor,.int k n=>(intBits .xor k (if k.signed then -1 else k.max) n).map (.int k)
 |.not,.bool b=>some (.bool (!b))
 |_,_=>none
def qN(σ:aw):ap→Option Nat
 |.aa _ xs=>some xs.length
 |.lst xs=>some xs.length
 |.ai=>some 0
 |.emp _=>some 0
 |.sl id ep _ n=>if fresh σ id ep then some n else none
 |_=>none
def G4:ap→Option Nat
 |.str s=>some s.length
 |_=>none
def zA(σ:aw):ap→Bool
 |.aa _ _|.lst _|.ai=>true
 |.sl id ep _ _=>fresh σ id ep
 |_=>false
def oP:ap→Option Nat
 |.int _ n=>if 0≤n then some n.toNat else none
 |_=>none
def aslice(σ:aw)(k:Nat)(x:ap)(lo hi:Nat):Option ap:=
 match x with
 |.aa b xs=>if lo≤hi∧hi≤xs.length∧xs.all (fun y=>aC y==k) then some (.aa b ((xs.drop lo).take (hi-lo))) else none
 |.lst xs=>if lo≤hi∧hi≤xs.length∧xs.all (fun y=>aC y==k) then some (.lst ((xs.drop lo).take (hi-lo))) else none
 |.ai=>if lo=0∧hi=0 then some .ai else none
 |.sl id ep off n=>if lo≤hi∧hi≤n∧T0 σ id=some k then some (.sl id ep (off+lo) (hi-lo)) else none
 |_=>none
def Ea(x:ap)(lo hi:Nat):Option ap:=
 match x with
 |.str s=>if lo≤hi∧hi≤s.length then some (.str ((s.drop lo).take (hi-lo))) else none
 |_=>none
def append(k:Nat)(x:ap)(ys:List ap)(σ:aw):Option (ap×aw):=
 if ys.length=0 then (if zA σ x then some (x,σ) else none) else
 if ys.all (fun y=>aC y==k) then
  match x with
  |.ai=>if ys.length≤aV then some (.sl σ.length 0 0 ys.length,σ++[.arr k 0 ys]) else none
  |.sl id ep off n=>match σ[id]? with
   |some (.arr k' e es)=>
    if k'=k∧e=ep∧off+n≤es.length∧off=0∧n+ys.length≤aV then
     some (.sl id (ep+1) 0 (n+ys.length),σ.set id (.arr k (ep+1) (es.take n++ys)))
    else none
   |_=>none
  |_=>none
 else none
def loadAt(a:Bool)(s:Nat)(p:ap)(σ:aw):Option ap:=
 match p with
 |.cptr _ x off=>ue a s x off
 |.ptr id ep i off=>(rS σ id ep i).bind fun x=>ue a s x off
 |_=>none
def storeAt(s:Nat)(p v:ap)(σ:aw):Option aw:=
 match p with
 |.ptr id ep i off=>match σ[id]? with
  |some (.arr k e es)=>
   if e=ep then (es[i]?).bind fun x=>(AI s x off v).map fun x'=>σ.set id (.arr k e (es.set i x')) else none
  |_=>none
 |_=>none
def EX(a b:ap):Option Bool:=match a,b with
 |.int k x,.int k' y=>if k=k' then some (x==y) else none
 |_,_=>none
def lookup(k:ap):List (ap×ap)→Option (Option ap)
 |[]=>some none
 |e::r=>match EX e.1 k with
  |some true=>some (some e.2)
  |some false=>lookup k r
  |none=>none
def mput(k v:ap):List (ap×ap)→Option (List (ap×ap))
 |[]=>some [(k,v)]
 |e::r=>match EX e.1 k with
  |some true=>some ((e.1,v)::r)
  |some false=>(mput k v r).map (e::·)
  |none=>none
def me:ap→Bool
 |.int ..=>true
 |.str _=>true
 |.bool _=>true
 |_=>false
def kg:ap→Bool
 |.int ..=>true
 |.str _=>true
 |.agg cs=>cs.all me
 |_=>false
def tF:ap→Bool
 |.int ..=>true
 |_=>false
def gW(ks:List Nat):ap→Bool
 |.str _=>ks==[]
 |.agg cs=>ks != []&&cs.map tm==ks&&cs.all me
 |_=>false
def uf(ks:List Nat)(k e:ap):Option Bool:=
 if gW ks e then (match k,e with
  |.str a,.str b=>some (a==b)
  |.agg a,.agg b=>d7 ks a b
  |_,_=>none) else none
def lV(ks:List Nat)(k:ap):List (ap×ap)→Option (Option ap)
 |[]=>some none
 |e::r=>match uf ks k e.1 with
  |some true=>some (some e.2)
  |some false=>lV ks k r
  |none=>none
def xQ(ks:List Nat)(k v:ap):List (ap×ap)→Option (List (ap×ap))
 |[]=>some [(k,v)]
 |e::r=>match uf ks k e.1 with
  |some true=>some ((e.1,v)::r)
  |some false=>(xQ ks k v r).map (e::·)
  |none=>none
def We(env ls:List ap)(d:Nat):Option cB→Option Nat
 |none=>some d
 |some o=>oP (o.eval env ls)
def fill(zero:List ap):List (Nat×Nat×ap)→Option (List ap)
 |[]=>some zero
 |(off,s,v)::r=>if aC v=s∧s≠0∧off+s≤zero.length then fill (zero.take off++cellsOf v++zero.drop (off+s)) r else none
def IU(l:List ap):List (Nat×ap)→List ap
 |[]=>l
 |(i,v)::r=>IU (l.set i v) r
def uQ(lt:Bool):ap→List ap→Option ap
 |x,[]=>some x
 |.int k a,.int k' b::r=>if k=k' then uQ lt (.int k (if lt then (if b<a then b else a) else (if a<b then b else a))) r else none
 |_,_=>none
def ph(σ:aw)(l:Nat):Bool:=match σ[l]? with
 |some (.pend false none)=>true
 |_=>false
def Eu(C:gl)(f:ap)(args:List ap)(σ:aw):Option (ap×aw):=
 match f with
 |.fn f first cap=>C f (first++args++cap) σ
 |.yld l site env=>if ph σ l then C site (.frs l []::env++args) σ else none
 |_=>none
def D7(C:gl)(f:ap)(args:List ap)(σ:aw):Option (ap×aw):=
 match f with
 |.fn f first cap=>C f (first++args++cap) σ
 |_=>none
def ti(mat:Bool)(v:ap)(σ:aw):ap×aw:=
 match v with
 |.frs k xs=>if mat then (.sl σ.length 0 0 xs.length,σ++[.arr k 0 xs]) else (.aa false xs,σ)
 |v=>(v,σ)
def mater(mat:Bool)(r:ap×aw):ap×aw:=
 match r.1 with
 |.tup (v::vs)=>let q:=ti mat v r.2;(.tup (q.1::vs),q.2)
 |v=>ti mat v r.2
def GM(σ:aw)(off:Nat):ap→Option ap
 |.ptr id ep i o=>if fresh σ id ep then some (.ptr id ep i (o+off)) else none
 |.cptr b y o=>some (.cptr b y (o+off))
 |_=>none
def Ab(σ:aw)(k n:Nat):ap→Option ap
 |.aa b xs=>(xs[n]?).bind fun y=>if aC y=k then some (.cptr b y 0) else none
 |.lst xs=>(xs[n]?).bind fun y=>if aC y=k then some (.cptr true y 0) else none
 |.sl id ep off m=>if n<m∧T0 σ id=some k∧fresh σ id ep then some (.ptr id ep (off+n) 0) else none
 |_=>none
def Jc(σ:aw):ap→Option ap
 |.ptr id ep i o=>if fresh σ id ep then some (.ptr id ep i o) else none
 |.cptr b y o=>some (.cptr b y o)
 |.fn f a b=>some (.fn f a b)
 |_=>none
def P2(k:IntKind):ap→Option ap
 |.int _ n=>some (.int k (k.wrap n))
 |_=>none
def Uu(i:Nat):ap→Option ap
 |.tup vs=>vs[i]?
 |_=>none
def Mf(n:Nat):ap→Option ap
 |.str t=>(t[n]?).map fun c=>.int .u8 c.toNat
 |_=>none
def wj(σ:aw):ap→Option (List (ap×ap))
 |.imap _ es=>some es
 |.nilm=>some []
 |.mp id=>gj σ id
 |_=>none
def Ln(σ:aw)(key v:ap):ap→Option aw
 |.mp id=>(gj σ id).bind fun es=>if tF key then (mput key v es).map fun es'=>σ.set id (.map es') else none
 |_=>none
def FB(ks:List Nat)(σ:aw)(key v:ap):ap→Option aw
 |.mp id=>(gj σ id).bind fun es=>if gW ks key then (xQ ks key v es).map fun es'=>σ.set id (.map es') else none
 |_=>none
def wR:List ap→Option (List UInt8)
 |[]=>some []
 |.int .u8 n::r=>(wR r).map (UInt8.ofNat n.toNat::·)
 |_=>none
def SY(σ:aw):ap→Option ap
 |.str _=>none
 |x=>(rd σ x).bind fun ys=>(wR ys).map .str
def WS(σ:aw)(zero:ap):ap→Option aw
 |.sl id ep off n=>match σ[id]? with
  |some (.arr k e es)=>if e=ep∧off+n≤es.length∧aC zero=k then some (σ.set id (.arr k e (es.take off++List.replicate n zero++es.drop (off+n)))) else none
  |_=>none
 |.ai=>some σ
 |_=>none
def QY(a b:ap):ap→Option ap
 |.bool t=>some (if t then a else b)
 |_=>none
def Fw(a:Bool)(s off:Nat)(x:ap):Option ap:=if isAgg x=true∧aC x≠0 then ue a s x off else none
def V8(σ:aw)(n:Nat):ap→Option ap
 |.ptr id ep i o=>if fresh σ id ep then some (.asl id ep i o n) else none
 |.cptr false (.agg cs) 0=>if cs.length=n∧cs.all (fun y=>aC y==1&&!isAgg y)=true then some (.aa false cs) else none
 |_=>none
def ZS:ap→Nat
 |.sl _ _ _ n=>n
 |.asl _ _ _ _ n=>n
 |_=>0
def HI(σ:aw)(n:Nat):ap→Option (List ap)
 |.sl id ep off len=>(rd σ (.sl id ep off len)).map (·.take n)
 |y=>rd σ y
def Mx(σ:aw)(k0:Nat)(ys:List ap):ap→Option aw
 |.asl id ep i off n=>match σ[id]? with
  |some (.arr k e es)=>if e=ep∧k0=1∧ys.length≤n∧ys.all (fun y=>aC y==1&&!isAgg y) then (es[i]?).bind fun x=>
    if isAgg x=true∧off+n≤aC x then some (σ.set id (.arr k e (es.set i (.agg ((cellsOf x).take off++ys++(cellsOf x).drop (off+ys.length)))))) else none
   else none
  |_=>none
 |.sl id ep off n=>match σ[id]? with
  |some (.arr k e es)=>if e=ep∧k=k0∧ys.length≤n∧off+n≤es.length∧ys.all (fun y=>aC y==k) then
    some (σ.set id (.arr k e (es.take off++ys++es.drop (off+ys.length)))) else none
  |_=>none
 |_=>none
def vM(σ:aw):ap→Option (ap×aw)
 |.it id=>match σ[id]? with
  |some (.it s pos)=>if pos<s.length then
    some (.tup [.bool true,.int .i64 pos,.int .i32 (Utf8.decode ⟨s.toArray⟩ pos).1],σ.set id (.it s (pos+(Utf8.decode ⟨s.toArray⟩ pos).2)))
   else some (.tup [.bool false],σ)
  |_=>none
 |_=>none
def OE(σ:aw):ap→Option (ap×aw)
 |.str s=>some (.it σ.length,σ++[.it s 0])
 |_=>none
def V9(σ:aw):ap→Option (ap×aw)
 |.imap false es=>some (.it σ.length,σ++[.mit es none es.length])
 |_=>none
def Nd(σ:aw):ap→Option ap
 |.it id=>match σ[id]? with
  |some (.mit _ (some e) _)=>some (.tup [e.1,e.2])
  |_=>none
 |_=>none
def ZN:ap→Option ap
 |.ai=>some (.int .i64 0)
 |_=>none
def aY(C:gl)(env ls:List ap)(σ:aw):F4→Option (ap×aw)
 |.mov x=>some (x.eval env ls,σ)
 |.pick c a b=>(QY (a.eval env ls) (b.eval env ls) (c.eval env ls)).map (·,σ)
 |.box k x=>let v:=x.eval env ls;if aC v=k then some (.ptr σ.length 0 0 0,σ++[.arr k 0 [v]]) else none
 |.build zero parts=>(fill zero (parts.map fun p=>(p.1,p.2.1,p.2.2.eval env ls))).map fun cs=>(.agg cs,σ)
 |.mknil k=>some (.sl σ.length 0 0 0,σ++[.arr k 0 []])
 |.mkl k xs=>let vs:=xs.map (·.eval env ls);if vs.all (fun v=>aC v==k) then some (.lst vs,σ) else none
 |.mksl k xs=>let vs:=xs.map (·.eval env ls)
  if vs=[] then some (.ai,σ) else
  if vs.all (fun v=>aC v==k) then some (.sl σ.length 0 0 vs.length,σ++[.arr k 0 vs]) else none
 |.mkslz k zero n parts=>let vs:=IU (List.replicate n zero) (parts.map fun p=>(p.1,p.2.eval env ls))
  if vs.all (fun v=>aC v==k) then some (.sl σ.length 0 0 n,σ++[.arr k 0 vs]) else none
 |.make k zero n c=>(oP (n.eval env ls)).bind fun m=>(oP (c.eval env ls)).bind fun d=>
   if m=d∧aC zero=k∧m≤aV then some (.sl σ.length 0 0 m,σ++[.arr k 0 (List.replicate m zero)]) else none
 |.load a s x=>(loadAt a s (x.eval env ls) σ).map (·,σ)
 |.store s x v=>(storeAt s (x.eval env ls) (v.eval env ls) σ).map (.any,·)
 |.fld off x=>(GM σ off (x.eval env ls)).map (·,σ)
 |.fldv a s off x=>(Fw a s off (x.eval env ls)).map (·,σ)
 |.idxs k x i=>(oP (i.eval env ls)).bind fun n=>(Ab σ k n (x.eval env ls)).map (·,σ)
 |.idxa m s x i=>(oP (i.eval env ls)).bind fun n=>if n<m then (GM σ (n*s) (x.eval env ls)).map (·,σ) else none
 |.idxv a m s x i=>(oP (i.eval env ls)).bind fun n=>if n<m then (Fw a s (n*s) (x.eval env ls)).map (·,σ) else none
 |.idxt x i=>(oP (i.eval env ls)).bind fun n=>(Mf n (x.eval env ls)).map (·,σ)
 |.bin op x y=>(bin op (x.eval env ls) (y.eval env ls)).map (·,σ)
 |.eqb n x y=>(eqb n (x.eval env ls) (y.eval env ls)).map (·,σ)
 |.eqa n ks x y=>(eqa n ks (x.eval env ls) (y.eval env ls)).map (·,σ)
 |.isnil f n x=>if (if f then WI (x.eval env ls) else LO (x.eval env ls)) then (isnil n (x.eval env ls)).map (·,σ) else none
 |.nils n x=>(sj n σ (x.eval env ls)).map (·,σ)
 |.una op x=>(una op (x.eval env ls)).map (·,σ)
 |.conv k x=>(P2 k (x.eval env ls)).map (·,σ)
 |.slice k x lo hi=>let v:=x.eval env ls
  (qN σ v).bind fun n=>(We env ls 0 lo).bind fun l=>(We env ls n hi).bind fun h=>(aslice σ k v l h).map (·,σ)
 |.slicet x lo hi=>let v:=x.eval env ls
  (G4 v).bind fun n=>(We env ls 0 lo).bind fun l=>(We env ls n hi).bind fun h=>(Ea v l h).map (·,σ)
 |.slice0 x=>(qN σ (x.eval env ls)).map fun _=>(.ai,σ)
 |.aslice n x=>(V8 σ n (x.eval env ls)).map (·,σ)
 |.len x=>(qN σ (x.eval env ls)).map fun (n:Nat)=>(.int .i64 (n:Int),σ)
 |.lent x=>(G4 (x.eval env ls)).map fun (n:Nat)=>(.int .i64 (n:Int),σ)
 |.cap x=>(ZN (x.eval env ls)).map (·,σ)
 |.app k x y=>(rd σ (y.eval env ls)).bind fun ys=>append k (x.eval env ls) ys σ
 |.appz k zero x n=>(oP (n.eval env ls)).bind fun m=>if aC zero=k∧m≤aV then append k (x.eval env ls) (List.replicate m zero) σ else none
 |.copy k x y=>(HI σ (ZS (x.eval env ls)) (y.eval env ls)).bind fun ys=>(Mx σ k ys (x.eval env ls)).map fun σ'=>(.int .i64 (ys.length:Int),σ')
 |.mins x xs=>(uQ true (x.eval env ls) (xs.map (·.eval env ls))).map (·,σ)
 |.maxs x xs=>(uQ false (x.eval env ls) (xs.map (·.eval env ls))).map (·,σ)
 |.mkfn f first cap=>some (.fn f (first.map (·.eval env ls)) (cap.map (·.eval env ls)),σ)
 |.ext i x=>(Uu i (x.eval env ls)).map (·,σ)
 |.nilck x=>(Jc σ (x.eval env ls)).map (·,σ)
 |.call f args mat=>(C f (args.map (·.eval env ls)) σ).map (mater mat)
 |.callv f args=>(Eu C (f.eval env ls) (args.map (·.eval env ls)) σ).map (mater false)
 |.mkmap=>some (.mp σ.length,σ++[.map []])
 |.mput m k v=>(Ln σ (k.eval env ls) (v.eval env ls) (m.eval env ls)).map (.any,·)
 |.look zero ok m k=>if tF (k.eval env ls) then (wj σ (m.eval env ls)).bind fun es=>(lookup (k.eval env ls) es).map fun r=>(if ok then .tup [r.getD zero,.bool r.isSome] else r.getD zero,σ) else none
 |.mlen m=>(wj σ (m.eval env ls)).map fun es=>(.int .i64 (es.length:Int),σ)
 |.clr zero x=>(WS σ zero (x.eval env ls)).map (.any,·)
 |.rngs x=>OE σ (x.eval env ls)
 |.nexts x=>vM σ (x.eval env ls)
 |.lookk ks zero ok m k=>if gW ks (k.eval env ls) then (wj σ (m.eval env ls)).bind fun es=>(lV ks (k.eval env ls) es).map fun r=>(if ok then .tup [r.getD zero,.bool r.isSome] else r.getD zero,σ) else none
 |.mputk ks m k v=>(FB ks σ (k.eval env ls) (v.eval env ls) (m.eval env ls)).map (.any,·)
 |.b2s x=>(SY σ (x.eval env ls)).map (·,σ)
 |.rngm x=>V9 σ (x.eval env ls)
 |.entry x=>(Nd σ (x.eval env ls)).map (·,σ)
 |.bad=>none
def wanted(env ls:List ap):Option (cB×Bool)→Option Bool
 |none=>some true
 |some (j,b)=>match j.eval env ls with
  |.bool t=>some (t==b)
  |.tup []=>some false
  |_=>none
def kq(C:gl)(env:List ap):List bC→List ap→aw→Option (List ap×aw)
 |[],ls,σ=>some (ls,σ)
 |i::r,ls,σ=>match wanted env ls i.guard with
  |some true=>(aY C env ls σ i.op).bind fun q=>kq C env r (ls++[q.1]) q.2
  |some false=>kq C env r (ls++[.tup []]) σ
  |none=>none
def rY(C:gl)(env:List ap):List bC→List ap→List aw→aw→Option (List ap×List aw×aw)
 |[],ls,ss,σ=>some (ls,ss,σ)
 |i::r,ls,ss,σ=>match wanted env ls i.guard with
  |some true=>(aY C env ls σ i.op).bind fun q=>rY C env r (ls++[q.1]) (ss++[σ]) q.2
  |some false=>rY C env r (ls++[.tup []]) (ss++[σ]) σ
  |none=>none
def pm(C:gl)(env ls:List ap)(ops:List bC)(ss:List aw):List (Nat×Nat)→Option Unit
 |[]=>some ()
 |(n,j)::r=>match ops[n]?,ss[j]? with
  |some i,some τ=>(aY C env (ls.take n) τ i.op).bind fun q=>if same q.1 (lU ls n)&&oL q.2 τ then pm C env ls ops ss r else none
  |_,_=>none
def qm(env old ls:List ap):List (Nat×cB)→List ap
 |[]=>env
 |(s,j)::r=>qm (env.set s (j.eval old ls)) old ls r
structure St where
 env:List ap
 st:aw
def clear(env:List ap):List Nat→List ap
 |[]=>env
 |i::r=>clear (env.set i .any) r
def aT(base:Nat)(clr:List Nat)(s:St):St:=
 if s.st.length=base then ⟨clear s.env clr,s.st⟩
 else ⟨(clear s.env clr).map (bG base s.st),(s.st.take base).map (aW base s.st)⟩
def pP(base:Nat)(clr:List Nat)(f:St→Option (Ex×St)):Nat→St→Option (Ex×St)
 |0,_=>none
 |n+1,s=>(f s).bind fun r=>match r.1 with
  |.nrm=>pP base clr f n (aT base clr r.2)
  |e=>some (e,r.2)
def tH(l:Nat)(env:List ap)(σ:aw):Option (Ex×St):=
 match σ[l]? with
 |some (.pend false none)=>some (.nrm,⟨env,σ.set l .dead⟩)
 |some (.pend false (some e))=>some (e,⟨env,σ.set l .dead⟩)
 |_=>none
def Ba(id ep j q k:Nat)(σ:aw):Option aw:=
 match σ[id]? with
 |some (.arr k' e es)=>if e=ep∧k≠0 then (match es[j]? with
  |some (.agg cs)=>(match cs[q]? with
   |some .ai=>some (σ.set id (.arr k' e (es.set j (.agg (cs.set q (.sl σ.length 0 0 0)))))++[.arr k 0 []])
   |_=>none)
  |some .ai=>if q=0 then some (σ.set id (.arr k' e (es.set j (.sl σ.length 0 0 0)))++[.arr k 0 []]) else none
  |_=>none) else none
 |_=>none
def zz(id ep k:Nat):Nat→aw→Option aw
 |0,σ=>some σ
 |n+1,σ=>(zz id ep k n σ).bind fun σ'=>Ba id ep n 0 k σ'
def EV(p:ap)(off k:Nat)(σ:aw):Option aw:=
 match p with
 |.ptr id ep j o=>Ba id ep j (o+off) k σ
 |.sl id ep o n=>if off=999 then (if o=0 then zz id ep k n σ else none) else Ba id ep (o+off) 0 k σ
 |_=>none
def BE(base:Nat)(clr:List Nat)(env:List ap)(σ:aw)(r:Option (Ex×St)):Bool:=match r with
 |some (.nrm,s)=>(let q:=aT base clr s;nS q.env env&&oL q.st σ)
 |_=>false
def A3(clr:List Nat)(it ok:Nat)(f:St→Option (Ex×St))(s:St):Option (Ex×St):=
 match lU (clear s.env clr) it with
 |.it id=>match s.st[id]? with
  |some (.mit es none k)=>
   let env:=clear s.env clr
   if k=es.length∧((List.range k).all fun j=>es.all fun e=>
     BE s.st.length clr env (s.st.set id (.mit es (some e) j)) (f ⟨env.set ok (.bool true),s.st.set id (.mit es (some e) j)⟩))=true then
    (f ⟨env.set ok (.bool false),s.st.set id (.mit es none 0)⟩).bind fun r=>match r.1 with
     |.nrm=>none
     |_=>some r
   else none
  |_=>none
 |_=>none
def exec(C:gl)(n:Nat):av→St→Option (Ex×St)
 |.skip,s=>some (.nrm,s)
 |.reg ops os,s=>(kq C s.env ops [] s.st).map fun r=>(.nrm,⟨qm s.env s.env r.1 os,r.2⟩)
 |.regd ops os chk,s=>(rY C s.env ops [] [] s.st).bind fun r=>(pm C s.env r.1 ops (r.2.1++[r.2.2]) chk).map fun _=>(.nrm,⟨qm s.env s.env r.1 os,r.2.2⟩)
 |.seq a b,s=>(exec C n a s).bind fun r=>match r.1 with
  |.nrm=>exec C n b r.2
  |e=>some (e,r.2)
 |.cond c a b,s=>match c.eval s.env [] with
  |.bool true=>exec C n a s
  |.bool false=>exec C n b s
  |_=>none
 |.blk id b,s=>(exec C n b s).map fun r=>match r.1 with
  |.ext j=>if j=id then (.nrm,r.2) else r
  |_=>r
 |.loop clr b,s=>pP s.st.length clr (exec C n b) n ⟨clear s.env clr,s.st⟩
 |.exit id,s=>some (.ext id,s)
 |.ret,s=>some (.ret,s)
 |.rng m f site,s=>
  let l:=s.st.length
  if s.env.length=m then
   (D7 C (f.eval s.env []) [.yld l site s.env] (s.st++[.pend false none])).bind fun r=>tH l s.env r.2
  else none
 |.scope b,s=>exec C n b s
 |.lift i off k b,s=>(EV (lU s.env i) off k s.st).bind fun σ=>exec C n b ⟨s.env,σ⟩
 |.mloop clr it ok b,s=>A3 clr it ok (exec C n b) s
def Kj(s:St):K0→Option ap
 |.env i=>some (lU s.env i)
 |.cell a n i=>loadAt a n (lU s.env i) s.st
def wZ(s:St):List K0→Option (List ap)
 |[]=>some []
 |r::rs=>(Kj s r).bind fun v=>(wZ s rs).map (v::·)
def results(s:St)(l:List K0):Option ap:=(wZ s l).map fun vs=>match vs with
 |[v]=>v
 |vs=>.tup vs
def Q5(k:Nat)(l l':List ap):ap:=if l'.map aC=l.map aC then .frs k l' else .any
def py(k:Nat)(σ:aw)(v:ap):ap:=
 match v with
 |.ai=>.frs k []
 |.sl id ep off len=>match σ[id]? with
  |some (.arr k' e es)=>if k'=k∧e=ep∧off=0∧len≤es.length then Q5 k (es.take len) ((es.take len).map (oV (σ.set id .dead))) else .any
  |_=>.any
 |_=>.any
def yE(σ:aw):ap→aw
 |.sl id ..=>σ.set id .dead
 |_=>σ
def gq(m:AC)(σ:aw)(s:St)(v:ap):ap×aw:=
 match m with
 |.pure=>(oV s.st v,σ)
 |.fresh k=>(match v with
  |.tup (x::vs)=>.tup (py k s.st x::vs.map (oV (yE s.st x)))
  |x=>py k s.st x,σ)
 |.keep=>(v,s.st)
 |.trunc=>if s.st.length=σ.length then (v,s.st) else (bG σ.length s.st v,(s.st.take σ.length).map (aW σ.length s.st))
def enter(f:aM)(args:List ap)(σ:aw):St:=
 match f.mode with
 |.pure|.fresh _=>⟨(args.take f.np).map (iC σ)++List.replicate (f.nenv-f.np) .any,[]⟩
 |_=>⟨args.take f.np++List.replicate (f.nenv-f.np) .any,σ⟩
def oM(f:aM)(σ:aw)(r:Ex×St):Option (ap×aw):=
 match r.1 with
 |.ext _=>none
 |_=>(results r.2 f.res).map fun v=>gq f.mode σ r.2 v
def nq(C:gl)(n:Nat)(g:aM)(args:List ap)(σ:aw):Option (ap×aw):=
 (exec C n g.body (enter g args σ)).bind (oM g σ)
def td(env:List ap):List Nat→List ap→List ap
 |p::ps,a::es0=>td (env.set p a) ps es0
 |_,_=>env
structure Code where
 fns:Nat→jq
 prims:Nat→adi
def lZ(l:Nat)(r:Ex×St):Option (ap×aw):=
 match r.2.st[l]? with
 |some (.pend true none)=>
  match r.1 with
  |.nrm=>some (.bool true,r.2.st.set l (.pend false none))
  |e=>some (.bool false,r.2.st.set l (.pend false (some e)))
 |_=>none
def mH(C:gl)(n l:Nat)(b:av)(r:Ex×St):Option (ap×aw):=
 match r.1,r.2.st[l]? with
 |.nrm,some (.pend false none)=>(exec C n b ⟨r.2.env,r.2.st.set l (.pend true none)⟩).bind (lZ l)
 |_,_=>none
def dG(P:Code):Nat→gl
 |0=>fun _ _ _=>none
 |n+1=>fun f args σ=>match P.fns f with
  |.none=>none
  |.prim k=>P.prims k (dG P n) args σ
  |.fn g=>nq (dG P n) n g args σ
  |.nilfn g=>match args with
   |x::rest=>
    if ip σ x then (nq (dG P n) n g (.emp true::rest) σ).bind fun r=>(nq (dG P n) n g (.emp false::rest) σ).bind fun q=>if same r.1 q.1&&oL r.2 q.2 then some r else none
    else nq (dG P n) n g args σ
   |[]=>none
  |.round g=>match args with
   |.frs l _::rest=>
    match σ[l]? with
    |some (.pend false none)=>
     if (rest.drop g.nenv).length=g.params.length then
      (exec (dG P n) n g.pre ⟨td (rest.take g.nenv) g.params (rest.drop g.nenv),σ⟩).bind (mH (dG P n) n l g.body)
     else none
    |_=>none
   |_=>none
end Go.AM
namespace Go.AM
set_option linter.unusedSectionVars false
section Be
variable {α β:Type}
def gQ(F:Nat→Option α):Prop:=∀n r,F n=some r→F (n+1)=some r
open Classical in
noncomputable def Be(F:Nat→Option α):Option α:=if h:∃n r,F n=some r then F (Classical.choose h) else none
theorem gQ.le{F:Nat→Option α}(h:gQ F){n m:Nat}(hm:n≤m){r:α}(hr:F n=some r):F m=some r:=by
 induction hm with
 |refl=>exact hr
 |step _ ih=>exact h _ _ ih
theorem qg{F:Nat→Option α}(h:gQ F)(r:α):Be F=some r↔∃n,F n=some r:=by
 unfold Be;constructor
 ·split
  ·exact fun hr=>⟨_,hr⟩
  intro hr;cases hr
 rintro⟨n,hn⟩;have hx:∃n r,F n=some r:=⟨n,r,hn⟩;rw[dif_pos hx];obtain⟨r',hr'⟩:=jn hx;have h1:=h.le (Nat.le_max_left n (Classical.choose hx)) hn;have h2:=h.le (Nat.le_max_right n (Classical.choose hx)) hr';rw[h1]at h2;cases h2;exact hr'
theorem EP{F:Nat→Option α}(h:gQ F){n:Nat}{r:α}(hr:F n=some r):Be F=some r:=(qg h r).2 ⟨n,hr⟩
theorem zp{a b:Option α}(h:∀r,a=some r↔b=some r):a=b:=by
 cases a with
 |none=>cases b with
  |none=>rfl
  |some y=>exact absurd ((h y).2 rfl) (by simp)
 |some x=>exact ((h x).1 rfl).symm
theorem gQ.const(x:Option α):gQ fun _=>x:=fun _ _ h=>h
theorem bm(x:Option α):Be (fun _=>x)=x:=zp fun r=>by rw[qg (gQ.const x)];exact⟨fun ⟨_,h⟩=>h,fun h=>⟨0,h⟩⟩
theorem gQ.bind{F:Nat→Option α}{G:α→Nat→Option β}(hF:gQ F)(hG:∀x,gQ (G x)):gQ fun n=>(F n).bind fun x=>G x n:=by
 intro n r h;simp only[aA]at h ⊢;obtain⟨x,hx,hr⟩:=h;exact⟨x,hF _ _ hx,hG _ _ _ hr⟩
theorem jP{F:Nat→Option α}{G:α→Nat→Option β}(hF:gQ F)(hG:∀x,gQ (G x)) :
  Be (fun n=>(F n).bind fun x=>G x n)=(Be F).bind fun x=>Be (G x):=by
 refine zp fun r=>?_;rw[qg (hF.bind hG)];simp only[aA];constructor
 ·rintro⟨n,x,hx,hr⟩;exact⟨x,EP hF hx,EP (hG x) hr⟩
 rintro⟨x,hx,hr⟩;obtain⟨n,hn⟩:=(qg hF x).1 hx;obtain⟨m,hm⟩:=(qg (hG x) r).1 hr;exact⟨max n m,x,hF.le (Nat.le_max_left n m) hn,(hG x).le (Nat.le_max_right n m) hm⟩
theorem gQ.map{F:Nat→Option α}(g:α→β)(hF:gQ F):gQ fun n=>(F n).map g:=by
 intro n r h;simp only[aK]at h ⊢;obtain⟨x,hx,hr⟩:=h;exact⟨x,hF _ _ hx,hr⟩
theorem Ae{F:Nat→Option α}(g:α→β)(hF:gQ F):Be (fun n=>(F n).map g)=(Be F).map g:=by
 refine zp fun r=>?_;rw[qg (hF.map g)];simp only[aK];constructor
 ·rintro⟨n,x,hx,hr⟩;exact⟨x,EP hF hx,hr⟩
 rintro⟨x,hx,hr⟩;obtain⟨n,hn⟩:=(qg hF x).1 hx;exact⟨n,x,hn,hr⟩
theorem gQ.shift{F:Nat→Option α}(hF:gQ F):gQ fun n=>F (n+1):=fun n r h=>hF _ _ h
theorem BI{F:Nat→Option α}(hF:gQ F):Be (fun n=>F (n+1))=Be F:=by
 refine zp fun r=>?_;rw[qg hF.shift,qg hF];exact⟨fun ⟨n,h⟩=>⟨n+1,h⟩,fun ⟨n,h⟩=>⟨n,hF _ _ h⟩⟩
end Be
def Sz(C D:gl):Prop:=∀f args σ r,C f args σ=some r→D f args σ=some r
theorem sS{C D:gl}(h:Sz C D){env ls:List ap}{σ:aw}{o:F4}{r:ap×aw}(hr:aY C env ls σ o=some r) :
  aY D env ls σ o=some r:=by
 cases o
 case call f args mat=>
  simp only[aY,aK]at hr ⊢;obtain⟨x,hx,rfl⟩:=hr;exact⟨x,h _ _ _ _ hx,rfl⟩
 case callv f args=>
  simp only[aY,aK]at hr ⊢;obtain⟨x,hx,rfl⟩:=hr;refine⟨x,?_,rfl⟩;unfold Eu at hx ⊢;split at hx
  ·exact h _ _ _ _ hx
  ·split at hx
   ·rename_i hp;rw[if_pos hp];exact h _ _ _ _ hx
   cases hx
  cases hx
 all_goals exact hr
theorem rc{C D:gl}(h:Sz C D){env:List ap}:∀{is:List bC} {ls:List ap} {σ:aw} {r:List ap×aw},
  kq C env is ls σ=some r→kq D env is ls σ=some r
 |[],_,_,_,hr=>hr
 |i::is,ls,σ,r,hr=>by
  simp only[kq]at hr ⊢;cases hw:wanted env ls i.guard with
  |none=>rw[hw]at hr;cases hr
  |some t=>
   rw[hw]at hr;cases t with
   |false=>exact rc h hr
   |true=>
    simp only[aA]at hr ⊢;obtain⟨q,hq,hr⟩:=hr;exact⟨q,sS h hq,rc h hr⟩
theorem ur{C D:gl}(h:Sz C D){env:List ap}:∀{is:List bC} {ls:List ap} {ss:List aw} {σ:aw} {r:List ap×List aw×aw},
  rY C env is ls ss σ=some r→rY D env is ls ss σ=some r
 |[],_,_,_,_,hr=>hr
 |i::is,ls,ss,σ,r,hr=>by
  simp only[rY]at hr ⊢;cases hw:wanted env ls i.guard with
  |none=>rw[hw]at hr;cases hr
  |some t=>
   rw[hw]at hr;cases t with
   |false=>exact ur h hr
   |true=>
    simp only[aA]at hr ⊢;obtain⟨q,hq,hr⟩:=hr;exact⟨q,sS h hq,ur h hr⟩
theorem vU{C D:gl}(h:Sz C D){env ls:List ap}{ops:List bC}{ss:List aw}:∀{l:List (Nat×Nat)} {r:Unit},pm C env ls ops ss l=some r→pm D env ls ops ss l=some r
 |[],_,hr=>hr
 |(n,j)::l,r,hr=>by
  simp only[pm]at hr ⊢;split at hr
  ·rw[aA]at hr ⊢;obtain⟨q,hq,hr⟩:=hr;refine⟨q,sS h hq,?_⟩;split at hr
   ·rename_i hc;rw[if_pos hc];exact vU h hr
   cases hr
  cases hr
theorem si{base:Nat}{clr:List Nat}{f g:St→Option (Ex×St)}(h:∀s r,f s=some r→g s=some r) :
  ∀{n m:Nat} {s:St} {r:Ex×St},n≤m→pP base clr f n s=some r→pP base clr g m s=some r
 |0,_,_,_,_,hr=>by cases hr
 |n+1,0,_,_,hm,_=>by omega
 |n+1,m+1,s,r,hm,hr=>by
  simp only[pP,aA]at hr ⊢;obtain⟨⟨e,q⟩,hx,hr⟩:=hr;refine⟨(e,q),h _ _ hx,?_⟩;cases e with
  |nrm=>exact si h (by omega) hr
  |ext _=>exact hr
  |ret=>exact hr
theorem MY{base:Nat}{clr:List Nat}{env:List ap}{σ:aw}{f g:St→Option (Ex×St)}(h:∀s r,f s=some r→g s=some r){s:St}(hr:BE base clr env σ (f s)=true):BE base clr env σ (g s)=true:=by
 unfold BE at hr;split at hr
 ·rename_i q hq;rw[h _ _ hq];exact hr
 cases hr
theorem MC{clr:List Nat}{it ok:Nat}{f g:St→Option (Ex×St)}(h:∀s r,f s=some r→g s=some r){s:St}{r:Ex×St}(hr:A3 clr it ok f s=some r):A3 clr it ok g s=some r:=by
 unfold A3 at hr ⊢;split at hr
 ·rename_i id hid;split at hr
  ·rename_i es k ho;dsimp only at hr ⊢;split at hr
   ·rename_i hc;obtain⟨hc1,hc2⟩:=hc;have hc3:((List.range k).all fun j=>es.all fun e=>
      BE s.st.length clr (clear s.env clr) (s.st.set id (.mit es (some e) j)) (g ⟨(clear s.env clr).set ok (.bool true),s.st.set id (.mit es (some e) j)⟩))=true:=by
     rw[aI]at hc2 ⊢;intro j hj;have:=hc2 j hj;rw[aI]at this ⊢;exact fun e he=>MY h (this e he)
    rw[if_pos ⟨hc1,hc3⟩];rw[aA]at hr ⊢;obtain⟨x,hx,hr⟩:=hr;exact⟨x,h _ _ hx,hr⟩
   cases hr
  cases hr
 cases hr
theorem fR{C D:gl}(h:Sz C D){n m:Nat}(hm:n≤m):∀{c:av} {s:St} {r:Ex×St},exec C n c s=some r→exec D m c s=some r
 |.skip,_,_,hr=>hr
 |.exit _,_,_,hr=>hr
 |.ret,_,_,hr=>hr
 |.reg ops os,s,r,hr=>by
  simp only[exec,aK]at hr ⊢;obtain⟨x,hx,rfl⟩:=hr;exact⟨x,rc h hx,rfl⟩
 |.seq a b,s,r,hr=>by
  simp only[exec,aA]at hr ⊢;obtain⟨⟨e,q⟩,hx,hr⟩:=hr;refine⟨(e,q),fR h hm hx,?_⟩;cases e with
  |nrm=>exact fR h hm hr
  |ext _=>exact hr
  |ret=>exact hr
 |.regd ops os chk,s,r,hr=>by
  simp only[exec]at hr ⊢;rw[aA]at hr ⊢;obtain⟨x,hx,hr⟩:=hr;refine⟨x,ur h hx,?_⟩;rw[aK]at hr ⊢;obtain⟨y,hy,hr⟩:=hr;exact⟨y,vU h hy,hr⟩
 |.cond c a b,s,r,hr=>by
  simp only[exec]at hr ⊢;split at hr
  ·exact fR h hm hr
  ·exact fR h hm hr
  cases hr
 |.blk id b,s,r,hr=>by
  simp only[exec,aK]at hr ⊢;obtain⟨x,hx,rfl⟩:=hr;exact⟨x,fR h hm hx,rfl⟩
 |.loop clr b,s,r,hr=>by
  simp only[exec]at hr ⊢;exact si (fun s r h'=>fR h hm h') hm hr
 |.scope b,s,r,hr=>by
  simp only[exec]at hr ⊢;exact fR h hm hr
 |.mloop clr it ok b,s,r,hr=>by
  simp only[exec]at hr ⊢;exact MC (fun s r h'=>fR h hm h') hr
 |.lift i off k b,s,r,hr=>by
  simp only[exec]at hr ⊢;rw[aA]at hr ⊢;obtain⟨x,hx,hr⟩:=hr;exact⟨x,hx,fR h hm hr⟩
 |.rng k f site,s,r,hr=>by
  simp only[exec]at hr ⊢;split at hr
  ·rename_i hk;rw[if_pos hk];rw[aA]at hr ⊢;obtain⟨x,hx,hr⟩:=hr;refine⟨x,?_,hr⟩;unfold D7 at hx ⊢;split at hx<;>first|exact h _ _ _ _ hx|cases hx
  cases hr
theorem kr{C D:gl}(h:Sz C D){n m:Nat}(hm:n≤m){g:aM}{args:List ap}{σ:aw}{r:ap×aw}(hr:nq C n g args σ=some r):nq D m g args σ=some r:=by
 unfold nq at hr ⊢;rw[aA]at hr ⊢;obtain⟨x,hx,hr⟩:=hr;exact⟨x,fR h hm hx,hr⟩
theorem uA{C D:gl}(h:Sz C D){n m:Nat}(hm:n≤m){l:Nat}{b:av}{q:Ex×St}{r:ap×aw}(hr:mH C n l b q=some r):mH D m l b q=some r:=by
 unfold mH at hr ⊢;split at hr
 ·rename_i h1 h2;rw[aA]at hr ⊢;obtain⟨x,hx,hr⟩:=hr;exact⟨x,fR h hm hx,hr⟩
 cases hr
def Code.Good(P:Code):Prop:=∀k C D args σ r,Sz C D→P.prims k C args σ=some r→P.prims k D args σ=some r
theorem fN{P:Code}(hP:P.Good):∀n,Sz (dG P n) (dG P (n+1))
 |0=>fun _ _ _ _ h=>by cases h
 |n+1=>fun f args σ r h=>by
  have ih:=fN hP n;simp only[dG]at h ⊢;split at h
  ·cases h
  ·exact hP _ _ _ _ _ _ ih h
  ·exact kr ih (d9 n) h
  ·split at h
   ·split at h
    ·rename_i hc;rw[if_pos hc];rw[aA]at h ⊢;obtain⟨x,hx,hr⟩:=h;refine⟨x,kr ih (d9 n) hx,?_⟩;rw[aA]at hr ⊢;obtain⟨y,hy,hr⟩:=hr;exact⟨y,kr ih (d9 n) hy,hr⟩
    rename_i hc;rw[if_neg hc];exact kr ih (d9 n) h
   cases h
  split at h
  ·split at h
   ·split at h
    ·rename_i hl;rw[if_pos hl];rw[aA]at h ⊢;obtain⟨x,hx,hr⟩:=h;exact⟨x,fR ih (d9 n) hx,uA ih (d9 n) hr⟩
    cases h
   cases h
  cases h
theorem ku{P:Code}(hP:P.Good)(f:Nat)(args:List ap)(σ:aw):gQ fun n=>dG P n f args σ:=
 fun n r h=>fN hP n f args σ r h
noncomputable def db(P:Code)(f:Nat)(args:List ap)(σ:aw):Option (ap×aw):=Be fun n=>dG P n f args σ
noncomputable def run(P:Code)(c:av)(s:St):Option (Ex×St):=Be fun n=>exec (dG P n) n c s
noncomputable def mo(P:Code)(env:List ap)(is:List bC)(ls:List ap)(σ:aw):Option (List ap×aw):=
 Be fun n=>kq (dG P n) env is ls σ
noncomputable def step(P:Code)(env ls:List ap)(σ:aw)(o:F4):Option (ap×aw):=Be fun n=>aY (dG P n) env ls σ o
section eqs
variable {P:Code} (hP:P.Good)
include hP
theorem mf(c:av)(s:St):gQ fun n=>exec (dG P n) n c s:=fun n _ h=>fR (fN hP n) (d9 n) h
theorem Mt(env:List ap)(is:List bC)(ls:List ap)(σ:aw):gQ fun n=>kq (dG P n) env is ls σ:=
 fun n _ h=>rc (fN hP n) h
theorem BS(env ls:List ap)(σ:aw)(o:F4):gQ fun n=>aY (dG P n) env ls σ o:=fun n _ h=>sS (fN hP n) h
theorem OK(env ls:List ap)(σ:aw):mo P env [] ls σ=some (ls,σ):=bm _
theorem CJ(env:List ap)(i:bC)(is:List bC)(ls:List ap)(σ:aw) :
  mo P env (i::is) ls σ=match wanted env ls i.guard with
   |some true=>(step P env ls σ i.op).bind fun q=>mo P env is (ls++[q.1]) q.2
   |some false=>mo P env is (ls++[.tup []]) σ
   |none=>none:=by
 unfold mo;simp only[kq];cases wanted env ls i.guard with
 |none=>exact bm _
 |some t=>cases t with
  |false=>rfl
  |true=>exact jP (G:=fun q n=>kq (dG P n) env is (ls++[q.1]) q.2) (BS hP _ _ _ _) fun x=>Mt hP _ _ _ _
theorem Te(env ls:List ap)(σ:aw)(f:Nat)(args:List cB)(mat:Bool) :
  step P env ls σ (.call f args mat)=(db P f (args.map (·.eval env ls)) σ).map (mater mat):=by
 unfold step db;simp only[aY];exact Ae _ (ku hP _ _ _)
noncomputable def mr(P:Code)(f:ap)(args:List ap)(σ:aw):Option (ap×aw):=
 match f with
 |.fn f first cap=>db P f (first++args++cap) σ
 |.yld l site env=>if ph σ l then db P site (.frs l []::env++args) σ else none
 |_=>none
theorem S6(f:ap)(args:List ap)(σ:aw):Be (fun n=>Eu (dG P n) f args σ)=mr P f args σ:=by
 cases f
 case yld l site env=>
  simp only[Eu,mr];cases ph σ l
  ·exact bm _
  rfl
 all_goals first|rfl|exact bm _
theorem Py(f:ap)(args:List ap)(σ:aw):gQ fun n=>Eu (dG P n) f args σ:=by
 intro n r h;unfold Eu at h ⊢;split at h
 ·exact fN hP n _ _ _ _ h
 ·split at h
  ·rename_i hp;dsimp only;rw[if_pos hp];exact fN hP n _ _ _ _ h
  cases h
 cases h
noncomputable def IB(P:Code)(f:ap)(args:List ap)(σ:aw):Option (ap×aw):=
 match f with
 |.fn f first cap=>db P f (first++args++cap) σ
 |_=>none
theorem Sa(f:ap)(args:List ap)(σ:aw):Be (fun n=>D7 (dG P n) f args σ)=IB P f args σ:=by
 cases f<;>first|rfl|exact bm _
theorem OI(f:ap)(args:List ap)(σ:aw):gQ fun n=>D7 (dG P n) f args σ:=by
 intro n r h;unfold D7 at h ⊢;split at h
 ·exact fN hP n _ _ _ _ h
 cases h
theorem O0(env ls:List ap)(σ:aw)(f:cB)(args:List cB) :
  step P env ls σ (.callv f args)=(mr P (f.eval env ls) (args.map (·.eval env ls)) σ).map (mater false):=by
 unfold step;simp only[aY];rw[Ae _ (Py hP _ _ _),S6 hP]
theorem Ve(s:St):run P .skip s=some (.nrm,s):=bm _
theorem W3(id:Nat)(s:St):run P (.exit id) s=some (.ext id,s):=bm _
theorem YK(s:St):run P .ret s=some (.ret,s):=bm _
theorem Zr(is:List bC)(os:List (Nat×cB))(s:St) :
  run P (.reg is os) s=(mo P s.env is [] s.st).map fun r=>(.nrm,⟨qm s.env s.env r.1 os,r.2⟩):=by
 unfold run mo;simp only[exec];exact Ae _ (Mt hP _ _ _ _)
noncomputable def yM(P:Code)(env:List ap)(is:List bC)(ls:List ap)(ss:List aw)(σ:aw):Option (List ap×List aw×aw):=
 Be fun n=>rY (dG P n) env is ls ss σ
theorem WL(env:List ap)(is:List bC)(ls:List ap)(ss:List aw)(σ:aw):gQ fun n=>rY (dG P n) env is ls ss σ:=
 fun n _ h=>ur (fN hP n) h
theorem Xk(env ls:List ap)(ss:List aw)(σ:aw):yM P env [] ls ss σ=some (ls,ss,σ):=bm _
theorem HN(env:List ap)(i:bC)(is:List bC)(ls:List ap)(ss:List aw)(σ:aw) :
  yM P env (i::is) ls ss σ=match wanted env ls i.guard with
   |some true=>(step P env ls σ i.op).bind fun q=>yM P env is (ls++[q.1]) (ss++[σ]) q.2
   |some false=>yM P env is (ls++[.tup []]) (ss++[σ]) σ
   |none=>none:=by
 unfold yM;simp only[rY];cases wanted env ls i.guard with
 |none=>exact bm _
 |some t=>cases t with
  |false=>rfl
  |true=>exact jP (G:=fun q n=>rY (dG P n) env is (ls++[q.1]) (ss++[σ]) q.2) (BS hP _ _ _ _) fun x=>WL hP _ _ _ _ _
noncomputable def qv(P:Code)(env ls:List ap)(ops:List bC)(ss:List aw)(l:List (Nat×Nat)):Option Unit:=Be fun n=>pm (dG P n) env ls ops ss l
theorem EJ(env ls:List ap)(ops:List bC)(ss:List aw)(l:List (Nat×Nat)):gQ fun n=>pm (dG P n) env ls ops ss l:=fun n _ h=>vU (fN hP n) h
theorem Pe(env ls:List ap)(ops:List bC)(ss:List aw):qv P env ls ops ss []=some ():=bm _
theorem Lj(env ls:List ap)(ops:List bC)(ss:List aw)(n j:Nat)(l:List (Nat×Nat)) :
  qv P env ls ops ss ((n,j)::l)=match ops[n]?,ss[j]? with
   |some i,some τ=>(step P env (ls.take n) τ i.op).bind fun q=>if same q.1 (lU ls n)&&oL q.2 τ then qv P env ls ops ss l else none
   |_,_=>none:=by
 unfold qv;simp only[pm];cases ops[n]? with
 |none=>exact bm _
 |some i=>cases ss[j]? with
  |none=>exact bm _
  |some τ=>
   dsimp only;rw[jP (G:=fun q k=>if same q.1 (lU ls n)&&oL q.2 τ then pm (dG P k) env ls ops ss l else none) (BS hP _ _ _ _) fun q=>?_]
   ·unfold step;congr 1;funext q;split
    ·rfl
    exact bm _
   split
   ·exact EJ hP _ _ _ _ _
   exact gQ.const _
theorem Vm(is:List bC)(os:List (Nat×cB))(chk:List (Nat×Nat))(s:St) :
  run P (.regd is os chk) s=(yM P s.env is [] [] s.st).bind fun r=>(qv P s.env r.1 is (r.2.1++[r.2.2]) chk).map fun _=>(.nrm,⟨qm s.env s.env r.1 os,r.2.2⟩):=by
 unfold run yM qv;simp only[exec];rw[jP (G:=fun r n=>(pm (dG P n) s.env r.1 is (r.2.1++[r.2.2]) chk).map fun _=>(Ex.nrm,(⟨qm s.env s.env r.1 os,r.2.2⟩:St))) (WL hP _ _ _ _ _) fun r=>gQ.map _ (EJ hP _ _ _ _ _)];congr 1;funext r;exact Ae _ (EJ hP _ _ _ _ _)
theorem Zk(a b:av)(s:St) :
  run P (.seq a b) s=(run P a s).bind fun r=>match r.1 with
   |.nrm=>run P b r.2
   |e=>some (e,r.2):=by
 unfold run;simp only[exec];rw[jP (mf hP a s) (fun r=>?_)]
 ·congr 1;funext r;cases r.1 with
  |nrm=>rfl
  |ext id=>exact bm _
  |ret=>exact bm _
 cases r.1 with
 |nrm=>exact mf hP _ _
 |ext id=>exact gQ.const _
 |ret=>exact gQ.const _
theorem UI(c:cB)(a b:av)(s:St) :
  run P (.cond c a b) s=match c.eval s.env [] with
   |.bool true=>run P a s
   |.bool false=>run P b s
   |_=>none:=by
 unfold run;simp only[exec];generalize c.eval s.env []=v;cases v with
 |bool b=>cases b<;>rfl
 |_=>exact bm _
theorem XP(id:Nat)(b:av)(s:St) :
  run P (.blk id b) s=(run P b s).map fun r=>match r.1 with
   |.ext j=>if j=id then (.nrm,r.2) else r
   |_=>r:=by
 unfold run;simp only[exec];exact Ae _ (mf hP _ _)
theorem Sp(b:av)(s:St):run P (.scope b) s=run P b s:=by
 unfold run;simp only[exec]
theorem UE(i off k:Nat)(b:av)(s:St):run P (.lift i off k b) s=(EV (lU s.env i) off k s.st).bind fun σ=>run P b ⟨s.env,σ⟩:=by
 unfold run;simp only[exec];cases EV (lU s.env i) off k s.st with
 |none=>exact bm _
 |some σ=>rfl
theorem Yl(k:Nat)(f:cB)(site:Nat)(s:St) :
  run P (.rng k f site) s=if s.env.length=k then (IB P (f.eval s.env []) [.yld s.st.length site s.env] (s.st++[.pend false none])).bind fun r=>tH s.st.length s.env r.2 else none:=by
 unfold run;simp only[exec];split
 ·rw[jP (OI hP _ _ _) (fun r=>gQ.const _),Sa hP];congr 1;funext r;exact bm _
 exact bm _
noncomputable def cc(P:Code)(base:Nat)(clr:List Nat)(b:av)(s:St):Option (Ex×St):=
 Be fun n=>pP base clr (exec (dG P n) n b) n s
theorem we(base:Nat)(clr:List Nat)(b:av)(s:St):gQ fun n=>pP base clr (exec (dG P n) n b) n s:=
 fun n _ h=>si (fun _ _ h'=>fR (fN hP n) (d9 n) h') (d9 n) h
theorem Xg(clr:List Nat)(b:av)(s:St):run P (.loop clr b) s=cc P s.st.length clr b ⟨clear s.env clr,s.st⟩:=by
 unfold run cc;simp only[exec]
theorem nr(base:Nat)(clr:List Nat)(b:av)(s:St) :
  cc P base clr b s=(run P b s).bind fun r=>match r.1 with
   |.nrm=>cc P base clr b (aT base clr r.2)
   |e=>some (e,r.2):=by
 have h1:cc P base clr b s=Be fun n=>(exec (dG P n) n b s).bind fun r=>match r.1 with
   |.nrm=>pP base clr (exec (dG P n) n b) n (aT base clr r.2)
   |e=>some (e,r.2):=by
  refine zp fun q=>?_;have hm:gQ fun n=>(exec (dG P n) n b s).bind fun r=>match r.1 with
   |.nrm=>pP base clr (exec (dG P n) n b) n (aT base clr r.2)
   |e=>some (e,r.2):=by
   refine gQ.bind (G:=fun r n=>match r.1 with
    |.nrm=>pP base clr (exec (dG P n) n b) n (aT base clr r.2)
    |e=>some (e,r.2)) (mf hP b s) fun r=>?_
   cases r.1 with
   |nrm=>exact we hP _ _ _ _
   |ext id=>exact gQ.const _
   |ret=>exact gQ.const _
  rw[cc,qg (we hP base clr b s),qg hm];constructor
  ·rintro⟨n,hn⟩;cases n with
   |zero=>cases hn
   |succ n=>
    refine⟨n+1,?_⟩;rw[pP,aA]at hn;obtain⟨⟨e,q⟩,hx,hr⟩:=hn;rw[aA];refine⟨(e,q),hx,?_⟩;cases e with
    |nrm=>exact si (fun _ _ h=>h) (d9 n) hr
    |ext _=>exact hr
    |ret=>exact hr
  rintro⟨n,hn⟩;refine⟨n+1,?_⟩;rw[aA]at hn;obtain⟨⟨e,q⟩,hx,hr⟩:=hn;rw[pP,aA];refine⟨(e,q),fR (fN hP n) (d9 n) hx,?_⟩;cases e with
  |nrm=>exact si (fun _ _ h=>fR (fN hP n) (d9 n) h) (aB n) hr
  |ext _=>exact hr
  |ret=>exact hr
 rw[h1];rw[jP (G:=fun r n=>match r.1 with
   |.nrm=>pP base clr (exec (dG P n) n b) n (aT base clr r.2)
   |e=>some (e,r.2)) (mf hP b s) (fun r=>?_)]
 ·unfold run;congr 1;funext r;cases r.1 with
  |nrm=>rfl
  |ext id=>exact bm _
  |ret=>exact bm _
 cases r.1 with
 |nrm=>exact we hP _ _ _ _
 |ext id=>exact gQ.const _
 |ret=>exact gQ.const _
theorem vZ{f:Nat}{g:aM}(h:P.fns f=.fn g)(args:List ap)(σ:aw) :
  db P f args σ=(run P g.body (enter g args σ)).bind (oM g σ):=by
 unfold db;rw[←BI (ku hP _ _ _)];simp only[dG,h,nq];rw[jP (mf hP _ _) (fun _=>gQ.const _)];unfold run;congr 1;funext r;exact bm _
theorem Nl(g:aM)(args:List ap)(σ:aw):gQ fun n=>nq (dG P n) n g args σ:=fun n _ h=>kr (fN hP n) (d9 n) h
noncomputable def kw(P:Code)(g:aM)(args:List ap)(σ:aw):Option (ap×aw):=(run P g.body (enter g args σ)).bind (oM g σ)
theorem B6(g:aM)(args:List ap)(σ:aw):Be (fun n=>nq (dG P n) n g args σ)=kw P g args σ:=by
 unfold nq kw;rw[jP (mf hP _ _) (fun _=>gQ.const _)];unfold run;congr 1;funext r;exact bm _
theorem iV{f:Nat}{g:aM}(h:P.fns f=.nilfn g)(x:ap)(rest:List ap)(σ:aw) :
  db P f (x::rest) σ=if ip σ x then (kw P g (.emp true::rest) σ).bind fun r=>(kw P g (.emp false::rest) σ).bind fun q=>if same r.1 q.1&&oL r.2 q.2 then some r else none
   else kw P g (x::rest) σ:=by
 unfold db;rw[←BI (ku hP _ _ _)];simp only[dG,h];generalize ip σ x=v;cases v with
 |false=>exact B6 hP _ _ _
 |true=>
   simp only[bU];rw[jP (G:=fun r n=>(nq (dG P n) n g (.emp false::rest) σ).bind fun q=>if same r.1 q.1&&oL r.2 q.2 then some r else none) (Nl hP _ _ _) (fun r=>gQ.bind (Nl hP _ _ _) fun q=>gQ.const _),B6 hP];congr 1;funext r;rw[jP (Nl hP _ _ _) (fun q=>gQ.const _),B6 hP];congr 1;funext q;exact bm _
noncomputable def tS(P:Code)(l:Nat)(b:av)(r:Ex×St):Option (ap×aw):=
 match r.1,r.2.st[l]? with
 |.nrm,some (.pend false none)=>(run P b ⟨r.2.env,r.2.st.set l (.pend true none)⟩).bind (lZ l)
 |_,_=>none
theorem Ou(l:Nat)(b:av)(r:Ex×St):gQ fun n=>mH (dG P n) n l b r:=fun n _ h=>uA (fN hP n) (d9 n) h
theorem Se(l:Nat)(b:av)(r:Ex×St):Be (fun n=>mH (dG P n) n l b r)=tS P l b r:=by
 unfold mH tS;obtain⟨e,env,σ⟩:=r;cases e with
 |ext _=>exact bm _
 |ret=>exact bm _
 |nrm=>
  dsimp only;generalize σ[l]?=v;have key:Be (fun n=>(exec (dG P n) n b ⟨env,σ.set l (.pend true none)⟩).bind (lZ l))=(run P b ⟨env,σ.set l (.pend true none)⟩).bind (lZ l):=by
   rw[jP (mf hP _ _) (fun _=>gQ.const _)];unfold run;congr 1;funext q;exact bm _
  cases v with
  |none=>exact bm _
  |some o=>cases o with
   |pend b j=>cases b with
    |true=>exact bm _
    |false=>cases j with
     |none=>exact key
     |some _=>exact bm _
   |_=>exact bm _
theorem MR{f:Nat}{g:wM}(h:P.fns f=.round g)(l:Nat)(e rest:List ap)(σ:aw) :
  db P f (.frs l e::rest) σ=match σ[l]? with
   |some (.pend false none)=>if (rest.drop g.nenv).length=g.params.length then
     (run P g.pre ⟨td (rest.take g.nenv) g.params (rest.drop g.nenv),σ⟩).bind (tS P l g.body)
    else none
   |_=>none:=by
 unfold db;rw[←BI (ku hP _ _ _)];simp only[dG,h];generalize σ[l]?=v;have key:∀s':St,Be (fun n=>(exec (dG P n) n g.pre s').bind (mH (dG P n) n l g.body))=(run P g.pre s').bind (tS P l g.body):=fun s'=>by
  rw[jP (G:=fun r n=>mH (dG P n) n l g.body r) (mf hP _ _) (fun r=>Ou hP _ _ _)];unfold run;congr 1;funext r;exact Se hP _ _ _
 cases v with
 |none=>exact bm _
 |some o=>cases o with
  |pend b j=>cases b with
   |true=>exact bm _
   |false=>cases j with
    |none=>
     dsimp only;split
     ·exact key _
     exact bm _
    |some e=>exact bm _
  |_=>exact bm _
theorem FN{f k n:Nat}(h:P.fns f=.prim k){args:List ap}{σ:aw}{r:ap×aw}(hr:P.prims k (dG P n) args σ=some r) :
  db P f args σ=some r:=by
 refine EP (ku hP _ _ _) (n:=n+1) ?_;simp only[dG,h];exact hr
end eqs
end Go.AM
namespace Go.AM
inductive Hd where
 |arr (k ep:Nat)
 |map
 |pend
 |it
 |dead
 deriving DecidableEq
def hd(σ:aw)(id:Nat):Hd:=match σ[id]? with
 |some (.arr k ep _)=>.arr k ep
 |some (.map _)=>.map
 |some (.pend _ _)=>.pend
 |some (.it _ _)=>.it
 |some (.mit _ _ _)=>.it
 |some .dead=>.dead
 |none=>.dead
structure kB where
 fn:FuncId
 tmps:Array Value
 params:Array Tmp
 assign:Go.Code
 body:Go.Code
 defers:Nat
structure cJ where
 sld:Nat→Prop
 bor:Nat→Prop
 H:Nat→Hd
 N:Nat
 place:Nat→Option Nat
 room:Nat→Nat
 loops:Nat→kB
def cJ.still(c:cJ)(b:Bool):cJ:={ c with bor:=if b then c.bor else c.sld,H:=fun _=>.dead,N:=0 }
abbrev acQ:=Nat→kB→List Nat→Prop
structure cO where
 fm:Nat→FuncId
 site:acQ
 glob:Nat→Option ap
 tabs:World→(Nat→Prop)→Prop
 tabs_ext:∀w w' (s s':Nat→Prop),tabs w s→(∀b,s b→s' b)→(∀b,s b→w'.heap[b]?=w.heap[b]?)→tabs w' s'
variable (M:cO) (w:World)
inductive R:cJ→ap→Value→Prop
 |any {c v}:R c .any v
 |emp {c b cap} {a:Option Addr}:a.isNone=b→R c (.emp b) (.slice a 0 cap)
 |int {c k n}:R c (.int k n) (.int k n)
 |bool {c b}:R c (.bool b) (.bool b)
 |str {c s} {t:ByteArray}:t.data.toList=s→R c (.str s) (.string t)
 |nilp {c}:R c .nilp (.pointer none)
 |nilf {c}:R c .nilf .nilFunc
 |nilm {c}:R c .nilm (.map none)
 |agg {c cs} {vs:Array Value} (f:Nat→Value):vs.size=cs.length→(∀i (h:i<cs.length),vs[i]?=some (f i)∧(f i).oneCell'=true) →
   (∀i (h:i<cs.length),aC cs[i]≤1∧isAgg cs[i]=false)→(∀i (h:i<cs.length),R c cs[i] (f i))→R c (.agg cs) (.agg vs)
 |tup {c cs} {vs:Array Value} (f:Nat→Value):vs.size=cs.length→(∀i (h:i<cs.length),vs[i]?=some (f i)) →
   (∀i (h:i<cs.length),R c cs[i] (f i))→R c (.tup cs) (.tuple vs)
 |aa {c b xs cap} {a:Addr} (K:Nat) (f:Nat→Nat→Value):(if b then c.bor a.block else c.sld a.block)→a.spot=none→xs.length≤cap→K≠0 →
   (∀x∈xs,aC x=K)→(∀i j,i<xs.length→j<K→w.cell? ⟨a.block,a.off+i*K+j,none⟩=some (f i j)∧(f i j).oneCell'=true) →
   (∀i (hi:i<xs.length) j (hj:j<(cellsOf xs[i]).length),R (c.still b) (cellsOf xs[i])[j] (f i j))→R c (.aa b xs) (.slice (some a) xs.length cap)
 |imm0 {c b cap} {a:Option Addr}:R c (.aa b []) (.slice a 0 cap)
 |lst {c xs cap} {a:Addr} (K:Nat) (f:Nat→Nat→Value):c.sld a.block→a.spot=none→xs.length≤cap→K≠0 →
   (∀x∈xs,aC x=K)→(∀i j,i<xs.length→j<K→w.cell? ⟨a.block,a.off+i*K+j,none⟩=some (f i j)∧(f i j).oneCell'=true) →
   (∀i (hi:i<xs.length) j (hj:j<(cellsOf xs[i]).length),R c (cellsOf xs[i])[j] (f i j))→R c (.lst xs) (.slice (some a) xs.length cap)
 |lst0 {c cap} {a:Option Addr}:R c (.lst []) (.slice a 0 cap)
 |ai {c} {a:Option Addr}:R c .ai (.slice a 0 0)
 |sl {c id ep off len cap k blk}:id<c.N→c.H id=.arr k ep→c.place id=some blk→len≤cap→(off+cap)*k≤c.room id →
   R c (.sl id ep off len) (.slice (some ⟨blk,off*k,none⟩) len cap)
 |sl0 {c id ep off k} {a:Option Addr}:id<c.N→c.H id=.arr k ep→R c (.sl id ep off 0) (.slice a 0 0)
 |slOld {c id ep off len v}:v.oneCell'=true→id<c.N→(∀k e,c.H id=.arr k e→ep<e)→(c.H id≠.map)→(c.H id≠.pend)→R c (.sl id ep off len) v
 |ptr {c id ep i off k blk}:id<c.N→c.H id=.arr k ep→c.place id=some blk→R c (.ptr id ep i off) (.pointer (some ⟨blk,i*k+off,none⟩))
 |ptrOld {c id ep i off v}:v.oneCell'=true→id<c.N→(∀k e,c.H id=.arr k e→ep<e)→(c.H id≠.map)→(c.H id≠.pend)→R c (.ptr id ep i off) v
 |asl {c id ep i off n k blk}:id<c.N→c.H id=.arr k ep→c.place id=some blk→R c (.asl id ep i off n) (.slice (some ⟨blk,i*k+off,none⟩) n n)
 |aslOld {c id ep i off n v}:id<c.N→(∀k e,c.H id=.arr k e→ep<e)→(c.H id≠.map)→(c.H id≠.pend)→R c (.asl id ep i off n) v
 |cptr {c b x off} {o blk:Nat} (f:Nat→Value):(if b then c.bor blk else c.sld blk)→aC x≠0 →
   (∀j,j<aC x→w.cell? ⟨blk,o+j,none⟩=some (f j)∧(f j).oneCell'=true) →
   (∀j (hj:j<(cellsOf x).length),R (if b then c else c.still false) (cellsOf x)[j] (f j))→R c (.cptr b x off) (.pointer (some ⟨blk,o+off,none⟩))
 |fn {c n first cap} {fs cs:Array Value} (f g:Nat→Value):fs.size=first.length→cs.size=cap.length→(∀i (h:i<first.length),fs[i]?=some (f i))→(∀i (h:i<cap.length),cs[i]?=some (g i)) →
   (∀i (h:i<first.length),R c first[i] (f i))→(∀i (h:i<cap.length),R c cap[i] (g i))→R c (.fn n first cap) (.func (.func (M.fm n)) fs cs)
 |imap {c b es} {r clock:Nat} {en:Array MapEntry} (f g:Nat→Value):(if b then c.bor r else c.sld r)→w.heap[r]?=some (.map en clock)→en.size=es.length →
   (∀i (h:i<es.length),∃e,en[i]?=some e∧e.key=f i∧e.val=g i∧kg (es[i]).1=true∧e.born<clock)→(∀i (h:i<es.length),R (c.still b) (es[i]).1 (f i))→(∀i (h:i<es.length),R (c.still b) (es[i]).2 (g i)) →
   R c (.imap b es) (.map (some r))
 |mp {c id blk}:id<c.N→c.H id=.map→c.place id=some blk→R c (.mp id) (.map (some blk))
 |mpOld {c id v}:v.oneCell'=true→id<c.N→c.H id=.dead→R c (.mp id) v
 |yld {c l site env em blk} (f:Nat→Value):l<c.N→c.H l=.pend→c.place l=some blk→M.site site (c.loops l) em→em.length=env.length →
   (∀i (h:i<em.length) (hx:i<env.length),(c.loops l).tmps[em[i]]?=some (f i))→(∀i (hx:i<env.length),R c env[i] (f i))→R c (.yld l site env) (.func (.yield blk) #[] #[])
 |yldOld {c l site env v}:v.oneCell'=true→l<c.N→c.H l=.dead→R c (.yld l site env) v
 |it {c id blk}:id<c.N→c.H id=.it→c.place id=some blk→R c (.it id) (.pointer (some ⟨blk,0,none⟩))
 |itOld {c id v}:v.oneCell'=true→id<c.N→c.H id=.dead→R c (.it id) v
def Hd.le:Hd→Hd→Prop
 |a,b=>a=b∨b=.dead∨(∃k e e',a=.arr k e∧b=.arr k e'∧e<e')
structure Ext (c:cJ) (w:World) (c':cJ) (w':World):Prop where
 sld:∀b,c.sld b→c'.sld b
 bor:∀b,c.bor b→c'.bor b
 rest:∀b,c.bor b∨c.sld b→w'.heap[b]?=w.heap[b]?
 N:c.N≤c'.N
 head:∀id,id<c.N→(c.H id).le (c'.H id)
 place:∀id,id<c.N→c.H id=c'.H id→c.H id≠.dead→c'.place id=c.place id∧c'.room id=c.room id∧c'.loops id=c.loops id
variable {M w}
theorem Ext.refl(c:cJ)(w:World):Ext c w c w:=
 ⟨fun _ h=>h,fun _ h=>h,fun _ _=>rfl,aB _,fun _ _=>.inl rfl,fun _ _ _ _=>⟨rfl,rfl,rfl⟩⟩
theorem Hd.le_refl(a:Hd):a.le a:=.inl rfl
theorem Hd.le_dead{b:Hd}(h:Hd.le .dead b):b=.dead:=by
 rcases h with h|h|⟨k,e,e',h,_⟩
 ·exact h.symm
 ·exact h
 cases h
theorem Ext.still{c c':cJ}{w w':World}(h:Ext c w c' w')(b:Bool):Ext (c.still b) w (c'.still b) w' where
 sld:=h.sld
 bor:=by
  intro x hx;cases b
  ·exact h.sld x hx
  exact h.bor x hx
 rest:=by
  intro x hx;cases b
  ·exact h.rest x (.inr (hx.elim id id))
  exact h.rest x hx
 N:=aB _
 head:=fun id hid=>absurd hid (cF _)
 place:=fun id hid=>absurd hid (cF _)
theorem nK{w w':World}{b:Nat}(h:w'.heap[b]?=w.heap[b]?)(off:Nat):w'.cell? ⟨b,off,none⟩=w.cell? ⟨b,off,none⟩:=by
 simp only[World.cell?,h]
theorem R.ext{c c':cJ}{w':World}{v:ap}{x:Value}(h:R M w c v x)(he:Ext c w c' w'):R M w' c' v x:=by
 induction h generalizing c' with
 |any=>exact .any
 |emp h=>exact .emp h
 |int=>exact .int
 |bool=>exact .bool
 |str h=>exact .str h
 |nilp=>exact .nilp
 |nilf=>exact .nilf
 |nilm=>exact .nilm
 |agg f h1 h2 h3 _ ih=>exact .agg f h1 h2 h3 fun i hi=>ih i hi he
 |tup f h1 h2 _ ih=>exact .tup f h1 h2 fun i hi=>ih i hi he
 |@aa c b xs cap a K f h1 h2 h3 h4 h5 h6 _ ih=>
  have hr:w'.heap[a.block]?=w.heap[a.block]?:=he.rest _ (by cases b<;>simp at h1<;>simp[h1]);refine .aa K f ?_ h2 h3 h4 h5 (fun i j hi hj=>by rw[nK hr];exact h6 i j hi hj) fun i hi j hj=>ih i hi j hj (he.still b);cases b
  ·exact he.sld _ h1
  exact he.bor _ h1
 |imm0=>exact .imm0
 |@lst c xs cap a K f h1 h2 h3 h4 h5 h6 _ ih=>
  have hr:w'.heap[a.block]?=w.heap[a.block]?:=he.rest _ (.inr h1);exact .lst K f (he.sld _ h1) h2 h3 h4 h5 (fun i j hi hj=>by rw[nK hr];exact h6 i j hi hj) fun i hi j hj=>ih i hi j hj he
 |lst0=>exact .lst0
 |ai=>exact .ai
 |@sl c id ep off len cap k blk h1 h2 h3 h4 h5=>
  have hl:=he.head id h1;have hlt:=aN h1 he.N;by_cases hq:c.H id=c'.H id
  ·obtain⟨p1,p2,_⟩:=he.place id h1 hq (by rw[h2];simp);exact .sl hlt (hq▸h2) (p1▸h3) h4 (p2▸h5)
  rw[h2]at hl hq;rcases hl with hl|hl|⟨k',e,e',hl1,hl2,hl3⟩
  ·exact absurd hl hq
  ·exact .slOld rfl hlt (by rw[hl];simp) (by rw[hl];simp) (by rw[hl];simp)
  cases hl1;exact .slOld rfl hlt (by rw[hl2];rintro k e ⟨⟩;exact hl3) (by rw[hl2];simp) (by rw[hl2];simp)
 |@sl0 c id ep off k a h1 h2=>
  have hl:=he.head id h1;have hlt:=aN h1 he.N;rw[h2]at hl;rcases hl with hl|hl|⟨k',e,e',hl1,hl2,hl3⟩
  ·exact .sl0 hlt hl.symm
  ·exact .slOld rfl hlt (by rw[hl];simp) (by rw[hl];simp) (by rw[hl];simp)
  cases hl1;exact .slOld rfl hlt (by rw[hl2];rintro k e ⟨⟩;exact hl3) (by rw[hl2];simp) (by rw[hl2];simp)
 |@slOld c id ep off len v h0 h1 h2 h3 h4=>
  have hl:=he.head id h1;have hlt:=aN h1 he.N;refine .slOld h0 hlt ?_ ?_ ?_
  ·intro k e hk;rcases hl with hl|hl|⟨k',e1,e',hl1,hl2,hl3⟩
   ·exact h2 k e (hl▸hk)
   ·rw[hl]at hk;cases hk
   rw[hl2]at hk;cases hk;exact kH (h2 _ _ hl1) hl3
  ·rcases hl with hl|hl|⟨k',e1,e',hl1,hl2,hl3⟩
   ·rw[←hl];exact h3
   ·rw[hl];simp
   rw[hl2];simp
  rcases hl with hl|hl|⟨k',e1,e',hl1,hl2,hl3⟩
  ·rw[←hl];exact h4
  ·rw[hl];simp
  rw[hl2];simp
 |@ptr c id ep i off k blk h1 h2 h3=>
  have hl:=he.head id h1;have hlt:=aN h1 he.N;by_cases hq:c.H id=c'.H id
  ·obtain⟨p1,p2,_⟩:=he.place id h1 hq (by rw[h2];simp);exact .ptr hlt (hq▸h2) (p1▸h3)
  rw[h2]at hl hq;rcases hl with hl|hl|⟨k',e,e',hl1,hl2,hl3⟩
  ·exact absurd hl hq
  ·exact .ptrOld rfl hlt (by rw[hl];simp) (by rw[hl];simp) (by rw[hl];simp)
  cases hl1;exact .ptrOld rfl hlt (by rw[hl2];rintro k e ⟨⟩;exact hl3) (by rw[hl2];simp) (by rw[hl2];simp)
 |@ptrOld c id ep i off v h0 h1 h2 h3 h4=>
  have hl:=he.head id h1;have hlt:=aN h1 he.N;refine .ptrOld h0 hlt ?_ ?_ ?_
  ·intro k e hk;rcases hl with hl|hl|⟨k',e1,e',hl1,hl2,hl3⟩
   ·exact h2 k e (hl▸hk)
   ·rw[hl]at hk;cases hk
   rw[hl2]at hk;cases hk;exact kH (h2 _ _ hl1) hl3
  ·rcases hl with hl|hl|⟨k',e1,e',hl1,hl2,hl3⟩
   ·rw[←hl];exact h3
   ·rw[hl];simp
   rw[hl2];simp
  rcases hl with hl|hl|⟨k',e1,e',hl1,hl2,hl3⟩
  ·rw[←hl];exact h4
  ·rw[hl];simp
  rw[hl2];simp
 |@asl c id ep i off n k blk h1 h2 h3=>
  have hl:=he.head id h1;have hlt:=aN h1 he.N;by_cases hq:c.H id=c'.H id
  ·obtain⟨p1,p2,_⟩:=he.place id h1 hq (by rw[h2];simp);exact .asl hlt (hq▸h2) (p1▸h3)
  rw[h2]at hl hq;rcases hl with hl|hl|⟨k',e,e',hl1,hl2,hl3⟩
  ·exact absurd hl hq
  ·exact .aslOld hlt (by rw[hl];simp) (by rw[hl];simp) (by rw[hl];simp)
  cases hl1;exact .aslOld hlt (by rw[hl2];rintro k e ⟨⟩;exact hl3) (by rw[hl2];simp) (by rw[hl2];simp)
 |@aslOld c id ep i off n v h1 h2 h3 h4=>
  have hl:=he.head id h1;have hlt:=aN h1 he.N;refine .aslOld hlt ?_ ?_ ?_
  ·intro k e hk;rcases hl with hl|hl|⟨k',e1,e',hl1,hl2,hl3⟩
   ·exact h2 k e (hl▸hk)
   ·rw[hl]at hk;cases hk
   rw[hl2]at hk;cases hk;exact kH (h2 _ _ hl1) hl3
  ·rcases hl with hl|hl|⟨k',e1,e',hl1,hl2,hl3⟩
   ·rw[←hl];exact h3
   ·rw[hl];simp
   rw[hl2];simp
  rcases hl with hl|hl|⟨k',e1,e',hl1,hl2,hl3⟩
  ·rw[←hl];exact h4
  ·rw[hl];simp
  rw[hl2];simp
 |@cptr c b x off o blk f h1 h2 h3 _ ih=>
  have hr:w'.heap[blk]?=w.heap[blk]?:=he.rest _ (by cases b<;>simp at h1<;>simp[h1]);refine .cptr f ?_ h2 (fun j hj=>by rw[nK hr];exact h3 j hj) ?_
  ·cases b
   ·exact he.sld _ h1
   exact he.bor _ h1
  intro j hj;cases b
  ·exact ih j hj (he.still false)
  exact ih j hj he
 |fn f g h1 h2 h3 h4 _ _ ih1 ih2=>exact .fn f g h1 h2 h3 h4 (fun i hi=>ih1 i hi he) fun i hi=>ih2 i hi he
 |@imap c b es r clock en f g h1 h2 h3 h4 _ _ ih1 ih2=>
  have hr:w'.heap[r]?=w.heap[r]?:=he.rest _ (by cases b<;>simp at h1<;>simp[h1]);refine .imap f g ?_ (hr▸h2) h3 h4 (fun i hi=>ih1 i hi (he.still b)) fun i hi=>ih2 i hi (he.still b);cases b
  ·exact he.sld _ h1
  exact he.bor _ h1
 |@mp c id blk h1 h2 h3=>
  have hl:=he.head id h1;have hlt:=aN h1 he.N;rcases hl with hl|hl|⟨k',e,e',hl1,hl2,hl3⟩
  ·obtain⟨p1,p2,_⟩:=he.place id h1 hl (by rw[h2];simp);exact .mp hlt (hl▸h2) (p1▸h3)
  ·exact .mpOld rfl hlt hl
  rw[h2]at hl1;cases hl1
 |@mpOld c id v h0 h1 h2=>
  have hl:=he.head id h1;rw[h2]at hl;exact .mpOld h0 (aN h1 he.N) (Hd.le_dead hl)
 |@yld c l site env em blk f h1 h2 h3 h4 h5 h6 _ ih=>
  have hl:=he.head l h1;have hlt:=aN h1 he.N;rcases hl with hl|hl|⟨k',e,e',hl1,hl2,hl3⟩
  ·obtain⟨p1,_,p3⟩:=he.place l h1 hl (by rw[h2];simp);exact .yld f hlt (hl▸h2) (p1▸h3) (p3▸h4) h5 (p3▸h6) fun i hi=>ih i hi he
  ·exact .yldOld rfl hlt hl
  rw[h2]at hl1;cases hl1
 |@yldOld c l site env v h0 h1 h2=>
  have hl:=he.head l h1;rw[h2]at hl;exact .yldOld h0 (aN h1 he.N) (Hd.le_dead hl)
 |@it c id blk h1 h2 h3=>
  have hl:=he.head id h1;have hlt:=aN h1 he.N;rcases hl with hl|hl|⟨k',e,e',hl1,hl2,hl3⟩
  ·obtain⟨p1,p2,_⟩:=he.place id h1 hl (by rw[h2];simp);exact .it hlt (hl▸h2) (p1▸h3)
  ·exact .itOld rfl hlt hl
  rw[h2]at hl1;cases hl1
 |@itOld c id v h0 h1 h2=>
  have hl:=he.head id h1;rw[h2]at hl;exact .itOld h0 (aN h1 he.N) (Hd.le_dead hl)
end Go.AM
namespace Go.AM
variable (M:cO) (w:World)
def rC:Ex→Option Go.Code
 |.nrm=>none
 |.ext id=>some (.exit id)
 |.ret=>some .ret
def pI(r:kB)(st:LoopState)(p:Option Go.Code):Loop:=
 { state:=st,pending:=p,fn:=r.fn,tmps:=r.tmps,params:=r.params,assign:=r.assign,body:=r.body,defers:=r.defers }
def rz(c:cJ)(id:Nat):Obj→Prop
 |.arr k _ es=>k≠0∧(∀x∈es,aC x=k)∧(c.place id=none→es=[])∧∀b,c.place id=some b →
   ∃(cs:Array Value) (T:TypeId) (f:Nat→Nat→Value),w.heap[b]?=some (.cells cs T (0,0))∧es.length*k≤cs.size∧c.room id=cs.size ∧
    (∀i j,i<es.length→j<k→cs[i*k+j]?=some (f i j)∧(f i j).oneCell'=true) ∧
    ∀i (hi:i<es.length) j (hj:j<(cellsOf es[i]).length),R M w c (cellsOf es[i])[j] (f i j)
 |.map es=>∃(b clock:Nat) (en:Array MapEntry) (f g:Nat→Value),c.place id=some b∧w.heap[b]?=some (.map en clock)∧en.size=es.length ∧
   (∀i (h:i<es.length),∃e,en[i]?=some e∧e.key=f i∧e.val=g i∧kg (es[i]).1=true∧e.born<clock) ∧
   (∀i (h:i<es.length),R M w c (es[i]).1 (f i))∧(∀i (h:i<es.length),R M w c (es[i]).2 (g i))
 |.pend busy j=>∃b,c.place id=some b ∧
   w.heap[b]?=some (.loop (match busy,j with
    |true,_=>pI (c.loops id) .busy none
    |false,none=>pI (c.loops id) .ready none
    |false,some e=>pI (c.loops id) .done (rC e)))
 |.it s pos=>∃(b:Nat) (t:ByteArray),c.place id=some b∧t.data.toList=s∧w.heap[b]?=some (.stringIter t pos)
 |.mit es cur k=>∃(b r last cl:Nat) (seen:Array Nat) (en:Array MapEntry) (f g:Nat→Value),c.place id=some b∧w.heap[b]?=some (.mapIter (some r) cl seen last)∧c.sld r∧w.heap[r]?=some (.map en cl)∧en.size=es.length ∧
   (∀i (h:i<es.length),∃e,en[i]?=some e∧e.key=f i∧e.val=g i∧kg (es[i]).1=true∧e.born<cl) ∧
   (∀i (h:i<es.length),R M w (c.still false) (es[i]).1 (f i))∧(∀i (h:i<es.length),R M w (c.still false) (es[i]).2 (g i)) ∧
   (en.toList.filter fun e=>!decide (e.born∈seen)).length≤k∧(seen.isEmpty=false→last=cl) ∧
   (∀e,cur=some e→last=cl∧∃st q,seen.back?=some st∧en.find? (fun q=>q.born==st)=some q∧R M w (c.still false) e.1 q.key∧R M w (c.still false) e.2 q.val)
 |.dead=>True
structure ek (c:cJ) (σ:aw):Prop where
 H:c.H=hd σ
 N:c.N=σ.length
 sb:∀b,c.sld b→c.bor b
 low:∀b,c.bor b→b<w.heap.size
 plow:∀id b,c.H id≠.dead→c.place id=some b→b<w.heap.size∧¬c.bor b
 inj:∀i j b,c.H i≠.dead→c.H j≠.dead→c.place i=some b→c.place j=some b→i=j
 obj:∀id o,σ[id]?=some o→rz M w c id o
variable {M w}
theorem rz.ext{c c':cJ}{w':World}{id:Nat}{o:Obj}(h:rz M w c id o)(he:Ext c w c' w')
  (hp:o≠.dead→c'.place id=c.place id∧c'.room id=c.room id∧c'.loops id=c.loops id) (hb:o≠.dead→∀b,c.place id=some b→w'.heap[b]?=w.heap[b]?):rz M w' c' id o:=by
 cases o with
 |dead=>trivial
 |arr k ep es=>
  obtain⟨h1,h2,h3,h4⟩:=h;obtain⟨p1,p2,_⟩:=hp (by simp);refine⟨h1,h2,fun hn=>h3 (p1▸hn),fun b hb'=>?_⟩;rw[p1]at hb';obtain⟨cs,T,f,q1,q2,q3,q4,q5⟩:=h4 b hb';exact⟨cs,T,f,by rw[hb (by simp) b hb'];exact q1,q2,p2▸q3,q4,fun i hi j hj=>(q5 i hi j hj).ext he⟩
 |map es=>
  obtain⟨b,cl,en,f,g,q1,q2,q3,q4,q5,q6⟩:=h;obtain⟨p1,p2,_⟩:=hp (by simp);exact⟨b,cl,en,f,g,p1▸q1,by rw[hb (by simp) b q1];exact q2,q3,q4,fun i hi=>(q5 i hi).ext he,fun i hi=>(q6 i hi).ext he⟩
 |pend bz j=>
  obtain⟨b,q1,q2⟩:=h;obtain⟨p1,_,p3⟩:=hp (by simp);exact⟨b,p1▸q1,by rw[hb (by simp) b q1,q2,p3]⟩
 |mit es cur k=>
  obtain⟨b,r,last,cl,seen,en,f,g,q1,q2,q3,q4,q5,q6,q7,q8,q9,q10,q11⟩:=h;obtain⟨p1,_,_⟩:=hp (by simp);refine⟨b,r,last,cl,seen,en,f,g,p1▸q1,by rw[hb (by simp) b q1];exact q2,he.sld _ q3,by rw[he.rest _ (.inr q3)];exact q4,q5,q6,fun i hi=>(q7 i hi).ext (he.still false),fun i hi=>(q8 i hi).ext (he.still false),q9,q10,fun e h=>?_⟩;obtain⟨l1,st,q,l2,l3,l4,l5⟩:=q11 e h;exact⟨l1,st,q,l2,l3,l4.ext (he.still false),l5.ext (he.still false)⟩
 |it s pos=>
  obtain⟨b,t,q1,q2,q3⟩:=h;obtain⟨p1,_,p3⟩:=hp (by simp);exact⟨b,t,p1▸q1,q2,by rw[hb (by simp) b q1,q3]⟩
theorem dV{σ:aw}{id:Nat}{o:Obj}(h:σ[id]?=some o):hd σ id=match o with
  |.arr k ep _=>.arr k ep
  |.map _=>.map
  |.pend _ _=>.pend
  |.it _ _=>.it
  |.mit _ _ _=>.it
  |.dead=>.dead:=by
 simp only[hd,h];cases o<;>rfl
theorem Zs{σ:aw}{id:Nat}(h:hd σ id≠.dead):∃o,σ[id]?=some o∧o≠.dead:=by
 cases hs:σ[id]? with
 |none=>exact absurd (by unfold hd;rw[hs]) h
 |some o=>
  refine⟨o,rfl,fun ho=>?_⟩;subst ho;exact h (by unfold hd;rw[hs])
theorem FM{σ:aw}{id:Nat}(h:hd σ id≠.dead):id<σ.length:=by
 obtain⟨o,ho,_⟩:=Zs h;exact (ak.1 ho).1
theorem pz{σ:aw}{id:Nat}{o:Obj}(h:σ[id]?=some o):hd σ id=.dead↔o=.dead:=by
 rw[dV h];cases o<;>simp
theorem Ext.heap{c:cJ}{w':World}(h:w'.heap=w.heap):Ext c w c w':=
 ⟨fun _ h=>h,fun _ h=>h,fun _ _=>by rw[h],aB _,fun _ _=>.inl rfl,fun _ _ _ _=>⟨rfl,rfl,rfl⟩⟩
theorem ek.heap{c:cJ}{σ:aw}{w':World}(hs:ek M w c σ)(h:w'.heap=w.heap):ek M w' c σ:=
 ⟨hs.H,hs.N,hs.sb,by rw[h];exact hs.low,by rw[h];exact hs.plow,hs.inj,fun id o ho=>(hs.obj id o ho).ext (.heap h) (fun _=>⟨rfl,rfl,rfl⟩) fun _ b _=>by rw[h]⟩
theorem Ext.trans{c c' c'':cJ}{w w' w'':World}(h:Ext c w c' w')(k:Ext c' w' c'' w''):Ext c w c'' w'' where
 sld:=fun b hb=>k.sld b (h.sld b hb)
 bor:=fun b hb=>k.bor b (h.bor b hb)
 rest:=fun b hb=>by rw[k.rest b (hb.imp (h.bor b) (h.sld b)),h.rest b hb]
 N:=aZ h.N k.N
 head:=fun id hid=>by
  have h1:=h.head id hid;have h2:=k.head id (aN hid h.N);rcases h1 with h1|h1|⟨q,e,e',a1,a2,a3⟩
  ·rw[h1];exact h2
  ·rw[h1]at h2;exact .inr (.inl (Hd.le_dead h2))
  rcases h2 with h2|h2|⟨q',f,f',b1,b2,b3⟩
  ·exact .inr (.inr ⟨q,e,e',a1,h2▸a2,a3⟩)
  ·exact .inr (.inl h2)
  rw[a2]at b1;cases b1;exact .inr (.inr ⟨q,e,f',a1,b2,kH a3 b3⟩)
 place:=fun id hid hq hd=>by
  have h1:=h.head id hid;have h2:=k.head id (aN hid h.N);have hm:c.H id=c'.H id:=by
   rcases h1 with h1|h1|⟨q,e,e',a1,a2,a3⟩
   ·exact h1
   ·rw[h1]at h2;rw[Hd.le_dead h2]at hq;exact absurd hq hd
   rcases h2 with h2|h2|⟨q',f,f',b1,b2,b3⟩
   ·rw[←h2,a1,a2]at hq;cases hq;exact absurd a3 (dn _)
   ·rw[h2]at hq;exact absurd hq hd
   rw[a2]at b1;cases b1;rw[a1,b2]at hq;cases hq;exact absurd (kH a3 b3) (dn _)
  obtain⟨p1,p2,p3⟩:=h.place id hid hm hd;obtain⟨r1,r2,r3⟩:=k.place id (aN hid h.N) (hm▸hq) (hm▸hd);exact⟨r1.trans p1,r2.trans p2,r3.trans p3⟩
def iw(w:World)(o:Go.Obj):World:={ w with heap:=w.heap.push o }
def cJ.grow(c:cJ)(σ:aw)(p:Option Nat)(room:Nat)(lp:kB):cJ:=
 { c with H:=hd σ,N:=σ.length,place:=fun i=>if i=c.N then p else c.place i,room:=fun i=>if i=c.N then room else c.room i,loops:=fun i=>if i=c.N then lp else c.loops i }
theorem rN{σ:aw}{o:Obj}{id:Nat}(h:id<σ.length):hd (σ++[o]) id=hd σ id:=by
 unfold hd;rw[bu h]
theorem kE{σ:aw}{o:Obj}:(σ++[o])[σ.length]?=some o:=by simp
theorem Ext.grow{c:cJ}{σ:aw}{w':World}(hs:ek M w c σ)(o:Obj)(p:Option Nat)(room:Nat)(lp:kB)(hw:∀b,b<w.heap.size→w'.heap[b]?=w.heap[b]?) :
  Ext c w (c.grow (σ++[o]) p room lp) w' where
 sld:=fun _ h=>h
 bor:=fun _ h=>h
 rest:=fun b hb=>hw b (hs.low b (hb.elim id (hs.sb b)))
 N:=by simp[cJ.grow,hs.N]
 head:=fun id hid=>by rw[hs.N]at hid;simp only[cJ.grow,hs.H];rw[rN hid];exact .inl rfl
 place:=fun id hid _ _=>by
  have:id≠c.N:=Nat.ne_of_lt hid;simp[cJ.grow,this]
theorem ek.grow{c:cJ}{σ:aw}{w':World}(hs:ek M w c σ)(o:Obj)(p:Option Nat)(room:Nat)(lp:kB)
  (hw:∀b,b<w.heap.size→w'.heap[b]?=w.heap[b]?) (hz:w.heap.size≤w'.heap.size) (hp:∀b,p=some b→w.heap.size≤b∧b<w'.heap.size)
  (hobj:rz M w' (c.grow (σ++[o]) p room lp) σ.length o):ek M w' (c.grow (σ++[o]) p room lp) (σ++[o]) where
 H:=rfl
 N:=rfl
 sb:=hs.sb
 low:=fun b hb=>aN (hs.low b hb) hz
 plow:=fun id b hd hb=>by
  simp only[cJ.grow]at hd hb ⊢;split at hb
  ·obtain⟨h1,h2⟩:=hp b hb;exact⟨h2,fun hc=>absurd (hs.low b hc) (by omega)⟩
  rename_i hne;have hlt:id<σ.length:=by
   have:=FM hd;rw[hs.N]at hne;simp at this;omega
  rw[rN hlt,←hs.H]at hd;obtain⟨h1,h2⟩:=hs.plow id b hd hb;exact⟨aN h1 hz,h2⟩
 inj:=fun i j b hi hj hbi hbj=>by
  simp only[cJ.grow]at hi hj hbi hbj;have key:∀i,hd (σ++[o]) i≠.dead→i≠c.N→c.H i≠.dead:=fun i hi hne=>by
   have hlt:i<σ.length:=by
    have:=FM hi;rw[hs.N]at hne;simp at this;omega
   rwa [rN hlt,←hs.H]at hi
  split at hbi
  ·split at hbj
   ·omega
   rename_i h1 h2;have:=(hs.plow j b (key j hj h2) hbj).1;have:=(hp b hbi).1;omega
  rename_i h1;split at hbj
  ·have:=(hs.plow i b (key i hi h1) hbi).1;have:=(hp b hbj).1;omega
  rename_i h2;exact hs.inj i j b (key i hi h1) (key j hj h2) hbi hbj
 obj:=fun id o' ho=>by
  by_cases hlt:id<σ.length
  ·rw[bu hlt]at ho;have hne:id≠c.N:=by rw[hs.N];omega
   refine (hs.obj id o' ho).ext (Ext.grow hs o p room lp hw) (fun _=>by simp[cJ.grow,hne]) fun hnd b hb=>hw b ?_;refine (hs.plow id b ?_ hb).1;rw[hs.H];exact fun h=>hnd ((pz ho).1 h)
  have:id=σ.length:=by
   have:=(ak.1 ho).1;simp at this;omega
  subst this;rw[kE]at ho;cases ho;exact hobj
end Go.AM
namespace Go.AM
variable {M:cO} {w:World} {P:Program}
theorem ja(b o j:Nat):(⟨b,o,none⟩:Addr).add j=⟨b,o+j,none⟩:=by
 unfold Addr.add;split
 ·rename_i h;subst h;rfl
 rfl
theorem Ig{x:Value}(h:x.oneCell'=true):x.cells=#[x]:=by
 cases x<;>first|rfl|(simp[Value.oneCell']at h)
theorem R.small{c:cJ}{v:ap}{x:Value}(h:R M w c v x)(hx:x.oneCell'=true):aC v≤1∧isAgg v=false:=by
 cases h<;>first|exact⟨aB _,rfl⟩|exact⟨cd _,rfl⟩|(simp[Value.oneCell']at hx)
theorem R.oneOf{c:cJ}{v:ap}{x:Value}(h:R M w c v x)(h1:aC v=1)(h2:isAgg v=false):x.oneCell'=true:=by
 cases h<;>first|rfl|assumption|(simp[isAgg]at h2;done)|(simp[aC]at h1;done)
theorem BK{M':cO}{w':World}{c c':cJ}{k:ap}{ck:Value}(hk:R M w c k ck)(h:me k=true):R M' w' c' k ck:=by
 cases k<;>simp[me]at h<;>cases hk
 ·exact .int
 ·exact .bool
 exact .str (by assumption)
theorem P6{M':cO}{w':World}{c c':cJ}{k:ap}{ck:Value}(hk:R M w c k ck)(h:kg k=true):R M' w' c' k ck:=by
 cases k with
 |int=>exact BK hk rfl
 |str=>exact BK hk rfl
 |agg cs=>
  simp only[kg,aI]at h;cases hk with|agg f h1 h2 h3 h4=>exact .agg f h1 h2 h3 fun i hi=>BK (h4 i hi) (h _ (aO hi))
 |_=>simp[kg]at h
theorem nz{v:ap}(h:aC v≠0):(cellsOf v).length=aC v:=by
 cases v<;>first|rfl|exact absurd rfl h
theorem pk{v:ap}(h:isAgg v=true):∃cs,v=.agg cs:=by
 cases v<;>first|exact⟨_,rfl⟩|(simp[isAgg]at h)
theorem pn{v:ap}(h:isAgg v=false):cellsOf v=[v]:=by
 cases v<;>first|rfl|(simp[isAgg]at h)
structure r5 (M:cO) (w:World) (c:cJ) (x:ap) (f:Nat→Value):Prop where
 one:∀j,j<aC x→(f j).oneCell'=true
 rel:∀j (h:j<(cellsOf x).length),R M w c (cellsOf x)[j] (f j)
theorem aay{c:cJ}{cs:List ap}(f:Nat→Value)(h1:∀j,j<cs.length→(f j).oneCell'=true)(h2:∀j (h:j<cs.length),R M w c cs[j] (f j)) :
  R M w c (.agg cs) (.agg ((List.range cs.length).map f).toArray):=by
 refine .agg f (by simp) (fun i hi=>⟨by simp[hi],h1 i hi⟩) (fun i hi=>?_) h2;exact (h2 i hi).small (h1 i hi)
def rr(P:Program)(T:TypeId)(a:Bool)(s:Nat):Bool:=
 (P.info? T).map (·.size)==some s&&(match P.underlying T with
  |some (.struct _)|some (.array _ _)=>a
  |some _=>!a
  |none=>false)&&(a ||s==1)
theorem fj{T:TypeId}{s:Nat}(h:(P.info? T).map (·.size)=some s)(w:World):(sizeOf T).run P w=.ok s w:=by
 unfold sizeOf typeInfo;cases hq:P.info? T with
 |none=>simp[hq]at h
 |some i=>simp[hq]at h ⊢;exact h
theorem rm{T:TypeId}{a:Bool}{s:Nat}(h:rr P T a s=true)(w:World):(Go.isAgg T).run P w=.ok a w:=by
 unfold rr at h;simp only[am]at h;have h2:=h.1.2;unfold Go.isAgg Go.underlying;cases hq:P.underlying T with
 |none=>simp[hq]at h2
 |some d=>rw[hq]at h2;cases d<;>simp_all
theorem tT{T:TypeId}{a:Bool}{s:Nat}(h:rr P T a s=true):(P.info? T).map (·.size)=some s:=by
 unfold rr at h;simp only[am,aG]at h;exact h.1.1
theorem vO{T:TypeId}{s:Nat}(h:rr P T false s=true):s=1:=by
 unfold rr at h;simp only[am,aG,jK]at h;exact h.2
theorem CL{T:TypeId}{a:Bool}{s:Nat}(h:rr P T a s=true)(b o:Nat)(f:Nat→Value)(hc:∀j,j<s→w.cell? ⟨b,o+j,none⟩=some (f j)) :
  (loadVar T ⟨b,o,none⟩).run P w=.ok (if a then .agg ((List.range s).map f).toArray else f 0) w:=by
 unfold loadVar;cases a with
 |true=>
  simp only[Sem.run_bind,rm h,Result.andThen_ok,bU,fj (tT h),Sem.run_pure];rw[run_loadCells w _ s f (fun j hj=>by rw[ja];exact hc j hj)];rfl
 |false=>
  obtain rfl:=vO h;simp only[Sem.run_bind,rm h,Result.andThen_ok,aH,bQ,run_load];have:=hc 0 (by omega);simp only[eF]at this;rw[this]
theorem BC{c:cJ}{a:Bool}{s off:Nat}{x y:ap}{f:Nat→Value}(h:r5 M w c x f)(hx:aC x≠0)(hg:ue a s x off=some y)(hs:a=false→s=1) :
  off+s≤aC x∧R M w c y (if a then .agg ((List.range s).map fun j=>f (off+j)).toArray else f off):=by
 unfold ue at hg;split at hg
 ·rename_i hc;obtain⟨rfl,h2,h3⟩:=hc;cases hg;refine⟨by omega,?_⟩;cases a with
  |true=>
   obtain⟨cs,rfl⟩:=pk h3;simp only[cu,bU];have h2':cs.length=s:=h2;subst h2';exact aay f (fun j hj=>h.one j hj) (fun j hj=>h.rel j hj)
  |false=>
   have hcs:=pn h3;have:=h.rel 0 (by rw[hcs];simp);simp only[hcs,cC]at this;exact this
 split at hg
 ·rename_i ha;subst ha;split at hg
  ·rename_i hl;cases hg;refine⟨hl,?_⟩;have hlen:(cellsOf x).length=aC x:=nz hx;have hl2:(((cellsOf x).drop off).take s).length=s:=by simp;omega
   have:=aay (M:=M) (w:=w) (c:=c) (cs:=((cellsOf x).drop off).take s) (fun j=>f (off+j)) (fun j hj=>h.one _ (by omega)) (fun j hj=>by
    have:=h.rel (off+j) (by omega);simp only[dB,dY];exact this)
   rw[hl2]at this;exact this
  cases hg
 rename_i ha;have ha':a=false:=by cases a<;>simp_all
 subst ha';obtain rfl:=hs rfl;obtain⟨hlt,rfl⟩:=ak.1 hg;refine⟨by rw[nz hx]at hlt;omega,?_⟩;exact h.rel off hlt
end Go.AM
namespace Go.AM
variable {M:cO} {w:World} {P:Program}
structure Same (w w':World):Prop where
 tape:w'.tape=w.tape
 os:w'.os=w.os
 output:w'.output=w.output
 drawn:w'.drawn≤w'.drawn
theorem Same.refl(w:World):Same w w:=⟨rfl,rfl,rfl,aB _⟩
theorem Same.trans{a b c:World}(h:Same a b)(k:Same b c):Same a c:=⟨k.tape.trans h.tape,k.os.trans h.os,k.output.trans h.output,aB _⟩
structure rF (w w':World) (b:Nat) (o:Go.Obj):Prop extends Same w w' where
 heap:w'.heap=w.heap.setIfInBounds b o
theorem rF.get{w w':World}{b:Nat}{o:Go.Obj}(h:rF w w' b o)(i:Nat)(hb:b<w.heap.size):w'.heap[i]?=if i=b then some o else w.heap[i]?:=by
 rw[h.heap,dt];by_cases hi:i=b
 ·subst hi;simp[hb]
 rw[if_neg (fun e=>hi e.symm),if_neg hi]
theorem rF.size{w w':World}{b:Nat}{o:Go.Obj}(h:rF w w' b o):w'.heap.size=w.heap.size:=by rw[h.heap];simp
theorem M0{w:World}{b o:Nat}{cur:Array Value}{T:TypeId}{v:Value}(h:w.heap[b]?=some (.cells cur T (0,0))) :
  rF w (w.setCell ⟨b,o,none⟩ v) b (.cells (cur.setIfInBounds o v) T (0,0)):=by
 refine⟨⟨rfl,rfl,rfl,aB _⟩,?_⟩;obtain⟨hlt,he⟩:=bd.1 h;simp only[World.setCell];apply eg;intro i;rw[fH,dt];split
 ·rename_i e;subst e;rw[h];rfl
 rfl
theorem lO(b o:Nat)(T:TypeId):∀(vs:List Value) (i:Nat) (cur:Array Value) (w:World),w.heap[b]?=some (.cells cur T (0,0))→o+i+vs.length≤cur.size→(∀v∈vs,v.oneCell'=true) →
  ∃(w':World) (cur':Array Value),(storeCells ⟨b,o,none⟩ vs i).run P w=.ok () w'∧rF w w' b (.cells cur' T (0,0))∧cur'.size=cur.size ∧
   ∀j,cur'[j]?=if o+i≤j∧j<o+i+vs.length then vs[j-(o+i)]? else cur[j]?
 |[],i,cur,w,h,_,_=>by
  refine⟨w,cur,rfl,⟨.refl w,?_⟩,rfl,fun j=>?_⟩
  ·obtain⟨hlt,he⟩:=bd.1 h;apply eg;intro k;rw[dt];split
   ·rename_i e;subst e;rw[h]
   rfl
  rw[if_neg (by rintro⟨q1,q2⟩;simp at q2;omega)]
 |v::vs,i,cur,w,h,hl,h1=>by
  have hlt:o+i<cur.size:=by simp at hl;omega
  have hc:w.cell? ⟨b,o+i,none⟩=some cur[o+i]:=by
   simp[World.cell?,h,hlt]
  have hs:=M0 (o:=o+i) (v:=v) h;have hb:b<w.heap.size:=(bd.1 h).1;have h':(w.setCell ⟨b,o+i,none⟩ v).heap[b]?=some (.cells (cur.setIfInBounds (o+i) v) T (0,0)):=by
   rw[hs.get _ hb,if_pos rfl]
  obtain⟨w',cur',hr,hw,hz,hj⟩:=lO b o T vs (i+1) _ _ h' (by simp at hl ⊢;omega) (fun x hx=>h1 x (bq _ hx));refine⟨w',cur',?_,⟨hs.toSame.trans hw.toSame,?_⟩,by rw[hz];simp,fun j=>?_⟩
  ·simp only[storeCells,Sem.run_bind,ja];rw[run_store P w _ v .plain (h1 v (cQ ..)),hc];have hf:w.frozen? ⟨b,o+i,none⟩=false:=by simp[World.frozen?,h]
   simp only[hf,aH,bQ,Result.andThen_ok];exact hr
  ·rw[hw.heap,hs.heap];apply eg;intro k;simp only[dt,lu];split<;>rfl
  rw[hj j];by_cases hj1:o+(i+1)≤j∧j<o+(i+1)+vs.length
  ·rw[if_pos hj1,if_pos (by simp;omega)];rw[show j-(o+i)=(j-(o+(i+1)))+1 by omega];simp
  rw[if_neg hj1,dt];by_cases hj2:o+i=j
  ·subst hj2;rw[if_pos rfl,if_pos hlt,if_pos (by simp)];simp
  rw[if_neg hj2,if_neg (by simp;omega)]
theorem ek.setObj'{c:cJ}{σ:aw}{w':World}(hs:ek M w c σ){id:Nat}{o0 o1:Obj}{b:Nat}{o:Go.Obj}(hid:σ[id]?=some o0)(h0:o0≠.dead)(hh:hd (σ.set id o1) id=hd σ id)
  (hb:c.place id=some b) (hw:rF w w' b o) (hobj:rz M w' c id o1):ek M w' c (σ.set id o1)∧Ext c w c w':=by
 have hlt:id<σ.length:=(ak.1 hid).1;have hH:hd (σ.set id o1)=hd σ:=by
  funext i;by_cases hi:id=i
  ·subst hi;exact hh
  unfold hd;rw[cX hi]
 have hlive:c.H id≠.dead:=by rw[hs.H];exact fun h=>h0 ((pz hid).1 h)
 obtain⟨hbs,hbn⟩:=hs.plow id b hlive hb;have hrest:∀x,x≠b→w'.heap[x]?=w.heap[x]?:=fun x hx=>by rw[hw.get _ hbs,if_neg hx]
 have hext:Ext c w c w':=⟨fun _ h=>h,fun _ h=>h,fun x hx=>hrest x (fun e=>by subst e;exact hbn (hx.elim (fun h=>h) (hs.sb _))),aB _,fun _ _=>.inl rfl,fun _ _ _ _=>⟨rfl,rfl,rfl⟩⟩;refine⟨⟨by rw[hH];exact hs.H,by rw[hs.N];simp,hs.sb,by rw[hw.size];exact hs.low,by rw[hw.size];exact hs.plow,hs.inj,fun i o' ho=>?_⟩,hext⟩;by_cases hi:id=i
 ·subst hi;rw[cr hlt]at ho;cases ho;exact hobj
 rw[cX hi]at ho;refine (hs.obj i o' ho).ext hext (fun _=>⟨rfl,rfl,rfl⟩) fun hnd b' hb'=>hrest b' (fun e=>?_);subst e;exact hi (hs.inj id i b' hlive (by rw[hs.H];exact fun h=>hnd ((pz ho).1 h)) hb hb')
theorem ek.setObj{c:cJ}{σ:aw}{w':World}(hs:ek M w c σ){id k ep:Nat}{es es':List ap}{b:Nat}{o:Go.Obj}(hid:σ[id]?=some (.arr k ep es))
  (hb:c.place id=some b) (hw:rF w w' b o) (hobj:rz M w' c id (.arr k ep es')):ek M w' c (σ.set id (.arr k ep es'))∧Ext c w c w':=
 hs.setObj' hid (by simp) (by rw[dV (cr (ak.1 hid).1),dV hid]) hb hw hobj
end Go.AM
namespace Go.AM
variable {M:cO} {w:World} {P:Program}
structure gG (c:cJ) (w:World) (c':cJ) (w':World):Prop extends Ext c w c' w' where
 same:Same w w'
 size:w.heap.size≤w'.heap.size
 frame:∀b,b<w.heap.size→(∀id,c.H id≠.dead→c.place id≠some b)→w'.heap[b]?=w.heap[b]?
 liv:∀id b,c'.H id≠.dead→c'.place id=some b→b<w.heap.size→∃i,c.H i≠.dead∧c.place i=some b
 old:∀b,c'.sld b→b<w.heap.size→c.sld b∨∃i,c.H i≠.dead∧c.place i=some b
 oldb:∀b,c'.bor b→b<w.heap.size→c.bor b∨∃i,c.H i≠.dead∧c.place i=some b
theorem gG.refl(c:cJ)(w:World):gG c w c w:=
 { Ext.refl c w with same:=.refl w,size:=aB _,frame:=fun _ _ _=>rfl,liv:=fun id _ h1 h2 _=>⟨id,h1,h2⟩,old:=fun _ h _=>.inl h,oldb:=fun _ h _=>.inl h }
theorem gG.trans{c c' c'':cJ}{w w' w'':World}(h:gG c w c' w')(k:gG c' w' c'' w''):gG c w c'' w'':=
 { Ext.trans h.toExt k.toExt with
  same:=h.same.trans k.same
  size:=aZ h.size k.size
  frame:=fun b hb hn=>by
   rw[k.frame b (aN hb h.size) (fun id h1 h2=>?_),h.frame b hb hn];obtain⟨i,a1,a2⟩:=h.liv id b h1 h2 hb;exact hn i a1 a2
  old:=fun b h1 hb=>by
   rcases k.old b h1 (aN hb h.size) with h2|⟨i,a1,a2⟩
   ·exact h.old b h2 hb
   exact .inr (h.liv i b a1 a2 hb)
  oldb:=fun b h1 hb=>by
   rcases k.oldb b h1 (aN hb h.size) with h2|⟨i,a1,a2⟩
   ·exact h.oldb b h2 hb
   exact .inr (h.liv i b a1 a2 hb)
  liv:=fun id b h1 h2 hb=>by
   obtain⟨i,a1,a2⟩:=k.liv id b h1 h2 (aN hb h.size);exact h.liv i b a1 a2 hb }
def nD(M:cO)(P:Program)(c:cJ)(w:World)(s:Sem Next)(v:ap)(σ':aw):Prop:=
 ∃nx w' c' cv,s.run P w=.ok nx w'∧(nx=.value cv∨(nx=.skip∧cv=undef))∧ek M w' c' σ'∧gG c w c' w'∧R M w' c' v cv
theorem nD.quiet{c:cJ}{σ:aw}{s:Sem Value}{v:ap}{cv:Value}(hs:ek M w c σ)(h:s.run P w=.ok cv w)(hr:R M w c v cv) :
  nD M P c w (do pure (.value (←s))) v σ:=
 ⟨_,w,c,cv,by simp[h],.inl rfl,hs,.refl c w,hr⟩
theorem nD.of{c c':cJ}{w':World}{σ':aw}{s:Sem Value}{v:ap}{cv:Value}(h:s.run P w=.ok cv w')(hs:ek M w' c' σ')(ht:gG c w c' w')(hr:R M w' c' v cv) :
  nD M P c w (do pure (.value (←s))) v σ':=
 ⟨_,w',c',cv,by simp[h],.inl rfl,hs,ht,hr⟩
theorem nD.now{c:cJ}{σ:aw}{v:ap}{cv:Value}(hs:ek M w c σ)(hr:R M w c v cv):nD M P c w (pure (.value cv)) v σ:=
 ⟨_,w,c,cv,rfl,.inl rfl,hs,.refl c w,hr⟩
theorem Ext.ofStill{c:cJ}(hsb:∀b,c.sld b→c.bor b)(b:Bool):Ext (c.still b) w c w where
 sld:=fun _ h=>h
 bor:=fun x h=>by
  cases b
  ·exact hsb x h
  exact h
 rest:=fun _ _=>rfl
 N:=cd _
 head:=fun id hid=>absurd hid (cF _)
 place:=fun id hid=>absurd hid (cF _)
theorem ym{σ:aw}{id ep i:Nat}{x:ap}(h:rS σ id ep i=some x):∃k es,σ[id]?=some (.arr k ep es)∧es[i]?=some x:=by
 unfold rS at h;split at h
 ·rename_i k e es he;split at h
  ·rename_i hc;subst hc;exact⟨_,_,he,h⟩
  cases h
 cases h
theorem nA{σ:aw}{id ep off len:Nat}{xs:List ap}(h:sliceAt σ id ep off len=some xs) :
  ∃k es,σ[id]?=some (.arr k ep es)∧off+len≤es.length∧xs=(es.drop off).take len:=by
 unfold sliceAt at h;split at h
 ·rename_i k e es he;split at h
  ·rename_i hc;obtain⟨rfl,hl⟩:=hc;cases h;exact⟨_,_,he,hl,rfl⟩
  cases h
 cases h
theorem ek.elem{c:cJ}{σ:aw}(hs:ek M w c σ){id k ep i:Nat}{es:List ap}{x:ap}(ho:σ[id]?=some (.arr k ep es))(hx:es[i]?=some x) :
  ∃b f,c.place id=some b∧r5 M w c x f∧aC x=k∧k≠0∧∀j,j<k→w.cell? ⟨b,i*k+j,none⟩=some (f j):=by
 obtain⟨h1,h2,h3,h4⟩:=hs.obj id _ ho;obtain⟨hi,rfl⟩:=ak.1 hx;cases hp:c.place id with
 |none=>rw[h3 hp]at hi;exact absurd hi (by simp)
 |some b=>
  obtain⟨cs,T,f,q1,q2,q3,q4,q5⟩:=h4 b hp;have hk:aC es[i]=k:=h2 _ (aO hi);refine⟨b,f i,rfl,⟨fun j hj=>(q4 i j hi (hk▸hj)).2,fun j hj=>q5 i hi j hj⟩,hk,h1,fun j hj=>?_⟩;simp only[World.cell?,q1];exact (q4 i j hi hj).1
theorem Qk{c:cJ}{σ:aw}(hs:ek M w c σ){id ep i off:Nat}{p:Value}(hp:R M w c (.ptr id ep i off) p){k:Nat}{es:List ap}(ho:σ[id]?=some (.arr k ep es)) :
  ∃b,c.place id=some b∧p=.pointer (some ⟨b,i*k+off,none⟩):=by
 have hH:c.H id=.arr k ep:=by rw[hs.H,dV ho]
 cases hp with
 |ptr h1 h2 h3=>rw[hH]at h2;cases h2;exact⟨_,h3,rfl⟩
 |ptrOld h0 h1 h2=>exact absurd (h2 _ _ hH) (dn _)
theorem VE{c:cJ}{σ:aw}(hs:ek M w c σ){p:ap}{cp:Value}(hp:R M w c p cp){T:TypeId}{a:Bool}{s:Nat}(ht:rr P T a s=true){v:ap}
  (hl:loadAt a s p σ=some v):∃cv,(Instr.loadAt T cp).run P w=.ok cv w∧R M w c v cv:=by
 unfold loadAt at hl;split at hl
 ·rename_i b x off;cases hp with
  |@cptr _ _ _ _ o blk f h1 h2 h3 h4=>
   have hcr:r5 M w c x f:=⟨fun j hj=>(h3 j hj).2,fun j hj=>by
    cases b with
    |true=>exact h4 j hj
    |false=>exact (h4 j hj).ext (Ext.ofStill hs.sb false)⟩
   obtain⟨hle,hr⟩:=BC hcr h2 hl (fun ha=>by subst ha;exact vO ht);refine⟨_,?_,hr⟩;unfold Instr.loadAt Instr.sureAddr;simp only[Sem.run_bind,Sem.run_pure,Result.andThen_ok];rw[CL ht blk (o+off) (fun j=>f (off+j)) (fun j hj=>by rw[cA];exact (h3 (off+j) (by omega)).1)];cases a<;>rfl
 ·rename_i id ep i off;simp only[aA]at hl;obtain⟨x,hx,hg⟩:=hl;obtain⟨k,es,ho,hei⟩:=ym hx;obtain⟨b,f,hb,hcr,hk,hk0,hcell⟩:=hs.elem ho hei;obtain⟨b',hb',rfl⟩:=Qk hs hp ho;rw[hb]at hb';cases hb';obtain⟨hle,hr⟩:=BC hcr (by omega) hg (fun ha=>by subst ha;exact vO ht);refine⟨_,?_,hr⟩;unfold Instr.loadAt Instr.sureAddr;simp only[Sem.run_bind,Sem.run_pure,Result.andThen_ok];rw[CL ht b (i*k+off) (fun j=>f (off+j)) (fun j hj=>by rw[cA];exact hcell (off+j) (by omega))];cases a<;>rfl
 cases hl
theorem qP{c:cJ}{v:ap}{cv:Value}(h:R M w c v cv)(hn:aC v≠0):∃f:Nat→Value,r5 M w c v f∧cv.cells.size=aC v∧∀j,j<aC v→cv.cells[j]?=some (f j):=by
 cases hv:Go.AM.isAgg v with
 |true=>
  obtain⟨cs,rfl⟩:=pk hv;cases h with
  |agg f h1 h2 h3 h4=>exact⟨f,⟨fun j hj=>(h2 j hj).2,h4⟩,h1,fun j hj=>(h2 j hj).1⟩
 |false=>
  have h1:aC v=1:=by
   cases v<;>first|rfl|exact absurd rfl hn|(simp[Go.AM.isAgg]at hv)
  have ho:=h.oneOf h1 hv;refine⟨fun _=>cv,⟨fun _ _=>ho,fun j hj=>?_⟩,by rw[Ig ho,h1];rfl,fun j hj=>?_⟩
  ·simp only[pn hv]at hj ⊢;have:j=0:=by simp at hj;omega
   subst this;exact h
  rw[h1]at hj;have:j=0:=by omega
  subst this;rw[Ig ho];rfl
theorem Sv{c:cJ}{s off:Nat}{x v x':ap}{f g:Nat→Value}(hx:r5 M w c x f)(hx0:aC x≠0)(hv:r5 M w c v g)(hs:s≠0)(h:AI s x off v=some x') :
  aC v=s∧off+s≤aC x∧aC x'=aC x∧r5 M w c x' (fun j=>if off≤j∧j<off+s then g (j-off) else f j):=by
 unfold AI at h;split at h
 ·rename_i hvs;split at h
  ·rename_i hc;obtain⟨rfl,h2,h3⟩:=hc;cases h;refine⟨hvs,by omega,by omega,⟨fun j hj=>?_,fun j hj=>?_⟩⟩
   ·rw[if_pos ⟨cd _,by omega⟩];exact hv.one _ hj
   have:=nz (v:=v) (by omega);rw[if_pos ⟨cd _,by omega⟩];exact hv.rel _ hj
  split at h
  ·rename_i hc;obtain⟨h2,h3⟩:=hc;cases h;have lx:=nz hx0;have lv:=nz (v:=v) (by omega);have hlen:((cellsOf x).take off++cellsOf v++(cellsOf x).drop (off+s)).length=aC x:=by simp;omega
   refine⟨hvs,h2,hlen,⟨fun j hj=>?_,fun j hj=>?_⟩⟩
   ·rw[show aC (.agg ((cellsOf x).take off++cellsOf v++(cellsOf x).drop (off+s)))=aC x from hlen]at hj;split
    ·exact hv.one _ (by omega)
    exact hx.one _ hj
   change j<((cellsOf x).take off++cellsOf v++(cellsOf x).drop (off+s)).length at hj;change R M w c ((cellsOf x).take off++cellsOf v++(cellsOf x).drop (off+s))[j] _;rw[hlen]at hj;by_cases hj1:j<off
   ·rw[if_neg (by omega)];have:=hx.rel j (by omega);rw[bH (by simp;omega),bH (by simp;omega)];simpa using this
   by_cases hj2:j<off+s
   ·rw[if_pos ⟨by omega,hj2⟩];have:=hv.rel (j-off) (by omega);rw[bH (by simp;omega),ct (by simp;omega)];simp only[cz];have e:j-min off (cellsOf x).length=j-off:=by rw[ec (by omega)]
    simpa [e] using this
   rw[if_neg (by omega)];have:=hx.rel j (by omega);rw[ct (by simp;omega)];simp only[dY,dD,cz];have e:off+s+(j-(min off (cellsOf x).length+(cellsOf v).length))=j:=by rw[ec (by omega)];omega
   simpa [e] using this
  cases h
 cases h
theorem r5.ext{c c':cJ}{w':World}{x:ap}{f:Nat→Value}(h:r5 M w c x f)(he:Ext c w c' w'):r5 M w' c' x f:=
 ⟨h.one,fun j hj=>(h.rel j hj).ext he⟩
theorem gG.setB{c:cJ}{σ:aw}{w':World}(hs:ek M w c σ){id b:Nat}{o:Go.Obj}(hl:c.H id≠.dead)(hb:c.place id=some b)(hw:rF w w' b o)(he:Ext c w c w'):gG c w c w':=
 { he with
  same:=hw.toSame
  size:=by rw[hw.size];exact aB _
  frame:=fun x hx hn=>by rw[hw.get _ (hs.plow id b hl hb).1,if_neg (fun e=>hn id hl (by subst e;exact hb))]
  liv:=fun i x h1 h2 _=>⟨i,h1,h2⟩
  old:=fun _ h _=>.inl h
  oldb:=fun _ h _=>.inl h }
theorem Zf{c:cJ}{σ σ':aw}(hs:ek M w c σ){p v:ap}{cp cv:Value}(hp:R M w c p cp)(hv:R M w c v cv){T:TypeId}{s:Nat}(ht:(P.info? T).map (·.size)=some s)(hs0:s≠0)
  (hst:storeAt s p v σ=some σ'):∃w',(Instr.storeAt T cp cv).run P w=.ok () w'∧ek M w' c σ'∧gG c w c w':=by
 unfold storeAt at hst;split at hst
 ·rename_i id ep i off;split at hst
  ·rename_i k e es ho;split at hst
   ·rename_i he;subst he;simp only[aA,aK]at hst;obtain⟨x,hx,x',hx',rfl⟩:=hst;obtain⟨b,f,hb,hcr,hk,hk0,hcell⟩:=hs.elem ho hx;obtain⟨b',hb',rfl⟩:=Qk hs hp ho;rw[hb]at hb';cases hb';have hlive:c.H id≠.dead:=by rw[hs.H,dV ho];simp
    have hnv:aC v=s:=by unfold AI at hx';split at hx'<;>first|assumption|cases hx'
    obtain⟨g,hg,hgs,hgc⟩:=qP hv (by omega);obtain⟨_,hle,hnx,hcr'⟩:=Sv hcr (by omega) hg hs0 hx';obtain⟨o1,o2,o3,o4⟩:=hs.obj id _ ho;obtain⟨cs,T',F,q1,q2,q3,q4,q5⟩:=o4 b hb;obtain⟨hi,hxe⟩:=ak.1 hx;have hfit:i*k+off+s≤cs.size:=by
     have:(i+1)*k≤es.length*k:=bO k hi;rw[dy]at this;omega
    obtain⟨w',cs',hr,hw,hz,hj⟩:=lO (P:=P) b (i*k+off) T' cv.cells.toList 0 cs w q1 (by simp[hgs];omega) (fun y hy=>by
     obtain⟨j,hj,rfl⟩:=bP.1 hy;have hj':j<aC v:=by simp at hj;omega
     have:=hgc j hj';rw[bW (by simpa using hj)]at this;have h2:=hg.one j hj';simp only[gJ];rw[dz this];exact h2)
    have hcs':∀j,cs'[j]?=if i*k+off≤j∧j<i*k+off+s then some (g (j-(i*k+off))) else cs[j]?:=fun j=>by
     rw[hj j];simp only[eF,cw,hgs,hnv];split
     ·rename_i hc;have:=hgc (j-(i*k+off)) (by omega);simpa using this
     rfl
    have hbn:=hs.plow id b hlive hb;have hext:Ext c w c w':=⟨fun _ h=>h,fun _ h=>h,fun y hy=>by rw[hw.get _ hbn.1,if_neg (fun e=>by subst e;exact hbn.2 (hy.elim (fun h=>h) (hs.sb _)))],aB _,fun _ _=>.inl rfl,fun _ _ _ _=>⟨rfl,rfl,rfl⟩⟩;have hobj:rz M w' c id (.arr k e (es.set i x')):=by
     refine⟨o1,fun y hy=>?_,fun hn=>(by rw[hb]at hn;cases hn),fun b' hb'=>?_⟩
     ·rcases ev hy with h|h
      ·exact o2 y h
      rw[h];omega
     rw[hb]at hb';cases hb';refine⟨cs',T',fun i' j=>if i'=i then (if off≤j∧j<off+s then g (j-off) else F i j) else F i' j,by rw[hw.get _ hbn.1,if_pos rfl],by simp;omega,by rw[hz];exact q3,fun i' j hi' hj'=>?_,fun i' hi' j hj'=>?_⟩
     ·simp only[gy]at hi';dsimp only;by_cases hii:i'=i
      ·subst hii;rw[if_pos rfl,hcs'];by_cases hr1:off≤j∧j<off+s
       ·rw[if_pos ⟨by omega,by omega⟩,if_pos hr1];have e1:i' * k+j-(i' * k+off)=j-off:=by omega
        rw[e1];exact⟨rfl,hg.one _ (by omega)⟩
       rw[if_neg (by omega),if_neg hr1];exact q4 i' j hi' hj'
      rw[if_neg hii,hcs',if_neg]
      ·exact q4 i' j hi' hj'
      rintro⟨a1,a2⟩;rcases Nat.lt_or_gt_of_ne hii with h|h
      ·have:(i'+1)*k≤i*k:=bO k h;rw[dy]at this;omega
      have:(i+1)*k≤i' * k:=bO k h;rw[dy]at this;omega
     by_cases hii:i'=i
     ·subst hii;simp only[gF]at hj' ⊢;rw[if_pos trivial];have hF:∀j,j<k→f j=F i' j:=fun j hj=>by
       have h1:=hcell j hj;simp only[World.cell?,q1]at h1;have h2:=(q4 i' j hi hj).1;simp at h1;rw[h2]at h1;exact (dz h1).symm
      have:=(hcr'.rel j hj').ext hext;have hjk:j<k:=by rw[nz (by omega)]at hj';omega
      rw[←hF j hjk];exact this
     dsimp only;rw[if_neg hii];have hi2:i' < es.length:=by simpa using hi'
     have e1:(es.set i x')[i']=es[i']:=by rw[gi (fun h=>hii h.symm)]
     simp only[e1]at hj' ⊢;exact (q5 i' hi2 j hj').ext hext
    obtain⟨hsim,_⟩:=hs.setObj ho hb hw hobj;refine⟨w',?_,hsim,gG.setB hs hlive hb hw hext⟩;unfold Instr.storeAt Instr.sureAddr storeVar;simp only[Sem.run_bind,Sem.run_pure,Result.andThen_ok,fj ht,Sem.run_ite,hgs,hnv,ne_eq,not_true,bQ];exact hr
   cases hst
  cases hst
 cases hst
end Go.AM
namespace Go.AM
variable {M:cO} {w:World} {P:Program}
theorem fa{o:Go.Obj}{b:Nat}(h:b<w.heap.size):(iw w o).heap[b]?=w.heap[b]?:=by
 show (w.heap.push o)[b]?=_;rw[Array.getElem?_push,if_neg (Nat.ne_of_lt h)]
theorem nU{o:Go.Obj}:(iw w o).heap[w.heap.size]?=some o:=by
 show (w.heap.push o)[w.heap.size]?=_;rw[Array.getElem?_push,if_pos rfl]
theorem eu{o:Go.Obj}:(iw w o).heap.size=w.heap.size+1:=by
 show (w.heap.push o).size=_;simp
theorem lW{o:Go.Obj}:Same w (iw w o):=⟨rfl,rfl,rfl,aB _⟩
theorem gG.grow{c:cJ}{σ:aw}{w':World}(hs:ek M w c σ)(o:Obj)(p:Option Nat)(room:Nat)(lp:kB)(hsame:Same w w')
  (hw:∀b,b<w.heap.size→w'.heap[b]?=w.heap[b]?) (hz:w.heap.size≤w'.heap.size) (hp:∀b,p=some b→w.heap.size≤b) :
  gG c w (c.grow (σ++[o]) p room lp) w':=
 { Ext.grow hs o p room lp hw with
  same:=hsame
  size:=hz
  frame:=fun b hb _=>hw b hb
  old:=fun _ h _=>.inl h
  oldb:=fun _ h _=>.inl h
  liv:=fun id b h1 h2 hb=>by
   simp only[cJ.grow]at h1 h2;split at h2
   ·exact absurd (hp b h2) (by omega)
   rename_i hne;refine⟨id,?_,h2⟩;have hlt:id<σ.length:=by
    have:=FM h1;rw[hs.N]at hne;simp at this;omega
   rw[hs.H];rwa [rN hlt]at h1 }
theorem ek.newArr{c:cJ}{σ:aw}(hs:ek M w c σ){k ep:Nat}{es:List ap}{cs:Array Value}{T:TypeId}(f:Nat→Nat→Value)(hk:k≠0)(hall:∀x∈es,aC x=k)
  (hsz:es.length*k≤cs.size) (hc:∀i j,i<es.length→j<k→cs[i*k+j]?=some (f i j)∧(f i j).oneCell'=true)
  (hr:∀i (hi:i<es.length) j (hj:j<(cellsOf es[i]).length),R M w c (cellsOf es[i])[j] (f i j)) :
  ∃c',c'.N=σ.length+1∧c'.H σ.length=.arr k ep∧c'.place σ.length=some w.heap.size∧c'.room σ.length=cs.size ∧
   ek M (iw w (.cells cs T (0,0))) c' (σ++[.arr k ep es])∧gG c w c' (iw w (.cells cs T (0,0))):=by
 have hext:=Ext.grow (w':=iw w (.cells cs T (0,0))) hs (.arr k ep es) (some w.heap.size) cs.size (c.loops 0) (fun b hb=>fa hb);refine⟨c.grow (σ++[.arr k ep es]) (some w.heap.size) cs.size (c.loops 0),by simp[cJ.grow],?_,by simp[cJ.grow,hs.N],by simp[cJ.grow,hs.N],?_,?_⟩
 ·show hd (σ++[.arr k ep es]) σ.length=_;rw[dV kE]
 ·refine hs.grow _ _ _ _ (fun b hb=>fa hb) (by rw[eu];omega) (fun b hb=>by cases hb;rw[eu];omega) ?_;refine⟨hk,hall,fun hn=>by simp[cJ.grow,hs.N]at hn,fun b hb=>?_⟩;have hb':b=w.heap.size:=by simp[cJ.grow,hs.N]at hb;exact hb.symm
  subst hb';exact⟨cs,T,f,nU,hsz,by simp[cJ.grow,hs.N],hc,fun i hi j hj=>(hr i hi j hj).ext hext⟩
 exact gG.grow hs _ _ _ _ lW (fun b hb=>fa hb) (by rw[eu];omega) (fun b hb=>by cases hb;exact aB _)
theorem aba{c:cJ}{σ:aw}(hs:ek M w c σ){v:ap}{cv:Value}(hv:R M w c v cv){T:TypeId}{k:Nat}(hk:aC v=k)(hk0:k≠0) :
  nD M P c w (do pure (.value (←Instr.box T cv))) (.ptr σ.length 0 0 0) (σ++[.arr k 0 [v]]):=by
 obtain⟨g,hg,hgs,hgc⟩:=qP hv (by omega)
 obtain⟨c',h1,h2,h3,h4,hsim,hstp⟩:=hs.newArr (ep:=0) (T:=T) (es:=[v]) (cs:=cv.cells) (fun _ j=>g j) hk0 (by simp[hk]) (by simp;omega)
  (fun i j hi hj=>by
   have:i=0:=by simp at hi;omega
   subst this;rw[kG,cu];exact⟨hgc j (by omega),hg.one j (by omega)⟩)
  (fun i hi j hj=>by
   have:i=0:=by simp at hi;omega
   subst this;exact hg.rel j hj)
 refine⟨_,_,c',_,by simp[Instr.box,newVar,newRow];exact⟨rfl,rfl⟩,.inl rfl,hsim,hstp,?_⟩;have:=R.ptr (M:=M) (w:=iw w (.cells cv.cells T (0,0))) (c:=c') (id:=σ.length) (ep:=0) (i:=0) (off:=0) (by omega) h2 h3;simpa using this
def cJ.addStill(c:cJ)(b:Nat):cJ:={ c with sld:=fun x=>c.sld x∨x=b,bor:=fun x=>c.bor x∨x=b }
theorem ek.addStill{c:cJ}{σ:aw}(hs:ek M w c σ)(o:Go.Obj) :
  ek M (iw w o) (c.addStill w.heap.size) σ∧gG c w (c.addStill w.heap.size) (iw w o):=by
 have hext:Ext c w (c.addStill w.heap.size) (iw w o):=⟨fun _ h=>.inl h,fun _ h=>.inl h,fun b hb=>fa (hs.low b (hb.elim (fun h=>h) (hs.sb b))),aB _,fun _ _=>.inl rfl,fun _ _ _ _=>⟨rfl,rfl,rfl⟩⟩;refine⟨⟨hs.H,hs.N,fun b hb=>hb.imp (hs.sb b) id,fun b hb=>?_,fun id b h1 h2=>?_,hs.inj,fun id o' ho=>?_⟩,{ hext with same:=lW,size:=by rw[eu];omega,frame:=fun b hb _=>fa hb,liv:=fun id b h1 h2 _=>⟨id,h1,h2⟩,old:=fun b h hb=>h.elim .inl (fun e=>by omega),oldb:=fun b h hb=>h.elim .inl (fun e=>by omega) }⟩
 ·rw[eu];rcases hb with hb|hb
  ·exact lJ (hs.low b hb)
  omega
 ·obtain⟨a1,a2⟩:=hs.plow id b h1 h2;refine⟨by rw[eu];omega,fun hb=>hb.elim a2 (fun e=>by omega)⟩
 exact (hs.obj id o' ho).ext hext (fun _=>⟨rfl,rfl,rfl⟩) fun hnd b hb=>fa (hs.plow id b (by rw[hs.H];exact fun h=>hnd ((pz ho).1 h)) hb).1
theorem yA{c:cJ}{k:Nat}(hk:k≠0):∀{vs:List ap} {cvs:List Value},vs.length=cvs.length→(∀i (h:i<vs.length) (h':i<cvs.length),R M w c vs[i] cvs[i])→(∀v∈vs,aC v=k) →
  ∃f:Nat→Nat→Value,(cvs.flatMap fun v=>v.cells.toList).length=vs.length*k ∧
   (∀i j,i<vs.length→j<k→(cvs.flatMap fun v=>v.cells.toList)[i*k+j]?=some (f i j)∧(f i j).oneCell'=true) ∧
   ∀i (hi:i<vs.length) j (hj:j<(cellsOf vs[i]).length),R M w c (cellsOf vs[i])[j] (f i j)
 |[],[],_,_,_=>⟨fun _ _=>undef,by simp,fun i j hi=>absurd hi (by simp),fun i hi=>absurd hi (by simp)⟩
 |v::vs,cv::cvs,hl,hr,hn=>by
  have h0:=hr 0 (by simp) (by simp);simp only[cC]at h0;have hk0:aC v=k:=hn v (cQ ..);obtain⟨g,hg,hgs,hgc⟩:=qP h0 (by omega);obtain⟨f,f1,f2,f3⟩:=yA (c:=c) (k:=k) hk (vs:=vs) (cvs:=cvs) (by simpa using hl) (fun i h h'=>by have:=hr (i+1) (by simpa using h) (by simpa using h');simpa using this) (fun x hx=>hn x (bq _ hx));refine⟨fun i j=>if i=0 then g j else f (i-1) j,?_,fun i j hi hj=>?_,fun i hi j hj=>?_⟩
  ·simp only[iQ,dD,f1,cn,cw,hgs,hk0];rw[dy];omega
  ·simp only[iQ];cases i with
   |zero=>
    rw[if_pos rfl,bu (by simp[hgs];omega)];simp only[kG,cu,eB];exact⟨hgc j (by omega),hg.one j (by omega)⟩
   |succ i=>
    rw[if_neg (by omega),bY (by simp[hgs,hk0];rw[dy];omega)];have e:(i+1)*k+j-cv.cells.toList.length=i*k+j:=by simp[hgs,hk0];rw[dy];omega
    rw[e];have:=f2 i j (by simpa using hi) hj;simpa using this
  cases i with
  |zero=>simpa using hg.rel j (by simpa using hj)
  |succ i=>
   dsimp only;rw[if_neg (by omega)];have:=f3 i (by simpa using hi) j (by simpa using hj);simpa using this
end Go.AM
