/- Part of the proof. -/
import Derived.Test.YtpdimbocafbieaaGreatDoorAm05
import Derived.Test.YtpdimbocafbieaaGreatDoorAm00
import Derived.Test.YtpdimbocafbieaaGreatDoorAm06
import Derived.KernelRfl
import Derived.Test.YtpdimbocafbieaaGreatDoorAm04
set_option linter.unusedVariables false
set_option linter.unusedSimpArgs false
namespace Go.AM
section
variable {P:Code}
theorem s_mov(env ls:List AVal)(σ:Store)(x:Opd):step P env ls σ (.mov x)=(some (x.eval env ls,σ)):=by
 unfold step;simp only[stepOp];exact lim_const _
theorem s_pick(env ls:List AVal)(σ:Store)(c:Opd)(a:Opd)(b:Opd):step P env ls σ (.pick c a b)=((pickV (a.eval env ls) (b.eval env ls) (c.eval env ls)).map (·,σ)):=by
 unfold step;simp only[stepOp];exact lim_const _
theorem s_box(env ls:List AVal)(σ:Store)(k:Nat)(x:Opd):step P env ls σ (.box k x)=(let v:=x.eval env ls;if ncells v=k then some (.ptr σ.length 0 0 0,σ++[.arr k 0 [v]]) else none):=by
 unfold step;simp only[stepOp];exact lim_const _
theorem s_build(env ls:List AVal)(σ:Store)(zero:List AVal)(parts:List (Nat×Nat×Opd)):step P env ls σ (.build zero parts)=((fill zero (parts.map fun p=>(p.1,p.2.1,p.2.2.eval env ls))).map fun cs=>(.agg cs,σ)):=by
 unfold step;simp only[stepOp];exact lim_const _
theorem s_mknil(env ls:List AVal)(σ:Store)(k:Nat):step P env ls σ (.mknil k)=(some (.sl σ.length 0 0 0,σ++[.arr k 0 []])):=by
 unfold step;simp only[stepOp];exact lim_const _
theorem s_mkl(env ls:List AVal)(σ:Store)(k:Nat)(xs:List Opd):step P env ls σ (.mkl k xs)=(let vs:=xs.map (·.eval env ls);if vs.all (fun v=>ncells v == k) then some (.lst vs,σ) else none):=by
 unfold step;simp only[stepOp];exact lim_const _
theorem s_mksl(env ls:List AVal)(σ:Store)(k:Nat)(xs:List Opd):step P env ls σ (.mksl k xs)=(let vs:=xs.map (·.eval env ls)
  if vs=[] then some (.nil0,σ) else
  if vs.all (fun v=>ncells v == k) then some (.sl σ.length 0 0 vs.length,σ++[.arr k 0 vs]) else none):=by
 unfold step;simp only[stepOp];exact lim_const _
theorem s_mkslz(env ls:List AVal)(σ:Store)(k:Nat)(zero:AVal)(n:Nat)(parts:List (Nat×Opd)):step P env ls σ (.mkslz k zero n parts)=(let vs:=setAll (List.replicate n zero) (parts.map fun p=>(p.1,p.2.eval env ls))
  if vs.all (fun v=>ncells v == k) then some (.sl σ.length 0 0 n,σ++[.arr k 0 vs]) else none):=by
 unfold step;simp only[stepOp];exact lim_const _
theorem s_make(env ls:List AVal)(σ:Store)(k:Nat)(zero:AVal)(n:Opd)(c:Opd):step P env ls σ (.make k zero n c)=((asNat (n.eval env ls)).bind fun m=>(asNat (c.eval env ls)).bind fun d=>
   if m=d∧ncells zero=k∧m≤most then some (.sl σ.length 0 0 m,σ++[.arr k 0 (List.replicate m zero)]) else none):=by
 unfold step;simp only[stepOp];exact lim_const _
theorem s_load(env ls:List AVal)(σ:Store)(a:Bool)(s:Nat)(x:Opd):step P env ls σ (.load a s x)=((loadAt a s (x.eval env ls) σ).map (·,σ)):=by
 unfold step;simp only[stepOp];exact lim_const _
theorem s_store(env ls:List AVal)(σ:Store)(s:Nat)(x:Opd)(v:Opd):step P env ls σ (.store s x v)=((storeAt s (x.eval env ls) (v.eval env ls) σ).map (.any,·)):=by
 unfold step;simp only[stepOp];exact lim_const _
theorem s_fld(env ls:List AVal)(σ:Store)(off:Nat)(x:Opd):step P env ls σ (.fld off x)=((fldV σ off (x.eval env ls)).map (·,σ)):=by
 unfold step;simp only[stepOp];exact lim_const _
theorem s_fldv(env ls:List AVal)(σ:Store)(a:Bool)(s:Nat)(off:Nat)(x:Opd):step P env ls σ (.fldv a s off x)=((partV a s off (x.eval env ls)).map (·,σ)):=by
 unfold step;simp only[stepOp];exact lim_const _
theorem s_idxs(env ls:List AVal)(σ:Store)(k:Nat)(x:Opd)(i:Opd):step P env ls σ (.idxs k x i)=((asNat (i.eval env ls)).bind fun n=>(idxsV σ k n (x.eval env ls)).map (·,σ)):=by
 unfold step;simp only[stepOp];exact lim_const _
theorem s_idxa(env ls:List AVal)(σ:Store)(m:Nat)(s:Nat)(x:Opd)(i:Opd):step P env ls σ (.idxa m s x i)=((asNat (i.eval env ls)).bind fun n=>if n < m then (fldV σ (n * s) (x.eval env ls)).map (·,σ) else none):=by
 unfold step;simp only[stepOp];exact lim_const _
theorem s_idxv(env ls:List AVal)(σ:Store)(a:Bool)(m:Nat)(s:Nat)(x:Opd)(i:Opd):step P env ls σ (.idxv a m s x i)=((asNat (i.eval env ls)).bind fun n=>if n < m then (partV a s (n * s) (x.eval env ls)).map (·,σ) else none):=by
 unfold step;simp only[stepOp];exact lim_const _
theorem s_idxt(env ls:List AVal)(σ:Store)(x:Opd)(i:Opd):step P env ls σ (.idxt x i)=((asNat (i.eval env ls)).bind fun n=>(idxtV n (x.eval env ls)).map (·,σ)):=by
 unfold step;simp only[stepOp];exact lim_const _
theorem s_bin(env ls:List AVal)(σ:Store)(op:BinOp)(x:Opd)(y:Opd):step P env ls σ (.bin op x y)=((bin op (x.eval env ls) (y.eval env ls)).map (·,σ)):=by
 unfold step;simp only[stepOp];exact lim_const _
theorem s_eqb(env ls:List AVal)(σ:Store)(n:Bool)(x:Opd)(y:Opd):step P env ls σ (.eqb n x y)=((eqb n (x.eval env ls) (y.eval env ls)).map (·,σ)):=by
 unfold step;simp only[stepOp];exact lim_const _
theorem s_eqa(env ls:List AVal)(σ:Store)(n:Bool)(ks:List Nat)(x:Opd)(y:Opd):step P env ls σ (.eqa n ks x y)=((eqa n ks (x.eval env ls) (y.eval env ls)).map (·,σ)):=by
 unfold step;simp only[stepOp];exact lim_const _
theorem s_isnil(env ls:List AVal)(σ:Store)(n:Bool)(x:Opd):step P env ls σ (.isnil n x)=((isnil n (x.eval env ls)).map (·,σ)):=by
 unfold step;simp only[stepOp];exact lim_const _
theorem s_nils(env ls:List AVal)(σ:Store)(n:Bool)(x:Opd):step P env ls σ (.nils n x)=((nilsV n σ (x.eval env ls)).map (·,σ)):=by
 unfold step;simp only[stepOp];exact lim_const _
theorem s_una(env ls:List AVal)(σ:Store)(op:UnOp)(x:Opd):step P env ls σ (.una op x)=((una op (x.eval env ls)).map (·,σ)):=by
 unfold step;simp only[stepOp];exact lim_const _
theorem s_conv(env ls:List AVal)(σ:Store)(k:IntKind)(x:Opd):step P env ls σ (.conv k x)=((convV k (x.eval env ls)).map (·,σ)):=by
 unfold step;simp only[stepOp];exact lim_const _
theorem s_slice(env ls:List AVal)(σ:Store)(k:Nat)(x:Opd)(lo:Option Opd)(hi:Option Opd):step P env ls σ (.slice k x lo hi)=(let v:=x.eval env ls
  (alen σ v).bind fun n=>(opt env ls 0 lo).bind fun l=>(opt env ls n hi).bind fun h=>(aslice σ k v l h).map (·,σ)):=by
 unfold step;simp only[stepOp];exact lim_const _
theorem s_slicet(env ls:List AVal)(σ:Store)(x:Opd)(lo:Option Opd)(hi:Option Opd):step P env ls σ (.slicet x lo hi)=(let v:=x.eval env ls
  (tlen v).bind fun n=>(opt env ls 0 lo).bind fun l=>(opt env ls n hi).bind fun h=>(tslice v l h).map (·,σ)):=by
 unfold step;simp only[stepOp];exact lim_const _
theorem s_slice0(env ls:List AVal)(σ:Store)(x:Opd):step P env ls σ (.slice0 x)=((alen σ (x.eval env ls)).map fun _=>(.nil0,σ)):=by
 unfold step;simp only[stepOp];exact lim_const _
theorem s_aslice(env ls:List AVal)(σ:Store)(n:Nat)(x:Opd):step P env ls σ (.aslice n x)=((aslV σ n (x.eval env ls)).map (·,σ)):=by
 unfold step;simp only[stepOp];exact lim_const _
theorem s_len(env ls:List AVal)(σ:Store)(x:Opd):step P env ls σ (.len x)=((alen σ (x.eval env ls)).map fun (n:Nat)=>(.int .i64 (n:Int),σ)):=by
 unfold step;simp only[stepOp];exact lim_const _
theorem s_lent(env ls:List AVal)(σ:Store)(x:Opd):step P env ls σ (.lent x)=((tlen (x.eval env ls)).map fun (n:Nat)=>(.int .i64 (n:Int),σ)):=by
 unfold step;simp only[stepOp];exact lim_const _
theorem s_cap(env ls:List AVal)(σ:Store)(x:Opd):step P env ls σ (.cap x)=((capV (x.eval env ls)).map (·,σ)):=by
 unfold step;simp only[stepOp];exact lim_const _
theorem s_app(env ls:List AVal)(σ:Store)(k:Nat)(x:Opd)(y:Opd):step P env ls σ (.app k x y)=((rd σ (y.eval env ls)).bind fun ys=>append k (x.eval env ls) ys σ):=by
 unfold step;simp only[stepOp];exact lim_const _
theorem s_appz(env ls:List AVal)(σ:Store)(k:Nat)(zero:AVal)(x:Opd)(n:Opd):step P env ls σ (.appz k zero x n)=((asNat (n.eval env ls)).bind fun m=>if ncells zero=k∧m≤most then append k (x.eval env ls) (List.replicate m zero) σ else none):=by
 unfold step;simp only[stepOp];exact lim_const _
theorem s_copy(env ls:List AVal)(σ:Store)(k:Nat)(x:Opd)(y:Opd):step P env ls σ (.copy k x y)=((rdMin σ (dlen (x.eval env ls)) (y.eval env ls)).bind fun ys=>(copyV σ k ys (x.eval env ls)).map fun σ'=>(.int .i64 (ys.length:Int),σ')):=by
 unfold step;simp only[stepOp];exact lim_const _
theorem s_mins(env ls:List AVal)(σ:Store)(x:Opd)(xs:List Opd):step P env ls σ (.mins x xs)=((minmax true (x.eval env ls) (xs.map (·.eval env ls))).map (·,σ)):=by
 unfold step;simp only[stepOp];exact lim_const _
theorem s_maxs(env ls:List AVal)(σ:Store)(x:Opd)(xs:List Opd):step P env ls σ (.maxs x xs)=((minmax false (x.eval env ls) (xs.map (·.eval env ls))).map (·,σ)):=by
 unfold step;simp only[stepOp];exact lim_const _
theorem s_mkfn(env ls:List AVal)(σ:Store)(f:Nat)(first:List Opd)(cap:List Opd):step P env ls σ (.mkfn f first cap)=(some (.fn f (first.map (·.eval env ls)) (cap.map (·.eval env ls)),σ)):=by
 unfold step;simp only[stepOp];exact lim_const _
theorem s_ext(env ls:List AVal)(σ:Store)(i:Nat)(x:Opd):step P env ls σ (.ext i x)=((extV i (x.eval env ls)).map (·,σ)):=by
 unfold step;simp only[stepOp];exact lim_const _
theorem s_nilck(env ls:List AVal)(σ:Store)(x:Opd):step P env ls σ (.nilck x)=((nilckV σ (x.eval env ls)).map (·,σ)):=by
 unfold step;simp only[stepOp];exact lim_const _
theorem s_mkmap(env ls:List AVal)(σ:Store)  : step P env ls σ (.mkmap)=(some (.mp σ.length,σ++[.map []])):=by
 unfold step;simp only[stepOp];exact lim_const _
theorem s_mput(env ls:List AVal)(σ:Store)(m:Opd)(k:Opd)(v:Opd):step P env ls σ (.mput m k v)=((mputV σ (k.eval env ls) (v.eval env ls) (m.eval env ls)).map (.any,·)):=by
 unfold step;simp only[stepOp];exact lim_const _
theorem s_look(env ls:List AVal)(σ:Store)(zero:AVal)(ok:Bool)(m:Opd)(k:Opd):step P env ls σ (.look zero ok m k)=(if isKey (k.eval env ls) then (mapOf σ (m.eval env ls)).bind fun es=>(lookup (k.eval env ls) es).map fun r=>(if ok then .tup [r.getD zero,.bool r.isSome] else r.getD zero,σ) else none):=by
 unfold step;simp only[stepOp];exact lim_const _
theorem s_mlen(env ls:List AVal)(σ:Store)(m:Opd):step P env ls σ (.mlen m)=((mapOf σ (m.eval env ls)).map fun es=>(.int .i64 (es.length:Int),σ)):=by
 unfold step;simp only[stepOp];exact lim_const _
theorem s_clr(env ls:List AVal)(σ:Store)(zero:AVal)(x:Opd):step P env ls σ (.clr zero x)=((clrV σ zero (x.eval env ls)).map (.any,·)):=by
 unfold step;simp only[stepOp];exact lim_const _
theorem s_bad(env ls:List AVal)(σ:Store)  : step P env ls σ (.bad)=(none):=by
 unfold step;simp only[stepOp];exact lim_const _
end
end Go.AM
namespace Go.AM
def Mode.isPure:Mode→Bool
 | .pure|.fresh _=>true
 | _=>false
theorem fz_idem(σ τ:Store):∀ (n:Nat) (v:AVal),fz true false 0 τ n (fz true false 0 σ n v)=fz true false 0 σ n v:=by
 intro n
 induction n with
 | zero=>intro v;rfl
 | succ n ih=>
  intro v
  have hl:∀ l:List AVal,(l.map (fz true false 0 σ n)).map (fz true false 0 τ n)=l.map (fz true false 0 σ n):=fun l=>by
   rw[List.map_map];exact List.map_congr_left fun x _=>ih x
  cases v with
  | agg cs=>simp only[fz];rw[hl]
  | tup cs=>simp only[fz];rw[hl]
  | fn f a c=>simp only[fz];rw[hl,hl]
  | imm b xs=>cases b<;>simp[fz]
  | cptr b x o=>
   cases b
   ·simp[fz]
   ·by_cases h:ncells (fz true false 0 σ n x)=ncells x
    ·simp[fz,cptrAt,h,ih]
    ·simp[fz,cptrAt,h]
  | imap b xs=>cases b<;>simp[fz]
  | lst xs=>
   by_cases h:(xs.map (fz true false 0 σ n)).map ncells=xs.map ncells
   ·simp only[fz,listAt,if_pos h];rfl
   ·simp only[fz,listAt,if_neg h]
  | sl id ep off len=>
   simp only[fz,Nat.not_lt_zero,if_false]
   cases sliceAt σ id ep off len with
   | none=>simp[fz]
   | some l=>
    by_cases h:(l.map (fz true false 0 σ n)).map ncells=l.map ncells
    ·simp only[Option.elim,listAt,if_pos h,fz];rfl
    ·simp only[Option.elim,listAt,if_neg h,fz]
  | ptr id ep i off=>
   simp only[fz,Nat.not_lt_zero,if_false]
   cases elemAt σ id ep i with
   | none=>simp[fz]
   | some x=>
    by_cases h:ncells (fz true false 0 σ n x)=ncells x
    ·simp[fz,cptrAt,h,ih]
    ·simp[fz,cptrAt,h]
  | asl id ep i off m=>simp[fz]
  | mp id=>
   simp only[fz,Nat.not_lt_zero,if_false]
   cases entriesAt σ id<;>simp[fz]
  | yld l s e=>
   simp[fz]
  | _=>simp[fz]
theorem snap_idem(σ τ:Store)(v:AVal):snap τ (snap σ v)=snap σ v:=fz_idem σ τ fuel v
section
variable {P:Code} (hP:P.Good)
include hP
theorem acall_pureP{f:Nat}{g:AFunc}(h:P.fns f=.fn g)(hm:g.mode.isPure=true)(args:List AVal)(σ:Store) :
  acall P f args σ=((acall P f (args.map (snap σ)) []).map (·.1)).map (·,σ):=by
 rw[acall_fn hP h,acall_fn hP h]
 have he:enter g args σ=enter g (args.map (snap σ)) []:=by
  have h1:((args.map (snap σ)).take g.np).map (snap [])=(args.take g.np).map (snap σ):=by
   rw[← List.map_take,List.map_map];exact List.map_congr_left fun x _=>snap_idem σ [] x
  unfold enter
  cases hg:g.mode<;>rw[hg]at hm<;>first|exact absurd hm (by decide)|(simp only[h1])
 rw[he]
 cases run P g.body (enter g (args.map (snap σ)) []) with
 | none=>rfl
 | some r=>
  obtain ⟨e,s⟩:=r
  have key:(results s g.res).map (fun v=>finish g.mode σ s v)=(((results s g.res).map fun v=>finish g.mode [] s v).map (·.1)).map (·,σ):=by
   cases results s g.res with
   | none=>rfl
   | some v=>
    cases hg:g.mode<;>rw[hg]at hm<;>first|exact absurd hm (by decide)|rfl
  cases e with
  | ext _=>rfl
  | nrm=>exact key
  | ret=>exact key
theorem pcall_ofP{f:Nat}{g:AFunc}(h:P.fns f=.fn g)(hm:g.mode.isPure=true)(args:List AVal) :
  (acall P f args []).map (·.1)=(run P g.body ⟨(args.take g.np).map (snap [])++List.replicate (g.nenv - g.np) .any,[]⟩).bind fun r=>match r.1 with
   | .ext _=>none
   | _=>(results r.2 g.res).map fun v=>(finish g.mode [] r.2 v).1:=by
 rw[acall_fn hP h]
 have he:enter g args []=⟨(args.take g.np).map (snap [])++List.replicate (g.nenv - g.np) .any,[]⟩:=by
  unfold enter
  cases hg:g.mode<;>rw[hg]at hm<;>first|exact absurd hm (by decide)|rfl
 rw[he]
 cases run P g.body _ with
 | none=>rfl
 | some r=>
  obtain ⟨e,s⟩:=r
  cases e with
  | ext _=>rfl
  | nrm=>show ((results s g.res).map _).map _=_;rw[Option.map_map];rfl
  | ret=>show ((results s g.res).map _).map _=_;rw[Option.map_map];rfl
end
end Go.AM
section
set_option maxRecDepth 8000
namespace Go.AM
theorem good:code.Good:=prims_good
noncomputable def pcall(f:Nat)(args:List AVal):Option AVal:=(acall code f args []).map (·.1)
theorem acall_pure{f:Nat}{g:AFunc}(h:code.fns f=.fn g)(hm:g.mode.isPure=true)(args:List AVal)(σ:Store) :
  acall code f args σ=(pcall f (args.map (snap σ))).map (·,σ):=acall_pureP good h hm args σ
abbrev PureAt(f:Nat):Prop:=∀ (args:List AVal) (σ:Store),acall code f args σ=(pcall f (args.map (snap σ))).map (·,σ)
theorem pcall_of{f:Nat}{g:AFunc}(h:code.fns f=.fn g)(hm:g.mode.isPure=true)(args:List AVal) :
  pcall f args=(run code g.body ⟨(args.take g.np).map (snap [])++List.replicate (g.nenv - g.np) .any,[]⟩).bind fun r=>match r.1 with
   | .ext _=>none
   | _=>(results r.2 g.res).map fun v=>(finish g.mode [] r.2 v).1:=pcall_ofP good h hm args
theorem c_ql:code.fns 5=.fn P.f_ql:=rfl
@[simp] theorem a_ql:PureAt 5:=acall_pure c_ql rfl
theorem c_qy:code.fns 23=.fn P.f_qy:=rfl
@[simp] theorem a_qy:PureAt 23:=acall_pure c_qy rfl
theorem c_qdf:code.fns 37=.fn P.f_qdf:=rfl
@[simp] theorem a_qdf:PureAt 37:=acall_pure c_qdf rfl
theorem c_qae:code.fns 53=.fn P.f_qae:=rfl
@[simp] theorem a_qae:PureAt 53:=acall_pure c_qae rfl
theorem c_qbp:code.fns 71=.fn P.f_qbp:=rfl
@[simp] theorem a_qbp:PureAt 71:=acall_pure c_qbp rfl
theorem c_qfa:code.fns 77=.fn P.f_qfa:=rfl
@[simp] theorem a_qfa:PureAt 77:=acall_pure c_qfa rfl
theorem c_qer:code.fns 95=.nilfn P.f_qer:=rfl
theorem c_qdy:code.fns 96=.fn P.f_qdy:=rfl
theorem c_qdh:code.fns 97=.fn P.f_qdh:=rfl
@[simp] theorem a_qdh:PureAt 97:=acall_pure c_qdh rfl
theorem c_qew:code.fns 110=.fn P.f_qew:=rfl
@[simp] theorem a_qew:PureAt 110:=acall_pure c_qew rfl
theorem c_qi:code.fns 122=.fn P.f_qi:=rfl
@[simp] theorem a_qi:PureAt 122:=acall_pure c_qi rfl
theorem c_qam:code.fns 123=.fn P.f_qam:=rfl
@[simp] theorem a_qam:PureAt 123:=acall_pure c_qam rfl
theorem c_qai:code.fns 124=.fn P.f_qai:=rfl
theorem c_qal:code.fns 125=.fn P.f_qal:=rfl
@[simp] theorem a_qal:PureAt 125:=acall_pure c_qal rfl
theorem c_qaj:code.fns 126=.fn P.f_qaj:=rfl
theorem c_qah:code.fns 127=.fn P.f_qah:=rfl
@[simp] theorem a_qah:PureAt 127:=acall_pure c_qah rfl
theorem c_qak:code.fns 128=.fn P.f_qak:=rfl
@[simp] theorem a_qak:PureAt 128:=acall_pure c_qak rfl
theorem c_qbv:code.fns 146=.fn P.f_qbv:=rfl
@[simp] theorem a_qbv:PureAt 146:=acall_pure c_qbv rfl
theorem c_qfk:code.fns 160=.fn P.f_qfk:=rfl
@[simp] theorem a_qfk:PureAt 160:=acall_pure c_qfk rfl
theorem c_qdu:code.fns 177=.fn P.f_qdu:=rfl
theorem c_qdo:code.fns 178=.fn P.f_qdo:=rfl
theorem c_qdq:code.fns 179=.fn P.f_qdq:=rfl
theorem c_qdl:code.fns 180=.fn P.f_qdl:=rfl
theorem c_qdn:code.fns 181=.fn P.f_qdn:=rfl
theorem c_qds:code.fns 182=.fn P.f_qds:=rfl
theorem c_qdm:code.fns 183=.fn P.f_qdm:=rfl
theorem c_qdt:code.fns 184=.fn P.f_qdt:=rfl
theorem c_qdr:code.fns 185=.fn P.f_qdr:=rfl
theorem c_qdz:code.fns 186=.fn P.f_qdz:=rfl
theorem c_qdw:code.fns 187=.fn P.f_qdw:=rfl
theorem c_qfb:code.fns 188=.fn P.f_qfb:=rfl
@[simp] theorem a_qfb:PureAt 188:=acall_pure c_qfb rfl
theorem c_qdi:code.fns 189=.fn P.f_qdi:=rfl
@[simp] theorem a_qdi:PureAt 189:=acall_pure c_qdi rfl
theorem c_qea:code.fns 190=.fn P.f_qea:=rfl
@[simp] theorem a_qea:PureAt 190:=acall_pure c_qea rfl
theorem c_qfg:code.fns 196=.fn P.f_qfg:=rfl
@[simp] theorem a_qfg:PureAt 196:=acall_pure c_qfg rfl
theorem c_qgm:code.fns 206=.fn P.f_qgm:=rfl
@[simp] theorem a_qgm:PureAt 206:=acall_pure c_qgm rfl
theorem c_qbq:code.fns 207=.fn P.f_qbq:=rfl
@[simp] theorem a_qbq:PureAt 207:=acall_pure c_qbq rfl
theorem c_qaf:code.fns 216=.fn P.f_qaf:=rfl
@[simp] theorem a_qaf:PureAt 216:=acall_pure c_qaf rfl
theorem c_qv:code.fns 217=.fn P.f_qv:=rfl
@[simp] theorem a_qv:PureAt 217:=acall_pure c_qv rfl
theorem c_qu:code.fns 218=.fn P.f_qu:=rfl
theorem c_qan:code.fns 219=.fn P.f_qan:=rfl
@[simp] theorem a_qan:PureAt 219:=acall_pure c_qan rfl
theorem c_qh:code.fns 221=.fn P.f_qh:=rfl
@[simp] theorem a_qh:PureAt 221:=acall_pure c_qh rfl
theorem c_qn:code.fns 222=.fn P.f_qn:=rfl
@[simp] theorem a_qn:PureAt 222:=acall_pure c_qn rfl
theorem c_qbu:code.fns 246=.fn P.f_qbu:=rfl
@[simp] theorem a_qbu:PureAt 246:=acall_pure c_qbu rfl
theorem c_qby:code.fns 247=.fn P.f_qby:=rfl
@[simp] theorem a_qby:PureAt 247:=acall_pure c_qby rfl
theorem c_qgl:code.fns 255=.fn P.f_qgl:=rfl
@[simp] theorem a_qgl:PureAt 255:=acall_pure c_qgl rfl
theorem c_qgn:code.fns 256=.fn P.f_qgn:=rfl
@[simp] theorem a_qgn:PureAt 256:=acall_pure c_qgn rfl
theorem c_qdv:code.fns 272=.fn P.f_qdv:=rfl
@[simp] theorem a_qdv:PureAt 272:=acall_pure c_qdv rfl
theorem c_qdp:code.fns 273=.fn P.f_qdp:=rfl
@[simp] theorem a_qdp:PureAt 273:=acall_pure c_qdp rfl
theorem c_qeb:code.fns 274=.fn P.f_qeb:=rfl
@[simp] theorem a_qeb:PureAt 274:=acall_pure c_qeb rfl
theorem c_qeu:code.fns 275=.fn P.f_qeu:=rfl
@[simp] theorem a_qeu:PureAt 275:=acall_pure c_qeu rfl
theorem c_qbr:code.fns 276=.fn P.f_qbr:=rfl
@[simp] theorem a_qbr:PureAt 276:=acall_pure c_qbr rfl
theorem c_qdx:code.fns 277=.fn P.f_qdx:=rfl
@[simp] theorem a_qdx:PureAt 277:=acall_pure c_qdx rfl
theorem c_qfl:code.fns 278=.fn P.f_qfl:=rfl
@[simp] theorem a_qfl:PureAt 278:=acall_pure c_qfl rfl
theorem c_qes:code.fns 281=.fn P.f_qes:=rfl
theorem c_qw:code.fns 299=.fn P.f_qw:=rfl
@[simp] theorem a_qw:PureAt 299:=acall_pure c_qw rfl
theorem c_qac:code.fns 300=.fn P.f_qac:=rfl
theorem c_qaa:code.fns 301=.fn P.f_qaa:=rfl
@[simp] theorem a_qaa:PureAt 301:=acall_pure c_qaa rfl
theorem c_qt:code.fns 302=.fn P.f_qt:=rfl
@[simp] theorem a_qt:PureAt 302:=acall_pure c_qt rfl
theorem c_qfe:code.fns 339=.fn P.f_qfe:=rfl
theorem c_qbs:code.fns 340=.fn P.f_qbs:=rfl
@[simp] theorem a_qbs:PureAt 340:=acall_pure c_qbs rfl
theorem c_qbw:code.fns 341=.fn P.f_qbw:=rfl
@[simp] theorem a_qbw:PureAt 341:=acall_pure c_qbw rfl
theorem c_qad:code.fns 359=.fn P.f_qad:=rfl
@[simp] theorem a_qad:PureAt 359:=acall_pure c_qad rfl
theorem c_qab:code.fns 360=.fn P.f_qab:=rfl
@[simp] theorem a_qab:PureAt 360:=acall_pure c_qab rfl
theorem c_qk:code.fns 361=.fn P.f_qk:=rfl
@[simp] theorem a_qk:PureAt 361:=acall_pure c_qk rfl
theorem c_qq:code.fns 362=.fn P.f_qq:=rfl
@[simp] theorem a_qq:PureAt 362:=acall_pure c_qq rfl
theorem c_qm:code.fns 363=.fn P.f_qm:=rfl
@[simp] theorem a_qm:PureAt 363:=acall_pure c_qm rfl
theorem c_qbx:code.fns 374=.fn P.f_qbx:=rfl
theorem c_qbt:code.fns 375=.fn P.f_qbt:=rfl
@[simp] theorem a_qbt:PureAt 375:=acall_pure c_qbt rfl
theorem c_qs:code.fns 391=.fn P.f_qs:=rfl
@[simp] theorem a_qs:PureAt 391:=acall_pure c_qs rfl
theorem c_qj:code.fns 392=.fn P.f_qj:=rfl
@[simp] theorem a_qj:PureAt 392:=acall_pure c_qj rfl
theorem c_qr:code.fns 399=.fn P.f_qr:=rfl
@[simp] theorem a_qr:PureAt 399:=acall_pure c_qr rfl
theorem c_qaw:code.fns 411=.fn P.f_qaw:=rfl
@[simp] theorem a_qaw:PureAt 411:=acall_pure c_qaw rfl
theorem c_qg:code.fns 414=.fn P.f_qg:=rfl
@[simp] theorem a_qg:PureAt 414:=acall_pure c_qg rfl
theorem c_qfm:code.fns 420=.fn P.f_qfm:=rfl
theorem c_qd:code.fns 423=.fn P.f_qd:=rfl
@[simp] theorem a_qd:PureAt 423:=acall_pure c_qd rfl
theorem c_qag:code.fns 429=.fn P.f_qag:=rfl
@[simp] theorem a_qag:PureAt 429:=acall_pure c_qag rfl
theorem c_qau:code.fns 430=.fn P.f_qau:=rfl
@[simp] theorem a_qau:PureAt 430:=acall_pure c_qau rfl
theorem c_qar:code.fns 431=.fn P.f_qar:=rfl
@[simp] theorem a_qar:PureAt 431:=acall_pure c_qar rfl
theorem c_qat:code.fns 432=.fn P.f_qat:=rfl
@[simp] theorem a_qat:PureAt 432:=acall_pure c_qat rfl
theorem c_qcf:code.fns 434=.fn P.f_qcf:=rfl
@[simp] theorem a_qcf:PureAt 434:=acall_pure c_qcf rfl
theorem c_qcv:code.fns 435=.fn P.f_qcv:=rfl
@[simp] theorem a_qcv:PureAt 435:=acall_pure c_qcv rfl
theorem c_qce:code.fns 436=.fn P.f_qce:=rfl
@[simp] theorem a_qce:PureAt 436:=acall_pure c_qce rfl
theorem c_qct:code.fns 437=.fn P.f_qct:=rfl
@[simp] theorem a_qct:PureAt 437:=acall_pure c_qct rfl
theorem c_qcx:code.fns 438=.fn P.f_qcx:=rfl
@[simp] theorem a_qcx:PureAt 438:=acall_pure c_qcx rfl
theorem c_qc:code.fns 442=.fn P.f_qc:=rfl
@[simp] theorem a_qc:PureAt 442:=acall_pure c_qc rfl
theorem c_qas:code.fns 452=.fn P.f_qas:=rfl
@[simp] theorem a_qas:PureAt 452:=acall_pure c_qas rfl
theorem c_qx:code.fns 454=.fn P.f_qx:=rfl
@[simp] theorem a_qx:PureAt 454:=acall_pure c_qx rfl
theorem c_qdc:code.fns 456=.fn P.f_qdc:=rfl
@[simp] theorem a_qdc:PureAt 456:=acall_pure c_qdc rfl
theorem c_qda:code.fns 457=.fn P.f_qda:=rfl
@[simp] theorem a_qda:PureAt 457:=acall_pure c_qda rfl
theorem c_qcu:code.fns 458=.fn P.f_qcu:=rfl
@[simp] theorem a_qcu:PureAt 458:=acall_pure c_qcu rfl
theorem c_qdd:code.fns 459=.fn P.f_qdd:=rfl
@[simp] theorem a_qdd:PureAt 459:=acall_pure c_qdd rfl
theorem c_qcs:code.fns 460=.fn P.f_qcs:=rfl
@[simp] theorem a_qcs:PureAt 460:=acall_pure c_qcs rfl
theorem c_qcw:code.fns 461=.fn P.f_qcw:=rfl
@[simp] theorem a_qcw:PureAt 461:=acall_pure c_qcw rfl
theorem c_qz:code.fns 484=.fn P.f_qz:=rfl
@[simp] theorem a_qz:PureAt 484:=acall_pure c_qz rfl
theorem c_qde:code.fns 486=.fn P.f_qde:=rfl
@[simp] theorem a_qde:PureAt 486:=acall_pure c_qde rfl
theorem c_qcy:code.fns 488=.fn P.f_qcy:=rfl
theorem c_qo:code.fns 507=.fn P.f_qo:=rfl
@[simp] theorem a_qo:PureAt 507:=acall_pure c_qo rfl
theorem c_qp:code.fns 508=.fn P.f_qp:=rfl
@[simp] theorem a_qp:PureAt 508:=acall_pure c_qp rfl
theorem c_qcz:code.fns 509=.fn P.f_qcz:=rfl
theorem c_qdb:code.fns 525=.fn P.f_qdb:=rfl
@[simp] theorem a_qdb:PureAt 525:=acall_pure c_qdb rfl
theorem c_qdg:code.fns 526=.fn P.f_qdg:=rfl
@[simp] theorem a_qdg:PureAt 526:=acall_pure c_qdg rfl
theorem c_qdj:code.fns 533=.fn P.f_qdj:=rfl
theorem c_qdk:code.fns 534=.fn P.f_qdk:=rfl
theorem c_qav:code.fns 535=.fn P.f_qav:=rfl
theorem c_qe:code.fns 536=.fn P.f_qe:=rfl
@[simp] theorem a_qe:PureAt 536:=acall_pure c_qe rfl
theorem c_qa:code.fns 537=.fn P.f_qa:=rfl
theorem c_qaq:code.fns 538=.fn P.f_qaq:=rfl
@[simp] theorem a_qaq:PureAt 538:=acall_pure c_qaq rfl
theorem c_qao:code.fns 539=.fn P.f_qao:=rfl
@[simp] theorem a_qao:PureAt 539:=acall_pure c_qao rfl
theorem c_qap:code.fns 540=.fn P.f_qap:=rfl
@[simp] theorem a_qap:PureAt 540:=acall_pure c_qap rfl
theorem c_slices_Sort_int_int:code.fns 282=.prim 2:=rfl
end Go.AM
end
namespace Go.AM
noncomputable def thenRun(b:ACode)(r:Option (Ex×St)):Option (Ex×St):=r.bind fun r=>match r.1 with
 | .nrm=>run code b r.2
 | e=>some (e,r.2)
noncomputable def thenOps(env:List AVal)(is:List Ins)(ls:List AVal)(q:Option (AVal×Store)):Option (List AVal×Store):=
 q.bind fun q=>runOps code env is (ls++[q.1]) q.2
noncomputable def whenOps(env:List AVal)(i:Ins)(is:List Ins)(ls:List AVal)(σ:Store)(t:Option Bool):Option (List AVal×Store):=
 match t with
 | some true=>thenOps env is ls (step code env ls σ i.op)
 | some false=>runOps code env is (ls++[.tup []]) σ
 | none=>none
def thenOut(env:List AVal)(os:List (Nat×Opd))(r:Option (List AVal×Store)):Option (Ex×St):=
 r.map fun r=>(.nrm,⟨outs env env r.1 os,r.2⟩)
def thenBlk(id:Nat)(r:Option (Ex×St)):Option (Ex×St):=r.map fun r=>match r.1 with
 | .ext j=>if j=id then (.nrm,r.2) else r
 | _=>r
noncomputable def condRun(a b:ACode)(s:St)(c:AVal):Option (Ex×St):=match c with
 | .bool true=>run code a s
 | .bool false=>run code b s
 | _=>none
noncomputable def thenLoop(base:Nat)(clr:List Nat)(b:ACode)(r:Option (Ex×St)):Option (Ex×St):=r.bind fun r=>match r.1 with
 | .nrm=>rounds code base clr b (roundEnd base clr r.2)
 | e=>some (e,r.2)
def thenRng(l:Nat)(env:List AVal)(r:Option (AVal×Store)):Option (Ex×St):=r.bind fun r=>jumped l env r.2
noncomputable def thenLift(env:List AVal)(b:ACode)(r:Option Store):Option (Ex×St):=r.bind fun σ=>run code b ⟨env,σ⟩
noncomputable def thenT(env:List AVal)(is:List Ins)(ls:List AVal)(ss:List Store)(q:Option (AVal×Store)):Option (List AVal×List Store×Store):=
 q.bind fun q=>runT code env is (ls++[q.1]) ss q.2
noncomputable def whenT(env:List AVal)(i:Ins)(is:List Ins)(ls:List AVal)(ss:List Store)(σ:Store)(t:Option Bool):Option (List AVal×List Store×Store):=
 match t with
 | some true=>thenT env is ls (ss++[σ]) (step code env ls σ i.op)
 | some false=>runT code env is (ls++[.tup []]) (ss++[σ]) σ
 | none=>none
noncomputable def thenChk(env:List AVal)(os:List (Nat×Opd))(is:List Ins)(chk:List (Nat×Nat))(r:Option (List AVal×List Store×Store)):Option (Ex×St):=
 r.bind fun r=>(runChk code env r.1 is (r.2.1++[r.2.2]) chk).map fun _=>(.nrm,⟨outs env env r.1 os,r.2.2⟩)
noncomputable def chkNext(env ls:List AVal)(is:List Ins)(ss:List Store)(n:Nat)(τ:Store)(l:List (Nat×Nat))(q:Option (AVal×Store)):Option Unit:=
 q.bind fun q=>if same q.1 (nth ls n)&&sameS q.2 τ then runChk code env ls is ss l else none
noncomputable def chkAt(env ls:List AVal)(is:List Ins)(ss:List Store)(n:Nat)(l:List (Nat×Nat))(i:Option Ins)(t:Option Store):Option Unit:=
 match i,t with
 | some i,some τ=>chkNext env ls is ss n τ l (step code env (ls.take n) τ i.op)
 | _,_=>none
def thenLeave(m:Mode)(res:List Res)(r:Option (Ex×St)):Option AVal:=r.bind fun r=>match r.1 with
 | .ext _=>none
 | _=>(results r.2 res).map fun v=>(finish m [] r.2 v).1
@[simp ↓] theorem R_seq(a b:ACode)(s:St):run code (.seq a b) s=thenRun b (run code a s):=run_seq good a b s
@[simp ↓] theorem R_skip(s:St):run code .skip s=some (.nrm,s):=run_skip good s
@[simp ↓] theorem R_exit(id:Nat)(s:St):run code (.exit id) s=some (.ext id,s):=run_exit good id s
@[simp ↓] theorem R_ret(s:St):run code .ret s=some (.ret,s):=run_ret good s
@[simp ↓] theorem R_reg(is:List Ins)(os:List (Nat×Opd))(env:List AVal)(σ:Store):run code (.reg is os) ⟨env,σ⟩=thenOut env os (runOps code env is [] σ):=run_reg good is os _
@[simp ↓] theorem R_cond(c:Opd)(a b:ACode)(env:List AVal)(σ:Store):run code (.cond c a b) ⟨env,σ⟩=condRun a b ⟨env,σ⟩ (c.eval env []):=by
 rw[run_cond good];rfl
@[simp ↓] theorem R_blk(id:Nat)(b:ACode)(s:St):run code (.blk id b) s=thenBlk id (run code b s):=run_blk good id b s
@[simp ↓] theorem R_scope(b:ACode)(s:St):run code (.scope b) s=run code b s:=run_scope good b s
@[simp ↓] theorem R_loop(clr:List Nat)(b:ACode)(env:List AVal)(σ:Store):run code (.loop clr b) ⟨env,σ⟩=rounds code σ.length clr b ⟨clear env clr,σ⟩:=run_loop good clr b _
@[simp ↓] theorem R_rng(k:Nat)(f:Opd)(site:Nat)(env:List AVal)(σ:Store):run code (.rng k f site) ⟨env,σ⟩=if env.length=k then thenRng σ.length env (acallF code (f.eval env []) [.yld σ.length site env] (σ++[.pend false none])) else none:=run_rng good k f site _
@[simp ↓] theorem R_lift(i off k:Nat)(b:ACode)(env:List AVal)(σ:Store):run code (.lift i off k b) ⟨env,σ⟩=thenLift env b (liftV (nth env i) off k σ):=run_lift good i off k b _
@[simp ↓] theorem R_regd(is:List Ins)(os:List (Nat×Opd))(chk:List (Nat×Nat))(env:List AVal)(σ:Store):run code (.regd is os chk) ⟨env,σ⟩=thenChk env os is chk (runT code env is [] [] σ):=run_regd good is os chk _
@[simp ↓] theorem T_nil(env ls:List AVal)(ss:List Store)(σ:Store):runT code env [] ls ss σ=some (ls,ss,σ):=runT_nil good env ls ss σ
@[simp ↓] theorem T_i(env ls:List AVal)(ss:List Store)(σ:Store)(o:AOp)(is:List Ins):runT code env (P.i o::is) ls ss σ=thenT env is ls (ss++[σ]) (step code env ls σ o):=runT_cons good env _ is ls ss σ
@[simp ↓] theorem T_g(env ls:List AVal)(ss:List Store)(σ:Store)(x:Opd)(b:Bool)(o:AOp)(is:List Ins) :
  runT code env (P.g x b o::is) ls ss σ=whenT env (P.g x b o) is ls ss σ (wanted env ls (some (x,b))):=runT_cons good env _ is ls ss σ
@[simp] theorem whenT_t(env:List AVal)(x:Opd)(b:Bool)(o:AOp)(is:List Ins)(ls:List AVal)(ss:List Store)(σ:Store) :
  whenT env (P.g x b o) is ls ss σ (some true)=thenT env is ls (ss++[σ]) (step code env ls σ o):=rfl
@[simp] theorem whenT_f(env:List AVal)(i:Ins)(is:List Ins)(ls:List AVal)(ss:List Store)(σ:Store) :
  whenT env i is ls ss σ (some false)=runT code env is (ls++[.tup []]) (ss++[σ]) σ:=rfl
@[simp] theorem thenT_some(env:List AVal)(is:List Ins)(ls:List AVal)(ss:List Store)(v:AVal)(σ:Store):thenT env is ls ss (some (v,σ))=runT code env is (ls++[v]) ss σ:=rfl
@[simp] theorem thenChk_some(env:List AVal)(os:List (Nat×Opd))(is:List Ins)(chk:List (Nat×Nat))(ls:List AVal)(ss:List Store)(σ:Store) :
  thenChk env os is chk (some (ls,ss,σ))=(runChk code env ls is (ss++[σ]) chk).map fun _=>(.nrm,⟨outs env env ls os,σ⟩):=rfl
@[simp ↓] theorem K_nil(env ls:List AVal)(is:List Ins)(ss:List Store):runChk code env ls is ss []=some ():=runChk_nil good env ls is ss
@[simp ↓] theorem K_cons(env ls:List AVal)(is:List Ins)(ss:List Store)(n j:Nat)(l:List (Nat×Nat)):runChk code env ls is ss ((n,j)::l)=chkAt env ls is ss n l is[n]? ss[j]?:=by
 rw[runChk_cons good]
 unfold chkAt chkNext
 cases is[n]?<;>cases ss[j]?<;>rfl
@[simp] theorem chkAt_some(env ls:List AVal)(is:List Ins)(ss:List Store)(n:Nat)(l:List (Nat×Nat))(o:AOp)(τ:Store):chkAt env ls is ss n l (some (P.i o)) (some τ)=chkNext env ls is ss n τ l (step code env (ls.take n) τ o):=rfl
@[simp] theorem chkNext_some(env ls:List AVal)(is:List Ins)(ss:List Store)(n:Nat)(τ:Store)(l:List (Nat×Nat))(v:AVal)(σ:Store):chkNext env ls is ss n τ l (some (v,σ))=if same v (nth ls n)&&sameS σ τ then runChk code env ls is ss l else none:=rfl
@[simp] theorem thenLift_some(env:List AVal)(b:ACode)(σ:Store):thenLift env b (some σ)=run code b ⟨env,σ⟩:=rfl
@[simp] theorem F_fn(f:Nat)(a c args:List AVal)(σ:Store):acallF code (.fn f a c) args σ=acall code f (a++args++c) σ:=rfl
attribute [simp] same_refl sameL_refl sameS_refl
@[simp ↓] theorem O_nil(env ls:List AVal)(σ:Store):runOps code env [] ls σ=some (ls,σ):=runOps_nil good env ls σ
@[simp ↓] theorem O_i(env ls:List AVal)(σ:Store)(o:AOp)(is:List Ins):runOps code env (P.i o::is) ls σ=thenOps env is ls (step code env ls σ o):=runOps_cons good env _ is ls σ
@[simp ↓] theorem O_g(env ls:List AVal)(σ:Store)(x:Opd)(b:Bool)(o:AOp)(is:List Ins) :
  runOps code env (P.g x b o::is) ls σ=whenOps env (P.g x b o) is ls σ (wanted env ls (some (x,b))):=runOps_cons good env _ is ls σ
@[simp] theorem when_t(env:List AVal)(x:Opd)(b:Bool)(o:AOp)(is:List Ins)(ls:List AVal)(σ:Store) :
  whenOps env (P.g x b o) is ls σ (some true)=thenOps env is ls (step code env ls σ o):=rfl
@[simp] theorem when_f(env:List AVal)(i:Ins)(is:List Ins)(ls:List AVal)(σ:Store) :
  whenOps env i is ls σ (some false)=runOps code env is (ls++[.tup []]) σ:=rfl
@[simp] theorem thenRun_nrm(b:ACode)(s:St):thenRun b (some (.nrm,s))=run code b s:=rfl
@[simp] theorem thenRun_ext(b:ACode)(s:St)(id:Nat):thenRun b (some (.ext id,s))=some (.ext id,s):=rfl
@[simp] theorem thenRun_ret(b:ACode)(s:St):thenRun b (some (.ret,s))=some (.ret,s):=rfl
@[simp] theorem thenOps_some(env:List AVal)(is:List Ins)(ls:List AVal)(v:AVal)(σ:Store):thenOps env is ls (some (v,σ))=runOps code env is (ls++[v]) σ:=rfl
@[simp] theorem thenOut_some(env:List AVal)(os:List (Nat×Opd))(ls:List AVal)(σ:Store):thenOut env os (some (ls,σ))=some (.nrm,⟨outs env env ls os,σ⟩):=rfl
@[simp] theorem thenBlk_nrm(id:Nat)(s:St):thenBlk id (some (.nrm,s))=some (.nrm,s):=rfl
@[simp] theorem thenBlk_ret(id:Nat)(s:St):thenBlk id (some (.ret,s))=some (.ret,s):=rfl
@[simp] theorem thenBlk_ext(id j:Nat)(s:St):thenBlk id (some (.ext j,s))=some (if j=id then (.nrm,s) else (.ext j,s)):=by
 simp[thenBlk]
@[simp] theorem cond_t(a b:ACode)(s:St):condRun a b s (.bool true)=run code a s:=rfl
@[simp] theorem cond_f(a b:ACode)(s:St):condRun a b s (.bool false)=run code b s:=rfl
@[simp] theorem thenLeave_ret(m:Mode)(res:List Res)(s:St):thenLeave m res (some (.ret,s))=(results s res).map fun v=>(finish m [] s v).1:=rfl
@[simp] theorem thenLeave_nrm(m:Mode)(res:List Res)(s:St):thenLeave m res (some (.nrm,s))=(results s res).map fun v=>(finish m [] s v).1:=rfl
theorem pcall_eq{f:Nat}{g:AFunc}(h:code.fns f=.fn g)(hm:g.mode.isPure=true)(args:List AVal) :
  pcall f args=thenLeave g.mode g.res (run code g.body ⟨(args.take g.np).map (snap [])++List.replicate (g.nenv - g.np) .any,[]⟩):=pcall_of h hm args
@[simp ↓] theorem S_call(env ls:List AVal)(σ:Store)(f:Nat)(args:List Opd)(mat:Bool) :
  step code env ls σ (.call f args mat)=(acall code f (args.map (·.eval env ls)) σ).map (mater mat):=step_call good env ls σ f args mat
@[simp ↓] theorem S_callv(env ls:List AVal)(σ:Store)(f:Opd)(args:List Opd) :
  step code env ls σ (.callv f args)=(acallV code (f.eval env ls) (args.map (·.eval env ls)) σ).map (mater false):=step_callv good env ls σ f args
@[simp] theorem V_fn(f:Nat)(a c args:List AVal)(σ:Store):acallV code (.fn f a c) args σ=acall code f (a++args++c) σ:=rfl
attribute [simp ↓] s_mov s_pick s_box s_build s_mknil s_mkl s_mksl s_mkslz s_make s_load s_store s_fld s_fldv s_idxs s_idxa s_idxv s_idxt s_bin s_eqb s_eqa s_isnil s_una s_conv s_slice s_slicet s_slice0 s_aslice s_len s_lent s_cap s_app s_appz s_nils s_copy s_mins s_maxs s_mkfn s_ext s_nilck s_mkmap s_mput s_look s_mlen s_clr s_bad
attribute [simp] eqCells kindOf nilsV emptyS liftV liftAt liftAll rdMin dlen eqb eqa isnil neg aslV copyV tlen tslice aslice partV fldV idxsV nilckV convV extV idxtV mapOf mputV clrV pickV capV fresh isSlice sliceAt elemAt arrK entriesAt getPart setPart Opd.eval nth outs clear wanted bin binInt shift una alen asNat rd loadAt storeAt results getRess getRes finish opt sameCells sameCell isNil setAll fill minmax
@[simp] theorem ncells_agg(cs:List AVal):ncells (.agg cs)=cs.length:=rfl
@[simp] theorem ncells_int(k:IntKind)(n:Int):ncells (.int k n)=1:=rfl
@[simp] theorem ncells_bool(b:Bool):ncells (.bool b)=1:=rfl
@[simp] theorem ncells_str(s:List UInt8):ncells (.str s)=1:=rfl
@[simp] theorem ncells_imm(b:Bool)(xs:List AVal):ncells (.imm b xs)=1:=rfl
@[simp] theorem ncells_lst(xs:List AVal):ncells (.lst xs)=1:=rfl
@[simp] theorem ncells_nil0:ncells .nil0=1:=rfl
@[simp] theorem ncells_nilp:ncells .nilp=1:=rfl
@[simp] theorem ncells_nilf:ncells .nilf=1:=rfl
@[simp] theorem ncells_nilm:ncells .nilm=1:=rfl
@[simp] theorem ncells_sl(a b c d:Nat):ncells (.sl a b c d)=1:=rfl
@[simp] theorem ncells_ptr(a b c d:Nat):ncells (.ptr a b c d)=1:=rfl
@[simp] theorem ncells_cptr(b:Bool)(x:AVal)(o:Nat):ncells (.cptr b x o)=1:=rfl
@[simp] theorem ncells_fn(f:Nat)(a c:List AVal):ncells (.fn f a c)=1:=rfl
@[simp] theorem ncells_mp(i:Nat):ncells (.mp i)=1:=rfl
@[simp] theorem ncells_imap(b:Bool)(e:List (AVal×AVal)):ncells (.imap b e)=1:=rfl
@[simp] theorem isAgg_agg(cs:List AVal):isAgg (.agg cs)=true:=rfl
@[simp] theorem isAgg_int(k:IntKind)(n:Int):isAgg (.int k n)=false:=rfl
@[simp] theorem isAgg_bool(b:Bool):isAgg (.bool b)=false:=rfl
@[simp] theorem isAgg_str(s:List UInt8):isAgg (.str s)=false:=rfl
@[simp] theorem isAgg_imm(b:Bool)(xs:List AVal):isAgg (.imm b xs)=false:=rfl
@[simp] theorem isAgg_lst(xs:List AVal):isAgg (.lst xs)=false:=rfl
@[simp] theorem isAgg_nil0:isAgg .nil0=false:=rfl
@[simp] theorem isAgg_nilp:isAgg .nilp=false:=rfl
@[simp] theorem isAgg_nilf:isAgg .nilf=false:=rfl
@[simp] theorem isAgg_nilm:isAgg .nilm=false:=rfl
@[simp] theorem isAgg_sl(a b c d:Nat):isAgg (.sl a b c d)=false:=rfl
@[simp] theorem isAgg_ptr(a b c d:Nat):isAgg (.ptr a b c d)=false:=rfl
@[simp] theorem isAgg_cptr(b:Bool)(x:AVal)(o:Nat):isAgg (.cptr b x o)=false:=rfl
@[simp] theorem isAgg_fn(f:Nat)(a c:List AVal):isAgg (.fn f a c)=false:=rfl
@[simp] theorem isAgg_mp(i:Nat):isAgg (.mp i)=false:=rfl
@[simp] theorem isAgg_imap(b:Bool)(e:List (AVal×AVal)):isAgg (.imap b e)=false:=rfl
@[simp] theorem cellsOf_agg(cs:List AVal):cellsOf (.agg cs)=cs:=rfl
@[simp] theorem cellsOf_int(k:IntKind)(n:Int):cellsOf (.int k n)=[.int k n]:=rfl
@[simp] theorem cellsOf_bool(b:Bool):cellsOf (.bool b)=[.bool b]:=rfl
@[simp] theorem cellsOf_str(s:List UInt8):cellsOf (.str s)=[.str s]:=rfl
@[simp] theorem cellsOf_imm(b:Bool)(xs:List AVal):cellsOf (.imm b xs)=[.imm b xs]:=rfl
@[simp] theorem cellsOf_sl(a b c d:Nat):cellsOf (.sl a b c d)=[.sl a b c d]:=rfl
@[simp] theorem cellsOf_nil0:cellsOf .nil0=[.nil0]:=rfl
@[simp] theorem cellsOf_fn(f:Nat)(a c:List AVal):cellsOf (.fn f a c)=[.fn f a c]:=rfl
@[simp] theorem cellsOf_ptr(a b c d:Nat):cellsOf (.ptr a b c d)=[.ptr a b c d]:=rfl
@[simp] theorem cellsOf_cptr(b:Bool)(x:AVal)(o:Nat):cellsOf (.cptr b x o)=[.cptr b x o]:=rfl
section
variable (fl top:Bool) (base:Nat) (σ:Store) (n:Nat)
@[simp] theorem fz_int(k:IntKind)(m:Int):fz fl top base σ (n+1) (.int k m)=.int k m:=by simp[fz]
@[simp] theorem fz_bool(b:Bool):fz fl top base σ (n+1) (.bool b)=.bool b:=by simp[fz]
@[simp] theorem fz_str(s:List UInt8):fz fl top base σ (n+1) (.str s)=.str s:=by simp[fz]
@[simp] theorem fz_nil0:fz fl top base σ (n+1) .nil0=if !fl&&top then .nil0 else .imm false []:=by simp[fz]
@[simp] theorem fz_any:fz fl top base σ (n+1) .any=.any:=by simp[fz]
@[simp] theorem fz_emp(b:Bool):fz fl top base σ (n+1) (.emp b)=.emp b:=by simp[fz]
@[simp] theorem fz_agg(cs:List AVal):fz fl top base σ (n+1) (.agg cs)=.agg (cs.map (fz fl top base σ n)):=by simp[fz]
@[simp] theorem fz_tup(cs:List AVal):fz fl top base σ (n+1) (.tup cs)=.tup (cs.map (fz fl top base σ n)):=by simp[fz]
@[simp] theorem fz_lst(cs:List AVal):fz fl top base σ (n+1) (.lst cs)=listAt fl cs (cs.map (fz fl false base σ n)):=by simp[fz]
@[simp] theorem fz_fn(f:Nat)(a c:List AVal):fz fl top base σ (n+1) (.fn f a c)=.fn f (a.map (fz fl top base σ n)) (c.map (fz fl top base σ n)):=by simp[fz]
@[simp] theorem fz_immf(xs:List AVal):fz fl top base σ (n+1) (.imm false xs)=.imm false xs:=by simp[fz]
@[simp] theorem fz_immt(b:Bool)(xs:List AVal):fz true top base σ (n+1) (.imm b xs)=.imm b xs:=by simp[fz]
@[simp] theorem fz_immk(b:Bool)(xs:List AVal):fz fl true base σ (n+1) (.imm b xs)=.imm b xs:=by simp[fz]
@[simp] theorem fz_cptrf(x:AVal)(o:Nat):fz fl top base σ (n+1) (.cptr false x o)=.cptr false x o:=by simp[fz]
@[simp] theorem fz_cptrt(x:AVal)(o:Nat):fz true top base σ (n+1) (.cptr true x o)=cptrAt true x (fz true false base σ n x) o:=by simp[fz]
@[simp] theorem fz_cptrk(x:AVal)(o:Nat):fz false true base σ (n+1) (.cptr true x o)=cptrAt true x (fz false true base σ n x) o:=by simp[fz]
@[simp] theorem fz_imapf(x:List (AVal×AVal)):fz fl top base σ (n+1) (.imap false x)=.imap false x:=by simp[fz]
@[simp] theorem fz_sl(id ep off len:Nat):fz fl top base σ (n+1) (.sl id ep off len)=if id < base then (if top then .sl id ep off len else .any) else (sliceAt σ id ep off len).elim .any fun l=>listAt fl l (l.map (fz fl false base σ n)):=by simp only[fz]
@[simp] theorem fz_ptr(id ep i off:Nat):fz fl top base σ (n+1) (.ptr id ep i off)=if id < base then (if top then .ptr id ep i off else .any) else (elemAt σ id ep i).elim .any fun x=>cptrAt fl x (fz fl false base σ n x) off:=by simp only[fz]
@[simp] theorem fz_mp(id:Nat):fz fl top base σ (n+1) (.mp id)=if id < base then (if top then .mp id else .any) else (entriesAt σ id).elim .any fun es=>.imap fl (es.map fun e=>(e.1,fz fl false base σ n e.2)):=by simp only[fz]
end
attribute [simp] listAt cptrAt arrAt frsAt
@[simp] theorem frozen_eq(σ:Store)(v:AVal):frozen σ v=fz false false 0 σ 20 v:=rfl
@[simp] theorem snap_eq(σ:Store)(v:AVal):snap σ v=fz true false 0 σ 20 v:=rfl
@[simp] theorem freeze_eq(b:Nat)(σ:Store)(v:AVal):freeze b σ v=fz false true b σ 20 v:=rfl
@[simp] theorem mater_false_1(k:IntKind)(n:Int)(σ:Store):mater false (.int k n,σ)=(.int k n,σ):=rfl
attribute [simp] mater mater1
theorem wrap64_id{n:Int}(h:-9223372036854775808≤n∧n < 9223372036854775808):IntKind.i64.wrap n=n:=by
 simp[IntKind.wrap,IntKind.bits,IntKind.signed];omega
end Go.AM
namespace Go.AM
theorem rounds_iter{base:Nat}{clr:List Nat}{b:ACode}(I:Nat→St)(n:Nat)(r:Ex×St)
  (step:∀ k,k < n→thenLoop base clr b (run code b (I k))=rounds code base clr b (I (k+1))) (last:thenLoop base clr b (run code b (I n))=some r) :
  rounds code base clr b (I 0)=some r:=by
 have key:∀ m k,k+m=n→rounds code base clr b (I k)=some r:=by
  intro m
  induction m with
  | zero=>
   intro k hk
   obtain rfl:k=n:=by omega
   rw[rounds_eq good]
   exact last
  | succ m ih=>
   intro k hk
   rw[rounds_eq good]
   exact (step k (by omega)).trans (ih (k+1) (by omega))
 exact key n 0 (by omega)
@[simp] theorem thenLoop_nrm(base:Nat)(clr:List Nat)(b:ACode)(s:St):thenLoop base clr b (some (.nrm,s))=rounds code base clr b (roundEnd base clr s):=rfl
@[simp] theorem thenLoop_ext(base:Nat)(clr:List Nat)(b:ACode)(s:St)(i:Nat):thenLoop base clr b (some (.ext i,s))=some (.ext i,s):=rfl
@[simp] theorem thenLoop_ret(base:Nat)(clr:List Nat)(b:ACode)(s:St):thenLoop base clr b (some (.ret,s))=some (.ret,s):=rfl
theorem roundEnd_same{base:Nat}{clr:List Nat}{env:List AVal}{σ:Store}(h:σ.length=base):roundEnd base clr ⟨env,σ⟩=⟨clear env clr,σ⟩:=by
 unfold roundEnd
 rw[if_pos h]
theorem wrap_lt{k n:Nat}(h1:k < n)(h2:n≤most):IntKind.i64.wrap ((k:Int)+1)=((k+1:Nat):Int):=by
 rw[wrap64_id (by unfold most at h2;omega)]
 omega
end Go.AM
namespace Go.AM
def foldL{α σ ρ:Type}(g:Nat→α→σ→σ⊕ρ):List α→Nat→σ→σ⊕ρ
 | [],_,s=>.inl s
 | a::l,k,s=>match g k a s with
  | .inl s'=>foldL g l (k+1) s'
  | .inr r=>.inr r
theorem rounds_go0(base:Nat)(clr:List Nat)(b:ACode)(s:St):rounds code base clr b s=thenLoop base clr b (run code b s):=rounds_eq good base clr b s
theorem rounds_list{α σ ρ:Type}{base:Nat}{clr:List Nat}{b:ACode}(l:List α)(S:Nat→σ→St)(Inv:Nat→σ→Prop)(g:Nat→α→σ→σ⊕ρ)(E:σ→Ex×St)(Q:ρ→Ex×St→Prop)
  (hstep:∀ k y s,k < l.length→l[k]?=some y→Inv k s→match g k y s with
   | .inl s'=>thenLoop base clr b (run code b (S k s))=rounds code base clr b (S (k+1) s')∧Inv (k+1) s'
   | .inr r=>∃ o,thenLoop base clr b (run code b (S k s))=some o∧Q r o)
  (hend:∀ s,Inv l.length s→thenLoop base clr b (run code b (S l.length s))=some (E s)) (s:σ) (h:Inv 0 s) :
  match foldL g l 0 s with
   | .inl s'=>Inv l.length s'∧rounds code base clr b (S 0 s)=some (E s')
   | .inr r=>∃ o,rounds code base clr b (S 0 s)=some o∧Q r o:=by
 have key:∀ (m:List α) k s,l.drop k=m→k≤l.length→Inv k s→match foldL g m k s with
   | .inl s'=>Inv l.length s'∧rounds code base clr b (S k s)=some (E s')
   | .inr r=>∃ o,rounds code base clr b (S k s)=some o∧Q r o:=by
  intro m
  induction m with
  | nil=>
   intro k s hd hk hi
   have:k=l.length:=by
    have:=congrArg List.length hd
    simp at this;omega
   subst this
   simp only[foldL]
   exact ⟨hi,by rw[rounds_go0];exact hend s hi⟩
  | cons y m ih=>
   intro k s hd hk hi
   have hlt:k < l.length:=by
    have:=congrArg List.length hd
    simp at this;omega
   have hy:l[k]?=some y:=by
    have:=congrArg (·[0]?) hd
    simpa using this
   have hm:l.drop (k+1)=m:=by
    have:=congrArg List.tail hd
    simpa [List.tail_drop] using this
   have hs:=hstep k y s hlt hy hi
   rw[rounds_go0]
   simp only[foldL]
   cases hg:g k y s with
   | inl s'=>
    rw[hg]at hs
    simp only at hs ⊢
    rw[hs.1]
    exact ih (k+1) s' hm (by omega) hs.2
   | inr r=>
    rw[hg]at hs
    exact hs
 exact key l 0 s (by simp) (Nat.zero_le _) h
theorem rounds_any{α:Type}{base:Nat}{clr:List Nat}{b:ACode}(l:List α)(S:Nat→St)(p:α→Bool)(E:Ex×St)(Q:Ex×St→Prop)
  (hno:∀ k y,k < l.length→l[k]?=some y→p y=false→thenLoop base clr b (run code b (S k))=rounds code base clr b (S (k+1)))
  (hyes:∀ k y,k < l.length→l[k]?=some y→p y=true→∃ o,thenLoop base clr b (run code b (S k))=some o∧Q o)
  (hend:thenLoop base clr b (run code b (S l.length))=some E) :
  (l.any p=false∧rounds code base clr b (S 0)=some E)∨(l.any p=true∧∃ o,rounds code base clr b (S 0)=some o∧Q o):=by
 have h:=rounds_list (σ:=Unit) (ρ:=Unit) (base:=base) (clr:=clr) (b:=b) l (fun k _=>S k) (fun _ _=>True) (fun _ y _=>if p y then .inr () else .inl ()) (fun _=>E) (fun _=>Q)
  (fun k y s hk hy _=>by
   cases hp:p y
   ·simpa using hno k y hk hy hp
   ·simpa using hyes k y hk hy hp) (fun _ _=>hend) () trivial
 have hf:∀ (m:List α) k,foldL (fun _ y _=>if p y then .inr () else .inl ()) m k ()=if m.any p then .inr () else (.inl ():Unit⊕Unit):=by
  intro m
  induction m with
  | nil=>intro k;rfl
  | cons a m ih=>
   intro k
   cases hp:p a<;>simp[foldL,hp,ih]
 rw[hf]at h
 cases hp:l.any p
 ·rw[hp]at h
  exact .inl ⟨rfl,h.2⟩
 ·rw[hp]at h
  exact .inr ⟨rfl,h⟩
theorem rounds_acc{α β:Type}{base:Nat}{clr:List Nat}{b:ACode}(l:List α)(S:Nat→Nat→List β→St)(f:α→List β)(E:Nat→List β→Ex×St)(m:Nat)
  (hm:∀ y∈l,(f y).length≤m)
  (hstep:∀ k y ep acc,k < l.length→l[k]?=some y→acc.length≤k * m→∃ ep',thenLoop base clr b (run code b (S k ep acc))=rounds code base clr b (S (k+1) ep' (acc++f y)))
  (hend:∀ ep acc,acc.length≤l.length * m→thenLoop base clr b (run code b (S l.length ep acc))=some (E ep acc)) (ep0:Nat) :
  ∃ ep,rounds code base clr b (S 0 ep0 [])=some (E ep (l.flatMap f)):=by
 have key:∀ (r:List α) k ep acc,l.drop k=r→k≤l.length→acc.length≤k * m→∃ ep',rounds code base clr b (S k ep acc)=some (E ep' (acc++r.flatMap f)):=by
  intro r
  induction r with
  | nil=>
   intro k ep acc hd hk ha
   have:k=l.length:=by
    have:=congrArg List.length hd
    simp at this;omega
   subst this
   exact ⟨ep,by rw[rounds_go0,hend ep acc ha];simp⟩
  | cons y r ih=>
   intro k ep acc hd hk ha
   have hlt:k < l.length:=by
    have:=congrArg List.length hd
    simp at this;omega
   have hy:l[k]?=some y:=by
    have:=congrArg (·[0]?) hd
    simpa using this
   have hr:l.drop (k+1)=r:=by
    have:=congrArg List.tail hd
    simpa [List.tail_drop] using this
   obtain ⟨ep',hs⟩:=hstep k y ep acc hlt hy ha
   have hym:y∈l:=List.mem_of_getElem? hy
   obtain ⟨e2,h2⟩:=ih (k+1) ep' (acc++f y) hr (by omega) (by
    rw[List.length_append,Nat.succ_mul]
    have:=hm y hym
    omega)
   exact ⟨e2,by rw[rounds_go0,hs,h2];simp⟩
 have:=key l 0 ep0 [] (by simp) (Nat.zero_le _) (by simp)
 simpa using this
end Go.AM
namespace Go.AM
theorem rounds_fold{α σ:Type}{base:Nat}{clr:List Nat}{b:ACode}(l:List α)(S:Nat→σ→St)(Inv:Nat→σ→Prop)(g:σ→α→σ)(E:σ→Ex×St)
  (hstep:∀ k y s,k < l.length→l[k]?=some y→Inv k s→thenLoop base clr b (run code b (S k s))=rounds code base clr b (S (k+1) (g s y))∧Inv (k+1) (g s y))
  (hend:∀ s,Inv l.length s→thenLoop base clr b (run code b (S l.length s))=some (E s)) (s:σ) (h:Inv 0 s) :
  rounds code base clr b (S 0 s)=some (E (l.foldl g s))∧Inv l.length (l.foldl g s):=by
 have:=rounds_list (ρ:=Empty) (base:=base) (clr:=clr) (b:=b) l S Inv (fun _ y s=>.inl (g s y)) E (fun r _=>r.elim) (fun k y s hk hy hi=>hstep k y s hk hy hi) hend s h
 have hf:∀ (m:List α) k s,foldL (ρ:=Empty) (fun _ y s=>.inl (g s y)) m k s=.inl (m.foldl g s):=by
  intro m
  induction m with
  | nil=>intro k s;rfl
  | cons a m ih=>intro k s;simp only[foldL,List.foldl_cons];exact ih _ _
 rw[hf]at this
 exact ⟨this.2,this.1⟩
end Go.AM
section
namespace Go.AM
open P
set_option maxHeartbeats 1000000
end Go.AM
end
namespace Go.AM
def intV(n:Int):AVal:=.agg [.int .i64 2,.int .i64 n,.int .u64 0,.str []]
theorem acall_of{n f:Nat}{args:List AVal}{σ:Store}{r:AVal×Store}(h:callN code n f args σ=some r):acall code f args σ=some r:=lim_of (callN_mono good f args σ) h
theorem pcall_from{n f:Nat}{args:List AVal}{v:AVal}{σ:Store}(h:callN code n f args []=some (v,σ)):pcall f args=some v:=by
 unfold pcall
 rw[acall_of h];rfl
theorem right_f1(n:Int):callN code 60 I.qei [.imm false [intV n]] []=some (.bool true,[]):=by kernel_rfl
theorem right_f2(n m:Int):callN code 60 I.qei [.imm false [intV n,intV m]] []=some (.bool true,[]):=by kernel_rfl
theorem clone_f1(n:Int):callN code 60 I.qeq [.imm false [intV n]] []=some (.frs 4 [intV n],[]):=by kernel_rfl
theorem clone_f2(n m:Int):callN code 60 I.qeq [.imm false [intV n,intV m]] []=some (.frs 4 [intV n,intV m],[]):=by kernel_rfl
end Go.AM
section
namespace Go.AM
open P
set_option maxHeartbeats 2000000
theorem rounds_go(base:Nat)(clr:List Nat)(b:ACode)(s:St):rounds code base clr b s=thenLoop base clr b (run code b s):=rounds_eq good base clr b s
end Go.AM
end
section
namespace Go.AM
open P
set_option maxHeartbeats 2000000
set_option maxRecDepth 4000
theorem acallG_pure{g:AFunc}(hm:g.mode.isPure=true)(args:List AVal)(σ:Store):acallG code g args σ=((acallG code g (args.map (snap σ)) []).map (·.1)).map (·,σ):=by
 unfold acallG
 have he:enter g args σ=enter g (args.map (snap σ)) []:=by
  have h1:((args.map (snap σ)).take g.np).map (snap [])=(args.take g.np).map (snap σ):=by
   rw[← List.map_take,List.map_map];exact List.map_congr_left fun x _=>snap_idem σ [] x
  unfold enter
  cases hg:g.mode<;>rw[hg]at hm<;>first|exact absurd hm (by decide)|(simp only[h1])
 rw[he]
 cases run code g.body (enter g (args.map (snap σ)) []) with
 | none=>rfl
 | some r=>
  obtain ⟨e,s⟩:=r
  have key:(results s g.res).map (fun v=>finish g.mode σ s v)=(((results s g.res).map fun v=>finish g.mode [] s v).map (·.1)).map (·,σ):=by
   cases results s g.res with
   | none=>rfl
   | some v=>
    cases hg:g.mode<;>rw[hg]at hm<;>first|exact absurd hm (by decide)|rfl
  cases e with
  | ext _=>rfl
  | nrm=>exact key
  | ret=>exact key
theorem acall_nil{f:Nat}{g:AFunc}(h:code.fns f=.nilfn g)(hm:g.mode.isPure=true)(b:Bool)(xs:List AVal)(σ:Store) :
  acall code f [.imm b xs] σ=(pcall f [.imm b xs]).map (·,σ):=by
 unfold pcall
 rw[acall_nilfn good h,acall_nilfn good h]
 have hE:emptyS σ (.imm b xs)=emptyS [] (.imm b xs):=by simp[emptyS,rd]
 rw[hE]
 have hk:∀ (x:AVal),(∀ τ,snap τ x=x)→acallG code g [x] σ=((acallG code g [x] []).map (·.1)).map (·,σ):=fun x hx=>by
  have:=acallG_pure hm [x] σ
  simpa only [List.map_cons,List.map_nil,hx] using this
 have hk0:∀ (x:AVal),(∀ τ,snap τ x=x)→acallG code g [x] []=((acallG code g [x] []).map (·.1)).map (·,([]:Store)):=fun x hx=>by
  have:=acallG_pure hm [x] []
  simpa only [List.map_cons,List.map_nil,hx] using this
 have h1:∀ τ,snap τ (.imm b xs)=.imm b xs:=fun τ=>by simp
 have h2:∀ t τ,snap τ (.emp t)=.emp t:=fun t τ=>by simp
 cases emptyS [] (.imm b xs) with
 | false=>simpa using hk _ h1
 | true=>
  simp only[if_true]
  rw[hk _ (h2 true),hk _ (h2 false),hk0 _ (h2 true),hk0 _ (h2 false)]
  cases acallG code g [.emp true] [] with
  | none=>rfl
  | some r=>cases acallG code g [.emp false] [] with
   | none=>rfl
   | some q=>
    simp only[Option.map_some,Option.bind_some,sameS_refl,Bool.and_true]
    split<;>rfl
def Plain(v:AVal):Prop:=ncells v=4∧isAgg v=true∧∀ fl top base σ n,fz fl top base σ (n+2) v=v
theorem intV_plain(n:Int):Plain (intV n):=⟨rfl,rfl,fun fl top base σ n=>by simp[intV]⟩
structure RowOk (r:List AVal):Prop where
 vals:∀ v∈r,Plain v
 clone:pcall I.qeq [.imm false r]=some (.frs 4 r)
 right:pcall I.qei [.imm false r]=some (.bool true)
theorem row1_ok(n:Int):RowOk [intV n]:=⟨fun v hv=>by rw[List.mem_singleton.1 hv];exact intV_plain n,pcall_from (clone_f1 n),pcall_from (right_f1 n)⟩
theorem row2_ok(n m:Int):RowOk [intV n,intV m]:=⟨fun v hv=>by rcases List.mem_cons.1 hv with rfl|hv;exact intV_plain _;rw[List.mem_singleton.1 hv];exact intV_plain _,pcall_from (clone_f2 n m),pcall_from (right_f2 n m)⟩
def rowsV(rs:List (List AVal)):List AVal:=rs.map (.imm false)
@[simp] theorem rowsV_ncells(rs:List (List AVal)):(rowsV rs).map ncells=List.replicate rs.length 1:=by
 simp only[rowsV,List.map_map]
 rw[List.eq_replicate_iff]
 exact ⟨by simp,fun x hx=>by simp at hx;obtain ⟨_,_,rfl⟩:=hx;rfl⟩
end Go.AM
end
namespace Go.AM
structure WOk {α:Type} (c:α→α→Int):Prop where
 anti:∀ x y,c x y < 0↔0 < c y x
 tr:∀ x y z,c x y≤0→c y z≤0→c x z≤0
namespace WOk
variable {α:Type} {c d:α→α→Int}
theorem lt_le(h:WOk c){x y z:α}(h1:c x y < 0)(h2:c y z≤0):c x z < 0:=by
 have a1:=h.anti x z
 have a2:=h.anti x y
 have a3:=h.tr y z x h2
 omega
theorem le_lt(h:WOk c){x y z:α}(h1:c x y≤0)(h2:c y z < 0):c x z < 0:=by
 have a1:=h.anti x z
 have a2:=h.anti y z
 have a3:=h.tr z x y
 omega
theorem zero(h:WOk c){x y:α}:c x y=0↔c y x=0:=by
 have:=h.anti x y;have:=h.anti y x;omega
end WOk
def lex(a b:Int):Int:=if a≠0 then a else b
theorem WOk.lex{α:Type}{c d:α→α→Int}(hc:WOk c)(hd:WOk d):WOk fun x y=>lex (c x y) (d x y) where
 anti x y:=by
  have h1:=hc.anti x y;have h2:=hc.anti y x;have h3:=hd.anti x y
  unfold Go.AM.lex
  split<;>split<;>omega
 tr x y z h1 h2:=by
  unfold Go.AM.lex at *
  have a1:=fun h=>hc.lt_le (x:=x) (y:=y) (z:=z) h
  have a2:=fun h h'=>hc.le_lt (x:=x) (y:=y) (z:=z) h h'
  have a3:=hc.tr x y z
  have a4:=hd.tr x y z
  have a5:=hc.anti x z
  have a6:=hc.tr z y x
  have a7:=hc.anti x y;have a8:=hc.anti y z;have a9:=hc.anti y x;have b1:=hc.anti z y;have b2:=hc.anti z x
  split at h1<;>split at h2<;>split<;>omega
theorem WOk.on{α β:Type}{c:α→α→Int}(h:WOk c)(f:β→α):WOk fun x y=>c (f x) (f y):=⟨fun x y=>h.anti _ _,fun x y z=>h.tr _ _ _⟩
theorem WOk.neg{α:Type}{c:α→α→Int}(h:WOk c):WOk fun x y=>-c x y where
 anti x y:=by have:=h.anti y x;have:=h.anti x y;omega
 tr x y z h1 h2:=by
  have a1:=h.tr z y x;have a2:=h.anti x y;have a3:=h.anti y z;have a4:=h.anti x z
  have a5:=h.anti y x;have a6:=h.anti z y;have a7:=h.anti z x
  omega
structure Val where
 k:Int
 n:Int
 u:Int
 s:List UInt8
 deriving DecidableEq,Inhabited
section
variable {α:Type} (c:α→α→Int)
variable {c}
end
end Go.AM
section
namespace Go.AM
open P
set_option maxHeartbeats 2000000
set_option maxRecDepth 4000
def Val.a(v:Val):AVal:=.agg [.int .i64 v.k,.int .i64 v.n,.int .u64 v.u,.str v.s]
def rowA(r:List Val):List AVal:=r.map Val.a
@[simp] theorem a_ncells(v:Val):ncells v.a=4:=rfl
@[simp] theorem a_isAgg(v:Val):isAgg v.a=true:=rfl
@[simp] theorem a_fz(v:Val)(fl top:Bool)(base:Nat)(σ:Store)(n:Nat):fz fl top base σ (n+2) v.a=v.a:=by simp[Val.a]
def blankV(v:Val):Val:=
 if v.k=1 then (if v.n≠0∧v.n≠1 then v else { v with k:=0,n:=0 })
 else if v.k=2 then { v with k:=0,n:=0 }
 else if v.k=0 then v
 else if v.k=3 then (if v.s.length≤40 then { v with k:=0,s:=[] } else v)
 else if v.k=4 then { v with k:=0,n:=0,u:=0 }
 else v
def okV(v:Val):Bool:=blankV v == ⟨0,0,0,[]⟩
theorem bne_t{a b:Int}(h:¬a=b):(a != b)=true:=by simp[h]
theorem beq_f{a b:Int}(h:¬a=b):(a == b)=false:=by simp[h]
theorem blank_spec(v:Val):pcall I.qgn [v.a]=some (blankV v).a:=by
 rw[pcall_eq c_qgn rfl]
 obtain ⟨k,n,u,s⟩:=v
 unfold blankV Val.a
 by_cases h1:k=1
 ·subst h1
  by_cases hn:n=0
  ·subst hn;simp[f_qgn,b_qgn]
  ·by_cases hn':n=1
   ·subst hn';simp[f_qgn,b_qgn]
   ·simp[f_qgn,b_qgn,bne_t hn,bne_t hn',hn,hn']
 ·by_cases h2:k=2
  ·subst h2;simp[f_qgn,b_qgn]
  ·by_cases h0:k=0
   ·subst h0;simp[f_qgn,b_qgn]
   ·by_cases h3:k=3
    ·subst h3
     by_cases hs:s.length≤40
     ·have hs':((s.length:Int)≤40):=by omega
      simp[f_qgn,b_qgn,hs,hs']
     ·have hs':¬((s.length:Int)≤40):=by omega
      simp[f_qgn,b_qgn,hs,hs']
    ·by_cases h4:k=4
     ·subst h4;simp[f_qgn,b_qgn]
     ·simp[f_qgn,b_qgn,beq_f h1,beq_f h2,beq_f h0,beq_f h3,beq_f h4,h1,h2,h0,h3,h4]
theorem a_mk(k n u:Int)(s:List UInt8):(Val.mk k n u s).a=.agg [.int .i64 k,.int .i64 n,.int .u64 u,.str s]:=rfl
theorem Check_spec(v:Val):pcall I.qgl [v.a]=some (.int .i64 (if okV v then 0 else 120)):=by
 rw[pcall_eq c_qgl rfl]
 have h:=blank_spec v
 unfold okV
 generalize hb:blankV v=w at h
 obtain ⟨k,n,u,s⟩:=w
 by_cases hk:k=0
 ·by_cases hn:n=0
  ·by_cases hu:u=0
   ·by_cases hs:s=[]
    ·subst hk hn hu hs;simp[f_qgl,b_qgl,h,a_mk]
    ·have hs':(s == [])=false:=by simp[hs]
     subst hk hn hu;simp[f_qgl,b_qgl,h,a_mk,hs,hs']
   ·subst hk hn;simp[f_qgl,b_qgl,h,a_mk,hu,beq_f hu]
  ·subst hk;simp[f_qgl,b_qgl,h,a_mk,hn,beq_f hn]
 ·simp[f_qgl,b_qgl,h,a_mk,hk,beq_f hk]
end Go.AM
end
section
namespace Go.AM
open P
set_option maxHeartbeats 2000000
set_option maxRecDepth 4000
def asVal:AVal→Val
 | .agg [.int _ k,.int _ n,.int _ u,.str s]=>⟨k,n,u,s⟩
 | _=>default
@[simp] theorem asVal_a(v:Val):asVal v.a=v:=rfl
end Go.AM
end
section
namespace Go.AM
open P
set_option maxHeartbeats 4000000
set_option maxRecDepth 4000
end Go.AM
end
section
namespace Go.AM
open P
set_option maxHeartbeats 4000000
set_option maxRecDepth 4000
def ordA(o:Int×Bool):AVal:=.agg [.int .i64 o.1,.bool o.2]
end Go.AM
end
section
namespace Go.AM
open P
set_option maxHeartbeats 4000000
set_option maxRecDepth 4000
def ordOf:AVal→Int×Bool
 | .agg [.int _ c,.bool d]=>(c,d)
 | _=>(0,false)
@[simp] theorem ordOf_a(o:Int×Bool):ordOf (ordA o)=o:=rfl
@[simp] theorem rowA_ncells(r:List Val):(rowA r).map ncells=List.replicate r.length 4:=by
 unfold rowA
 rw[List.map_map,List.eq_replicate_iff]
 exact ⟨by simp,fun x hx=>by simp at hx;exact hx.2.symm ▸ rfl⟩
end Go.AM
end
namespace Go.AM
class Nc {α:Type} (f:α→AVal) (n:outParam Nat) (g:outParam Bool):Prop where
 nc:∀ y,ncells (f y)=n
 ag:∀ y,isAgg (f y)=g
class Fx {α:Type} (f:α→AVal):Prop where
 fx:∀ fl top base σ n y,fz fl top base σ (n+3) (f y)=f y
class Ft {α:Type} (f:α→AVal):Prop where
 ft:∀ fl top base σ n y,(fl || top)=true→fz fl top base σ (n+3) (f y)=f y
abbrev i64(n:Int):AVal:=.int .i64 n
instance:Nc (fun n=>AVal.int .i64 n) 1 false:=⟨fun _=>rfl,fun _=>rfl⟩
instance:Nc (AVal.int .i64) 1 false:=⟨fun _=>rfl,fun _=>rfl⟩
instance:Fx (AVal.int .i64):=⟨fun _ _ _ _ _ _=>rfl⟩
instance:Nc Val.a 4 true:=⟨fun _=>rfl,fun _=>rfl⟩
instance:Fx Val.a:=⟨fun fl top base σ n y=>a_fz y fl top base σ (n+1)⟩
instance {α:Type} (f:α→AVal) [Fx f]:Ft f:=⟨fun fl top base σ n y _=>Fx.fx fl top base σ n y⟩
section
variable {α:Type} {f:α→AVal} {m:Nat} {g:Bool}
@[simp] theorem comp_fx[Fx f](fl top:Bool)(base:Nat)(σ:Store)(n:Nat)(l:List α):List.map (fz fl top base σ (n+3)∘f) l=List.map f l:=
 List.map_congr_left fun y _=>Fx.fx fl top base σ n y
@[simp] theorem comp_freeze[Ft f](base:Nat)(σ:Store)(l:List α):List.map (freeze base σ∘f) l=List.map f l:=
 List.map_congr_left fun y _=>Ft.ft false true base σ 17 y rfl
@[simp] theorem comp_nc[Nc f m g](l:List α):List.map (ncells∘f) l=List.replicate l.length m:=by
 rw[List.eq_replicate_iff]
 exact ⟨by simp,fun x hx=>by
  obtain ⟨y,_,rfl⟩:=List.mem_map.1 hx
  exact Nc.nc y⟩
theorem all_nc[Nc f m g](l:List α):((l.map f).all fun y=>ncells y == m)=true:=by
 rw[List.all_eq_true]
 intro x hx
 obtain ⟨y,_,rfl⟩:=List.mem_map.1 hx
 simp[Nc.nc y]
@[simp] theorem take_map_all(l:List α)(f:α→AVal):List.take l.length (List.map f l)=List.map f l:=List.take_of_length_le (by simp)
end
end Go.AM
namespace Go.AM
structure SlX (α:Type) where
 b:Bool
 l:List α
abbrev SlX.c{α:Type}(f:α→AVal)(s:SlX α):AVal:=.imm s.b (s.l.map f)
end Go.AM
namespace Go.AM
open P
theorem condRun_if(a b:ACode)(s:St)(c:Bool):condRun a b s (.bool c)=if c=true then run code a s else run code b s:=by cases c<;>rfl
theorem when_if(env:List AVal)(x:Opd)(b:Bool)(o:AOp)(is:List Ins)(ls:List AVal)(σ:Store)(c:Bool) :
  whenOps env (P.g x b o) is ls σ (some c)=if c=true then thenOps env is ls (step code env ls σ o) else runOps code env is (ls++[.tup []]) σ:=by cases c<;>rfl
end Go.AM
section
namespace Go.AM
open P
set_option maxHeartbeats 2000000
set_option maxRecDepth 4000
def rowP(two:Bool)(p:Int×Int):List AVal:=if two then [intV p.1,intV p.2] else [intV p.1]
def IsRow(two:Bool)(r:List AVal):Prop:=∃ p:Int×Int,(two=false→p.2=0)∧r=rowP two p
theorem IsRow.ok{two:Bool}{r:List AVal}(h:IsRow two r):RowOk r:=by
 obtain ⟨p,_,rfl⟩:=h
 cases two
 ·exact row1_ok p.1
 ·exact row2_ok p.1 p.2
end Go.AM
end
section
namespace Go.AM
open P
set_option maxHeartbeats 4000000
set_option maxRecDepth 4000
end Go.AM
end
section
namespace Go.AM
open P
set_option maxHeartbeats 4000000
set_option maxRecDepth 4000
end Go.AM
end
section
namespace Go.AM
open P
set_option maxHeartbeats 4000000
set_option maxRecDepth 4000
def thenKeep(res:List Res)(r:Option (Ex×St)):Option (AVal×Store):=r.bind fun r=>match r.1 with
 | .ext _=>none
 | _=>(results r.2 res).map fun v=>(v,r.2.st)
@[simp] theorem thenKeep_ret(res:List Res)(s:St):thenKeep res (some (.ret,s))=(results s res).map fun v=>(v,s.st):=rfl
@[simp] theorem thenKeep_nrm(res:List Res)(s:St):thenKeep res (some (.nrm,s))=(results s res).map fun v=>(v,s.st):=rfl
theorem acall_keep{f:Nat}{g:AFunc}(h:code.fns f=.fn g)(hm:g.mode=.keep)(args:List AVal)(σ:Store) :
  acall code f args σ=thenKeep g.res (run code g.body ⟨args.take g.np++List.replicate (g.nenv - g.np) .any,σ⟩):=by
 rw[acall_fn good h]
 have he:enter g args σ=⟨args.take g.np++List.replicate (g.nenv - g.np) .any,σ⟩:=by unfold enter;rw[hm]
 rw[he]
 unfold thenKeep
 congr 1
 funext r
 obtain ⟨e,s⟩:=r
 unfold leave finish
 rw[hm]
 cases e<;>rfl
end Go.AM
end
section
namespace Go.AM
open P
set_option maxHeartbeats 4000000
set_option maxRecDepth 8000
theorem fresh_map{α:Type}{f:α→AVal}{m:Nat}{g:Bool}[Nc f m g][Fx f](l:List α)(id ep:Nat)(σ:Store)(h:σ[id]?=some (.arr m ep (l.map f))):freshOf m σ (.sl id ep 0 l.length)=.frs m (l.map f):=by
 have h9:(l.map f).take l.length=l.map f:=List.take_of_length_le (by simp)
 have h10:∀ σ',(l.map f).map (frozen σ')=l.map f:=fun σ'=>by
  rw[List.map_map];exact List.map_congr_left fun y _=>Fx.fx false false 0 σ' 17 y
 simp only[freshOf,h,h9,h10,frsAt]
 simp
theorem w64{n:Int}(h1:-9223372036854775808≤n)(h2:n < 9223372036854775808):IntKind.i64.wrap n=n:=wrap64_id ⟨h1,h2⟩
abbrev Still(f:AVal):Prop:=∀ σ,fz true false 0 σ 20 f=f
def ixF{α:Type}(p:α→Bool)(l:List α):Int:=if l.any p then ((l.findIdx p:Nat):Int) else -1
theorem Index_int_int{α:Type}{enc:α→AVal}{b:Bool}{l:List α}{f:AVal}{p:α→Bool}(hn:l.length≤most)(he:∀ y,ncells (enc y)=1∧isAgg (enc y)=false)(hs:Still f)
  (h:∀ y∈l,acallV code f [enc y] []=some (.bool (p y),[])):pcall I.qfk [.imm b (l.map enc),f]=some (.int .i64 (ixF p l)):=by
 rw[pcall_eq c_qfk rfl]
 have hs0:=hs []
 have hstep:∀ k,k < l.length→∀ y,l[k]?=some y→p y=false→thenLoop 0 [2,3,6,7] l_qfk_0 (run code l_qfk_0 ⟨[.imm b (l.map enc),f,.any,.any,.int .i64 l.length,.int .i64 k,.any,.any],[]⟩) =
   rounds code 0 [2,3,6,7] l_qfk_0 ⟨[.imm b (l.map enc),f,.any,.any,.int .i64 l.length,.int .i64 (k+1:Nat),.any,.any],[]⟩:=fun k hk y hy hp=>by
  have h2:=he y
  have h3:=h y (List.mem_of_getElem? hy)
  rw[hp]at h3
  have hlt:((k:Int) < (l.length:Int)):=by omega
  simp[l_qfk_0,hy,h2,h3,hlt,wrap_lt hk hn,roundEnd_same]
 unfold ixF
 by_cases ha:l.any p=true
 ·have hlt:=List.findIdx_lt_length_of_exists (List.any_eq_true.1 ha)
  have hp:p l[l.findIdx p]=true:=List.findIdx_getElem (w:=hlt)
  have hloop:=rounds_iter (base:=0) (clr:=[2,3,6,7]) (b:=l_qfk_0) (fun k=>⟨[.imm b (l.map enc),f,.any,.any,.int .i64 l.length,.int .i64 k,.any,.any],[]⟩) (l.findIdx p)
   (.ret,⟨[.imm b (l.map enc),f,.int .i64 (l.findIdx p),.int .i64 (l.findIdx p),.int .i64 l.length,.int .i64 (l.findIdx p),.bool true,.bool true],[]⟩)
   (fun k hk=>hstep k (by omega) _ (List.getElem?_eq_getElem (by omega)) (by simpa using List.not_of_lt_findIdx hk))
   (by
    have h1:l[l.findIdx p]?=some l[l.findIdx p]:=List.getElem?_eq_getElem hlt
    have h2:=he l[l.findIdx p]
    have h3:=h _ (List.getElem_mem hlt)
    rw[hp]at h3
    have hlt':((l.findIdx p:Int) < (l.length:Int)):=by omega
    simp[l_qfk_0,h1,h2,h3,hlt'])
  simp at hloop
  simp[f_qfk,b_qfk,hs0,hloop,ha]
 ·have hall:∀ y∈l,p y=false:=fun y hy=>by simpa using List.any_eq_false.1 (Bool.not_eq_true _ ▸ ha) y hy
  have hloop:=rounds_iter (base:=0) (clr:=[2,3,6,7]) (b:=l_qfk_0) (fun k=>⟨[.imm b (l.map enc),f,.any,.any,.int .i64 l.length,.int .i64 k,.any,.any],[]⟩) l.length
   (.ext 0,⟨[.imm b (l.map enc),f,.any,.any,.int .i64 l.length,.int .i64 l.length,.bool false,.any],[]⟩)
   (fun k hk=>hstep k hk _ (List.getElem?_eq_getElem hk) (hall _ (List.getElem_mem hk)))
   (by simp[l_qfk_0])
  simp at hloop
  simp[f_qfk,b_qfk,hs0,hloop,ha]
theorem Contains_int_int{α:Type}{enc:α→AVal}{b:Bool}{l:List α}{f:AVal}{p:α→Bool}(hn:l.length≤most)(he:∀ y,ncells (enc y)=1∧isAgg (enc y)=false)(hs:Still f)
  (h:∀ y∈l,acallV code f [enc y] []=some (.bool (p y),[])):pcall I.qfa [.imm b (l.map enc),f]=some (.bool (l.any p)):=by
 rw[pcall_eq c_qfa rfl]
 have h:=Index_int_int (b:=b) hn he hs h
 have hs0:=hs []
 unfold ixF at h
 cases ha:l.any p<;>rw[ha]at h<;>simp[f_qfa,b_qfa,hs0,h]
theorem Index_api_Ord_api_Ord{α:Type}{enc:α→AVal}{b:Bool}{l:List α}{f:AVal}{p:α→Bool}(hn:l.length≤most)(he:∀ y,ncells (enc y)=2∧isAgg (enc y)=true)(hs:Still f)
  (h:∀ y∈l,acallV code f [enc y] []=some (.bool (p y),[])):pcall I.qfg [.imm b (l.map enc),f]=some (.int .i64 (ixF p l)):=by
 rw[pcall_eq c_qfg rfl]
 have hs0:=hs []
 have hstep:∀ k,k < l.length→∀ y,l[k]?=some y→p y=false→thenLoop 0 [2,3,6,7] l_qfg_0 (run code l_qfg_0 ⟨[.imm b (l.map enc),f,.any,.any,.int .i64 l.length,.int .i64 k,.any,.any],[]⟩) =
   rounds code 0 [2,3,6,7] l_qfg_0 ⟨[.imm b (l.map enc),f,.any,.any,.int .i64 l.length,.int .i64 (k+1:Nat),.any,.any],[]⟩:=fun k hk y hy hp=>by
  have h2:=he y
  have h3:=h y (List.mem_of_getElem? hy)
  rw[hp]at h3
  have hlt:((k:Int) < (l.length:Int)):=by omega
  simp[l_qfg_0,hy,h2,h3,hlt,wrap_lt hk hn,roundEnd_same]
 unfold ixF
 by_cases ha:l.any p=true
 ·have hlt:=List.findIdx_lt_length_of_exists (List.any_eq_true.1 ha)
  have hp:p l[l.findIdx p]=true:=List.findIdx_getElem (w:=hlt)
  have hloop:=rounds_iter (base:=0) (clr:=[2,3,6,7]) (b:=l_qfg_0) (fun k=>⟨[.imm b (l.map enc),f,.any,.any,.int .i64 l.length,.int .i64 k,.any,.any],[]⟩) (l.findIdx p)
   (.ret,⟨[.imm b (l.map enc),f,.int .i64 (l.findIdx p),.int .i64 (l.findIdx p),.int .i64 l.length,.int .i64 (l.findIdx p),.bool true,.bool true],[]⟩)
   (fun k hk=>hstep k (by omega) _ (List.getElem?_eq_getElem (by omega)) (by simpa using List.not_of_lt_findIdx hk))
   (by
    have h1:l[l.findIdx p]?=some l[l.findIdx p]:=List.getElem?_eq_getElem hlt
    have h2:=he l[l.findIdx p]
    have h3:=h _ (List.getElem_mem hlt)
    rw[hp]at h3
    have hlt':((l.findIdx p:Int) < (l.length:Int)):=by omega
    simp[l_qfg_0,h1,h2,h3,hlt'])
  simp at hloop
  simp[f_qfg,b_qfg,hs0,hloop,ha]
 ·have hall:∀ y∈l,p y=false:=fun y hy=>by simpa using List.any_eq_false.1 (Bool.not_eq_true _ ▸ ha) y hy
  have hloop:=rounds_iter (base:=0) (clr:=[2,3,6,7]) (b:=l_qfg_0) (fun k=>⟨[.imm b (l.map enc),f,.any,.any,.int .i64 l.length,.int .i64 k,.any,.any],[]⟩) l.length
   (.ext 0,⟨[.imm b (l.map enc),f,.any,.any,.int .i64 l.length,.int .i64 l.length,.bool false,.any],[]⟩)
   (fun k hk=>hstep k hk _ (List.getElem?_eq_getElem hk) (hall _ (List.getElem_mem hk)))
   (by simp[l_qfg_0])
  simp at hloop
  simp[f_qfg,b_qfg,hs0,hloop,ha]
theorem Contains_api_Ord_api_Ord{α:Type}{enc:α→AVal}{b:Bool}{l:List α}{f:AVal}{p:α→Bool}(hn:l.length≤most)(he:∀ y,ncells (enc y)=2∧isAgg (enc y)=true)(hs:Still f)
  (h:∀ y∈l,acallV code f [enc y] []=some (.bool (p y),[])):pcall I.qew [.imm b (l.map enc),f]=some (.bool (l.any p)):=by
 rw[pcall_eq c_qew rfl]
 have h:=Index_api_Ord_api_Ord (b:=b) hn he hs h
 have hs0:=hs []
 unfold ixF at h
 cases ha:l.any p<;>rw[ha]at h<;>simp[f_qew,b_qew,hs0,h]
theorem Clone_int_int{α:Type}{enc:α→AVal}[Nc enc 1 false][Fx enc](b:Bool)(l:List α)(hn:l.length≤most):pcall I.qer [.imm b (l.map enc)]=some (.frs 1 (l.map enc)):=by
 cases l with
 | nil=>cases b<;>exact pcall_from (n:=20) (σ:=[]) (by kernel_rfl)
 | cons v r=>
  have hall:=all_nc (f:=enc) (v::r)
  have hl:((v::r).map enc).length=r.length+1:=by simp
  have hne:emptyS [] (.imm b ((v::r).map enc))=false:=rfl
  unfold pcall
  rw[acall_nilfn good c_qer,hne]
  simp only[Bool.false_eq_true,if_false]
  unfold acallG
  have hn':r.length+1≤most:=by simpa using hn
  have hnil:nilsV false [] (.imm b ((v::r).map enc))=some (.bool false):=rfl
  have hf:=fresh_map (f:=enc) (v::r) 0 0 [.arr 1 0 ((v::r).map enc)] rfl
  have hx:(v::r).map enc≠[]:=by simp
  have hy:∀ x,x∈(v::r).map enc→ncells x=1:=fun x hx=>by simpa using List.all_eq_true.1 hall x hx
  have ht:((v::r).map enc).take (r.length+1)=(v::r).map enc:=List.take_of_length_le (by simp)
  simp only[List.length_cons]at hf
  generalize (v::r).map enc=xs at *
  simp[f_qer,b_qer,enter,leave,append,hall,hl,hn',-nilsV,hnil,hx]
  rw[if_pos hy]
  simp[leave]
  exact hf
@[simp] theorem aClone_int_int{α:Type}{enc:α→AVal}[Nc enc 1 false][Fx enc](b:Bool)(l:List α)(hn:l.length≤most)(σ:Store):acall code I.qer [.imm b (l.map enc)] σ=some (.frs 1 (l.map enc),σ):=by
 rw[acall_nil c_qer rfl,Clone_int_int b l hn];rfl
theorem Concat_int_int{α:Type}{enc:α→AVal}[Nc enc 1 false][Fx enc](b:Bool)(ls:List (SlX α))(hn:(ls.flatMap (·.l)).length≤most)(hl:ls.length≤most) :
  pcall I.qeu [.imm b (ls.map (SlX.c enc))]=some (.imm false ((ls.flatMap (·.l)).map enc)):=by
 rw[pcall_eq c_qeu rfl]
 have hsum0:∀ (r:List (SlX α)) (k:Nat),ls.drop k=r→(ls.flatMap (·.l)).length=((ls.take k).flatMap (·.l)).length+(r.flatMap (·.l)).length:=fun r k h=>by
  have:=congrArg (fun x=>(x.flatMap (fun (s:SlX α)=>s.l)).length) (List.take_append_drop k ls)
  simp only[List.flatMap_append,List.length_append,h]at this
  omega
 generalize hF:ls.flatMap (·.l)=F at *
 have hn':F.length≤68719476736:=hn
 have hsum:=hsum0
 have h1:∀ (r:List (SlX α)) (k:Nat),ls.drop k=r→k≤ls.length→rounds code 0 [3,9,10] l_qeu_1 ⟨[.imm b (ls.map (SlX.c enc)),.nil0,.int .i64 (((ls.take k).flatMap (·.l)).length:Nat),.any,.any,.any,.imm b (ls.map (SlX.c enc)),.int .i64 ls.length,.int .i64 k,.any,.any,.any,.any,.any,.any],[]⟩ =
   some (.ext 0,⟨[.imm b (ls.map (SlX.c enc)),.nil0,.int .i64 (F.length:Nat),.any,.any,.any,.imm b (ls.map (SlX.c enc)),.int .i64 ls.length,.int .i64 ls.length,.bool false,.any,.any,.any,.any,.any],[]⟩):=by
  intro r
  induction r with
  | nil=>
   intro k hd hk
   have:k=ls.length:=by
    have:=congrArg List.length hd
    simp at this;omega
   subst this
   rw[rounds_go0,List.take_length,hF]
   simp[l_qeu_1]
  | cons y r ih=>
   intro k hd hk
   have hlt:k < ls.length:=by
    have:=congrArg List.length hd
    simp at this;omega
   have hy:ls[k]?=some y:=by
    have:=congrArg (·[0]?) hd
    simpa using this
   have hr:ls.drop (k+1)=r:=by
    have:=congrArg List.tail hd
    simpa [List.tail_drop] using this
   have hi:((k:Int) < (ls.length:Int)):=by omega
   have hs1:=hsum r (k+1) hr
   have ht:((ls.take (k+1)).flatMap (·.l)).length=((ls.take k).flatMap (·.l)).length+y.l.length:=by
    rw[List.take_add_one,hy];simp
   have ih:=ih (k+1) hr (by omega)
   rw[ht]at ih hs1
   generalize ((ls.take k).flatMap (·.l)).length=s at *
   have w:=w64 (n:=(s:Int)+(y.l.length:Int)) (by omega) (by omega)
   have hneg:¬((s:Int)+(y.l.length:Int) < 0):=by omega
   rw[rounds_go0,← ih]
   simp[l_qeu_1,hi,hy,w,hneg,wrap_lt hlt hl,roundEnd_same]
 have h1:=h1 ls 0 (by simp) (by simp)
 simp at h1
 have h2:∀ (r:List (SlX α)) (k ep:Nat) (es:List AVal),ls.drop k=r→k≤ls.length→es.take ((ls.take k).flatMap (·.l)).length=((ls.take k).flatMap (·.l)).map enc→((ls.take k).flatMap (·.l)).length≤es.length→∃ ep' es',es'.take F.length=F.map enc∧F.length≤es'.length ∧
   rounds code 1 [5,14] l_qeu_0 ⟨[.imm b (ls.map (SlX.c enc)),.nil0,.int .i64 (F.length:Nat),.any,.sl 0 ep 0 ((ls.take k).flatMap (·.l)).length,.any,.imm b (ls.map (SlX.c enc)),.int .i64 ls.length,.int .i64 ls.length,.bool false,.any,.imm b (ls.map (SlX.c enc)),.int .i64 ls.length,.int .i64 k,.any],[.arr 1 ep es]⟩ =
   some (.ext 2,⟨[.imm b (ls.map (SlX.c enc)),.nil0,.int .i64 (F.length:Nat),.any,.sl 0 ep' 0 F.length,.any,.imm b (ls.map (SlX.c enc)),.int .i64 ls.length,.int .i64 ls.length,.bool false,.any,.imm b (ls.map (SlX.c enc)),.int .i64 ls.length,.int .i64 ls.length,.bool false],[.arr 1 ep' es']⟩):=by
  intro r
  induction r with
  | nil=>
   intro k ep es hd hk he hel
   have:k=ls.length:=by
    have:=congrArg List.length hd
    simp at this;omega
   subst this
   rw[List.take_length,hF]at he hel
   refine ⟨ep,es,he,hel,?_⟩
   rw[rounds_go0,List.take_length,hF]
   simp[l_qeu_0]
  | cons y r ih=>
   intro k ep es hd hk he hel
   have hlt:k < ls.length:=by
    have:=congrArg List.length hd
    simp at this;omega
   have hy:ls[k]?=some y:=by
    have:=congrArg (·[0]?) hd
    simpa using this
   have hr:ls.drop (k+1)=r:=by
    have:=congrArg List.tail hd
    simpa [List.tail_drop] using this
   have hi:((k:Int) < (ls.length:Int)):=by omega
   have hs1:=hsum r (k+1) hr
   have hT:(ls.take (k+1)).flatMap (·.l)=(ls.take k).flatMap (·.l)++y.l:=by
    rw[List.take_add_one,hy];simp
   have ih:=fun ep es=>ih (k+1) ep es hr (by omega)
   rw[hT]at ih hs1
   generalize (ls.take k).flatMap (·.l)=s at *
   rw[List.length_append]at hs1
   by_cases hy0:y.l=[]
   ·rw[hy0,List.append_nil]at ih
    obtain ⟨ep',es',q1,q2,q3⟩:=ih ep es he hel
    refine ⟨ep',es',q1,q2,?_⟩
    rw[rounds_go0,← q3]
    simp[l_qeu_0,hi,hy,hy0,append,wrap_lt hlt hl,roundEnd_same]
   ·obtain ⟨ep',es',q1,q2,q3⟩:=ih (ep+1) (s.map enc++y.l.map enc) (by rw[← List.map_append];exact List.take_of_length_le (by simp)) (by simp)
    refine ⟨ep',es',q1,q2,?_⟩
    have hm:s.length+y.l.length≤most:=by unfold most;omega
    have hall:∀ x∈y.l,ncells (enc x)=1:=fun x _=>Nc.nc x
    rw[List.length_append]at q3
    rw[rounds_go0,← q3]
    simp[l_qeu_0,hi,hy,hy0,append,hel,he,hm,wrap_lt hlt hl,roundEnd_same]
    rw[if_pos hall]
    simp[roundEnd_same,wrap_lt hlt hl]
 have hgrow:0 < F.length→acall code I.qfe [.nil0,.int .i64 (F.length:Nat)] []=some (.sl 0 0 0 0,[.arr 1 0 (List.replicate F.length (.int .i64 0))]):=fun h0=>by
  rw[acall_keep c_qfe rfl]
  generalize F.length=n at *
  have e1:¬((n:Int) < 0):=by omega
  have e2:(0:Int) < (n:Int):=by omega
  have e3:=w64 (n:=(n:Int)) (by omega) (by omega)
  have e4:IntKind.i64.wrap 0=0:=rfl
  simp[f_qfe,b_qfe,e1,e2,e3,e4,append,hn,h0,show ¬n=0 by omega,show (n:Int).toNat=n by omega]
 have hgrow0:acall code I.qfe [.nil0,.int .i64 0] []=some (.nil0,[]):=by
  rw[acall_keep c_qfe rfl]
  have e4:IntKind.i64.wrap 0=0:=rfl
  simp[f_qfe,b_qfe,e4]
 by_cases h0:F.length=0
 ·have h3:∀ (r:List (SlX α)) (k:Nat),ls.drop k=r→k≤ls.length→rounds code 0 [5,14] l_qeu_0 ⟨[.imm b (ls.map (SlX.c enc)),.nil0,.int .i64 0,.any,.nil0,.any,.imm b (ls.map (SlX.c enc)),.int .i64 ls.length,.int .i64 ls.length,.bool false,.any,.imm b (ls.map (SlX.c enc)),.int .i64 ls.length,.int .i64 k,.any],[]⟩ =
    some (.ext 2,⟨[.imm b (ls.map (SlX.c enc)),.nil0,.int .i64 0,.any,.nil0,.any,.imm b (ls.map (SlX.c enc)),.int .i64 ls.length,.int .i64 ls.length,.bool false,.any,.imm b (ls.map (SlX.c enc)),.int .i64 ls.length,.int .i64 ls.length,.bool false],[]⟩):=by
   intro r
   induction r with
   | nil=>
    intro k hd hk
    have:k=ls.length:=by
     have:=congrArg List.length hd
     simp at this;omega
    subst this
    rw[rounds_go0]
    simp[l_qeu_0]
   | cons y r ih=>
    intro k hd hk
    have hlt:k < ls.length:=by
     have:=congrArg List.length hd
     simp at this;omega
    have hy:ls[k]?=some y:=by
     have:=congrArg (·[0]?) hd
     simpa using this
    have hr:ls.drop (k+1)=r:=by
     have:=congrArg List.tail hd
     simpa [List.tail_drop] using this
    have hi:((k:Int) < (ls.length:Int)):=by omega
    have hy0:y.l=[]:=by
     have h':=List.eq_nil_of_length_eq_zero h0
     rw[← hF,List.flatMap_eq_nil_iff]at h'
     exact h' y (List.mem_of_getElem? hy)
    rw[rounds_go0,← ih (k+1) hr (by omega)]
    simp[l_qeu_0,hi,hy,hy0,append,wrap_lt hlt hl,roundEnd_same]
  have h3:=h3 ls 0 (by simp) (by simp)
  simp at h3
  have h0':=List.eq_nil_of_length_eq_zero h0
  subst h0'
  simp at h1
  simp[f_qeu,b_qeu,h1,h3,hgrow0]
 ·obtain ⟨ep,es,q1,q2,q3⟩:=h2 ls 0 0 (List.replicate F.length (.int .i64 0)) (by simp) (by simp) (by simp) (by simp)
  have hg:=hgrow (by omega)
  simp at q3
  simp[f_qeu,b_qeu,h1,hg,q3,q1,q2]
  exact fun y _=>by rw[Fx.fx]
end Go.AM
end
section
namespace Go.AM
open P
set_option maxHeartbeats 4000000
set_option maxRecDepth 8000
abbrev intsA(l:List Int):List AVal:=l.map (.int .i64)
def compactL(l:List Int):List Int:=l.foldl (fun acc x=>if acc.getLast?=some x then acc else acc++[x]) []
theorem compactL_snoc(l:List Int)(x:Int):compactL (l++[x])=if (compactL l).getLast?=some x then compactL l else compactL l++[x]:=by
 unfold compactL;simp[List.foldl_append]
theorem snoc_ind{α:Type}{p:List α→Prop}(l:List α)(h0:p [])(h1:∀ l x,p l→p (l++[x])):p l:=by
 have:∀ m:List α,p m.reverse:=fun m=>by
  induction m with
  | nil=>simpa using h0
  | cons a m ih=>rw[List.reverse_cons];exact h1 _ _ ih
 simpa using this l.reverse
theorem compactL_last(l:List Int):(compactL l).getLast?=l.getLast?:=by
 refine snoc_ind (p:=fun l=>(compactL l).getLast?=l.getLast?) l rfl fun l x ih=>?_
 rw[compactL_snoc]
 split
 ·rename_i h;rw[h];simp
 ·simp
theorem compactL_mem(l:List Int)(x:Int):x∈compactL l↔x∈l:=by
 refine snoc_ind (p:=fun l=>x∈compactL l↔x∈l) l (by simp[compactL]) fun l y ih=>?_
 rw[compactL_snoc]
 split
 ·rename_i h
  rw[ih]
  constructor
  ·intro h';simp[h']
  ·intro h'
   rcases List.mem_append.1 h' with h'|h'
   ·exact h'
   ·simp at h';subst h'
    rw[compactL_last]at h
    exact List.mem_of_getLast? h
 ·simp[ih]
theorem compactL_le(l:List Int):(compactL l).length≤l.length:=by
 refine snoc_ind (p:=fun l=>(compactL l).length≤l.length) l (Nat.le_refl _) fun l y ih=>?_
 rw[compactL_snoc]
 split<;>simp<;>omega
theorem compactL_take{l:List Int}{j:Nat}(hj:j < l.length)(h0:0 < j):compactL (l.take (j+1))=if l[j - 1]=l[j] then compactL (l.take j) else compactL (l.take j)++[l[j]]:=by
 rw[List.take_succ_eq_append_getElem hj,compactL_snoc,compactL_last]
 have:(l.take j).getLast?=some l[j - 1]:=by
  rw[List.getLast?_eq_getElem?]
  simp[List.getElem?_take]
  have:min j l.length=j:=by omega
  rw[this]
  simp[show j - 1 < j by omega,show j - 1 < l.length by omega]
 rw[this]
 simp
theorem setG{σ:Store}{id:Nat}{o o':Obj}(h:σ[id]?=some o):(σ.set id o')[id]?=some o':=by
 have:=(List.getElem?_eq_some_iff.1 h).1
 simp[this]
def stepA(l:List Int)(k0:Nat):Nat→List Int×Nat
 | 0=>(l,k0)
 | m+1=>let p:=stepA l k0 m
  if l.getD (k0+m+1) 0=l.getD (k0+m) 0 then p else (p.1.set p.2 (l.getD (k0+m+1) 0),p.2+1)
theorem stepA_ok{l:List Int}{k0:Nat}(h0:0 < k0)(hk:k0 < l.length)(hd:l[k0 - 1]=l[k0])(hp:compactL (l.take k0)=l.take k0):∀ m,k0+m < l.length →
  (stepA l k0 m).1.length=l.length∧(stepA l k0 m).2≤k0+m∧(stepA l k0 m).1.take (stepA l k0 m).2=compactL (l.take (k0+m+1))∧(stepA l k0 m).1.drop (k0+m)=l.drop (k0+m)
 | 0,_=>by
  have:=compactL_take (l:=l) hk h0
  rw[if_pos hd,hp]at this
  simp[stepA,this]
 | m+1,hm=>by
  obtain ⟨i1,i2,i3,i4⟩:=stepA_ok h0 hk hd hp m (by omega)
  have g1:l.getD (k0+m+1) 0=l[k0+m+1]:=by simp[List.getD_eq_getElem?_getD,show k0+m+1 < l.length by omega]
  have g2:l.getD (k0+m) 0=l[k0+m]:=by simp[List.getD_eq_getElem?_getD,show k0+m < l.length by omega]
  have hc:=compactL_take (l:=l) (j:=k0+m+1) (by omega) (by omega)
  have e1:(stepA l k0 m).1.drop (k0+(m+1))=l.drop (k0+(m+1)):=by
   have:=congrArg (List.drop 1) i4
   simpa [List.drop_drop,Nat.add_assoc,Nat.add_comm,Nat.add_left_comm] using this
  unfold stepA
  simp only[g1,g2]
  by_cases hq:l[k0+m+1]=l[k0+m]
  ·rw[if_pos hq]
   rw[if_pos (by simpa using hq.symm)]at hc
   exact ⟨i1,by omega,by rw[i3];simpa [Nat.add_assoc] using hc.symm,e1⟩
  ·rw[if_neg hq]
   rw[if_neg (by simpa using fun e=>hq e.symm)]at hc
   refine ⟨by simp[i1],by simp;omega,?_,?_⟩
   ·have h2:(stepA l k0 m).2 < (stepA l k0 m).1.length:=by omega
    simp only
    rw[List.take_succ_eq_append_getElem (by simpa using h2),List.take_set_of_le (by omega),i3]
    simp only[List.getElem_set_self]
    simpa [Nat.add_assoc] using hc.symm
   ·simp only
    rw[List.drop_set_of_lt (by omega)]
    exact e1
theorem ints_get{l:List Int}{k:Nat}(h:k < l.length):(intsA l)[k]?=some (.int .i64 l[k]):=by simp[intsA,h]
abbrev innS(σ:Store)(id ep n k0:Nat)(l:List Int)(m:Nat):St:=
 ⟨[.sl id ep 0 n,.any,.int .i64 ((stepA l k0 m).2:Nat),.sl id ep k0 (n - k0),.int .i64 ((m+1:Nat):Int),.bool false,.bool true,.bool true,.any,.any],σ.set id (.arr 1 ep (intsA (stepA l k0 m).1))⟩
theorem compact_inn{σ:Store}{id ep k0:Nat}{l:List Int}(hσ:σ[id]?=some (.arr 1 ep (intsA l)))(hn:l.length≤most)(h0:0 < k0)(hk:k0 < l.length)(hd:l[k0 - 1]=l[k0])(hp:compactL (l.take k0)=l.take k0) :
  rounds code σ.length [8,9] l_qes_0 (innS σ id ep l.length k0 l 0)=some (.ext 2,⟨[.sl id ep 0 l.length,.any,.int .i64 ((compactL l).length:Nat),.sl id ep k0 (l.length - k0),.int .i64 ((l.length - k0:Nat):Int),.bool false,.bool true,.bool true,.bool false,.any],σ.set id (.arr 1 ep (intsA (stepA l k0 (l.length - k0 - 1)).1))⟩):=by
 refine rounds_iter (innS σ id ep l.length k0 l) (l.length - k0 - 1) _ (fun m hm=>?_) ?_
 ·obtain ⟨i1,i2,i3,i4⟩:=stepA_ok h0 hk hd hp m (by omega)
  have hs:stepA l k0 (m+1)=if l.getD (k0+m+1) 0=l.getD (k0+m) 0 then stepA l k0 m else ((stepA l k0 m).1.set (stepA l k0 m).2 (l.getD (k0+m+1) 0),(stepA l k0 m).2+1):=rfl
  have g1:l.getD (k0+m+1) 0=l[k0+m+1]:=by simp[List.getD_eq_getElem?_getD,show k0+m+1 < l.length by omega]
  have g2:l.getD (k0+m) 0=l[k0+m]:=by simp[List.getD_eq_getElem?_getD,show k0+m < l.length by omega]
  rw[g1,g2]at hs
  clear g1 g2
  unfold innS
  rcases hA:stepA l k0 m with ⟨A,k⟩
  rw[hA]at i1 i2 i3 i4 hs
  rw[hs]
  clear hs hA
  simp only at i1 i2 i3 i4
  have hg:=setG (o':=.arr 1 ep (intsA A)) hσ
  have a1:(intsA A)[k0+(m+1)]?=some (.int .i64 l[k0+m+1]):=by
   have:A[k0+(m+1)]=l[k0+m+1]:=by
    have:=congrArg (fun x=>x[1]?) i4
    simp only[List.getElem?_drop]at this
    rw[List.getElem?_eq_getElem (by omega),List.getElem?_eq_getElem (by omega)]at this
    simpa [Nat.add_assoc] using this
   rw[ints_get (by omega),this]
  have a2:(intsA A)[k0+m]?=some (.int .i64 l[k0+m]):=by
   have:A[k0+m]=l[k0+m]:=by
    have:=congrArg (fun x=>x[0]?) i4
    simp only[List.getElem?_drop]at this
    rw[List.getElem?_eq_getElem (by omega),List.getElem?_eq_getElem (by omega)]at this
    simpa [Nat.add_assoc] using this
   rw[ints_get (by omega),this]
  have hlt:((m:Int)+1 < ((l.length - k0:Nat):Int)):=by omega
  have hn':l.length≤68719476736:=hn
  have w1:=w64 (n:=(m:Int)) (by omega) (by omega)
  have w2:=w64 (n:=(m:Int)+1+1) (by omega) (by omega)
  have w3:=w64 (n:=(k:Int)+1) (by omega) (by omega)
  have c1:m+1 < l.length - k0:=by omega
  have c2:m < l.length - k0:=by omega
  have c3:k < l.length:=by omega
  have cst:((m:Int)+1).toNat=m+1:=by omega
  have nn:(0:Int)≤(m:Int)+1:=by omega
  have c4:k < A.length:=by omega
  have hset:(intsA A)[k]?=some (.int .i64 A[k]):=ints_get c4
  by_cases hq:l[k0+m+1]=l[k0+m]
  ·rw[if_pos hq]
   simp[l_qes_0,hlt,hg,a1,a2,c1,c2,w1,w2,w3,cst,nn,hq,roundEnd_same,-List.getElem?_map]
  ·rw[if_neg hq]
   simp[l_qes_0,hlt,hg,a1,a2,c1,c2,c3,w1,w2,w3,cst,nn,hq,roundEnd_same,hset,bne_t hq,-List.getElem?_map]
 ·obtain ⟨i1,i2,i3,i4⟩:=stepA_ok h0 hk hd hp (l.length - k0 - 1) (by omega)
  have hlen:(compactL l).length=(stepA l k0 (l.length - k0 - 1)).2:=by
   rw[show k0+(l.length - k0 - 1)+1=l.length by omega,List.take_length]at i3
   rw[← i3,List.length_take];omega
  rw[hlen]
  unfold innS
  rcases hA:stepA l k0 (l.length - k0 - 1) with ⟨A,k⟩
  have hg:=setG (o':=.arr 1 ep (intsA A)) hσ
  have e1:l.length - k0 - 1+1=l.length - k0:=by omega
  rw[e1]
  simp[l_qes_0,hg]
theorem set_sameX{σ:Store}{id:Nat}{o:Obj}(h:σ[id]?=some o):σ.set id o=σ:=by
 refine List.ext_getElem? fun i=>?_
 by_cases hi:id=i
 ·subst hi;rw[setG h,h]
 ·rw[List.getElem?_set_ne hi]
theorem compact_id{l:List Int}(h:∀ k (_:0 < k) (hk:k < l.length),l[k - 1]≠l[k]):∀ j,j≤l.length→compactL (l.take j)=l.take j
 | 0,_=>by simp[compactL]
 | 1,hj=>by
  match l,hj with
  | a::r,_=>simp[compactL]
 | j+2,hj=>by
  rw[compactL_take (j:=j+1) (by omega) (by omega),if_neg (h (j+1) (by omega) (by omega)),compact_id h (j+1) (by omega),← List.take_succ_eq_append_getElem]
abbrev outS(σ:Store)(id ep n:Nat)(m:Nat):St:=⟨[.sl id ep 0 n,.any,.int .i64 ((m+1:Nat):Int),.any,.any,.bool false,.any,.any,.any,.any],σ⟩
theorem compact_outStep{σ:Store}{id ep:Nat}{l:List Int}(hσ:σ[id]?=some (.arr 1 ep (intsA l)))(hn:l.length≤most)(m:Nat)(hm:m+1 < l.length)(hd:l[m]≠l[m+1]) :
  thenLoop σ.length [1,3,4,6,7,8,9] l_qes_1 (run code l_qes_1 (outS σ id ep l.length m))=rounds code σ.length [1,3,4,6,7,8,9] l_qes_1 (outS σ id ep l.length (m+1)):=by
 have hn':l.length≤68719476736:=hn
 have w1:=w64 (n:=(m:Int)) (by omega) (by omega)
 have w2:=w64 (n:=(m:Int)+1+1) (by omega) (by omega)
 have hlt:((m:Int)+1 < (l.length:Int)):=by omega
 have a1:=ints_get (l:=l) (k:=m+1) hm
 have a2:=ints_get (l:=l) (k:=m) (by omega)
 have cst:((m:Int)+1).toNat=m+1:=by omega
 have nn:(0:Int)≤(m:Int)+1:=by omega
 have c2:m < l.length:=by omega
 have hb:(l[m+1] == l[m])=false:=beq_f (Ne.symm hd)
 simp[l_qes_1,outS,hlt,hσ,a1,a2,w1,w2,cst,nn,hm,c2,hb,roundEnd_same,-List.getElem?_map]
theorem first_dup(l:List Int):(∀ k (_:0 < k) (hk:k < l.length),l[k - 1]≠l[k])∨∃ k0,∃ (_:0 < k0) (hk:k0 < l.length),l[k0 - 1]=l[k0]∧∀ k (_:0 < k) (hk':k < k0),l[k - 1]≠l[k]:=by
 have key:∀ n,n≤l.length→(∀ k (_:0 < k) (hk:k < n) (hk':k < l.length),l[k - 1]≠l[k])∨∃ k0,∃ (_:0 < k0) (hk:k0 < l.length),l[k0 - 1]=l[k0]∧∀ k (_:0 < k) (hk':k < k0),l[k - 1]≠l[k]:=by
  intro n
  induction n with
  | zero=>intro _;exact .inl fun k _ hk=>absurd hk (Nat.not_lt_zero _)
  | succ n ih=>
   intro hn
   rcases ih (by omega) with h|h
   ·by_cases h0:0 < n
    ·by_cases hd:l[n - 1]=l[n]
     ·exact .inr ⟨n,h0,by omega,hd,fun k hk hk'=>h k hk hk' (by omega)⟩
     ·exact .inl fun k hk hkn hk'=>by
       by_cases he:k=n
       ·subst he;exact hd
       ·exact h k hk (by omega) hk'
    ·exact .inl fun k hk hkn hk'=>by omega
   ·exact .inr h
 rcases key l.length (Nat.le_refl _) with h|h
 ·exact .inl fun k h0 hk=>h k h0 hk hk
 ·exact .inr h
theorem compact_spec{σ:Store}{id ep:Nat}{l:List Int}(hσ:σ[id]?=some (.arr 1 ep (intsA l)))(hn:l.length≤most) :
  ∃ A:List Int,acall code I.qes [.sl id ep 0 l.length] σ=some (.sl id ep 0 (compactL l).length,σ.set id (.arr 1 ep (intsA A)))∧A.length=l.length∧A.take (compactL l).length=compactL l:=by
 rw[acall_keep c_qes rfl]
 by_cases h2:l.length < 2
 ·have hc:=compact_id (l:=l) (fun k h0 hk=>by omega) l.length (Nat.le_refl _)
  rw[List.take_length]at hc
  refine ⟨l,?_,rfl,by rw[hc,List.take_length]⟩
  have hi:((l.length:Int) < 2):=by omega
  rw[hc,set_sameX hσ]
  simp[f_qes,b_qes,hσ,hi]
 ·have hi:¬((l.length:Int) < 2):=by omega
  rcases first_dup l with h|⟨k0,h0,hk,hd,hb⟩
  ·have hc:=compact_id h l.length (Nat.le_refl _)
   rw[List.take_length]at hc
   refine ⟨l,?_,rfl,by rw[hc,List.take_length]⟩
   have hloop:=rounds_iter (base:=σ.length) (clr:=[1,3,4,6,7,8,9]) (b:=l_qes_1) (outS σ id ep l.length) (l.length - 1)
    (.ext 0,⟨[.sl id ep 0 l.length,.any,.int .i64 l.length,.any,.any,.bool false,.bool false,.any,.any,.any],σ⟩)
    (fun m hm=>compact_outStep hσ hn m (by omega) (h (m+1) (by omega) (by omega))) (by
     unfold outS
     rw[show l.length - 1+1=l.length by omega]
     simp[l_qes_1,hσ])
   unfold outS at hloop
   simp at hloop
   rw[hc,set_sameX hσ]
   simp[f_qes,b_qes,hσ,hi,hloop]
  ·have hp:compactL (l.take k0)=l.take k0:=by
    have:=compact_id (l:=l.take k0) (fun k hk0 hkk=>by
     simp at hkk
     simpa using hb k hk0 (by omega)) k0 (by simp;omega)
    rwa [List.take_take,Nat.min_self]at this
   have hin:=compact_inn (ep:=ep) hσ hn h0 hk hd hp
   obtain ⟨i1,i2,i3,i4⟩:=stepA_ok h0 hk hd hp (l.length - k0 - 1) (by omega)
   rw[show k0+(l.length - k0 - 1)+1=l.length by omega,List.take_length]at i3
   have hle:(stepA l k0 (l.length - k0 - 1)).2=(compactL l).length:=by rw[← i3,List.length_take];omega
   rw[hle]at i3
   generalize (stepA l k0 (l.length - k0 - 1)).1=A at *
   have hcl:=compactL_le l
   generalize hC:(compactL l).length=c at *
   have hg:=fun o'=>setG (o':=o') hσ
   refine ⟨A.take c++List.replicate (l.length - c) 0++A.drop (c+(l.length - c)),?_,by simp;omega,by
    rw[List.append_assoc,List.take_left' (by simp;omega)];exact i3⟩
   have hloop:=rounds_iter (base:=σ.length) (clr:=[1,3,4,6,7,8,9]) (b:=l_qes_1) (outS σ id ep l.length) (k0 - 1)
    (.ret,⟨[.sl id ep 0 l.length,.sl id ep 0 c,.int .i64 c,.sl id ep k0 (l.length - k0),.int .i64 ((l.length - k0:Nat):Int),.bool false,.bool true,.bool true,.bool false,.any],σ.set id (.arr 1 ep (intsA (A.take c++List.replicate (l.length - c) 0++A.drop (c+(l.length - c)))))⟩)
    (fun m hm=>compact_outStep hσ hn m (by omega) (hb (m+1) (by omega) (by omega))) (by
     unfold outS
     rw[show k0 - 1+1=k0 by omega]
     have hn':l.length≤68719476736:=hn
     have w1:=w64 (n:=(k0:Int) - 1) (by omega) (by omega)
     have w2:((k0:Int) - 1).toNat=k0 - 1:=by omega
     have w3:(0:Int)≤(k0:Int) - 1:=by omega
     have w4:(1:Int)≤(k0:Int):=by omega
     have hlt:((k0:Int) < (l.length:Int)):=by omega
     have a1:=ints_get (l:=l) (k:=k0) hk
     have a2:=ints_get (l:=l) (k:=k0 - 1) (by omega)
     have c3:k0 - 1 < l.length:=by omega
     have c4:k0≤l.length:=by omega
     have c5:c+(l.length - c)=l.length:=by omega
     unfold innS at hin
     simp[stepA]at hin
     rw[set_sameX hσ]at hin
     simp[l_qes_1,hlt,hσ,a1,a2,w1,w2,w3,w4,c3,c4,hd,hin,hk,hg,hcl,i1,c5,-List.getElem?_map])
   unfold outS at hloop
   simp at hloop
   simp[f_qes,b_qes,hσ,hi,hloop]
end Go.AM
end
namespace Go.AM
structure EN where
 tag:Int
 l:Int
 r:Int
 col:Int
 v:Val
 deriving DecidableEq,Inhabited
def EN.a(n:EN):AVal:=.agg [.int .i64 n.tag,.int .i64 n.l,.int .i64 n.r,.int .i64 n.col,.int .i64 n.v.k,.int .i64 n.v.n,.int .u64 n.v.u,.str n.v.s]
end Go.AM
section
namespace Go.AM
open P
set_option maxHeartbeats 4000000
set_option maxRecDepth 4000
@[simp] theorem en_ncells(n:EN):ncells n.a=8:=rfl
@[simp] theorem en_isAgg(n:EN):isAgg n.a=true:=rfl
@[simp] theorem en_fz(n:EN)(fl top:Bool)(base:Nat)(σ:Store)(m:Nat):fz fl top base σ (m+2) n.a=n.a:=by simp[EN.a]
def ensA(e:List EN):List AVal:=e.map EN.a
@[simp] theorem ensA_length(e:List EN):(ensA e).length=e.length:=by simp[ensA]
theorem ensA_get{e:List EN}{k:Nat}(h:k < e.length):(ensA e)[k]?=some e[k].a:=by simp[ensA,h]
def exprA(b:Bool)(e:List EN):AVal:=.agg [.imm b (ensA e)]
def eparts(t:Int):Int:=if t=1∨t=2 then 0 else if 4≤t∧t≤7 then 1 else if 12≤t∧t≤23 then 2 else -1
theorem parts_spec(t:Int):pcall I.qby [.int .i64 t]=some (.int .i64 (eparts t)):=by
 rw[pcall_eq c_qby rfl]
 unfold eparts
 by_cases h1:t=1
 ·subst h1;simp[f_qby,b_qby]
 ·by_cases h2:t=2
  ·subst h2;simp[f_qby,b_qby]
  ·have e12:¬(t=1∨t=2):=by omega
   rw[if_neg e12]
   by_cases h3:4≤t
   ·by_cases h4:t≤7
    ·simp[f_qby,b_qby,beq_f h1,beq_f h2,h3,h4]
    ·by_cases h5:12≤t
     ·by_cases h6:t≤23
      ·simp[f_qby,b_qby,beq_f h1,beq_f h2,h3,h4,h5,h6]
      ·simp[f_qby,b_qby,beq_f h1,beq_f h2,h3,h4,h5,h6]
     ·simp[f_qby,b_qby,beq_f h1,beq_f h2,h3,h4,h5]
   ·have h5:¬(12≤t):=by omega
    simp[f_qby,b_qby,beq_f h1,beq_f h2,h3,h5]
def plainV(v:Val):Bool:=okV v&&v.k != 4
theorem Plain_spec(v:Val):pcall I.qgm [v.a]=some (.bool (plainV v)):=by
 rw[pcall_eq c_qgm rfl]
 have h:=Check_spec v
 unfold plainV
 obtain ⟨k,n,u,s⟩:=v
 simp only[a_mk]at *
 cases hv:okV ⟨k,n,u,s⟩<;>rw[hv]at h<;>simp[f_qgm,b_qgm,h]
def zeroV:Val:=⟨0,0,0,[]⟩
def countsE(n:EN):Bool:=if n.tag=1 then plainV n.v&&n.col == 0 else if n.tag=2 then n.v == zeroV&&decide (0≤n.col)&&decide (n.col < 16) else n.v == zeroV&&n.col == 0
theorem zero_eq(v:Val):eqCells [0,0,0,2] [.int .i64 v.k,.int .i64 v.n,.int .u64 v.u,.str v.s] [.int .i64 0,.int .i64 0,.int .u64 0,.str []]=some (v == zeroV):=by
 obtain ⟨k,n,u,s⟩:=v
 unfold zeroV
 by_cases hk:k=0
 ·by_cases hn:n=0
  ·by_cases hu:u=0
   ·by_cases hs:s=[]
    ·subst hk hn hu hs;simp
    ·have hs':(s == [])=false:=by simp[hs]
     have e:((⟨k,n,u,s⟩:Val) == ⟨0,0,0,[]⟩)=false:=by simp[hs]
     rw[e];simp[hk,hn,hu,hs']
   ·have e:((⟨k,n,u,s⟩:Val) == ⟨0,0,0,[]⟩)=false:=by simp[hu]
    rw[e];simp[hk,hn,beq_f hu]
  ·have e:((⟨k,n,u,s⟩:Val) == ⟨0,0,0,[]⟩)=false:=by simp[hn]
   rw[e];simp[hk,beq_f hn]
 ·have e:((⟨k,n,u,s⟩:Val) == ⟨0,0,0,[]⟩)=false:=by simp[hk]
  rw[e];simp[beq_f hk]
theorem counts_spec(n:EN):pcall I.qbu [n.a]=some (.bool (countsE n)):=by
 rw[pcall_eq c_qbu rfl]
 have hp:=Plain_spec n.v
 have hz:=zero_eq n.v
 unfold countsE EN.a
 unfold Val.a at hp
 by_cases h1:n.tag=1
 ·cases hv:plainV n.v<;>rw[hv]at hp<;>simp[f_qbu,b_qbu,h1,hp]
 ·by_cases h2:n.tag=2
  ·cases hv:(n.v == zeroV)<;>rw[hv]at hz<;>simp[f_qbu,b_qbu,h2,hz,-eqCells]
   by_cases h3:0≤n.col<;>simp[h3]
  ·cases hv:(n.v == zeroV)<;>rw[hv]at hz<;>simp[f_qbu,b_qbu,h1,h2,beq_f h1,beq_f h2,hz,-eqCells]
end Go.AM
end
namespace Go.AM
instance:Nc EN.a 8 true:=⟨fun _=>rfl,fun _=>rfl⟩
instance:Fx EN.a:=⟨fun fl top base σ n y=>en_fz y fl top base σ (n+1)⟩
structure AggX where
 tag:Int
 b:Bool
 arg:List EN
def AggX.a(a:AggX):AVal:=.agg [.int .i64 a.tag,.imm a.b (a.arg.map EN.a)]
structure ExX where
 b:Bool
 l:List EN
def ExX.a(e:ExX):AVal:=.agg [.imm e.b (e.l.map EN.a)]
structure LNX where
 op:Int
 l:Int
 r:Int
 tab:Int
 bk:Bool
 kinds:List Int
 left:Bool
 bc:Bool
 cond:List EN
 by':Bool
 keys:List Int
 bg:Bool
 aggs:List AggX
 bi:Bool
 items:List ExX
 bo:Bool
 ords:List (Int×Bool)
 limit:Int
def LNX.a(n:LNX):AVal:=.agg [.int .i64 n.op,.int .i64 n.l,.int .i64 n.r,.int .i64 n.tab,.imm n.bk (n.kinds.map (.int .i64)),.bool n.left,.imm n.bc (n.cond.map EN.a),.imm n.by' (n.keys.map (.int .i64)),.imm n.bg (n.aggs.map AggX.a),.imm n.bi (n.items.map ExX.a),.imm n.bo (n.ords.map ordA),.int .i64 n.limit]
instance:Nc AggX.a 2 true:=⟨fun _=>rfl,fun _=>rfl⟩
instance:Ft AggX.a:=⟨fun fl top base σ n y h=>by cases fl<;>cases top<;>simp[AggX.a]at h ⊢⟩
instance:Nc ExX.a 1 true:=⟨fun _=>rfl,fun _=>rfl⟩
instance:Ft ExX.a:=⟨fun fl top base σ n y h=>by cases fl<;>cases top<;>simp[ExX.a]at h ⊢⟩
instance:Nc ordA 2 true:=⟨fun _=>rfl,fun _=>rfl⟩
instance:Fx ordA:=⟨fun fl top base σ n y=>by simp[ordA]⟩
instance:Nc LNX.a 12 true:=⟨fun _=>rfl,fun _=>rfl⟩
instance:Ft LNX.a:=⟨fun fl top base σ n y h=>by cases fl<;>cases top<;>simp[LNX.a]at h ⊢⟩
instance:Nc (SlX.c (AVal.int .i64)) 1 false:=⟨fun _=>rfl,fun _=>rfl⟩
instance:Ft (SlX.c (AVal.int .i64)):=⟨fun fl top base σ n y h=>by cases fl<;>cases top<;>simp at h ⊢⟩
end Go.AM
section
namespace Go.AM
open P
set_option maxHeartbeats 4000000
set_option maxRecDepth 8000
attribute [local simp] condRun_if when_if
def partsF(op:Int):Int:=if op=1∨op=9 then 0 else if op=2∨op=7 then 2 else if op=3∨op=4∨op=5∨op=6∨op=8∨op=10∨op=11 then 1 else -1
theorem parts18_spec(op:Int):pcall I.qea [.int .i64 op]=some (.int .i64 (partsF op)):=by
 rw[pcall_eq c_qea rfl]
 unfold partsF
 simp[f_qea,b_qea]
 repeat' (split<;>(try simp_all))
def blankF(n:LNX):Bool:=
 (n.op == 1 || n.op == 9 || n.tab == 0&&n.kinds.length == 0)&&(n.op == 2 || !n.left)&&(n.op == 2 || n.op == 3 || n.cond.length == 0) &&
 (n.op == 4 || n.op == 10 || n.op == 11 || (n.keys.length:Int)+n.aggs.length == 0)&&(n.op == 5 || n.items.length == 0)&&(n.op == 8 || n.ords.length == 0&&n.limit == 0)
theorem blank18_spec(n:LNX)(h1:n.keys.length≤most)(h2:n.aggs.length≤most):pcall I.qdi [n.a]=some (.bool (blankF n)):=by
 rw[pcall_eq c_qdi rfl]
 have hw:IntKind.i64.wrap ((n.keys.length:Int)+(n.aggs.length:Int))=(n.keys.length:Int)+n.aggs.length:=wrap64_id (by unfold most at *;omega)
 unfold blankF
 simp[f_qdi,b_qdi,LNX.a,hw]
 repeat' (split<;>(try simp_all))
end Go.AM
end
section
namespace Go.AM
open P
set_option maxHeartbeats 4000000
set_option maxRecDepth 8000
attribute [local simp] condRun_if when_if
def arithF(t:Int):Bool:=t == 4 || decide (12≤t)&&decide (t≤15)
@[simp] theorem arithmetic_spec(t:Int):pcall I.qbt [.int .i64 t]=some (.bool (arithF t)):=by
 rw[pcall_eq c_qbt rfl]
 unfold arithF
 simp[f_qbt,b_qbt]
 repeat' (split<;>(try simp_all))
 all_goals omega
def ownG(own k:Int):Int:=if k=0∨k=own then own else if own=0 then k else -1
def kind1F(kinds:List Int)(n:EN)(l:List Int):Int×Int:=
 let own:=l.foldl ownG 0
 if n.tag=1 then (n.v.k,0) else if n.tag=2 then (kinds.getD n.col.toNat 0,0) else
 let want:=if arithF n.tag then 2 else if n.tag=5∨n.tag=22∨n.tag=23 then 1 else own
 if own=-1∨own≠0∧own≠want then (0,201) else (if arithF n.tag then 2 else 1,0)
theorem kind1_spec(n:EN)(b:Bool)(l:List Int)(bk:Bool)(kinds:List Int)(hl:l.length≤most)(hc:n.tag=2→0≤n.col∧n.col < kinds.length) :
  pcall I.qbs [n.a,.imm b (l.map (.int .i64)),.cptr true (.imm bk (kinds.map (.int .i64))) 0]=some (.tup [.int .i64 (kind1F kinds n l).1,.int .i64 (kind1F kinds n l).2]):=by
 rw[pcall_eq c_qbs rfl]
 have h:=fun x=>(rounds_fold (base:=1) (clr:=[7,13,14,15]) (b:=l_qbs_0) l
  (fun k (own:Int)=>⟨[n.a,.imm b (l.map (.int .i64)),.cptr true (.imm bk (kinds.map (.int .i64))) 0,.ptr 0 0 0 0,.int .i64 0,.int .i64 0,.int .i64 own,.any,.any,.any,.imm b (l.map (.int .i64)),.int .i64 l.length,.int .i64 k,.any,.any,.any,.any,.any,.any,.any,.any],[.arr 8 0 [n.a]]⟩)
  (fun _ _=>True) ownG
  (fun own=>(.ext 0,⟨[n.a,.imm b (l.map (.int .i64)),.cptr true (.imm bk (kinds.map (.int .i64))) 0,.ptr 0 0 0 0,.int .i64 0,.int .i64 0,.int .i64 own,.any,.any,.any,.imm b (l.map (.int .i64)),.int .i64 l.length,.int .i64 l.length,.bool false,.any,.any,.any,.any,.any,.any,.any],[.arr 8 0 [n.a]]⟩))
  (fun k y own hk hy _=>by
   refine ⟨?_,trivial⟩
   have hlt:((k:Int) < (l.length:Int)):=by omega
   unfold ownG
   simp[l_qbs_0,hlt,hy,roundEnd_same]
   repeat' (split<;>(try simp_all[wrap_lt hk hl,roundEnd_same])))
  (fun own _=>by simp[l_qbs_0]) 0 x).1
 have h:=h trivial
 simp[EN.a]at h
 unfold kind1F
 simp[f_qbs,b_qbs,h,EN.a]
 generalize l.foldl ownG 0=own
 repeat' (split<;>(try simp_all))
end Go.AM
end
section
namespace Go.AM
open P
set_option maxHeartbeats 8000000
set_option maxRecDepth 8000
def natsA(l:List Nat):List AVal:=l.map fun (n:Nat)=>.int .i64 (n:Int)
@[simp] theorem natsA_length(l:List Nat):(natsA l).length=l.length:=by simp[natsA]
@[simp] theorem natsA_nil:natsA []=[]:=rfl
theorem natsA_get{l:List Nat}{k:Nat}(h:k < l.length):(natsA l)[k]?=some (.int .i64 (l[k]:Int)):=by simp[natsA,h]
theorem natsA_getE{l:List Nat}{k:Nat}(h:k < (natsA l).length):(natsA l)[k]=.int .i64 ((l[k]'(by simpa using h):Nat):Int):=by simp[natsA]
theorem natsA_append(l m:List Nat):natsA (l++m)=natsA l++natsA m:=by simp[natsA]
@[simp] theorem natsA_one(n:Nat):natsA [n]=[.int .i64 (n:Int)]:=rfl
@[simp] theorem natsA_two(n m:Nat):natsA [n,m]=[.int .i64 (n:Int),.int .i64 (m:Int)]:=rfl
theorem natsA_fz(l:List Nat)(fl top:Bool)(base:Nat)(σ:Store)(m:Nat):(natsA l).map (fz fl top base σ (m+1))=natsA l:=by
 unfold natsA
 rw[List.map_map]
 exact List.map_congr_left fun n _=>by simp
theorem natsA_freeze(l:List Nat)(base:Nat)(σ:Store):(natsA l).map (freeze base σ)=natsA l:=natsA_fz l false true base σ 19
def stepE(i:Nat)(n:EN)(all opn:List Nat):Option (List Nat×List Nat):=
 if eparts n.tag < 0∨opn.length < eparts n.tag∨countsE n=false then none else
 match opn.drop (opn.length - (eparts n.tag).toNat) with
 | []=>if n.l=-1∧n.r=-1 then some (all++[i],opn++[i]) else none
 | [p]=>if n.l=p∧n.r=-1 then some (all++[min i (all.getD p 0)],opn.take (opn.length - 1)++[i]) else none
 | [p,q]=>if n.l=p∧n.r=q then some (all++[min (min i (all.getD p 0)) (all.getD q 0)],opn.take (opn.length - 2)++[i]) else none
 | _=>none
abbrev firstsSt(b:Bool)(e:List EN)(k:Nat)(all opn:List Nat):St:=
 ⟨[.agg [.imm b (ensA e)],.ptr 0 0 0 0,.any,.any,.sl 1 k 0 all.length,.sl 2 k 0 opn.length,.any,.any,.any,.any,.any,.any,.any,.any,.imm b (ensA e),.int .i64 e.length,.int .i64 k,.any,.any,.any,.any,.any,.any,.any],
  [.arr 1 0 [.agg [.imm b (ensA e)]],.arr 1 k (natsA all),.arr 1 k (natsA opn)]⟩
theorem eparts_le(t:Int):-1≤eparts t∧eparts t≤2:=by
 unfold eparts
 repeat' split
 all_goals omega
theorem wrap1:IntKind.i64.wrap 1=1:=rfl
theorem wrap2:IntKind.i64.wrap 2=2:=rfl
theorem firsts_step{b:Bool}{e:List EN}{k:Nat}{all opn all' opn':List Nat}(hk:k < e.length)(hn:e.length≤most)(ha:all.length=k)(ho:∀ p∈opn,p < k)(hol:opn.length≤k)
  (h:stepE k e[k] all opn=some (all',opn')) :
  thenLoop 3 [2,3,6,7,8,9,10,11,12,13,17,18,19,20,21,22,23] l_qbv_1 (run code l_qbv_1 (firstsSt b e k all opn)) =
   rounds code 3 [2,3,6,7,8,9,10,11,12,13,17,18,19,20,21,22,23] l_qbv_1 (firstsSt b e (k+1) all' opn'):=by
 have h1:=ensA_get hk
 have hp:=parts_spec e[k].tag
 have hc:=counts_spec e[k]
 have hlt:((k:Int) < (e.length:Int)):=by omega
 unfold stepE at h
 split at h
 ·cases h
 rename_i hneg
 have hc1:countsE e[k]=true:=by cases hq:countsE e[k]<;>simp_all
 rw[hc1]at hc
 have hk0:¬(eparts e[k].tag < 0):=by omega
 have hk1:¬((opn.length:Int) < eparts e[k].tag):=by omega
 have hk2:=eparts_le e[k].tag
 have hm:k+1≤most:=by omega
 have hcases:eparts e[k].tag=0∨eparts e[k].tag=1∨eparts e[k].tag=2:=by omega
 rcases hcases with h0|h0|h0
 ·rw[h0]at h hp
  simp at h
  obtain ⟨⟨e1,e2⟩,rfl,rfl⟩:=h
  unfold EN.a at h1 hc
  rw[e1,e2]at h1 hc
  have t1:(natsA all).take k=natsA all:=List.take_of_length_le (by simp[ha])
  have t2:(natsA opn).take opn.length=natsA opn:=List.take_of_length_le (by simp)
  have f1:=natsA_fz all
  have f2:=natsA_fz opn
  have g1:=natsA_freeze all
  have g2:=natsA_freeze opn
  have hnn:¬((opn.length:Int) < 0):=by omega
  have hw:IntKind.i64.wrap (opn.length:Int)=opn.length:=wrap64_id (by unfold most at hn;omega)
  have hm':opn.length+1≤most:=by omega
  simp[firstsSt,l_qbv_1,h1,hlt,hp,hc,ha,t1,t2,f1,f2,g1,g2,hnn,hw,append,natsA_append,hm,hm',wrap_lt hk hn,roundEnd,freezeObj,rounds_go 5,rounds_go 6,l_qbv_0]
 ·rw[h0]at h hp hk1
  have hol1:1≤opn.length:=by omega
  obtain ⟨o,p,rfl⟩:∃ o p,opn=o++[p]:=⟨opn.dropLast,opn.getLast (by intro e;subst e;simp at hol1),(List.dropLast_concat_getLast _).symm⟩
  simp at h
  obtain ⟨⟨e1,e2⟩,rfl,rfl⟩:=h
  have hpk:p < k:=ho p (by simp)
  unfold EN.a at h1 hc
  rw[e1,e2]at h1 hc
  have hpa:p < all.length:=by omega
  have q1:=natsA_get hpa
  have t1:(natsA all).take k=natsA all:=List.take_of_length_le (by simp[ha])
  have t2:(natsA (o++[p])).take o.length=natsA o:=by rw[natsA_append,List.take_left' (by simp)]
  have t3:(natsA (o++[p]))[o.length]?=some (.int .i64 (p:Int)):=by rw[natsA_append,List.getElem?_append_right (by simp)];simp
  have f1:=natsA_fz all
  have f2:=natsA_fz o
  have g1:=natsA_freeze all
  have g2:=natsA_freeze o
  have hlen:(o++[p]).length=o.length+1:=by simp
  have hnn:¬((o.length:Int)+1 < 1):=by omega
  have hw:IntKind.i64.wrap ((o.length:Int)+1 - 1)=o.length:=by rw[wrap64_id (by simp at hol;unfold most at hn;omega)];omega
  have hw1:IntKind.i64.wrap (o.length:Int)=o.length:=by rw[wrap64_id (by simp at hol;unfold most at hn;omega)]
  have hm':o.length+1≤most:=by simp at hol;omega
  simp at hol
  have hd:all[p]?.getD 0=all[p]:=by simp[hpa]
  have hmin:(if all[p] < k then (all[p]:Int) else (k:Int))=((min k all[p]:Nat):Int):=by split<;>omega
  simp[firstsSt,l_qbv_1,h1,hlt,hp,hc,ha,t1,t2,t3,f1,f2,g1,g2,hnn,hw,hw1,append,natsA_append,hm,hm',wrap_lt hk hn,roundEnd,freezeObj,rounds_go 5,l_qbv_0,q1,hpk,hpa,natsA_getE,hmin,wrap1]
 ·rw[h0]at h hp hk1
  have hol1:2≤opn.length:=by omega
  obtain ⟨o',q,rfl⟩:∃ o p,opn=o++[p]:=⟨opn.dropLast,opn.getLast (by intro e;subst e;simp at hol1),(List.dropLast_concat_getLast _).symm⟩
  have hol2:1≤o'.length:=by simp at hol1;omega
  obtain ⟨o,p,rfl⟩:∃ o p,o'=o++[p]:=⟨o'.dropLast,o'.getLast (by intro e;subst e;simp at hol2),(List.dropLast_concat_getLast _).symm⟩
  have hdrop:(o++[p]++[q]).drop ((o++[p]++[q]).length - (2:Int).toNat)=[p,q]:=by
   simp
  have htake:(o++[p]++[q]).take ((o++[p]++[q]).length - 2)=o:=by
   rw[List.append_assoc,List.take_left' (by simp)]
  rw[hdrop]at h
  simp only[htake]at h
  split at h
  ·rename_i e12
   obtain ⟨e1,e2⟩:=e12
   simp only[Option.some.injEq,Prod.mk.injEq]at h
   obtain ⟨rfl,rfl⟩:=h
   have hpk:p < k:=ho p (by simp)
   have hqk:q < k:=ho q (by simp)
   unfold EN.a at h1 hc
   rw[e1,e2]at h1 hc
   have hpa:p < all.length:=by omega
   have hqa:q < all.length:=by omega
   have q1:=natsA_get hpa
   have q2:=natsA_get hqa
   have t1:(natsA all).take k=natsA all:=List.take_of_length_le (by simp[ha])
   have hN:natsA (o++[p]++[q])=natsA o++([.int .i64 (p:Int),.int .i64 (q:Int)]:List AVal):=by simp[natsA_append]
   have t2:(natsA o++([.int .i64 (p:Int),.int .i64 (q:Int)]:List AVal)).take o.length=natsA o:=by rw[List.take_left' (by simp)]
   have t3:(natsA o++([.int .i64 (p:Int),.int .i64 (q:Int)]:List AVal))[o.length]?=some (.int .i64 (p:Int)):=by rw[List.getElem?_append_right (by simp)];simp
   have t4:(natsA o++([.int .i64 (p:Int),.int .i64 (q:Int)]:List AVal))[o.length+1]?=some (.int .i64 (q:Int)):=by rw[List.getElem?_append_right (by simp)];simp
   have f1:=natsA_fz all
   have f2:=natsA_fz o
   have g1:=natsA_freeze all
   have g2:=natsA_freeze o
   simp at hol
   have hnn:¬((o.length:Int)+1+1 < 2):=by omega
   have hnn':¬((o.length:Int)+2 < 2):=by omega
   have hw:IntKind.i64.wrap ((o.length:Int)+1+1 - 2)=o.length:=by rw[wrap64_id (by unfold most at hn;omega)];omega
   have hw':IntKind.i64.wrap ((o.length:Int)+2 - 2)=o.length:=by rw[wrap64_id (by unfold most at hn;omega)];omega
   have hw1:IntKind.i64.wrap (o.length:Int)=o.length:=by rw[wrap64_id (by unfold most at hn;omega)]
   have hm':o.length+1≤most:=by omega
   have hd:all[p]?.getD 0=all[p]:=by simp[hpa]
   have hd2:all[q]?.getD 0=all[q]:=by simp[hqa]
   have hmin:(if all[p] < k then (all[p]:Int) else (k:Int))=((min k all[p]:Nat):Int):=by split<;>omega
   have hmin2:(if all[q] < min k all[p] then (all[q]:Int) else ((min k all[p]:Nat):Int))=((min (min k all[p]) all[q]:Nat):Int):=by split<;>omega
   unfold firstsSt
   rw[hN]
   simp[l_qbv_1,h1,hlt,hp,hc,ha,t1,t2,t3,t4,f1,f2,g1,g2,hnn,hnn',hw,hw',hw1,append,natsA_append,hm,hm',wrap_lt hk hn,roundEnd,freezeObj,rounds_go 5,l_qbv_0,q1,q2,hpk,hpa,hqk,hqa,natsA_getE,hmin,hmin2,wrap1,wrap2]
  ·cases h
end Go.AM
end
