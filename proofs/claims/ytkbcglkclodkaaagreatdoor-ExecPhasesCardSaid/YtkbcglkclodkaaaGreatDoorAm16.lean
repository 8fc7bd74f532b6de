/- Part of the proof. -/
import Derived.Test.YtkbcglkclodkaaaGreatDoorAm05
import Derived.Test.YtkbcglkclodkaaaGreatDoorAm00
import Derived.Test.YtkbcglkclodkaaaGreatDoorAm06
import Derived.KernelRfl
import Derived.Test.YtkbcglkclodkaaaGreatDoorAm04
set_option linter.unusedVariables false
set_option linter.unusedSimpArgs false
namespace Go.AM
section
variable {P:Code}
theorem s_mov(env ls:List AVal)(σ:Store)(x:Opd):step P env ls σ (.mov x)=(some (x.eval env ls,σ)):=by
 unfold step;simp only[stepOp];exact lim_const _
theorem s_pick(env ls:List AVal)(σ:Store)(c:Opd)(a:Opd)(b:Opd):step P env ls σ (.pick c a b)=((pickV (a.eval env ls) (b.eval env ls) (c.eval env ls)).map (·,σ)):=by
 unfold step;simp only[stepOp];exact lim_const _
theorem s_box(env ls:List AVal)(σ:Store)(k:Nat)(x:Opd):step P env ls σ (.box k x)=(let v:=x.eval env ls;if ncells v=k then some (.ptr σ.length 0 0 0,σ++[.arr k 0 [v]]) else none):=by
 unfold step;simp only[stepOp];exact lim_const _
theorem s_build(env ls:List AVal)(σ:Store)(zero:List AVal)(parts:List (Nat×Nat×Opd)):step P env ls σ (.build zero parts)=((fill zero (parts.map fun p=>(p.1,p.2.1,p.2.2.eval env ls))).map fun cs=>(.agg cs,σ)):=by
 unfold step;simp only[stepOp];exact lim_const _
theorem s_mknil(env ls:List AVal)(σ:Store)(k:Nat):step P env ls σ (.mknil k)=(some (.sl σ.length 0 0 0,σ++[.arr k 0 []])):=by
 unfold step;simp only[stepOp];exact lim_const _
theorem s_mkl(env ls:List AVal)(σ:Store)(k:Nat)(xs:List Opd):step P env ls σ (.mkl k xs)=(let vs:=xs.map (·.eval env ls);if vs.all (fun v=>ncells v == k) then some (.lst vs,σ) else none):=by
 unfold step;simp only[stepOp];exact lim_const _
theorem s_mksl(env ls:List AVal)(σ:Store)(k:Nat)(xs:List Opd):step P env ls σ (.mksl k xs)=(let vs:=xs.map (·.eval env ls)
  if vs=[] then some (.nil0,σ) else
  if vs.all (fun v=>ncells v == k) then some (.sl σ.length 0 0 vs.length,σ++[.arr k 0 vs]) else none):=by
 unfold step;simp only[stepOp];exact lim_const _
theorem s_mkslz(env ls:List AVal)(σ:Store)(k:Nat)(zero:AVal)(n:Nat)(parts:List (Nat×Opd)):step P env ls σ (.mkslz k zero n parts)=(let vs:=setAll (List.replicate n zero) (parts.map fun p=>(p.1,p.2.eval env ls))
  if vs.all (fun v=>ncells v == k) then some (.sl σ.length 0 0 n,σ++[.arr k 0 vs]) else none):=by
 unfold step;simp only[stepOp];exact lim_const _
theorem s_make(env ls:List AVal)(σ:Store)(k:Nat)(zero:AVal)(n:Opd)(c:Opd):step P env ls σ (.make k zero n c)=((asNat (n.eval env ls)).bind fun m=>(asNat (c.eval env ls)).bind fun d=>
   if m=d∧ncells zero=k∧m≤most then some (.sl σ.length 0 0 m,σ++[.arr k 0 (List.replicate m zero)]) else none):=by
 unfold step;simp only[stepOp];exact lim_const _
theorem s_load(env ls:List AVal)(σ:Store)(a:Bool)(s:Nat)(x:Opd):step P env ls σ (.load a s x)=((loadAt a s (x.eval env ls) σ).map (·,σ)):=by
 unfold step;simp only[stepOp];exact lim_const _
theorem s_store(env ls:List AVal)(σ:Store)(s:Nat)(x:Opd)(v:Opd):step P env ls σ (.store s x v)=((storeAt s (x.eval env ls) (v.eval env ls) σ).map (.any,·)):=by
 unfold step;simp only[stepOp];exact lim_const _
theorem s_fld(env ls:List AVal)(σ:Store)(off:Nat)(x:Opd):step P env ls σ (.fld off x)=((fldV σ off (x.eval env ls)).map (·,σ)):=by
 unfold step;simp only[stepOp];exact lim_const _
theorem s_fldv(env ls:List AVal)(σ:Store)(a:Bool)(s:Nat)(off:Nat)(x:Opd):step P env ls σ (.fldv a s off x)=((partV a s off (x.eval env ls)).map (·,σ)):=by
 unfold step;simp only[stepOp];exact lim_const _
theorem s_idxs(env ls:List AVal)(σ:Store)(k:Nat)(x:Opd)(i:Opd):step P env ls σ (.idxs k x i)=((asNat (i.eval env ls)).bind fun n=>(idxsV σ k n (x.eval env ls)).map (·,σ)):=by
 unfold step;simp only[stepOp];exact lim_const _
theorem s_idxa(env ls:List AVal)(σ:Store)(m:Nat)(s:Nat)(x:Opd)(i:Opd):step P env ls σ (.idxa m s x i)=((asNat (i.eval env ls)).bind fun n=>if n < m then (fldV σ (n * s) (x.eval env ls)).map (·,σ) else none):=by
 unfold step;simp only[stepOp];exact lim_const _
theorem s_idxv(env ls:List AVal)(σ:Store)(a:Bool)(m:Nat)(s:Nat)(x:Opd)(i:Opd):step P env ls σ (.idxv a m s x i)=((asNat (i.eval env ls)).bind fun n=>if n < m then (partV a s (n * s) (x.eval env ls)).map (·,σ) else none):=by
 unfold step;simp only[stepOp];exact lim_const _
theorem s_idxt(env ls:List AVal)(σ:Store)(x:Opd)(i:Opd):step P env ls σ (.idxt x i)=((asNat (i.eval env ls)).bind fun n=>(idxtV n (x.eval env ls)).map (·,σ)):=by
 unfold step;simp only[stepOp];exact lim_const _
theorem s_bin(env ls:List AVal)(σ:Store)(op:BinOp)(x:Opd)(y:Opd):step P env ls σ (.bin op x y)=((bin op (x.eval env ls) (y.eval env ls)).map (·,σ)):=by
 unfold step;simp only[stepOp];exact lim_const _
theorem s_eqb(env ls:List AVal)(σ:Store)(n:Bool)(x:Opd)(y:Opd):step P env ls σ (.eqb n x y)=((eqb n (x.eval env ls) (y.eval env ls)).map (·,σ)):=by
 unfold step;simp only[stepOp];exact lim_const _
theorem s_eqa(env ls:List AVal)(σ:Store)(n:Bool)(ks:List Nat)(x:Opd)(y:Opd):step P env ls σ (.eqa n ks x y)=((eqa n ks (x.eval env ls) (y.eval env ls)).map (·,σ)):=by
 unfold step;simp only[stepOp];exact lim_const _
theorem s_isnil(env ls:List AVal)(σ:Store)(n:Bool)(x:Opd):step P env ls σ (.isnil n x)=((isnil n (x.eval env ls)).map (·,σ)):=by
 unfold step;simp only[stepOp];exact lim_const _
theorem s_nils(env ls:List AVal)(σ:Store)(n:Bool)(x:Opd):step P env ls σ (.nils n x)=((nilsV n σ (x.eval env ls)).map (·,σ)):=by
 unfold step;simp only[stepOp];exact lim_const _
theorem s_una(env ls:List AVal)(σ:Store)(op:UnOp)(x:Opd):step P env ls σ (.una op x)=((una op (x.eval env ls)).map (·,σ)):=by
 unfold step;simp only[stepOp];exact lim_const _
theorem s_conv(env ls:List AVal)(σ:Store)(k:IntKind)(x:Opd):step P env ls σ (.conv k x)=((convV k (x.eval env ls)).map (·,σ)):=by
 unfold step;simp only[stepOp];exact lim_const _
theorem s_slice(env ls:List AVal)(σ:Store)(k:Nat)(x:Opd)(lo:Option Opd)(hi:Option Opd):step P env ls σ (.slice k x lo hi)=(let v:=x.eval env ls
  (alen σ v).bind fun n=>(opt env ls 0 lo).bind fun l=>(opt env ls n hi).bind fun h=>(aslice σ k v l h).map (·,σ)):=by
 unfold step;simp only[stepOp];exact lim_const _
theorem s_slicet(env ls:List AVal)(σ:Store)(x:Opd)(lo:Option Opd)(hi:Option Opd):step P env ls σ (.slicet x lo hi)=(let v:=x.eval env ls
  (tlen v).bind fun n=>(opt env ls 0 lo).bind fun l=>(opt env ls n hi).bind fun h=>(tslice v l h).map (·,σ)):=by
 unfold step;simp only[stepOp];exact lim_const _
theorem s_slice0(env ls:List AVal)(σ:Store)(x:Opd):step P env ls σ (.slice0 x)=((alen σ (x.eval env ls)).map fun _=>(.nil0,σ)):=by
 unfold step;simp only[stepOp];exact lim_const _
theorem s_aslice(env ls:List AVal)(σ:Store)(n:Nat)(x:Opd):step P env ls σ (.aslice n x)=((aslV σ n (x.eval env ls)).map (·,σ)):=by
 unfold step;simp only[stepOp];exact lim_const _
theorem s_len(env ls:List AVal)(σ:Store)(x:Opd):step P env ls σ (.len x)=((alen σ (x.eval env ls)).map fun (n:Nat)=>(.int .i64 (n:Int),σ)):=by
 unfold step;simp only[stepOp];exact lim_const _
theorem s_lent(env ls:List AVal)(σ:Store)(x:Opd):step P env ls σ (.lent x)=((tlen (x.eval env ls)).map fun (n:Nat)=>(.int .i64 (n:Int),σ)):=by
 unfold step;simp only[stepOp];exact lim_const _
theorem s_cap(env ls:List AVal)(σ:Store)(x:Opd):step P env ls σ (.cap x)=((capV (x.eval env ls)).map (·,σ)):=by
 unfold step;simp only[stepOp];exact lim_const _
theorem s_app(env ls:List AVal)(σ:Store)(k:Nat)(x:Opd)(y:Opd):step P env ls σ (.app k x y)=((rd σ (y.eval env ls)).bind fun ys=>append k (x.eval env ls) ys σ):=by
 unfold step;simp only[stepOp];exact lim_const _
theorem s_appz(env ls:List AVal)(σ:Store)(k:Nat)(zero:AVal)(x:Opd)(n:Opd):step P env ls σ (.appz k zero x n)=((asNat (n.eval env ls)).bind fun m=>if ncells zero=k∧m≤most then append k (x.eval env ls) (List.replicate m zero) σ else none):=by
 unfold step;simp only[stepOp];exact lim_const _
theorem s_copy(env ls:List AVal)(σ:Store)(k:Nat)(x:Opd)(y:Opd):step P env ls σ (.copy k x y)=((rdMin σ (dlen (x.eval env ls)) (y.eval env ls)).bind fun ys=>(copyV σ k ys (x.eval env ls)).map fun σ'=>(.int .i64 (ys.length:Int),σ')):=by
 unfold step;simp only[stepOp];exact lim_const _
theorem s_mins(env ls:List AVal)(σ:Store)(x:Opd)(xs:List Opd):step P env ls σ (.mins x xs)=((minmax true (x.eval env ls) (xs.map (·.eval env ls))).map (·,σ)):=by
 unfold step;simp only[stepOp];exact lim_const _
theorem s_maxs(env ls:List AVal)(σ:Store)(x:Opd)(xs:List Opd):step P env ls σ (.maxs x xs)=((minmax false (x.eval env ls) (xs.map (·.eval env ls))).map (·,σ)):=by
 unfold step;simp only[stepOp];exact lim_const _
theorem s_mkfn(env ls:List AVal)(σ:Store)(f:Nat)(first:List Opd)(cap:List Opd):step P env ls σ (.mkfn f first cap)=(some (.fn f (first.map (·.eval env ls)) (cap.map (·.eval env ls)),σ)):=by
 unfold step;simp only[stepOp];exact lim_const _
theorem s_ext(env ls:List AVal)(σ:Store)(i:Nat)(x:Opd):step P env ls σ (.ext i x)=((extV i (x.eval env ls)).map (·,σ)):=by
 unfold step;simp only[stepOp];exact lim_const _
theorem s_nilck(env ls:List AVal)(σ:Store)(x:Opd):step P env ls σ (.nilck x)=((nilckV σ (x.eval env ls)).map (·,σ)):=by
 unfold step;simp only[stepOp];exact lim_const _
theorem s_mkmap(env ls:List AVal)(σ:Store)  : step P env ls σ (.mkmap)=(some (.mp σ.length,σ++[.map []])):=by
 unfold step;simp only[stepOp];exact lim_const _
theorem s_mput(env ls:List AVal)(σ:Store)(m:Opd)(k:Opd)(v:Opd):step P env ls σ (.mput m k v)=((mputV σ (k.eval env ls) (v.eval env ls) (m.eval env ls)).map (.any,·)):=by
 unfold step;simp only[stepOp];exact lim_const _
theorem s_look(env ls:List AVal)(σ:Store)(zero:AVal)(ok:Bool)(m:Opd)(k:Opd):step P env ls σ (.look zero ok m k)=(if isKey (k.eval env ls) then (mapOf σ (m.eval env ls)).bind fun es=>(lookup (k.eval env ls) es).map fun r=>(if ok then .tup [r.getD zero,.bool r.isSome] else r.getD zero,σ) else none):=by
 unfold step;simp only[stepOp];exact lim_const _
theorem s_mlen(env ls:List AVal)(σ:Store)(m:Opd):step P env ls σ (.mlen m)=((mapOf σ (m.eval env ls)).map fun es=>(.int .i64 (es.length:Int),σ)):=by
 unfold step;simp only[stepOp];exact lim_const _
theorem s_clr(env ls:List AVal)(σ:Store)(zero:AVal)(x:Opd):step P env ls σ (.clr zero x)=((clrV σ zero (x.eval env ls)).map (.any,·)):=by
 unfold step;simp only[stepOp];exact lim_const _
theorem s_bad(env ls:List AVal)(σ:Store)  : step P env ls σ (.bad)=(none):=by
 unfold step;simp only[stepOp];exact lim_const _
end
end Go.AM
namespace Go.AM
def Mode.isPure:Mode→Bool
 | .pure|.fresh _=>true
 | _=>false
theorem fz_idem(σ τ:Store):∀ (n:Nat) (v:AVal),fz true false 0 τ n (fz true false 0 σ n v)=fz true false 0 σ n v:=by
 intro n
 induction n with
 | zero=>intro v;rfl
 | succ n ih=>
  intro v
  have hl:∀ l:List AVal,(l.map (fz true false 0 σ n)).map (fz true false 0 τ n)=l.map (fz true false 0 σ n):=fun l=>by
   rw[List.map_map];exact List.map_congr_left fun x _=>ih x
  cases v with
  | agg cs=>simp only[fz];rw[hl]
  | tup cs=>simp only[fz];rw[hl]
  | fn f a c=>simp only[fz];rw[hl,hl]
  | imm b xs=>cases b<;>simp[fz]
  | cptr b x o=>
   cases b
   ·simp[fz]
   ·by_cases h:ncells (fz true false 0 σ n x)=ncells x
    ·simp[fz,cptrAt,h,ih]
    ·simp[fz,cptrAt,h]
  | imap b xs=>cases b<;>simp[fz]
  | lst xs=>
   by_cases h:(xs.map (fz true false 0 σ n)).map ncells=xs.map ncells
   ·simp only[fz,listAt,if_pos h];rfl
   ·simp only[fz,listAt,if_neg h]
  | sl id ep off len=>
   simp only[fz,Nat.not_lt_zero,if_false]
   cases sliceAt σ id ep off len with
   | none=>simp[fz]
   | some l=>
    by_cases h:(l.map (fz true false 0 σ n)).map ncells=l.map ncells
    ·simp only[Option.elim,listAt,if_pos h,fz];rfl
    ·simp only[Option.elim,listAt,if_neg h,fz]
  | ptr id ep i off=>
   simp only[fz,Nat.not_lt_zero,if_false]
   cases elemAt σ id ep i with
   | none=>simp[fz]
   | some x=>
    by_cases h:ncells (fz true false 0 σ n x)=ncells x
    ·simp[fz,cptrAt,h,ih]
    ·simp[fz,cptrAt,h]
  | asl id ep i off m=>simp[fz]
  | mp id=>
   simp only[fz,Nat.not_lt_zero,if_false]
   cases entriesAt σ id<;>simp[fz]
  | yld l s e=>
   simp[fz]
  | _=>simp[fz]
theorem snap_idem(σ τ:Store)(v:AVal):snap τ (snap σ v)=snap σ v:=fz_idem σ τ fuel v
section
variable {P:Code} (hP:P.Good)
include hP
theorem acall_pureP{f:Nat}{g:AFunc}(h:P.fns f=.fn g)(hm:g.mode.isPure=true)(args:List AVal)(σ:Store) :
  acall P f args σ=((acall P f (args.map (snap σ)) []).map (·.1)).map (·,σ):=by
 rw[acall_fn hP h,acall_fn hP h]
 have he:enter g args σ=enter g (args.map (snap σ)) []:=by
  have h1:((args.map (snap σ)).take g.np).map (snap [])=(args.take g.np).map (snap σ):=by
   rw[← List.map_take,List.map_map];exact List.map_congr_left fun x _=>snap_idem σ [] x
  unfold enter
  cases hg:g.mode<;>rw[hg]at hm<;>first|exact absurd hm (by decide)|(simp only[h1])
 rw[he]
 cases run P g.body (enter g (args.map (snap σ)) []) with
 | none=>rfl
 | some r=>
  obtain ⟨e,s⟩:=r
  have key:(results s g.res).map (fun v=>finish g.mode σ s v)=(((results s g.res).map fun v=>finish g.mode [] s v).map (·.1)).map (·,σ):=by
   cases results s g.res with
   | none=>rfl
   | some v=>
    cases hg:g.mode<;>rw[hg]at hm<;>first|exact absurd hm (by decide)|rfl
  cases e with
  | ext _=>rfl
  | nrm=>exact key
  | ret=>exact key
theorem pcall_ofP{f:Nat}{g:AFunc}(h:P.fns f=.fn g)(hm:g.mode.isPure=true)(args:List AVal) :
  (acall P f args []).map (·.1)=(run P g.body ⟨(args.take g.np).map (snap [])++List.replicate (g.nenv - g.np) .any,[]⟩).bind fun r=>match r.1 with
   | .ext _=>none
   | _=>(results r.2 g.res).map fun v=>(finish g.mode [] r.2 v).1:=by
 rw[acall_fn hP h]
 have he:enter g args []=⟨(args.take g.np).map (snap [])++List.replicate (g.nenv - g.np) .any,[]⟩:=by
  unfold enter
  cases hg:g.mode<;>rw[hg]at hm<;>first|exact absurd hm (by decide)|rfl
 rw[he]
 cases run P g.body _ with
 | none=>rfl
 | some r=>
  obtain ⟨e,s⟩:=r
  cases e with
  | ext _=>rfl
  | nrm=>show ((results s g.res).map _).map _=_;rw[Option.map_map];rfl
  | ret=>show ((results s g.res).map _).map _=_;rw[Option.map_map];rfl
end
end Go.AM
section
set_option maxRecDepth 8000
namespace Go.AM
theorem good:code.Good:=prims_good
noncomputable def pcall(f:Nat)(args:List AVal):Option AVal:=(acall code f args []).map (·.1)
theorem acall_pure{f:Nat}{g:AFunc}(h:code.fns f=.fn g)(hm:g.mode.isPure=true)(args:List AVal)(σ:Store) :
  acall code f args σ=(pcall f (args.map (snap σ))).map (·,σ):=acall_pureP good h hm args σ
abbrev PureAt(f:Nat):Prop:=∀ (args:List AVal) (σ:Store),acall code f args σ=(pcall f (args.map (snap σ))).map (·,σ)
theorem pcall_of{f:Nat}{g:AFunc}(h:code.fns f=.fn g)(hm:g.mode.isPure=true)(args:List AVal) :
  pcall f args=(run code g.body ⟨(args.take g.np).map (snap [])++List.replicate (g.nenv - g.np) .any,[]⟩).bind fun r=>match r.1 with
   | .ext _=>none
   | _=>(results r.2 g.res).map fun v=>(finish g.mode [] r.2 v).1:=pcall_ofP good h hm args
theorem c_qai:code.fns 6=.fn P.f_qai:=rfl
@[simp] theorem a_qai:PureAt 6:=acall_pure c_qai rfl
theorem c_qu:code.fns 7=.fn P.f_qu:=rfl
@[simp] theorem a_qu:PureAt 7:=acall_pure c_qu rfl
theorem c_qah:code.fns 9=.fn P.f_qah:=rfl
theorem c_qz:code.fns 10=.fn P.f_qz:=rfl
@[simp] theorem a_qz:PureAt 10:=acall_pure c_qz rfl
theorem c_qaf:code.fns 11=.fn P.f_qaf:=rfl
@[simp] theorem a_qaf:PureAt 11:=acall_pure c_qaf rfl
theorem c_qbm:code.fns 16=.fn P.f_qbm:=rfl
@[simp] theorem a_qbm:PureAt 16:=acall_pure c_qbm rfl
theorem c_qbn:code.fns 17=.fn P.f_qbn:=rfl
@[simp] theorem a_qbn:PureAt 17:=acall_pure c_qbn rfl
theorem c_qad:code.fns 18=.fn P.f_qad:=rfl
@[simp] theorem a_qad:PureAt 18:=acall_pure c_qad rfl
theorem c_qay:code.fns 19=.fn P.f_qay:=rfl
@[simp] theorem a_qay:PureAt 19:=acall_pure c_qay rfl
theorem c_qeq:code.fns 20=.fn P.f_qeq:=rfl
@[simp] theorem a_qeq:PureAt 20:=acall_pure c_qeq rfl
theorem c_qeu:code.fns 29=.fn P.f_qeu:=rfl
@[simp] theorem a_qeu:PureAt 29:=acall_pure c_qeu rfl
theorem c_qdt:code.fns 37=.fn P.f_qdt:=rfl
@[simp] theorem a_qdt:PureAt 37:=acall_pure c_qdt rfl
theorem c_qab:code.fns 38=.fn P.f_qab:=rfl
@[simp] theorem a_qab:PureAt 38:=acall_pure c_qab rfl
theorem c_qaa:code.fns 39=.fn P.f_qaa:=rfl
theorem c_qbi:code.fns 41=.fn P.f_qbi:=rfl
@[simp] theorem a_qbi:PureAt 41:=acall_pure c_qbi rfl
theorem c_qfv:code.fns 42=.fn P.f_qfv:=rfl
@[simp] theorem a_qfv:PureAt 42:=acall_pure c_qfv rfl
theorem c_qet:code.fns 44=.fn P.f_qet:=rfl
@[simp] theorem a_qet:PureAt 44:=acall_pure c_qet rfl
theorem c_qag:code.fns 45=.fn P.f_qag:=rfl
@[simp] theorem a_qag:PureAt 45:=acall_pure c_qag rfl
theorem c_qac:code.fns 46=.fn P.f_qac:=rfl
@[simp] theorem a_qac:PureAt 46:=acall_pure c_qac rfl
theorem c_qv:code.fns 47=.fn P.f_qv:=rfl
theorem c_qx:code.fns 48=.fn P.f_qx:=rfl
theorem c_qy:code.fns 49=.fn P.f_qy:=rfl
theorem c_qce:code.fns 50=.fn P.f_qce:=rfl
@[simp] theorem a_qce:PureAt 50:=acall_pure c_qce rfl
theorem c_qbp:code.fns 51=.fn P.f_qbp:=rfl
@[simp] theorem a_qbp:PureAt 51:=acall_pure c_qbp rfl
theorem c_qbs:code.fns 52=.fn P.f_qbs:=rfl
@[simp] theorem a_qbs:PureAt 52:=acall_pure c_qbs rfl
theorem c_qfi:code.fns 61=.fn P.f_qfi:=rfl
@[simp] theorem a_qfi:PureAt 61:=acall_pure c_qfi rfl
theorem c_qfk:code.fns 62=.nilfn P.f_qfk:=rfl
theorem c_qff:code.fns 64=.fn P.f_qff:=rfl
theorem c_qes:code.fns 65=.fn P.f_qes:=rfl
@[simp] theorem a_qes:PureAt 65:=acall_pure c_qes rfl
theorem c_qer:code.fns 66=.fn P.f_qer:=rfl
@[simp] theorem a_qer:PureAt 66:=acall_pure c_qer rfl
theorem c_qex:code.fns 68=.fn P.f_qex:=rfl
@[simp] theorem a_qex:PureAt 68:=acall_pure c_qex rfl
theorem c_qev:code.fns 69=.fn P.f_qev:=rfl
@[simp] theorem a_qev:PureAt 69:=acall_pure c_qev rfl
theorem c_qbb:code.fns 70=.fn P.f_qbb:=rfl
@[simp] theorem a_qbb:PureAt 70:=acall_pure c_qbb rfl
theorem c_qcu:code.fns 71=.fn P.f_qcu:=rfl
@[simp] theorem a_qcu:PureAt 71:=acall_pure c_qcu rfl
theorem c_qbv:code.fns 75=.fn P.f_qbv:=rfl
@[simp] theorem a_qbv:PureAt 75:=acall_pure c_qbv rfl
theorem c_qfy:code.fns 77=.fn P.f_qfy:=rfl
@[simp] theorem a_qfy:PureAt 77:=acall_pure c_qfy rfl
theorem c_qfb:code.fns 79=.fn P.f_qfb:=rfl
@[simp] theorem a_qfb:PureAt 79:=acall_pure c_qfb rfl
theorem c_qfh:code.fns 80=.fn P.f_qfh:=rfl
@[simp] theorem a_qfh:PureAt 80:=acall_pure c_qfh rfl
theorem c_qfn:code.fns 95=.nilfn P.f_qfn:=rfl
theorem c_qej:code.fns 96=.fn P.f_qej:=rfl
theorem c_qdu:code.fns 97=.fn P.f_qdu:=rfl
@[simp] theorem a_qdu:PureAt 97:=acall_pure c_qdu rfl
theorem c_qfu:code.fns 110=.fn P.f_qfu:=rfl
@[simp] theorem a_qfu:PureAt 110:=acall_pure c_qfu rfl
theorem c_qbj:code.fns 111=.fn P.f_qbj:=rfl
@[simp] theorem a_qbj:PureAt 111:=acall_pure c_qbj rfl
theorem c_qgh:code.fns 112=.fn P.f_qgh:=rfl
@[simp] theorem a_qgh:PureAt 112:=acall_pure c_qgh rfl
theorem c_qfl:code.fns 114=.nilfn P.f_qfl:=rfl
theorem c_qga:code.fns 115=.fn P.f_qga:=rfl
@[simp] theorem a_qga:PureAt 115:=acall_pure c_qga rfl
theorem c_qey:code.fns 116=.fn P.f_qey:=rfl
@[simp] theorem a_qey:PureAt 116:=acall_pure c_qey rfl
theorem c_qw:code.fns 117=.fn P.f_qw:=rfl
@[simp] theorem a_qw:PureAt 117:=acall_pure c_qw rfl
theorem c_qbq:code.fns 118=.fn P.f_qbq:=rfl
@[simp] theorem a_qbq:PureAt 118:=acall_pure c_qbq rfl
theorem c_qby:code.fns 119=.fn P.f_qby:=rfl
@[simp] theorem a_qby:PureAt 119:=acall_pure c_qby rfl
theorem c_qcf:code.fns 120=.fn P.f_qcf:=rfl
@[simp] theorem a_qcf:PureAt 120:=acall_pure c_qcf rfl
theorem c_qbt:code.fns 121=.fn P.f_qbt:=rfl
@[simp] theorem a_qbt:PureAt 121:=acall_pure c_qbt rfl
theorem c_qez:code.fns 138=.fn P.f_qez:=rfl
@[simp] theorem a_qez:PureAt 138:=acall_pure c_qez rfl
theorem c_qew:code.fns 139=.fn P.f_qew:=rfl
@[simp] theorem a_qew:PureAt 139:=acall_pure c_qew rfl
theorem c_qfc:code.fns 140=.fn P.f_qfc:=rfl
@[simp] theorem a_qfc:PureAt 140:=acall_pure c_qfc rfl
theorem c_qat:code.fns 141=.fn P.f_qat:=rfl
@[simp] theorem a_qat:PureAt 141:=acall_pure c_qat rfl
theorem c_qfq:code.fns 142=.fn P.f_qfq:=rfl
@[simp] theorem a_qfq:PureAt 142:=acall_pure c_qfq rfl
theorem c_qfj:code.fns 143=.fn P.f_qfj:=rfl
@[simp] theorem a_qfj:PureAt 143:=acall_pure c_qfj rfl
theorem c_qgc:code.fns 144=.fn P.f_qgc:=rfl
@[simp] theorem a_qgc:PureAt 144:=acall_pure c_qgc rfl
theorem c_qfg:code.fns 145=.fn P.f_qfg:=rfl
theorem c_qdf:code.fns 146=.fn P.f_qdf:=rfl
@[simp] theorem a_qdf:PureAt 146:=acall_pure c_qdf rfl
theorem c_qgm:code.fns 147=.fn P.f_qgm:=rfl
@[simp] theorem a_qgm:PureAt 147:=acall_pure c_qgm rfl
theorem c_qbl:code.fns 148=.fn P.f_qbl:=rfl
@[simp] theorem a_qbl:PureAt 148:=acall_pure c_qbl rfl
theorem c_qgw:code.fns 149=.fn P.f_qgw:=rfl
@[simp] theorem a_qgw:PureAt 149:=acall_pure c_qgw rfl
theorem c_qc:code.fns 150=.fn P.f_qc:=rfl
@[simp] theorem a_qc:PureAt 150:=acall_pure c_qc rfl
theorem c_qgn:code.fns 151=.fn P.f_qgn:=rfl
@[simp] theorem a_qgn:PureAt 151:=acall_pure c_qgn rfl
theorem c_qfx:code.fns 152=.fn P.f_qfx:=rfl
@[simp] theorem a_qfx:PureAt 152:=acall_pure c_qfx rfl
theorem c_qbc:code.fns 153=.fn P.f_qbc:=rfl
@[simp] theorem a_qbc:PureAt 153:=acall_pure c_qbc rfl
theorem c_qbd:code.fns 154=.fn P.f_qbd:=rfl
@[simp] theorem a_qbd:PureAt 154:=acall_pure c_qbd rfl
theorem c_qgk:code.fns 160=.fn P.f_qgk:=rfl
@[simp] theorem a_qgk:PureAt 160:=acall_pure c_qgk rfl
theorem c_qbw:code.fns 161=.fn P.f_qbw:=rfl
@[simp] theorem a_qbw:PureAt 161:=acall_pure c_qbw rfl
theorem c_qfd:code.fns 163=.fn P.f_qfd:=rfl
@[simp] theorem a_qfd:PureAt 163:=acall_pure c_qfd rfl
theorem c_qcw:code.fns 172=.fn P.f_qcw:=rfl
@[simp] theorem a_qcw:PureAt 172:=acall_pure c_qcw rfl
theorem c_qef:code.fns 177=.fn P.f_qef:=rfl
theorem c_qdz:code.fns 178=.fn P.f_qdz:=rfl
theorem c_qeb:code.fns 179=.fn P.f_qeb:=rfl
theorem c_qdw:code.fns 180=.fn P.f_qdw:=rfl
theorem c_qdy:code.fns 181=.fn P.f_qdy:=rfl
theorem c_qed:code.fns 182=.fn P.f_qed:=rfl
theorem c_qdx:code.fns 183=.fn P.f_qdx:=rfl
theorem c_qee:code.fns 184=.fn P.f_qee:=rfl
theorem c_qec:code.fns 185=.fn P.f_qec:=rfl
theorem c_qek:code.fns 186=.fn P.f_qek:=rfl
theorem c_qeh:code.fns 187=.fn P.f_qeh:=rfl
theorem c_qfz:code.fns 188=.fn P.f_qfz:=rfl
@[simp] theorem a_qfz:PureAt 188:=acall_pure c_qfz rfl
theorem c_qdv:code.fns 189=.fn P.f_qdv:=rfl
@[simp] theorem a_qdv:PureAt 189:=acall_pure c_qdv rfl
theorem c_qel:code.fns 190=.fn P.f_qel:=rfl
@[simp] theorem a_qel:PureAt 190:=acall_pure c_qel rfl
theorem c_qcs:code.fns 191=.fn P.f_qcs:=rfl
@[simp] theorem a_qcs:PureAt 191:=acall_pure c_qcs rfl
theorem c_qgg:code.fns 196=.fn P.f_qgg:=rfl
@[simp] theorem a_qgg:PureAt 196:=acall_pure c_qgg rfl
theorem c_qen:code.fns 197=.fn P.f_qen:=rfl
@[simp] theorem a_qen:PureAt 197:=acall_pure c_qen rfl
theorem c_qbz:code.fns 200=.fn P.f_qbz:=rfl
theorem c_qm:code.fns 201=.fn P.f_qm:=rfl
@[simp] theorem a_qm:PureAt 201:=acall_pure c_qm rfl
theorem c_qhb:code.fns 202=.fn P.f_qhb:=rfl
@[simp] theorem a_qhb:PureAt 202:=acall_pure c_qhb rfl
theorem c_qcx:code.fns 203=.fn P.f_qcx:=rfl
@[simp] theorem a_qcx:PureAt 203:=acall_pure c_qcx rfl
theorem c_qdk:code.fns 204=.fn P.f_qdk:=rfl
@[simp] theorem a_qdk:PureAt 204:=acall_pure c_qdk rfl
theorem c_qdc:code.fns 205=.fn P.f_qdc:=rfl
@[simp] theorem a_qdc:PureAt 205:=acall_pure c_qdc rfl
theorem c_qhe:code.fns 206=.fn P.f_qhe:=rfl
@[simp] theorem a_qhe:PureAt 206:=acall_pure c_qhe rfl
theorem c_qcv:code.fns 207=.fn P.f_qcv:=rfl
@[simp] theorem a_qcv:PureAt 207:=acall_pure c_qcv rfl
theorem c_qs:code.fns 208=.fn P.f_qs:=rfl
@[simp] theorem a_qs:PureAt 208:=acall_pure c_qs rfl
theorem c_qp:code.fns 209=.fn P.f_qp:=rfl
@[simp] theorem a_qp:PureAt 209:=acall_pure c_qp rfl
theorem c_qn:code.fns 210=.fn P.f_qn:=rfl
@[simp] theorem a_qn:PureAt 210:=acall_pure c_qn rfl
theorem c_qct:code.fns 211=.fn P.f_qct:=rfl
@[simp] theorem a_qct:PureAt 211:=acall_pure c_qct rfl
theorem c_qg:code.fns 212=.fn P.f_qg:=rfl
@[simp] theorem a_qg:PureAt 212:=acall_pure c_qg rfl
theorem c_qbu:code.fns 213=.fn P.f_qbu:=rfl
@[simp] theorem a_qbu:PureAt 213:=acall_pure c_qbu rfl
theorem c_qeo:code.fns 214=.fn P.f_qeo:=rfl
@[simp] theorem a_qeo:PureAt 214:=acall_pure c_qeo rfl
theorem c_qf:code.fns 215=.fn P.f_qf:=rfl
@[simp] theorem a_qf:PureAt 215:=acall_pure c_qf rfl
theorem c_qfa:code.fns 230=.fn P.f_qfa:=rfl
@[simp] theorem a_qfa:PureAt 230:=acall_pure c_qfa rfl
theorem c_qap:code.fns 242=.fn P.f_qap:=rfl
@[simp] theorem a_qap:PureAt 242:=acall_pure c_qap rfl
theorem c_qaq:code.fns 243=.fn P.f_qaq:=rfl
@[simp] theorem a_qaq:PureAt 243:=acall_pure c_qaq rfl
theorem c_qas:code.fns 244=.fn P.f_qas:=rfl
@[simp] theorem a_qas:PureAt 244:=acall_pure c_qas rfl
theorem c_qar:code.fns 245=.fn P.f_qar:=rfl
@[simp] theorem a_qar:PureAt 245:=acall_pure c_qar rfl
theorem c_qdb:code.fns 246=.fn P.f_qdb:=rfl
@[simp] theorem a_qdb:PureAt 246:=acall_pure c_qdb rfl
theorem c_qdo:code.fns 247=.fn P.f_qdo:=rfl
@[simp] theorem a_qdo:PureAt 247:=acall_pure c_qdo rfl
theorem c_qgj:code.fns 248=.fn P.f_qgj:=rfl
@[simp] theorem a_qgj:PureAt 248:=acall_pure c_qgj rfl
theorem c_qgb:code.fns 253=.fn P.f_qgb:=rfl
@[simp] theorem a_qgb:PureAt 253:=acall_pure c_qgb rfl
theorem c_qbx:code.fns 254=.fn P.f_qbx:=rfl
@[simp] theorem a_qbx:PureAt 254:=acall_pure c_qbx rfl
theorem c_qgs:code.fns 255=.fn P.f_qgs:=rfl
@[simp] theorem a_qgs:PureAt 255:=acall_pure c_qgs rfl
theorem c_qhg:code.fns 256=.fn P.f_qhg:=rfl
@[simp] theorem a_qhg:PureAt 256:=acall_pure c_qhg rfl
theorem c_qds:code.fns 257=.fn P.f_qds:=rfl
@[simp] theorem a_qds:PureAt 257:=acall_pure c_qds rfl
theorem c_qfw:code.fns 259=.fn P.f_qfw:=rfl
@[simp] theorem a_qfw:PureAt 259:=acall_pure c_qfw rfl
theorem c_qfe:code.fns 260=.fn P.f_qfe:=rfl
@[simp] theorem a_qfe:PureAt 260:=acall_pure c_qfe rfl
theorem c_qeg:code.fns 272=.fn P.f_qeg:=rfl
@[simp] theorem a_qeg:PureAt 272:=acall_pure c_qeg rfl
theorem c_qea:code.fns 273=.fn P.f_qea:=rfl
@[simp] theorem a_qea:PureAt 273:=acall_pure c_qea rfl
theorem c_qem:code.fns 274=.fn P.f_qem:=rfl
@[simp] theorem a_qem:PureAt 274:=acall_pure c_qem rfl
theorem c_qft:code.fns 275=.fn P.f_qft:=rfl
@[simp] theorem a_qft:PureAt 275:=acall_pure c_qft rfl
theorem c_qcy:code.fns 276=.fn P.f_qcy:=rfl
@[simp] theorem a_qcy:PureAt 276:=acall_pure c_qcy rfl
theorem c_qei:code.fns 277=.fn P.f_qei:=rfl
@[simp] theorem a_qei:PureAt 277:=acall_pure c_qei rfl
theorem c_qgl:code.fns 278=.fn P.f_qgl:=rfl
@[simp] theorem a_qgl:PureAt 278:=acall_pure c_qgl rfl
theorem c_qca:code.fns 280=.fn P.f_qca:=rfl
theorem c_qfp:code.fns 281=.fn P.f_qfp:=rfl
theorem c_qj:code.fns 284=.fn P.f_qj:=rfl
@[simp] theorem a_qj:PureAt 284:=acall_pure c_qj rfl
theorem c_qgz:code.fns 285=.fn P.f_qgz:=rfl
@[simp] theorem a_qgz:PureAt 285:=acall_pure c_qgz rfl
theorem c_qa:code.fns 287=.fn P.f_qa:=rfl
@[simp] theorem a_qa:PureAt 287:=acall_pure c_qa rfl
theorem c_qk:code.fns 288=.fn P.f_qk:=rfl
@[simp] theorem a_qk:PureAt 288:=acall_pure c_qk rfl
theorem c_qh:code.fns 289=.fn P.f_qh:=rfl
@[simp] theorem a_qh:PureAt 289:=acall_pure c_qh rfl
theorem c_qd:code.fns 290=.fn P.f_qd:=rfl
@[simp] theorem a_qd:PureAt 290:=acall_pure c_qd rfl
theorem c_qgu:code.fns 291=.fn P.f_qgu:=rfl
@[simp] theorem a_qgu:PureAt 291:=acall_pure c_qgu rfl
theorem c_qgx:code.fns 293=.fn P.f_qgx:=rfl
@[simp] theorem a_qgx:PureAt 293:=acall_pure c_qgx rfl
theorem c_qgp:code.fns 294=.fn P.f_qgp:=rfl
@[simp] theorem a_qgp:PureAt 294:=acall_pure c_qgp rfl
theorem c_qhc:code.fns 295=.fn P.f_qhc:=rfl
@[simp] theorem a_qhc:PureAt 295:=acall_pure c_qhc rfl
theorem c_qdl:code.fns 297=.fn P.f_qdl:=rfl
theorem c_qau:code.fns 316=.fn P.f_qau:=rfl
@[simp] theorem a_qau:PureAt 316:=acall_pure c_qau rfl
theorem c_qav:code.fns 317=.fn P.f_qav:=rfl
@[simp] theorem a_qav:PureAt 317:=acall_pure c_qav rfl
theorem c_qax:code.fns 318=.fn P.f_qax:=rfl
@[simp] theorem a_qax:PureAt 318:=acall_pure c_qax rfl
theorem c_qaw:code.fns 319=.fn P.f_qaw:=rfl
@[simp] theorem a_qaw:PureAt 319:=acall_pure c_qaw rfl
theorem c_qgi:code.fns 320=.fn P.f_qgi:=rfl
@[simp] theorem a_qgi:PureAt 320:=acall_pure c_qgi rfl
theorem c_qgr:code.fns 321=.fn P.f_qgr:=rfl
@[simp] theorem a_qgr:PureAt 321:=acall_pure c_qgr rfl
theorem c_qgf:code.fns 339=.fn P.f_qgf:=rfl
theorem c_qcz:code.fns 340=.fn P.f_qcz:=rfl
@[simp] theorem a_qcz:PureAt 340:=acall_pure c_qcz rfl
theorem c_qdm:code.fns 341=.fn P.f_qdm:=rfl
@[simp] theorem a_qdm:PureAt 341:=acall_pure c_qdm rfl
theorem c_qdq:code.fns 342=.fn P.f_qdq:=rfl
@[simp] theorem a_qdq:PureAt 342:=acall_pure c_qdq rfl
theorem c_qhh:code.fns 343=.fn P.f_qhh:=rfl
@[simp] theorem a_qhh:PureAt 343:=acall_pure c_qhh rfl
theorem c_qgy:code.fns 344=.fn P.f_qgy:=rfl
@[simp] theorem a_qgy:PureAt 344:=acall_pure c_qgy rfl
theorem c_qde:code.fns 345=.fn P.f_qde:=rfl
@[simp] theorem a_qde:PureAt 345:=acall_pure c_qde rfl
theorem c_qhi:code.fns 346=.fn P.f_qhi:=rfl
@[simp] theorem a_qhi:PureAt 346:=acall_pure c_qhi rfl
theorem c_qha:code.fns 347=.fn P.f_qha:=rfl
@[simp] theorem a_qha:PureAt 347:=acall_pure c_qha rfl
theorem c_qdj:code.fns 348=.fn P.f_qdj:=rfl
@[simp] theorem a_qdj:PureAt 348:=acall_pure c_qdj rfl
theorem c_qo:code.fns 349=.fn P.f_qo:=rfl
@[simp] theorem a_qo:PureAt 349:=acall_pure c_qo rfl
theorem c_qb:code.fns 350=.fn P.f_qb:=rfl
@[simp] theorem a_qb:PureAt 350:=acall_pure c_qb rfl
theorem c_ql:code.fns 351=.fn P.f_ql:=rfl
@[simp] theorem a_ql:PureAt 351:=acall_pure c_ql rfl
theorem c_qi:code.fns 352=.fn P.f_qi:=rfl
@[simp] theorem a_qi:PureAt 352:=acall_pure c_qi rfl
theorem c_qe:code.fns 353=.fn P.f_qe:=rfl
@[simp] theorem a_qe:PureAt 353:=acall_pure c_qe rfl
theorem c_qgv:code.fns 354=.fn P.f_qgv:=rfl
@[simp] theorem a_qgv:PureAt 354:=acall_pure c_qgv rfl
theorem c_qdh:code.fns 355=.fn P.f_qdh:=rfl
@[simp] theorem a_qdh:PureAt 355:=acall_pure c_qdh rfl
theorem c_qgq:code.fns 356=.fn P.f_qgq:=rfl
@[simp] theorem a_qgq:PureAt 356:=acall_pure c_qgq rfl
theorem c_qhd:code.fns 357=.fn P.f_qhd:=rfl
@[simp] theorem a_qhd:PureAt 357:=acall_pure c_qhd rfl
theorem c_qfm:code.fns 358=.nilfn P.f_qfm:=rfl
theorem c_qdn:code.fns 374=.fn P.f_qdn:=rfl
theorem c_qda:code.fns 375=.fn P.f_qda:=rfl
@[simp] theorem a_qda:PureAt 375:=acall_pure c_qda rfl
theorem c_qgt:code.fns 386=.fn P.f_qgt:=rfl
@[simp] theorem a_qgt:PureAt 386:=acall_pure c_qgt rfl
theorem c_qhj:code.fns 387=.fn P.f_qhj:=rfl
@[simp] theorem a_qhj:PureAt 387:=acall_pure c_qhj rfl
theorem c_qhk:code.fns 388=.fn P.f_qhk:=rfl
@[simp] theorem a_qhk:PureAt 388:=acall_pure c_qhk rfl
theorem c_qq:code.fns 389=.fn P.f_qq:=rfl
@[simp] theorem a_qq:PureAt 389:=acall_pure c_qq rfl
theorem c_qr:code.fns 390=.fn P.f_qr:=rfl
@[simp] theorem a_qr:PureAt 390:=acall_pure c_qr rfl
theorem c_qgo:code.fns 398=.fn P.f_qgo:=rfl
@[simp] theorem a_qgo:PureAt 398:=acall_pure c_qgo rfl
theorem c_qdr:code.fns 401=.fn P.f_qdr:=rfl
@[simp] theorem a_qdr:PureAt 401:=acall_pure c_qdr rfl
theorem c_qt:code.fns 406=.fn P.f_qt:=rfl
theorem c_slices_Sort_int_int:code.fns 282=.prim 2:=rfl
end Go.AM
end
namespace Go.AM
noncomputable def thenRun(b:ACode)(r:Option (Ex×St)):Option (Ex×St):=r.bind fun r=>match r.1 with
 | .nrm=>run code b r.2
 | e=>some (e,r.2)
noncomputable def thenOps(env:List AVal)(is:List Ins)(ls:List AVal)(q:Option (AVal×Store)):Option (List AVal×Store):=
 q.bind fun q=>runOps code env is (ls++[q.1]) q.2
noncomputable def whenOps(env:List AVal)(i:Ins)(is:List Ins)(ls:List AVal)(σ:Store)(t:Option Bool):Option (List AVal×Store):=
 match t with
 | some true=>thenOps env is ls (step code env ls σ i.op)
 | some false=>runOps code env is (ls++[.tup []]) σ
 | none=>none
def thenOut(env:List AVal)(os:List (Nat×Opd))(r:Option (List AVal×Store)):Option (Ex×St):=
 r.map fun r=>(.nrm,⟨outs env env r.1 os,r.2⟩)
def thenBlk(id:Nat)(r:Option (Ex×St)):Option (Ex×St):=r.map fun r=>match r.1 with
 | .ext j=>if j=id then (.nrm,r.2) else r
 | _=>r
noncomputable def condRun(a b:ACode)(s:St)(c:AVal):Option (Ex×St):=match c with
 | .bool true=>run code a s
 | .bool false=>run code b s
 | _=>none
noncomputable def thenLoop(base:Nat)(clr:List Nat)(b:ACode)(r:Option (Ex×St)):Option (Ex×St):=r.bind fun r=>match r.1 with
 | .nrm=>rounds code base clr b (roundEnd base clr r.2)
 | e=>some (e,r.2)
def thenRng(l:Nat)(env:List AVal)(r:Option (AVal×Store)):Option (Ex×St):=r.bind fun r=>jumped l env r.2
noncomputable def thenLift(env:List AVal)(b:ACode)(r:Option Store):Option (Ex×St):=r.bind fun σ=>run code b ⟨env,σ⟩
noncomputable def thenT(env:List AVal)(is:List Ins)(ls:List AVal)(ss:List Store)(q:Option (AVal×Store)):Option (List AVal×List Store×Store):=
 q.bind fun q=>runT code env is (ls++[q.1]) ss q.2
noncomputable def whenT(env:List AVal)(i:Ins)(is:List Ins)(ls:List AVal)(ss:List Store)(σ:Store)(t:Option Bool):Option (List AVal×List Store×Store):=
 match t with
 | some true=>thenT env is ls (ss++[σ]) (step code env ls σ i.op)
 | some false=>runT code env is (ls++[.tup []]) (ss++[σ]) σ
 | none=>none
noncomputable def thenChk(env:List AVal)(os:List (Nat×Opd))(is:List Ins)(chk:List (Nat×Nat))(r:Option (List AVal×List Store×Store)):Option (Ex×St):=
 r.bind fun r=>(runChk code env r.1 is (r.2.1++[r.2.2]) chk).map fun _=>(.nrm,⟨outs env env r.1 os,r.2.2⟩)
noncomputable def chkNext(env ls:List AVal)(is:List Ins)(ss:List Store)(n:Nat)(τ:Store)(l:List (Nat×Nat))(q:Option (AVal×Store)):Option Unit:=
 q.bind fun q=>if same q.1 (nth ls n)&&sameS q.2 τ then runChk code env ls is ss l else none
noncomputable def chkAt(env ls:List AVal)(is:List Ins)(ss:List Store)(n:Nat)(l:List (Nat×Nat))(i:Option Ins)(t:Option Store):Option Unit:=
 match i,t with
 | some i,some τ=>chkNext env ls is ss n τ l (step code env (ls.take n) τ i.op)
 | _,_=>none
def thenLeave(m:Mode)(res:List Res)(r:Option (Ex×St)):Option AVal:=r.bind fun r=>match r.1 with
 | .ext _=>none
 | _=>(results r.2 res).map fun v=>(finish m [] r.2 v).1
@[simp ↓] theorem R_seq(a b:ACode)(s:St):run code (.seq a b) s=thenRun b (run code a s):=run_seq good a b s
@[simp ↓] theorem R_skip(s:St):run code .skip s=some (.nrm,s):=run_skip good s
@[simp ↓] theorem R_exit(id:Nat)(s:St):run code (.exit id) s=some (.ext id,s):=run_exit good id s
@[simp ↓] theorem R_ret(s:St):run code .ret s=some (.ret,s):=run_ret good s
@[simp ↓] theorem R_reg(is:List Ins)(os:List (Nat×Opd))(env:List AVal)(σ:Store):run code (.reg is os) ⟨env,σ⟩=thenOut env os (runOps code env is [] σ):=run_reg good is os _
@[simp ↓] theorem R_cond(c:Opd)(a b:ACode)(env:List AVal)(σ:Store):run code (.cond c a b) ⟨env,σ⟩=condRun a b ⟨env,σ⟩ (c.eval env []):=by
 rw[run_cond good];rfl
@[simp ↓] theorem R_blk(id:Nat)(b:ACode)(s:St):run code (.blk id b) s=thenBlk id (run code b s):=run_blk good id b s
@[simp ↓] theorem R_scope(b:ACode)(s:St):run code (.scope b) s=run code b s:=run_scope good b s
@[simp ↓] theorem R_loop(clr:List Nat)(b:ACode)(env:List AVal)(σ:Store):run code (.loop clr b) ⟨env,σ⟩=rounds code σ.length clr b ⟨clear env clr,σ⟩:=run_loop good clr b _
@[simp ↓] theorem R_rng(k:Nat)(f:Opd)(site:Nat)(env:List AVal)(σ:Store):run code (.rng k f site) ⟨env,σ⟩=if env.length=k then thenRng σ.length env (acallF code (f.eval env []) [.yld σ.length site env] (σ++[.pend false none])) else none:=run_rng good k f site _
@[simp ↓] theorem R_lift(i off k:Nat)(b:ACode)(env:List AVal)(σ:Store):run code (.lift i off k b) ⟨env,σ⟩=thenLift env b (liftV (nth env i) off k σ):=run_lift good i off k b _
@[simp ↓] theorem R_regd(is:List Ins)(os:List (Nat×Opd))(chk:List (Nat×Nat))(env:List AVal)(σ:Store):run code (.regd is os chk) ⟨env,σ⟩=thenChk env os is chk (runT code env is [] [] σ):=run_regd good is os chk _
@[simp ↓] theorem T_nil(env ls:List AVal)(ss:List Store)(σ:Store):runT code env [] ls ss σ=some (ls,ss,σ):=runT_nil good env ls ss σ
@[simp ↓] theorem T_i(env ls:List AVal)(ss:List Store)(σ:Store)(o:AOp)(is:List Ins):runT code env (P.i o::is) ls ss σ=thenT env is ls (ss++[σ]) (step code env ls σ o):=runT_cons good env _ is ls ss σ
@[simp ↓] theorem T_g(env ls:List AVal)(ss:List Store)(σ:Store)(x:Opd)(b:Bool)(o:AOp)(is:List Ins) :
  runT code env (P.g x b o::is) ls ss σ=whenT env (P.g x b o) is ls ss σ (wanted env ls (some (x,b))):=runT_cons good env _ is ls ss σ
@[simp] theorem whenT_t(env:List AVal)(x:Opd)(b:Bool)(o:AOp)(is:List Ins)(ls:List AVal)(ss:List Store)(σ:Store) :
  whenT env (P.g x b o) is ls ss σ (some true)=thenT env is ls (ss++[σ]) (step code env ls σ o):=rfl
@[simp] theorem whenT_f(env:List AVal)(i:Ins)(is:List Ins)(ls:List AVal)(ss:List Store)(σ:Store) :
  whenT env i is ls ss σ (some false)=runT code env is (ls++[.tup []]) (ss++[σ]) σ:=rfl
@[simp] theorem thenT_some(env:List AVal)(is:List Ins)(ls:List AVal)(ss:List Store)(v:AVal)(σ:Store):thenT env is ls ss (some (v,σ))=runT code env is (ls++[v]) ss σ:=rfl
@[simp] theorem thenChk_some(env:List AVal)(os:List (Nat×Opd))(is:List Ins)(chk:List (Nat×Nat))(ls:List AVal)(ss:List Store)(σ:Store) :
  thenChk env os is chk (some (ls,ss,σ))=(runChk code env ls is (ss++[σ]) chk).map fun _=>(.nrm,⟨outs env env ls os,σ⟩):=rfl
@[simp ↓] theorem K_nil(env ls:List AVal)(is:List Ins)(ss:List Store):runChk code env ls is ss []=some ():=runChk_nil good env ls is ss
@[simp ↓] theorem K_cons(env ls:List AVal)(is:List Ins)(ss:List Store)(n j:Nat)(l:List (Nat×Nat)):runChk code env ls is ss ((n,j)::l)=chkAt env ls is ss n l is[n]? ss[j]?:=by
 rw[runChk_cons good]
 unfold chkAt chkNext
 cases is[n]?<;>cases ss[j]?<;>rfl
@[simp] theorem chkAt_some(env ls:List AVal)(is:List Ins)(ss:List Store)(n:Nat)(l:List (Nat×Nat))(o:AOp)(τ:Store):chkAt env ls is ss n l (some (P.i o)) (some τ)=chkNext env ls is ss n τ l (step code env (ls.take n) τ o):=rfl
@[simp] theorem chkNext_some(env ls:List AVal)(is:List Ins)(ss:List Store)(n:Nat)(τ:Store)(l:List (Nat×Nat))(v:AVal)(σ:Store):chkNext env ls is ss n τ l (some (v,σ))=if same v (nth ls n)&&sameS σ τ then runChk code env ls is ss l else none:=rfl
@[simp] theorem thenLift_some(env:List AVal)(b:ACode)(σ:Store):thenLift env b (some σ)=run code b ⟨env,σ⟩:=rfl
@[simp] theorem F_fn(f:Nat)(a c args:List AVal)(σ:Store):acallF code (.fn f a c) args σ=acall code f (a++args++c) σ:=rfl
attribute [simp] same_refl sameL_refl sameS_refl
@[simp ↓] theorem O_nil(env ls:List AVal)(σ:Store):runOps code env [] ls σ=some (ls,σ):=runOps_nil good env ls σ
@[simp ↓] theorem O_i(env ls:List AVal)(σ:Store)(o:AOp)(is:List Ins):runOps code env (P.i o::is) ls σ=thenOps env is ls (step code env ls σ o):=runOps_cons good env _ is ls σ
@[simp ↓] theorem O_g(env ls:List AVal)(σ:Store)(x:Opd)(b:Bool)(o:AOp)(is:List Ins) :
  runOps code env (P.g x b o::is) ls σ=whenOps env (P.g x b o) is ls σ (wanted env ls (some (x,b))):=runOps_cons good env _ is ls σ
@[simp] theorem when_t(env:List AVal)(x:Opd)(b:Bool)(o:AOp)(is:List Ins)(ls:List AVal)(σ:Store) :
  whenOps env (P.g x b o) is ls σ (some true)=thenOps env is ls (step code env ls σ o):=rfl
@[simp] theorem when_f(env:List AVal)(i:Ins)(is:List Ins)(ls:List AVal)(σ:Store) :
  whenOps env i is ls σ (some false)=runOps code env is (ls++[.tup []]) σ:=rfl
@[simp] theorem thenRun_nrm(b:ACode)(s:St):thenRun b (some (.nrm,s))=run code b s:=rfl
@[simp] theorem thenRun_ext(b:ACode)(s:St)(id:Nat):thenRun b (some (.ext id,s))=some (.ext id,s):=rfl
@[simp] theorem thenRun_ret(b:ACode)(s:St):thenRun b (some (.ret,s))=some (.ret,s):=rfl
@[simp] theorem thenOps_some(env:List AVal)(is:List Ins)(ls:List AVal)(v:AVal)(σ:Store):thenOps env is ls (some (v,σ))=runOps code env is (ls++[v]) σ:=rfl
@[simp] theorem thenOut_some(env:List AVal)(os:List (Nat×Opd))(ls:List AVal)(σ:Store):thenOut env os (some (ls,σ))=some (.nrm,⟨outs env env ls os,σ⟩):=rfl
@[simp] theorem thenBlk_nrm(id:Nat)(s:St):thenBlk id (some (.nrm,s))=some (.nrm,s):=rfl
@[simp] theorem thenBlk_ret(id:Nat)(s:St):thenBlk id (some (.ret,s))=some (.ret,s):=rfl
@[simp] theorem thenBlk_ext(id j:Nat)(s:St):thenBlk id (some (.ext j,s))=some (if j=id then (.nrm,s) else (.ext j,s)):=by
 simp[thenBlk]
@[simp] theorem cond_t(a b:ACode)(s:St):condRun a b s (.bool true)=run code a s:=rfl
@[simp] theorem cond_f(a b:ACode)(s:St):condRun a b s (.bool false)=run code b s:=rfl
@[simp] theorem thenLeave_ret(m:Mode)(res:List Res)(s:St):thenLeave m res (some (.ret,s))=(results s res).map fun v=>(finish m [] s v).1:=rfl
@[simp] theorem thenLeave_nrm(m:Mode)(res:List Res)(s:St):thenLeave m res (some (.nrm,s))=(results s res).map fun v=>(finish m [] s v).1:=rfl
theorem pcall_eq{f:Nat}{g:AFunc}(h:code.fns f=.fn g)(hm:g.mode.isPure=true)(args:List AVal) :
  pcall f args=thenLeave g.mode g.res (run code g.body ⟨(args.take g.np).map (snap [])++List.replicate (g.nenv - g.np) .any,[]⟩):=pcall_of h hm args
@[simp ↓] theorem S_call(env ls:List AVal)(σ:Store)(f:Nat)(args:List Opd)(mat:Bool) :
  step code env ls σ (.call f args mat)=(acall code f (args.map (·.eval env ls)) σ).map (mater mat):=step_call good env ls σ f args mat
@[simp ↓] theorem S_callv(env ls:List AVal)(σ:Store)(f:Opd)(args:List Opd) :
  step code env ls σ (.callv f args)=(acallV code (f.eval env ls) (args.map (·.eval env ls)) σ).map (mater false):=step_callv good env ls σ f args
@[simp] theorem V_fn(f:Nat)(a c args:List AVal)(σ:Store):acallV code (.fn f a c) args σ=acall code f (a++args++c) σ:=rfl
attribute [simp ↓] s_mov s_pick s_box s_build s_mknil s_mkl s_mksl s_mkslz s_make s_load s_store s_fld s_fldv s_idxs s_idxa s_idxv s_idxt s_bin s_eqb s_eqa s_isnil s_una s_conv s_slice s_slicet s_slice0 s_aslice s_len s_lent s_cap s_app s_appz s_nils s_copy s_mins s_maxs s_mkfn s_ext s_nilck s_mkmap s_mput s_look s_mlen s_clr s_bad
attribute [simp] eqCells kindOf nilsV emptyS liftV liftAt liftAll rdMin dlen eqb eqa isnil neg aslV copyV tlen tslice aslice partV fldV idxsV nilckV convV extV idxtV mapOf mputV clrV pickV capV fresh isSlice sliceAt elemAt arrK entriesAt getPart setPart Opd.eval nth outs clear wanted bin binInt shift una alen asNat rd loadAt storeAt results getRess getRes finish opt sameCells sameCell isNil setAll fill minmax
@[simp] theorem ncells_agg(cs:List AVal):ncells (.agg cs)=cs.length:=rfl
@[simp] theorem ncells_int(k:IntKind)(n:Int):ncells (.int k n)=1:=rfl
@[simp] theorem ncells_bool(b:Bool):ncells (.bool b)=1:=rfl
@[simp] theorem ncells_str(s:List UInt8):ncells (.str s)=1:=rfl
@[simp] theorem ncells_imm(b:Bool)(xs:List AVal):ncells (.imm b xs)=1:=rfl
@[simp] theorem ncells_lst(xs:List AVal):ncells (.lst xs)=1:=rfl
@[simp] theorem ncells_nil0:ncells .nil0=1:=rfl
@[simp] theorem ncells_nilp:ncells .nilp=1:=rfl
@[simp] theorem ncells_nilf:ncells .nilf=1:=rfl
@[simp] theorem ncells_nilm:ncells .nilm=1:=rfl
@[simp] theorem ncells_sl(a b c d:Nat):ncells (.sl a b c d)=1:=rfl
@[simp] theorem ncells_ptr(a b c d:Nat):ncells (.ptr a b c d)=1:=rfl
@[simp] theorem ncells_cptr(b:Bool)(x:AVal)(o:Nat):ncells (.cptr b x o)=1:=rfl
@[simp] theorem ncells_fn(f:Nat)(a c:List AVal):ncells (.fn f a c)=1:=rfl
@[simp] theorem ncells_mp(i:Nat):ncells (.mp i)=1:=rfl
@[simp] theorem ncells_imap(b:Bool)(e:List (AVal×AVal)):ncells (.imap b e)=1:=rfl
@[simp] theorem isAgg_agg(cs:List AVal):isAgg (.agg cs)=true:=rfl
@[simp] theorem isAgg_int(k:IntKind)(n:Int):isAgg (.int k n)=false:=rfl
@[simp] theorem isAgg_bool(b:Bool):isAgg (.bool b)=false:=rfl
@[simp] theorem isAgg_str(s:List UInt8):isAgg (.str s)=false:=rfl
@[simp] theorem isAgg_imm(b:Bool)(xs:List AVal):isAgg (.imm b xs)=false:=rfl
@[simp] theorem isAgg_lst(xs:List AVal):isAgg (.lst xs)=false:=rfl
@[simp] theorem isAgg_nil0:isAgg .nil0=false:=rfl
@[simp] theorem isAgg_nilp:isAgg .nilp=false:=rfl
@[simp] theorem isAgg_nilf:isAgg .nilf=false:=rfl
@[simp] theorem isAgg_nilm:isAgg .nilm=false:=rfl
@[simp] theorem isAgg_sl(a b c d:Nat):isAgg (.sl a b c d)=false:=rfl
@[simp] theorem isAgg_ptr(a b c d:Nat):isAgg (.ptr a b c d)=false:=rfl
@[simp] theorem isAgg_cptr(b:Bool)(x:AVal)(o:Nat):isAgg (.cptr b x o)=false:=rfl
@[simp] theorem isAgg_fn(f:Nat)(a c:List AVal):isAgg (.fn f a c)=false:=rfl
@[simp] theorem isAgg_mp(i:Nat):isAgg (.mp i)=false:=rfl
@[simp] theorem isAgg_imap(b:Bool)(e:List (AVal×AVal)):isAgg (.imap b e)=false:=rfl
@[simp] theorem cellsOf_agg(cs:List AVal):cellsOf (.agg cs)=cs:=rfl
@[simp] theorem cellsOf_int(k:IntKind)(n:Int):cellsOf (.int k n)=[.int k n]:=rfl
@[simp] theorem cellsOf_bool(b:Bool):cellsOf (.bool b)=[.bool b]:=rfl
@[simp] theorem cellsOf_str(s:List UInt8):cellsOf (.str s)=[.str s]:=rfl
@[simp] theorem cellsOf_imm(b:Bool)(xs:List AVal):cellsOf (.imm b xs)=[.imm b xs]:=rfl
@[simp] theorem cellsOf_sl(a b c d:Nat):cellsOf (.sl a b c d)=[.sl a b c d]:=rfl
@[simp] theorem cellsOf_nil0:cellsOf .nil0=[.nil0]:=rfl
@[simp] theorem cellsOf_fn(f:Nat)(a c:List AVal):cellsOf (.fn f a c)=[.fn f a c]:=rfl
@[simp] theorem cellsOf_ptr(a b c d:Nat):cellsOf (.ptr a b c d)=[.ptr a b c d]:=rfl
@[simp] theorem cellsOf_cptr(b:Bool)(x:AVal)(o:Nat):cellsOf (.cptr b x o)=[.cptr b x o]:=rfl
section
variable (fl top:Bool) (base:Nat) (σ:Store) (n:Nat)
@[simp] theorem fz_int(k:IntKind)(m:Int):fz fl top base σ (n+1) (.int k m)=.int k m:=by simp[fz]
@[simp] theorem fz_bool(b:Bool):fz fl top base σ (n+1) (.bool b)=.bool b:=by simp[fz]
@[simp] theorem fz_str(s:List UInt8):fz fl top base σ (n+1) (.str s)=.str s:=by simp[fz]
@[simp] theorem fz_nil0:fz fl top base σ (n+1) .nil0=if !fl&&top then .nil0 else .imm false []:=by simp[fz]
@[simp] theorem fz_nilp:fz fl top base σ (n+1) .nilp=.nilp:=by simp[fz]
@[simp] theorem fz_nilf:fz fl top base σ (n+1) .nilf=.nilf:=by simp[fz]
@[simp] theorem fz_nilm:fz fl top base σ (n+1) .nilm=.nilm:=by simp[fz]
@[simp] theorem fz_any:fz fl top base σ (n+1) .any=.any:=by simp[fz]
@[simp] theorem fz_emp(b:Bool):fz fl top base σ (n+1) (.emp b)=.emp b:=by simp[fz]
@[simp] theorem fz_agg(cs:List AVal):fz fl top base σ (n+1) (.agg cs)=.agg (cs.map (fz fl top base σ n)):=by simp[fz]
@[simp] theorem fz_tup(cs:List AVal):fz fl top base σ (n+1) (.tup cs)=.tup (cs.map (fz fl top base σ n)):=by simp[fz]
@[simp] theorem fz_lst(cs:List AVal):fz fl top base σ (n+1) (.lst cs)=listAt fl cs (cs.map (fz fl false base σ n)):=by simp[fz]
@[simp] theorem fz_fn(f:Nat)(a c:List AVal):fz fl top base σ (n+1) (.fn f a c)=.fn f (a.map (fz fl top base σ n)) (c.map (fz fl top base σ n)):=by simp[fz]
@[simp] theorem fz_immf(xs:List AVal):fz fl top base σ (n+1) (.imm false xs)=.imm false xs:=by simp[fz]
@[simp] theorem fz_immt(b:Bool)(xs:List AVal):fz true top base σ (n+1) (.imm b xs)=.imm b xs:=by simp[fz]
@[simp] theorem fz_immk(b:Bool)(xs:List AVal):fz fl true base σ (n+1) (.imm b xs)=.imm b xs:=by simp[fz]
@[simp] theorem fz_cptrf(x:AVal)(o:Nat):fz fl top base σ (n+1) (.cptr false x o)=.cptr false x o:=by simp[fz]
@[simp] theorem fz_cptrt(x:AVal)(o:Nat):fz true top base σ (n+1) (.cptr true x o)=cptrAt true x (fz true false base σ n x) o:=by simp[fz]
@[simp] theorem fz_cptrk(x:AVal)(o:Nat):fz false true base σ (n+1) (.cptr true x o)=cptrAt true x (fz false true base σ n x) o:=by simp[fz]
@[simp] theorem fz_imapf(x:List (AVal×AVal)):fz fl top base σ (n+1) (.imap false x)=.imap false x:=by simp[fz]
@[simp] theorem fz_imapt(b:Bool)(x:List (AVal×AVal)):fz true top base σ (n+1) (.imap b x)=.imap b x:=by simp[fz]
@[simp] theorem fz_imapk(b:Bool)(x:List (AVal×AVal)):fz fl true base σ (n+1) (.imap b x)=.imap b x:=by simp[fz]
@[simp] theorem fz_sl(id ep off len:Nat):fz fl top base σ (n+1) (.sl id ep off len)=if id < base then (if top then .sl id ep off len else .any) else (sliceAt σ id ep off len).elim .any fun l=>listAt fl l (l.map (fz fl false base σ n)):=by simp only[fz]
@[simp] theorem fz_ptr(id ep i off:Nat):fz fl top base σ (n+1) (.ptr id ep i off)=if id < base then (if top then .ptr id ep i off else .any) else (elemAt σ id ep i).elim .any fun x=>cptrAt fl x (fz fl false base σ n x) off:=by simp only[fz]
@[simp] theorem fz_mp(id:Nat):fz fl top base σ (n+1) (.mp id)=if id < base then (if top then .mp id else .any) else (entriesAt σ id).elim .any fun es=>.imap fl (es.map fun e=>(e.1,fz fl false base σ n e.2)):=by simp only[fz]
end
attribute [simp] listAt cptrAt arrAt frsAt
@[simp] theorem frozen_eq(σ:Store)(v:AVal):frozen σ v=fz false false 0 σ 20 v:=rfl
@[simp] theorem snap_eq(σ:Store)(v:AVal):snap σ v=fz true false 0 σ 20 v:=rfl
@[simp] theorem freeze_eq(b:Nat)(σ:Store)(v:AVal):freeze b σ v=fz false true b σ 20 v:=rfl
@[simp] theorem mater_false_1(k:IntKind)(n:Int)(σ:Store):mater false (.int k n,σ)=(.int k n,σ):=rfl
attribute [simp] mater mater1
theorem wrap64_id{n:Int}(h:-9223372036854775808≤n∧n < 9223372036854775808):IntKind.i64.wrap n=n:=by
 simp[IntKind.wrap,IntKind.bits,IntKind.signed];omega
end Go.AM
namespace Go.AM
theorem rounds_iter{base:Nat}{clr:List Nat}{b:ACode}(I:Nat→St)(n:Nat)(r:Ex×St)
  (step:∀ k,k < n→thenLoop base clr b (run code b (I k))=rounds code base clr b (I (k+1))) (last:thenLoop base clr b (run code b (I n))=some r) :
  rounds code base clr b (I 0)=some r:=by
 have key:∀ m k,k+m=n→rounds code base clr b (I k)=some r:=by
  intro m
  induction m with
  | zero=>
   intro k hk
   obtain rfl:k=n:=by omega
   rw[rounds_eq good]
   exact last
  | succ m ih=>
   intro k hk
   rw[rounds_eq good]
   exact (step k (by omega)).trans (ih (k+1) (by omega))
 exact key n 0 (by omega)
@[simp] theorem thenLoop_nrm(base:Nat)(clr:List Nat)(b:ACode)(s:St):thenLoop base clr b (some (.nrm,s))=rounds code base clr b (roundEnd base clr s):=rfl
@[simp] theorem thenLoop_ext(base:Nat)(clr:List Nat)(b:ACode)(s:St)(i:Nat):thenLoop base clr b (some (.ext i,s))=some (.ext i,s):=rfl
@[simp] theorem thenLoop_ret(base:Nat)(clr:List Nat)(b:ACode)(s:St):thenLoop base clr b (some (.ret,s))=some (.ret,s):=rfl
theorem roundEnd_same{base:Nat}{clr:List Nat}{env:List AVal}{σ:Store}(h:σ.length=base):roundEnd base clr ⟨env,σ⟩=⟨clear env clr,σ⟩:=by
 unfold roundEnd
 rw[if_pos h]
theorem wrap_lt{k n:Nat}(h1:k < n)(h2:n≤most):IntKind.i64.wrap ((k:Int)+1)=((k+1:Nat):Int):=by
 rw[wrap64_id (by unfold most at h2;omega)]
 omega
end Go.AM
section
namespace Go.AM
open P
set_option maxHeartbeats 1000000
end Go.AM
end
namespace Go.AM
def intV(n:Int):AVal:=.agg [.int .i64 2,.int .i64 n,.int .u64 0,.str []]
theorem acall_of{n f:Nat}{args:List AVal}{σ:Store}{r:AVal×Store}(h:callN code n f args σ=some r):acall code f args σ=some r:=lim_of (callN_mono good f args σ) h
theorem pcall_from{n f:Nat}{args:List AVal}{v:AVal}{σ:Store}(h:callN code n f args []=some (v,σ)):pcall f args=some v:=by
 unfold pcall
 rw[acall_of h];rfl
theorem right_f1(n:Int):callN code 60 I.qfd [.imm false [intV n]] []=some (.bool true,[]):=by kernel_rfl
theorem right_f2(n m:Int):callN code 60 I.qfd [.imm false [intV n,intV m]] []=some (.bool true,[]):=by kernel_rfl
theorem clone_f1(n:Int):callN code 60 I.qfl [.imm false [intV n]] []=some (.frs 4 [intV n],[]):=by kernel_rfl
theorem clone_f2(n m:Int):callN code 60 I.qfl [.imm false [intV n,intV m]] []=some (.frs 4 [intV n,intV m],[]):=by kernel_rfl
end Go.AM
section
namespace Go.AM
open P
set_option maxRecDepth 100000
set_option maxHeartbeats 4000000
end Go.AM
end
namespace Go.AM
def foldL{α σ ρ:Type}(g:Nat→α→σ→σ⊕ρ):List α→Nat→σ→σ⊕ρ
 | [],_,s=>.inl s
 | a::l,k,s=>match g k a s with
  | .inl s'=>foldL g l (k+1) s'
  | .inr r=>.inr r
theorem rounds_go0(base:Nat)(clr:List Nat)(b:ACode)(s:St):rounds code base clr b s=thenLoop base clr b (run code b s):=rounds_eq good base clr b s
theorem rounds_list{α σ ρ:Type}{base:Nat}{clr:List Nat}{b:ACode}(l:List α)(S:Nat→σ→St)(Inv:Nat→σ→Prop)(g:Nat→α→σ→σ⊕ρ)(E:σ→Ex×St)(Q:ρ→Ex×St→Prop)
  (hstep:∀ k y s,k < l.length→l[k]?=some y→Inv k s→match g k y s with
   | .inl s'=>thenLoop base clr b (run code b (S k s))=rounds code base clr b (S (k+1) s')∧Inv (k+1) s'
   | .inr r=>∃ o,thenLoop base clr b (run code b (S k s))=some o∧Q r o)
  (hend:∀ s,Inv l.length s→thenLoop base clr b (run code b (S l.length s))=some (E s)) (s:σ) (h:Inv 0 s) :
  match foldL g l 0 s with
   | .inl s'=>Inv l.length s'∧rounds code base clr b (S 0 s)=some (E s')
   | .inr r=>∃ o,rounds code base clr b (S 0 s)=some o∧Q r o:=by
 have key:∀ (m:List α) k s,l.drop k=m→k≤l.length→Inv k s→match foldL g m k s with
   | .inl s'=>Inv l.length s'∧rounds code base clr b (S k s)=some (E s')
   | .inr r=>∃ o,rounds code base clr b (S k s)=some o∧Q r o:=by
  intro m
  induction m with
  | nil=>
   intro k s hd hk hi
   have:k=l.length:=by
    have:=congrArg List.length hd
    simp at this;omega
   subst this
   simp only[foldL]
   exact ⟨hi,by rw[rounds_go0];exact hend s hi⟩
  | cons y m ih=>
   intro k s hd hk hi
   have hlt:k < l.length:=by
    have:=congrArg List.length hd
    simp at this;omega
   have hy:l[k]?=some y:=by
    have:=congrArg (·[0]?) hd
    simpa using this
   have hm:l.drop (k+1)=m:=by
    have:=congrArg List.tail hd
    simpa [List.tail_drop] using this
   have hs:=hstep k y s hlt hy hi
   rw[rounds_go0]
   simp only[foldL]
   cases hg:g k y s with
   | inl s'=>
    rw[hg]at hs
    simp only at hs ⊢
    rw[hs.1]
    exact ih (k+1) s' hm (by omega) hs.2
   | inr r=>
    rw[hg]at hs
    exact hs
 exact key l 0 s (by simp) (Nat.zero_le _) h
theorem rounds_any{α:Type}{base:Nat}{clr:List Nat}{b:ACode}(l:List α)(S:Nat→St)(p:α→Bool)(E:Ex×St)(Q:Ex×St→Prop)
  (hno:∀ k y,k < l.length→l[k]?=some y→p y=false→thenLoop base clr b (run code b (S k))=rounds code base clr b (S (k+1)))
  (hyes:∀ k y,k < l.length→l[k]?=some y→p y=true→∃ o,thenLoop base clr b (run code b (S k))=some o∧Q o)
  (hend:thenLoop base clr b (run code b (S l.length))=some E) :
  (l.any p=false∧rounds code base clr b (S 0)=some E)∨(l.any p=true∧∃ o,rounds code base clr b (S 0)=some o∧Q o):=by
 have h:=rounds_list (σ:=Unit) (ρ:=Unit) (base:=base) (clr:=clr) (b:=b) l (fun k _=>S k) (fun _ _=>True) (fun _ y _=>if p y then .inr () else .inl ()) (fun _=>E) (fun _=>Q)
  (fun k y s hk hy _=>by
   cases hp:p y
   ·simpa using hno k y hk hy hp
   ·simpa using hyes k y hk hy hp) (fun _ _=>hend) () trivial
 have hf:∀ (m:List α) k,foldL (fun _ y _=>if p y then .inr () else .inl ()) m k ()=if m.any p then .inr () else (.inl ():Unit⊕Unit):=by
  intro m
  induction m with
  | nil=>intro k;rfl
  | cons a m ih=>
   intro k
   cases hp:p a<;>simp[foldL,hp,ih]
 rw[hf]at h
 cases hp:l.any p
 ·rw[hp]at h
  exact .inl ⟨rfl,h.2⟩
 ·rw[hp]at h
  exact .inr ⟨rfl,h⟩
theorem rounds_acc{α β:Type}{base:Nat}{clr:List Nat}{b:ACode}(l:List α)(S:Nat→Nat→List β→St)(f:α→List β)(E:Nat→List β→Ex×St)(m:Nat)
  (hm:∀ y∈l,(f y).length≤m)
  (hstep:∀ k y ep acc,k < l.length→l[k]?=some y→acc.length≤k * m→∃ ep',thenLoop base clr b (run code b (S k ep acc))=rounds code base clr b (S (k+1) ep' (acc++f y)))
  (hend:∀ ep acc,acc.length≤l.length * m→thenLoop base clr b (run code b (S l.length ep acc))=some (E ep acc)) (ep0:Nat) :
  ∃ ep,rounds code base clr b (S 0 ep0 [])=some (E ep (l.flatMap f)):=by
 have key:∀ (r:List α) k ep acc,l.drop k=r→k≤l.length→acc.length≤k * m→∃ ep',rounds code base clr b (S k ep acc)=some (E ep' (acc++r.flatMap f)):=by
  intro r
  induction r with
  | nil=>
   intro k ep acc hd hk ha
   have:k=l.length:=by
    have:=congrArg List.length hd
    simp at this;omega
   subst this
   exact ⟨ep,by rw[rounds_go0,hend ep acc ha];simp⟩
  | cons y r ih=>
   intro k ep acc hd hk ha
   have hlt:k < l.length:=by
    have:=congrArg List.length hd
    simp at this;omega
   have hy:l[k]?=some y:=by
    have:=congrArg (·[0]?) hd
    simpa using this
   have hr:l.drop (k+1)=r:=by
    have:=congrArg List.tail hd
    simpa [List.tail_drop] using this
   obtain ⟨ep',hs⟩:=hstep k y ep acc hlt hy ha
   have hym:y∈l:=List.mem_of_getElem? hy
   obtain ⟨e2,h2⟩:=ih (k+1) ep' (acc++f y) hr (by omega) (by
    rw[List.length_append,Nat.succ_mul]
    have:=hm y hym
    omega)
   exact ⟨e2,by rw[rounds_go0,hs,h2];simp⟩
 have:=key l 0 ep0 [] (by simp) (Nat.zero_le _) (by simp)
 simpa using this
end Go.AM
namespace Go.AM
theorem rounds_fold{α σ:Type}{base:Nat}{clr:List Nat}{b:ACode}(l:List α)(S:Nat→σ→St)(Inv:Nat→σ→Prop)(g:σ→α→σ)(E:σ→Ex×St)
  (hstep:∀ k y s,k < l.length→l[k]?=some y→Inv k s→thenLoop base clr b (run code b (S k s))=rounds code base clr b (S (k+1) (g s y))∧Inv (k+1) (g s y))
  (hend:∀ s,Inv l.length s→thenLoop base clr b (run code b (S l.length s))=some (E s)) (s:σ) (h:Inv 0 s) :
  rounds code base clr b (S 0 s)=some (E (l.foldl g s))∧Inv l.length (l.foldl g s):=by
 have:=rounds_list (ρ:=Empty) (base:=base) (clr:=clr) (b:=b) l S Inv (fun _ y s=>.inl (g s y)) E (fun r _=>r.elim) (fun k y s hk hy hi=>hstep k y s hk hy hi) hend s h
 have hf:∀ (m:List α) k s,foldL (ρ:=Empty) (fun _ y s=>.inl (g s y)) m k s=.inl (m.foldl g s):=by
  intro m
  induction m with
  | nil=>intro k s;rfl
  | cons a m ih=>intro k s;simp only[foldL,List.foldl_cons];exact ih _ _
 rw[hf]at this
 exact ⟨this.2,this.1⟩
end Go.AM
section
namespace Go.AM
open P
set_option maxHeartbeats 2000000
def cmp3(n m:Int):Int:=if n < m then -1 else if m < n then 1 else 0
theorem isNaN64(n:Int):pcall I.qav [.int .i64 n]=some (.bool false):=by
 rw[pcall_eq c_qav rfl]
 simp[f_qav,b_qav]
theorem Compare64(n m:Int):pcall I.qaq [.int .i64 n,.int .i64 m]=some (.int .i64 (cmp3 n m)):=by
 rw[pcall_eq c_qaq rfl]
 unfold cmp3
 by_cases h1:n < m
 ·simp[f_qaq,b_qaq,isNaN64,h1]
 ·by_cases h2:m < n
  ·simp[f_qaq,b_qaq,isNaN64,h1,h2]
  ·simp[f_qaq,b_qaq,isNaN64,h1,h2]
theorem rounds_go(base:Nat)(clr:List Nat)(b:ACode)(s:St):rounds code base clr b s=thenLoop base clr b (run code b s):=rounds_eq good base clr b s
end Go.AM
end
section
namespace Go.AM
open P
set_option maxHeartbeats 2000000
set_option maxRecDepth 4000
theorem acallG_pure{g:AFunc}(hm:g.mode.isPure=true)(args:List AVal)(σ:Store):acallG code g args σ=((acallG code g (args.map (snap σ)) []).map (·.1)).map (·,σ):=by
 unfold acallG
 have he:enter g args σ=enter g (args.map (snap σ)) []:=by
  have h1:((args.map (snap σ)).take g.np).map (snap [])=(args.take g.np).map (snap σ):=by
   rw[← List.map_take,List.map_map];exact List.map_congr_left fun x _=>snap_idem σ [] x
  unfold enter
  cases hg:g.mode<;>rw[hg]at hm<;>first|exact absurd hm (by decide)|(simp only[h1])
 rw[he]
 cases run code g.body (enter g (args.map (snap σ)) []) with
 | none=>rfl
 | some r=>
  obtain ⟨e,s⟩:=r
  have key:(results s g.res).map (fun v=>finish g.mode σ s v)=(((results s g.res).map fun v=>finish g.mode [] s v).map (·.1)).map (·,σ):=by
   cases results s g.res with
   | none=>rfl
   | some v=>
    cases hg:g.mode<;>rw[hg]at hm<;>first|exact absurd hm (by decide)|rfl
  cases e with
  | ext _=>rfl
  | nrm=>exact key
  | ret=>exact key
theorem acall_nil{f:Nat}{g:AFunc}(h:code.fns f=.nilfn g)(hm:g.mode.isPure=true)(b:Bool)(xs:List AVal)(σ:Store) :
  acall code f [.imm b xs] σ=(pcall f [.imm b xs]).map (·,σ):=by
 unfold pcall
 rw[acall_nilfn good h,acall_nilfn good h]
 have hE:emptyS σ (.imm b xs)=emptyS [] (.imm b xs):=by simp[emptyS,rd]
 rw[hE]
 have hk:∀ (x:AVal),(∀ τ,snap τ x=x)→acallG code g [x] σ=((acallG code g [x] []).map (·.1)).map (·,σ):=fun x hx=>by
  have:=acallG_pure hm [x] σ
  simpa only [List.map_cons,List.map_nil,hx] using this
 have hk0:∀ (x:AVal),(∀ τ,snap τ x=x)→acallG code g [x] []=((acallG code g [x] []).map (·.1)).map (·,([]:Store)):=fun x hx=>by
  have:=acallG_pure hm [x] []
  simpa only [List.map_cons,List.map_nil,hx] using this
 have h1:∀ τ,snap τ (.imm b xs)=.imm b xs:=fun τ=>by simp
 have h2:∀ t τ,snap τ (.emp t)=.emp t:=fun t τ=>by simp
 cases emptyS [] (.imm b xs) with
 | false=>simpa using hk _ h1
 | true=>
  simp only[if_true]
  rw[hk _ (h2 true),hk _ (h2 false),hk0 _ (h2 true),hk0 _ (h2 false)]
  cases acallG code g [.emp true] [] with
  | none=>rfl
  | some r=>cases acallG code g [.emp false] [] with
   | none=>rfl
   | some q=>
    simp only[Option.map_some,Option.bind_some,sameS_refl,Bool.and_true]
    split<;>rfl
def Plain(v:AVal):Prop:=ncells v=4∧isAgg v=true∧∀ fl top base σ n,fz fl top base σ (n+2) v=v
theorem intV_plain(n:Int):Plain (intV n):=⟨rfl,rfl,fun fl top base σ n=>by simp[intV]⟩
structure RowOk (r:List AVal):Prop where
 vals:∀ v∈r,Plain v
 clone:pcall I.qfl [.imm false r]=some (.frs 4 r)
 right:pcall I.qfd [.imm false r]=some (.bool true)
theorem row1_ok(n:Int):RowOk [intV n]:=⟨fun v hv=>by rw[List.mem_singleton.1 hv];exact intV_plain n,pcall_from (clone_f1 n),pcall_from (right_f1 n)⟩
theorem row2_ok(n m:Int):RowOk [intV n,intV m]:=⟨fun v hv=>by rcases List.mem_cons.1 hv with rfl|hv;exact intV_plain _;rw[List.mem_singleton.1 hv];exact intV_plain _,pcall_from (clone_f2 n m),pcall_from (right_f2 n m)⟩
theorem map_plain{r:List AVal}(h:∀ v∈r,Plain v)(fl top:Bool)(base:Nat)(σ:Store)(n:Nat):r.map (fz fl top base σ (n+2))=r:=by
 conv=>rhs;rw[← List.map_id r]
 exact List.map_congr_left fun v hv=>(h v hv).2.2 fl top base σ n
def rowsV(rs:List (List AVal)):List AVal:=rs.map (.imm false)
@[simp] theorem rowsV_length(rs:List (List AVal)):(rowsV rs).length=rs.length:=by simp[rowsV]
theorem rowsV_get{rs:List (List AVal)}{k:Nat}(h:k < rs.length):(rowsV rs)[k]?=some (.imm false rs[k]):=by simp[rowsV,h]
theorem rowsV_succ{rs:List (List AVal)}{k:Nat}(h:k < rs.length):rowsV (rs.take (k+1))=rowsV (rs.take k)++[.imm false rs[k]]:=by
 unfold rowsV
 rw[List.take_succ_eq_append_getElem h,List.map_append]
 rfl
@[simp] theorem rowsV_ncells(rs:List (List AVal)):(rowsV rs).map ncells=List.replicate rs.length 1:=by
 simp only[rowsV,List.map_map]
 rw[List.eq_replicate_iff]
 exact ⟨by simp,fun x hx=>by simp at hx;obtain ⟨_,_,rfl⟩:=hx;rfl⟩
theorem rows_freeze(rs:List (List AVal))(top:Bool)(base:Nat)(σ:Store)(n:Nat):(rowsV rs).map (fz false top base σ (n+1))=rowsV rs:=by
 unfold rowsV
 rw[List.map_map]
 exact List.map_congr_left fun r _=>by simp
theorem plain_nc{r:List AVal}(h:∀ v∈r,Plain v)(fl top:Bool)(base:Nat)(σ:Store)(n:Nat):(∀ a,a∈r→ncells (fz fl top base σ (n+2) a)=ncells a)↔True:=
 ⟨fun _=>trivial,fun _ a ha=>by rw[(h a ha).2.2]⟩
theorem rows_freeze'(rs:List (List AVal))(base:Nat)(σ:Store):(rowsV rs).map (freeze base σ)=rowsV rs:=by
 unfold rowsV
 rw[List.map_map]
 exact List.map_congr_left fun r _=>by simp[freeze,fuel]
theorem rows_nc(rs:List (List AVal))(base:Nat)(σ:Store):(rowsV rs).map (ncells∘freeze base σ)=List.replicate rs.length 1:=by
 rw[← List.map_map,rows_freeze',rowsV_ncells]
theorem fresh_rows(rs:List (List AVal))(id ep:Nat)(σ:Store)(h:σ[id]?=some (.arr 1 ep (rowsV rs))):freshOf 1 σ (.sl id ep 0 rs.length)=.frs 1 (rowsV rs):=by
 have h8:=fun σ'=>rows_freeze rs false 0 σ' 19
 have h9:(rowsV rs).take rs.length=rowsV rs:=List.take_of_length_le (by simp)
 have h10:∀ σ',(rowsV rs).map (frozen σ')=rowsV rs:=fun σ'=>h8 σ'
 simp only[freshOf,h,h9,h10,frsAt]
 simp
theorem copies_spec{b:Bool}{rs:List (List AVal)}(hn:rs.length≤most)(hr:∀ r∈rs,RowOk r):pcall I.qex [.imm b (rowsV rs)]=some (.frs 1 (rowsV rs)):=by
 rw[pcall_eq c_qex rfl]
 have hloop:=rounds_iter (base:=1) (clr:=[3,7]) (b:=l_qex_0) (fun k=>⟨[.imm b (rowsV rs),.nil0,.sl 0 k 0 k,.any,.imm b (rowsV rs),.int .i64 rs.length,.int .i64 k,.any],[.arr 1 k (rowsV (rs.take k))]⟩) rs.length
  (.ext 0,⟨[.imm b (rowsV rs),.nil0,.sl 0 rs.length 0 rs.length,.any,.imm b (rowsV rs),.int .i64 rs.length,.int .i64 rs.length,.bool false],[.arr 1 rs.length (rowsV rs)]⟩)
  (fun k hk=>by
   have h1:=rowsV_get hk
   have h2:=hr rs[k] (List.getElem_mem hk)
   have hlt:((k:Int) < (rs.length:Int)):=by omega
   have h3:=acall_nil c_qfl rfl false rs[k] [.arr 1 k (rowsV (rs.take k))]
   rw[h2.clone]at h3
   have h4:min k rs.length=k:=by omega
   have h5:k+1≤most:=by omega
   have h6:=rowsV_succ hk
   have h7:=map_plain h2.vals
   have h7':=plain_nc h2.vals false false 1
   have h9:(rowsV (rs.take k)).take k=rowsV (rs.take k):=List.take_of_length_le (by simp;omega)
   have h8:=fun top base σ n=>rows_freeze (rs.take k) top base σ n
   have h10:=rows_freeze' (rs.take k) 1
   have h11:=rows_nc (rs.take k) 1
   simp[l_qex_0,h1,hlt,h3,h4,h5,h6,h7,h7',h8,h9,h10,h11,append,wrap_lt hk hn,roundEnd,freezeObj])
  (by simp[l_qex_0])
 simp[f_qex,b_qex]
 simp[show rowsV []=[] from rfl]at hloop
 rw[hloop]
 simp
 exact fresh_rows rs 0 _ _ rfl
end Go.AM
end
namespace Go.AM
structure WOk {α:Type} (c:α→α→Int):Prop where
 anti:∀ x y,c x y < 0↔0 < c y x
 tr:∀ x y z,c x y≤0→c y z≤0→c x z≤0
namespace WOk
variable {α:Type} {c d:α→α→Int}
theorem self(h:WOk c)(x:α):c x x=0:=by have:=h.anti x x;omega
theorem lt_le(h:WOk c){x y z:α}(h1:c x y < 0)(h2:c y z≤0):c x z < 0:=by
 have a1:=h.anti x z
 have a2:=h.anti x y
 have a3:=h.tr y z x h2
 omega
theorem le_lt(h:WOk c){x y z:α}(h1:c x y≤0)(h2:c y z < 0):c x z < 0:=by
 have a1:=h.anti x z
 have a2:=h.anti y z
 have a3:=h.tr z x y
 omega
theorem zero(h:WOk c){x y:α}:c x y=0↔c y x=0:=by
 have:=h.anti x y;have:=h.anti y x;omega
end WOk
def lex(a b:Int):Int:=if a≠0 then a else b
theorem WOk.lex{α:Type}{c d:α→α→Int}(hc:WOk c)(hd:WOk d):WOk fun x y=>lex (c x y) (d x y) where
 anti x y:=by
  have h1:=hc.anti x y;have h2:=hc.anti y x;have h3:=hd.anti x y
  unfold Go.AM.lex
  split<;>split<;>omega
 tr x y z h1 h2:=by
  unfold Go.AM.lex at *
  have a1:=fun h=>hc.lt_le (x:=x) (y:=y) (z:=z) h
  have a2:=fun h h'=>hc.le_lt (x:=x) (y:=y) (z:=z) h h'
  have a3:=hc.tr x y z
  have a4:=hd.tr x y z
  have a5:=hc.anti x z
  have a6:=hc.tr z y x
  have a7:=hc.anti x y;have a8:=hc.anti y z;have a9:=hc.anti y x;have b1:=hc.anti z y;have b2:=hc.anti z x
  split at h1<;>split at h2<;>split<;>omega
theorem WOk.on{α β:Type}{c:α→α→Int}(h:WOk c)(f:β→α):WOk fun x y=>c (f x) (f y):=⟨fun x y=>h.anti _ _,fun x y z=>h.tr _ _ _⟩
theorem WOk.neg{α:Type}{c:α→α→Int}(h:WOk c):WOk fun x y=>-c x y where
 anti x y:=by have:=h.anti y x;have:=h.anti x y;omega
 tr x y z h1 h2:=by
  have a1:=h.tr z y x;have a2:=h.anti x y;have a3:=h.anti y z;have a4:=h.anti x z
  have a5:=h.anti y x;have a6:=h.anti z y;have a7:=h.anti z x
  omega
def icmp(n m:Int):Int:=if n < m then -1 else if m < n then 1 else 0
theorem icmp_ok:WOk icmp where
 anti x y:=by
  unfold icmp
  repeat' split
  all_goals omega
 tr x y z h1 h2:=by
  unfold icmp at *
  repeat' split at h1
  all_goals repeat' split at h2
  all_goals repeat' split
  all_goals omega
theorem icmp_eq{n m:Int}(h:icmp n m=0):n=m:=by
 unfold icmp at h
 repeat' split at h
 all_goals omega
def scmp(a b:List UInt8):Int:=if Op.bytesLess a b then -1 else if !(Op.bytesLess a b || a == b) then 1 else 0
def scmpR:List UInt8→List UInt8→Int
 | [],[]=>0
 | [],_::_=>-1
 | _::_,[]=>1
 | a::x,b::y=>lex (icmp a.toNat b.toNat) (scmpR x y)
theorem scmp_eq:∀ a b,scmp a b=scmpR a b
 | [],[]=>rfl
 | [],_::_=>rfl
 | _::_,[]=>rfl
 | a::x,b::y=>by
  have ih:=scmp_eq x y
  unfold scmp at ih ⊢
  simp only[scmpR]
  unfold Go.AM.lex icmp
  have h1:(a < b)↔a.toNat < b.toNat:=UInt8.lt_iff_toNat_lt
  have h2:(a == b)=decide (a.toNat=b.toNat):=by
   by_cases h:a=b
   ·subst h;simp
   ·have:a.toNat≠b.toNat:=fun e=>h (UInt8.toNat_inj.1 e)
    simp[h,this]
  simp only[Op.bytesLess]
  by_cases c1:a.toNat < b.toNat
  ·simp[h1,c1]
  ·by_cases c2:b.toNat < a.toNat
   ·have c3:¬a.toNat=b.toNat:=by omega
    have c4:¬a=b:=fun e=>c3 (by rw[e])
    simp[h1,h2,c1,c2,c3,c4]
   ·have c3:a.toNat=b.toNat:=by omega
    have c4:a=b:=UInt8.toNat_inj.1 c3
    subst c4
    simp[h1]
    rw[← ih]
    simp
theorem scmpR_ok:WOk scmpR where
 anti:=by
  intro x
  induction x with
  | nil=>intro y;cases y<;>simp[scmpR]
  | cons a x ih=>
   intro y
   cases y with
   | nil=>simp[scmpR]
   | cons b y=>
    have h1:=ih y
    have h2:=icmp_ok.anti a.toNat b.toNat
    have h3:=icmp_ok.anti b.toNat a.toNat
    simp only[scmpR]
    unfold Go.AM.lex
    split<;>split<;>omega
 tr:=by
  intro x
  induction x with
  | nil=>intro y z _ _;cases z<;>simp[scmpR]
  | cons a x ih=>
   intro y z h1 h2
   cases y with
   | nil=>simp[scmpR]at h1
   | cons b y=>
    cases z with
    | nil=>simp[scmpR]at h2
    | cons e z=>
     have a1:=ih y z
     simp only[scmpR]at *
     unfold Go.AM.lex icmp at *
     repeat' split at h1
     all_goals repeat' split at h2
     all_goals repeat' split
     all_goals first|omega|(exact a1 h1 h2)|skip
theorem scmp_ok:WOk scmp:=by
 have:scmp=scmpR:=funext fun a=>funext fun b=>scmp_eq a b
 rw[this]
 exact scmpR_ok
theorem scmpR_zero:∀ {a b:List UInt8},scmpR a b=0→a=b
 | [],[],_=>rfl
 | [],_::_,h=>by simp[scmpR]at h
 | _::_,[],h=>by simp[scmpR]at h
 | a::x,b::y,h=>by
  simp only[scmpR]at h
  unfold Go.AM.lex at h
  split at h
  ·exact absurd h (by assumption)
  ·rename_i h0
   have h1:=icmp_eq (Decidable.not_not.1 h0)
   rw[UInt8.toNat_inj.1 (by omega:a.toNat=b.toNat),scmpR_zero h]
structure Val where
 k:Int
 n:Int
 u:Int
 s:List UInt8
 deriving DecidableEq,Inhabited
def cmpV(a b:Val):Int:=lex (icmp a.k b.k) (lex (icmp a.n b.n) (lex (icmp a.u b.u) (scmp a.s b.s)))
theorem cmpV_ok:WOk cmpV:=(icmp_ok.on Val.k).lex ((icmp_ok.on Val.n).lex ((icmp_ok.on Val.u).lex (scmp_ok.on Val.s)))
theorem lex_zero{a b:Int}(h:lex a b=0):a=0∧b=0:=by unfold lex at h;split at h<;>omega
theorem cmpV_zero{a b:Val}(h:cmpV a b=0):a=b:=by
 obtain ⟨h1,h⟩:=lex_zero h
 obtain ⟨h2,h⟩:=lex_zero h
 obtain ⟨h3,h4⟩:=lex_zero h
 cases a;cases b
 rw[scmp_eq]at h4
 rw[Val.mk.injEq]
 exact ⟨icmp_eq h1,icmp_eq h2,icmp_eq h3,scmpR_zero h4⟩
theorem icmp_range(a b:Int):-1≤icmp a b∧icmp a b≤1:=by
 unfold icmp
 repeat' split
 all_goals omega
theorem scmp_range(a b:List UInt8):-1≤scmp a b∧scmp a b≤1:=by
 unfold scmp
 repeat' split
 all_goals omega
theorem lex_range{a b:Int}(h:-1≤a∧a≤1)(h':-1≤b∧b≤1):-1≤lex a b∧lex a b≤1:=by unfold lex;split<;>omega
theorem cmpV_range(a b:Val):-1≤cmpV a b∧cmpV a b≤1:=lex_range (icmp_range _ _) (lex_range (icmp_range _ _) (lex_range (icmp_range _ _) (scmp_range _ _)))
def cmpR:List Val→List Val→Int
 | [],[]=>0
 | [],_::_=>-1
 | _::_,[]=>1
 | a::x,b::y=>lex (cmpV a b) (cmpR x y)
theorem cmpR_range:∀ a b,-1≤cmpR a b∧cmpR a b≤1
 | [],[]=>by simp[cmpR]
 | [],_::_=>by simp[cmpR]
 | _::_,[]=>by simp[cmpR]
 | a::x,b::y=>lex_range (cmpV_range a b) (cmpR_range x y)
theorem cmpR_zero:∀ {a b:List Val},cmpR a b=0→a=b
 | [],[],_=>rfl
 | [],_::_,h=>by simp[cmpR]at h
 | _::_,[],h=>by simp[cmpR]at h
 | a::x,b::y,h=>by
  obtain ⟨h1,h2⟩:=lex_zero h
  rw[cmpV_zero h1,cmpR_zero h2]
theorem cmpR_ok:WOk cmpR where
 anti:=by
  intro x
  induction x with
  | nil=>intro y;cases y<;>simp[cmpR]
  | cons a x ih=>
   intro y
   cases y with
   | nil=>simp[cmpR]
   | cons b y=>
    have h1:=ih y
    have h2:=cmpV_ok.anti a b
    have h3:=cmpV_ok.anti b a
    simp only[cmpR]
    unfold Go.AM.lex
    split<;>split<;>omega
 tr:=by
  intro x
  induction x with
  | nil=>intro y z _ _;cases z<;>simp[cmpR]
  | cons a x ih=>
   intro y z h1 h2
   cases y with
   | nil=>simp[cmpR]at h1
   | cons b y=>
    cases z with
    | nil=>simp[cmpR]at h2
    | cons e z=>
     have a1:=ih y z
     have b1:=cmpV_ok.tr a b e
     have b2:=fun h=>cmpV_ok.lt_le (x:=a) (y:=b) (z:=e) h
     have b3:=fun h h'=>cmpV_ok.le_lt (x:=a) (y:=b) (z:=e) h h'
     have b4:=cmpV_ok.tr e b a
     have b5:=cmpV_ok.anti a b;have b6:=cmpV_ok.anti b e;have b7:=cmpV_ok.anti a e
     have c5:=cmpV_ok.anti b a;have c6:=cmpV_ok.anti e b;have c7:=cmpV_ok.anti e a
     simp only[cmpR]at *
     unfold Go.AM.lex at *
     split at h1<;>split at h2<;>split<;>first|omega|(exact a1 h1 h2)
section
variable {α:Type} (c:α→α→Int)
def insC(x:α):List α→List α
 | []=>[x]
 | y::r=>if c x y≤0 then x::y::r else y::insC x r
def sortC:List α→List α
 | []=>[]
 | x::r=>insC c x (sortC r)
variable {c}
theorem insC_perm(x:α):∀ l,(insC c x l).Perm (x::l)
 | []=>List.Perm.refl _
 | y::r=>by
  unfold insC
  split
  ·exact List.Perm.refl _
  ·exact ((insC_perm x r).cons y).trans (List.Perm.swap x y r)
theorem sortC_perm:∀ l:List α,(sortC c l).Perm l
 | []=>List.Perm.refl _
 | x::r=>(insC_perm x _).trans ((sortC_perm r).cons x)
theorem insC_sorted(h:WOk c)(x:α):∀ l,l.Pairwise (fun a b=>c a b≤0)→(insC c x l).Pairwise fun a b=>c a b≤0
 | [],_=>by simp[insC]
 | y::r,hl=>by
  have hp:=List.pairwise_cons.1 hl
  unfold insC
  split
  ·rename_i hle
   exact List.pairwise_cons.2 ⟨fun z hz=>by
    rcases List.mem_cons.1 hz with rfl|hz
    ·exact hle
    ·exact h.tr _ _ _ hle (hp.1 z hz),hl⟩
  ·rename_i hle
   refine List.pairwise_cons.2 ⟨fun z hz=>?_,insC_sorted h x r hp.2⟩
   rcases List.mem_cons.1 ((insC_perm x r).mem_iff.1 hz) with rfl|hz
   ·have:=h.anti y z;have:=h.anti z y;omega
   ·exact hp.1 z hz
theorem sortC_sorted(h:WOk c):∀ l:List α,(sortC c l).Pairwise fun a b=>c a b≤0
 | []=>by simp[sortC]
 | x::r=>insC_sorted h x _ (sortC_sorted h r)
theorem sorted_unique(hz:∀ a b,c a b=0→a=b)(h:WOk c):∀ {l m:List α},l.Pairwise (fun a b=>c a b≤0)→m.Pairwise (fun a b=>c a b≤0)→l.Perm m→l=m
 | [],m,_,_,hp=>(List.nil_perm.1 hp).symm
 | x::l,[],_,_,hp=>absurd (List.perm_nil.1 hp) (by simp)
 | x::l,y::m,h1,h2,hp=>by
  have p1:=List.pairwise_cons.1 h1
  have p2:=List.pairwise_cons.1 h2
  have hxy:x=y:=by
   have hx:x∈y::m:=hp.mem_iff.1 (List.mem_cons_self ..)
   have hy:y∈x::l:=hp.mem_iff.2 (List.mem_cons_self ..)
   rcases List.mem_cons.1 hx with e|hx
   ·exact e
   ·rcases List.mem_cons.1 hy with e|hy
    ·exact e.symm
    ·have a1:=p2.1 x hx
     have a2:=p1.1 y hy
     have:=h.anti x y;have:=h.anti y x
     exact hz x y (by omega)
  subst hxy
  rw[sorted_unique hz h p1.2 p2.2 (List.Perm.cons_inv hp)]
end
end Go.AM
section
namespace Go.AM
open P
set_option maxHeartbeats 2000000
set_option maxRecDepth 4000
def Val.a(v:Val):AVal:=.agg [.int .i64 v.k,.int .i64 v.n,.int .u64 v.u,.str v.s]
def rowA(r:List Val):List AVal:=r.map Val.a
def rowsA(b:Bool)(rs:List (List Val)):List AVal:=rs.map fun r=>.imm b (rowA r)
@[simp] theorem rowA_length(r:List Val):(rowA r).length=r.length:=by simp[rowA]
@[simp] theorem rowsA_length(b:Bool)(rs:List (List Val)):(rowsA b rs).length=rs.length:=by simp[rowsA]
theorem rowA_get{r:List Val}{k:Nat}(h:k < r.length):(rowA r)[k]?=some r[k].a:=by simp[rowA,h]
theorem rowsA_get{b:Bool}{rs:List (List Val)}{k:Nat}(h:k < rs.length):(rowsA b rs)[k]?=some (.imm b (rowA rs[k])):=by simp[rowsA,h]
@[simp] theorem a_ncells(v:Val):ncells v.a=4:=rfl
@[simp] theorem a_isAgg(v:Val):isAgg v.a=true:=rfl
@[simp] theorem a_fz(v:Val)(fl top:Bool)(base:Nat)(σ:Store)(n:Nat):fz fl top base σ (n+2) v.a=v.a:=by simp[Val.a]
def blankV(v:Val):Val:=
 if v.k=1 then (if v.n≠0∧v.n≠1 then v else { v with k:=0,n:=0 })
 else if v.k=2 then { v with k:=0,n:=0 }
 else if v.k=0 then v
 else if v.k=3 then (if v.s.length≤40 then { v with k:=0,s:=[] } else v)
 else if v.k=4 then { v with k:=0,n:=0,u:=0 }
 else v
def okV(v:Val):Bool:=blankV v == ⟨0,0,0,[]⟩
theorem bne_t{a b:Int}(h:¬a=b):(a != b)=true:=by simp[h]
theorem beq_f{a b:Int}(h:¬a=b):(a == b)=false:=by simp[h]
theorem blank_spec(v:Val):pcall I.qhg [v.a]=some (blankV v).a:=by
 rw[pcall_eq c_qhg rfl]
 obtain ⟨k,n,u,s⟩:=v
 unfold blankV Val.a
 by_cases h1:k=1
 ·subst h1
  by_cases hn:n=0
  ·subst hn;simp[f_qhg,b_qhg]
  ·by_cases hn':n=1
   ·subst hn';simp[f_qhg,b_qhg]
   ·simp[f_qhg,b_qhg,bne_t hn,bne_t hn',hn,hn']
 ·by_cases h2:k=2
  ·subst h2;simp[f_qhg,b_qhg]
  ·by_cases h0:k=0
   ·subst h0;simp[f_qhg,b_qhg]
   ·by_cases h3:k=3
    ·subst h3
     by_cases hs:s.length≤40
     ·have hs':((s.length:Int)≤40):=by omega
      simp[f_qhg,b_qhg,hs,hs']
     ·have hs':¬((s.length:Int)≤40):=by omega
      simp[f_qhg,b_qhg,hs,hs']
    ·by_cases h4:k=4
     ·subst h4;simp[f_qhg,b_qhg]
     ·simp[f_qhg,b_qhg,beq_f h1,beq_f h2,beq_f h0,beq_f h3,beq_f h4,h1,h2,h0,h3,h4]
theorem a_mk(k n u:Int)(s:List UInt8):(Val.mk k n u s).a=.agg [.int .i64 k,.int .i64 n,.int .u64 u,.str s]:=rfl
theorem Check_spec(v:Val):pcall I.qgs [v.a]=some (.int .i64 (if okV v then 0 else 120)):=by
 rw[pcall_eq c_qgs rfl]
 have h:=blank_spec v
 unfold okV
 generalize hb:blankV v=w at h
 obtain ⟨k,n,u,s⟩:=w
 by_cases hk:k=0
 ·by_cases hn:n=0
  ·by_cases hu:u=0
   ·by_cases hs:s=[]
    ·subst hk hn hu hs;simp[f_qgs,b_qgs,h,a_mk]
    ·have hs':(s == [])=false:=by simp[hs]
     subst hk hn hu;simp[f_qgs,b_qgs,h,a_mk,hs,hs']
   ·subst hk hn;simp[f_qgs,b_qgs,h,a_mk,hu,beq_f hu]
  ·subst hk;simp[f_qgs,b_qgs,h,a_mk,hn,beq_f hn]
 ·simp[f_qgs,b_qgs,h,a_mk,hk,beq_f hk]
theorem bad_spec(v:Val):pcall I.qfe [v.a]=some (.bool (!okV v)):=by
 rw[pcall_eq c_qfe rfl]
 have h:=Check_spec v
 cases hv:okV v<;>rw[hv]at h<;>simp[f_qfe,b_qfe,h]
def ixOf(p:AVal→Bool)(xs:List AVal):Int:=if xs.any p then (xs.findIdx p:Int) else -1
theorem findIdx_before{p:AVal→Bool}{xs:List AVal}{k:Nat}(h:k < xs.findIdx p)(hk:k < xs.length):p xs[k]=false:=by
 simpa using List.not_of_lt_findIdx h
theorem IndexVal{b:Bool}{xs:List AVal}{f:AVal}{p:AVal→Bool}(hn:xs.length≤most)(hx:∀ x∈xs,ncells x=4∧isAgg x=true)(hfs:fz true false 0 [] 20 f=f)
  (hf:∀ x∈xs,acallV code f [x] []=some (.bool (p x),[])):pcall I.qgi [.imm b xs,f]=some (.int .i64 (ixOf p xs)):=by
 rw[pcall_eq c_qgi rfl]
 have hstep:∀ k,k < xs.length→p xs[k]! = false→thenLoop 0 [2,3,6,7] l_qgi_0 (run code l_qgi_0 ⟨[.imm b xs,f,.any,.any,.int .i64 xs.length,.int .i64 k,.any,.any],[]⟩) =
   rounds code 0 [2,3,6,7] l_qgi_0 ⟨[.imm b xs,f,.any,.any,.int .i64 xs.length,.int .i64 (k+1:Nat),.any,.any],[]⟩:=fun k hk hp=>by
  have h1:xs[k]?=some xs[k]:=by simp[hk]
  have h2:=hx xs[k] (List.getElem_mem hk)
  have h3:=hf xs[k] (List.getElem_mem hk)
  rw[show p xs[k]=false by simpa [hk] using hp]at h3
  have hlt:((k:Int) < (xs.length:Int)):=by omega
  simp[l_qgi_0,h1,h2,h3,hlt,wrap_lt hk hn,roundEnd_same]
 by_cases ha:xs.any p=true
 ·have hlt:=List.findIdx_lt_length_of_exists (List.any_eq_true.1 ha)
  have hp:p xs[xs.findIdx p]=true:=List.findIdx_getElem (w:=hlt)
  have hloop:=rounds_iter (base:=0) (clr:=[2,3,6,7]) (b:=l_qgi_0) (fun k=>⟨[.imm b xs,f,.any,.any,.int .i64 xs.length,.int .i64 k,.any,.any],[]⟩) (xs.findIdx p)
   (.ret,⟨[.imm b xs,f,.int .i64 (xs.findIdx p),.int .i64 (xs.findIdx p),.int .i64 xs.length,.int .i64 (xs.findIdx p),.bool true,.bool true],[]⟩)
   (fun k hk=>hstep k (by omega) (by rw[getElem!_pos xs k (by omega)];exact findIdx_before hk (by omega)))
   (by
    have h1:xs[xs.findIdx p]?=some xs[xs.findIdx p]:=List.getElem?_eq_getElem hlt
    have h2:=hx _ (List.getElem_mem hlt)
    have h3:=hf _ (List.getElem_mem hlt)
    rw[hp]at h3
    have hlt':((xs.findIdx p:Int) < (xs.length:Int)):=by omega
    simp[l_qgi_0,h1,h2,h3,hlt'])
  simp[f_qgi,b_qgi,hfs]
  simp at hloop
  rw[hloop]
  simp[ixOf,ha]
 ·have hall:∀ k (hk:k < xs.length),p xs[k]=false:=fun k hk=>by
   have:=List.any_eq_false.1 (Bool.not_eq_true _ ▸ ha) xs[k] (List.getElem_mem hk)
   simpa using this
  have hloop:=rounds_iter (base:=0) (clr:=[2,3,6,7]) (b:=l_qgi_0) (fun k=>⟨[.imm b xs,f,.any,.any,.int .i64 xs.length,.int .i64 k,.any,.any],[]⟩) xs.length
   (.ext 0,⟨[.imm b xs,f,.any,.any,.int .i64 xs.length,.int .i64 xs.length,.bool false,.any],[]⟩)
   (fun k hk=>hstep k hk (by rw[getElem!_pos xs k hk];exact hall k hk))
   (by simp[l_qgi_0])
  simp[f_qgi,b_qgi,hfs]
  simp at hloop
  rw[hloop]
  simp[ixOf,ha]
end Go.AM
end
section
namespace Go.AM
open P
set_option maxHeartbeats 2000000
set_option maxRecDepth 4000
theorem IndexRow{b:Bool}{xs:List AVal}{f:AVal}{p:AVal→Bool}(hn:xs.length≤most)(hx:∀ x∈xs,ncells x=1∧isAgg x=false)(hfs:fz true false 0 [] 20 f=f)
  (hf:∀ x∈xs,acallV code f [x] []=some (.bool (p x),[])):pcall I.qgh [.imm b xs,f]=some (.int .i64 (ixOf p xs)):=by
 rw[pcall_eq c_qgh rfl]
 have hstep:∀ k,k < xs.length→p xs[k]! = false→thenLoop 0 [2,3,6,7] l_qgh_0 (run code l_qgh_0 ⟨[.imm b xs,f,.any,.any,.int .i64 xs.length,.int .i64 k,.any,.any],[]⟩) =
   rounds code 0 [2,3,6,7] l_qgh_0 ⟨[.imm b xs,f,.any,.any,.int .i64 xs.length,.int .i64 (k+1:Nat),.any,.any],[]⟩:=fun k hk hp=>by
  have h1:xs[k]?=some xs[k]:=by simp[hk]
  have h2:=hx xs[k] (List.getElem_mem hk)
  have h3:=hf xs[k] (List.getElem_mem hk)
  rw[show p xs[k]=false by simpa [hk] using hp]at h3
  have hlt:((k:Int) < (xs.length:Int)):=by omega
  simp[l_qgh_0,h1,h2,h3,hlt,wrap_lt hk hn,roundEnd_same]
 by_cases ha:xs.any p=true
 ·have hlt:=List.findIdx_lt_length_of_exists (List.any_eq_true.1 ha)
  have hp:p xs[xs.findIdx p]=true:=List.findIdx_getElem (w:=hlt)
  have hloop:=rounds_iter (base:=0) (clr:=[2,3,6,7]) (b:=l_qgh_0) (fun k=>⟨[.imm b xs,f,.any,.any,.int .i64 xs.length,.int .i64 k,.any,.any],[]⟩) (xs.findIdx p)
   (.ret,⟨[.imm b xs,f,.int .i64 (xs.findIdx p),.int .i64 (xs.findIdx p),.int .i64 xs.length,.int .i64 (xs.findIdx p),.bool true,.bool true],[]⟩)
   (fun k hk=>hstep k (by omega) (by rw[getElem!_pos xs k (by omega)];exact findIdx_before hk (by omega)))
   (by
    have h1:xs[xs.findIdx p]?=some xs[xs.findIdx p]:=List.getElem?_eq_getElem hlt
    have h2:=hx _ (List.getElem_mem hlt)
    have h3:=hf _ (List.getElem_mem hlt)
    rw[hp]at h3
    have hlt':((xs.findIdx p:Int) < (xs.length:Int)):=by omega
    simp[l_qgh_0,h1,h2,h3,hlt'])
  simp[f_qgh,b_qgh,hfs]
  simp at hloop
  rw[hloop]
  simp[ixOf,ha]
 ·have hall:∀ k (hk:k < xs.length),p xs[k]=false:=fun k hk=>by
   have:=List.any_eq_false.1 (Bool.not_eq_true _ ▸ ha) xs[k] (List.getElem_mem hk)
   simpa using this
  have hloop:=rounds_iter (base:=0) (clr:=[2,3,6,7]) (b:=l_qgh_0) (fun k=>⟨[.imm b xs,f,.any,.any,.int .i64 xs.length,.int .i64 k,.any,.any],[]⟩) xs.length
   (.ext 0,⟨[.imm b xs,f,.any,.any,.int .i64 xs.length,.int .i64 xs.length,.bool false,.any],[]⟩)
   (fun k hk=>hstep k hk (by rw[getElem!_pos xs k hk];exact hall k hk))
   (by simp[l_qgh_0])
  simp[f_qgh,b_qgh,hfs]
  simp at hloop
  rw[hloop]
  simp[ixOf,ha]
theorem ContainsVal{b:Bool}{xs:List AVal}{f:AVal}{p:AVal→Bool}(hn:xs.length≤most)(hx:∀ x∈xs,ncells x=4∧isAgg x=true)(hfs:fz true false 0 [] 20 f=f)
  (hf:∀ x∈xs,acallV code f [x] []=some (.bool (p x),[])):pcall I.qfw [.imm b xs,f]=some (.bool (xs.any p)):=by
 rw[pcall_eq c_qfw rfl]
 have h:=IndexVal (b:=b) hn hx hfs hf
 simp[f_qfw,b_qfw,h,hfs]
 unfold ixOf
 cases xs.any p
 ·simp
 ·simp
theorem ContainsRow{b:Bool}{xs:List AVal}{f:AVal}{p:AVal→Bool}(hn:xs.length≤most)(hx:∀ x∈xs,ncells x=1∧isAgg x=false)(hfs:fz true false 0 [] 20 f=f)
  (hf:∀ x∈xs,acallV code f [x] []=some (.bool (p x),[])):pcall I.qfv [.imm b xs,f]=some (.bool (xs.any p)):=by
 rw[pcall_eq c_qfv rfl]
 have h:=IndexRow (b:=b) hn hx hfs hf
 simp[f_qfv,b_qfv,h,hfs]
 unfold ixOf
 cases xs.any p
 ·simp
 ·simp
def okR(r:List Val):Bool:=decide (r.length≤16)&&r.all okV
def asVal:AVal→Val
 | .agg [.int _ k,.int _ n,.int _ u,.str s]=>⟨k,n,u,s⟩
 | _=>default
def asRow:AVal→List Val
 | .imm _ xs=>xs.map asVal
 | _=>[]
@[simp] theorem asVal_a(v:Val):asVal v.a=v:=rfl
@[simp] theorem asRow_a(b:Bool)(r:List Val):asRow (.imm b (rowA r))=r:=by simp[asRow,rowA,Function.comp_def]
theorem not_any_not{α:Type}(p:α→Bool)(l:List α):(!l.any fun x=>!p x)=l.all p:=by
 induction l with
 | nil=>rfl
 | cons a l ih=>simp[List.any_cons,List.all_cons,← ih]
theorem right_spec(b:Bool)(r:List Val):pcall I.qfd [.imm b (rowA r)]=some (.bool (okR r)):=by
 rw[pcall_eq c_qfd rfl]
 unfold okR
 by_cases h:r.length≤16
 ·have hi:((r.length:Int)≤16):=by omega
  have hc:=fun b=>ContainsVal (b:=b) (xs:=rowA r) (f:=.fn 260 [] []) (p:=fun x=>!okV (asVal x)) (by simp;unfold most;omega) (fun x hx=>by
    obtain ⟨v,_,rfl⟩:=List.mem_map.1 hx
    exact ⟨rfl,rfl⟩) (by simp) (fun x hx=>by
    obtain ⟨v,hv,rfl⟩:=List.mem_map.1 hx
    have:=bad_spec v
    simp[this])
  have e:(!(rowA r).any fun x=>!okV (asVal x))=r.all okV:=by
   rw[← not_any_not,rowA,List.any_map]
   simp[Function.comp_def]
  simp[f_qfd,b_qfd,hi,hc,h,e]
 ·have hi:¬((r.length:Int)≤16):=by omega
  simp[f_qfd,b_qfd,h,hi]
theorem rowCheck_spec(b:Bool)(r:List Val):pcall I.qen [.imm b (rowA r)]=some (.int .i64 (if okR r then 0 else 150)):=by
 rw[pcall_eq c_qen rfl]
 have h:=fun b=>right_spec b r
 cases hr:okR r<;>rw[hr]at h<;>simp[f_qen,b_qen,h]
theorem right1_spec(b:Bool)(r:List Val):pcall I.qbj [.imm b (rowA r)]=some (.bool (!okR r)):=by
 rw[pcall_eq c_qbj rfl]
 have h:=fun b=>rowCheck_spec b r
 cases hr:okR r<;>rw[hr]at h<;>simp[f_qbj,b_qbj,h]
theorem rights_spec(b c:Bool)(rs:List (List Val))(hn:rs.length≤8000):pcall I.qbi [.imm b (rowsA c rs)]=some (.bool (rs.all okR)):=by
 rw[pcall_eq c_qbi rfl]
 have hi:((rs.length:Int)≤8000):=by omega
 have hc:=fun b=>ContainsRow (b:=b) (xs:=rowsA c rs) (f:=.fn 111 [] []) (p:=fun x=>!okR (asRow x)) (by simp;unfold most;omega) (fun x hx=>by
   obtain ⟨r,_,rfl⟩:=List.mem_map.1 hx
   exact ⟨rfl,rfl⟩) (by simp) (fun x hx=>by
   obtain ⟨r,hr,rfl⟩:=List.mem_map.1 hx
   have:=fun b=>right1_spec b r
   simp[this])
 have e:(!(rowsA c rs).any fun x=>!okR (asRow x))=rs.all okR:=by
  rw[← not_any_not,rowsA,List.any_map]
  simp[Function.comp_def]
 simp[f_qbi,b_qbi,hi,hc,e]
theorem isNaNk(n:Int):pcall I.qau [.int .i64 n]=some (.bool false):=by
 rw[pcall_eq c_qau rfl]
 simp[f_qau,b_qau]
theorem isNaNu(n:Int):pcall I.qax [.int .u64 n]=some (.bool false):=by
 rw[pcall_eq c_qax rfl]
 simp[f_qax,b_qax]
theorem isNaNs(s:List UInt8):pcall I.qaw [.str s]=some (.bool false):=by
 rw[pcall_eq c_qaw rfl]
 simp[f_qaw,b_qaw,binStr]
theorem Compare_k(n m:Int):pcall I.qap [.int .i64 n,.int .i64 m]=some (.int .i64 (icmp n m)):=by
 rw[pcall_eq c_qap rfl]
 unfold icmp
 by_cases h1:n < m
 ·simp[f_qap,b_qap,isNaNk,h1]
 ·by_cases h2:m < n
  ·simp[f_qap,b_qap,isNaNk,h1,h2]
  ·simp[f_qap,b_qap,isNaNk,h1,h2]
theorem Compare_n(n m:Int):pcall I.qaq [.int .i64 n,.int .i64 m]=some (.int .i64 (icmp n m)):=Compare64 n m
theorem Compare_uu(n m:Int):pcall I.qas [.int .u64 n,.int .u64 m]=some (.int .i64 (icmp n m)):=by
 rw[pcall_eq c_qas rfl]
 unfold icmp
 by_cases h1:n < m
 ·simp[f_qas,b_qas,isNaNu,h1]
 ·by_cases h2:m < n
  ·simp[f_qas,b_qas,isNaNu,h1,h2]
  ·simp[f_qas,b_qas,isNaNu,h1,h2]
theorem Compare_ss(a b:List UInt8):pcall I.qar [.str a,.str b]=some (.int .i64 (scmp a b)):=by
 rw[pcall_eq c_qar rfl]
 unfold scmp
 by_cases h1:Op.bytesLess a b=true
 ·simp[f_qar,b_qar,isNaNs,binStr,h1]
 ·by_cases h2:a=b
  ·subst h2
   have h4:Op.bytesLess a a=false:=by simpa using h1
   simp[f_qar,b_qar,isNaNs,binStr,h4]
  ·have h3:(a == b)=false:=by simp[h2]
   simp[f_qar,b_qar,isNaNs,binStr,h1,h3,h2]
theorem Or4(b:Bool)(a c d e:Int):pcall I.qat [.imm b [.int .i64 a,.int .i64 c,.int .i64 d,.int .i64 e]]=some (.int .i64 (lex a (lex c (lex d e)))):=by
 rw[pcall_eq c_qat rfl]
 unfold lex
 by_cases ha:a=0
 ·by_cases hc:c=0
  ·by_cases hd:d=0
   ·by_cases he:e=0
    ·subst ha hc hd he
     simp[f_qat,b_qat,l_qat_0,rounds_go,roundEnd,IntKind.wrap,IntKind.bits,IntKind.signed]
    ·subst ha hc hd
     simp[f_qat,b_qat,l_qat_0,rounds_go,roundEnd,IntKind.wrap,IntKind.bits,IntKind.signed,bne_t he]
   ·subst ha hc
    simp[f_qat,b_qat,l_qat_0,rounds_go,roundEnd,IntKind.wrap,IntKind.bits,IntKind.signed,bne_t hd,hd]
  ·subst ha
   simp[f_qat,b_qat,l_qat_0,rounds_go,roundEnd,IntKind.wrap,IntKind.bits,IntKind.signed,bne_t hc,hc]
 ·simp[f_qat,b_qat,l_qat_0,rounds_go,roundEnd,IntKind.wrap,IntKind.bits,IntKind.signed,bne_t ha,ha]
theorem values_spec(v w:Val):pcall I.qfj [v.a,w.a]=some (.int .i64 (cmpV v w)):=by
 rw[pcall_eq c_qfj rfl]
 simp[f_qfj,b_qfj,Val.a,Compare_k,Compare_n,Compare_uu,Compare_ss,Or4,cmpV]
end Go.AM
end
section
namespace Go.AM
open P
set_option maxHeartbeats 4000000
set_option maxRecDepth 4000
theorem cmpR_diff:∀ a b:List Val,∃ d,d≤a.length∧d≤b.length∧(∀ k (_:k < d) (ha:k < a.length) (hb:k < b.length),cmpV a[k] b[k]=0) ∧
  ((d=a.length∧cmpR a b=if a.length < b.length then -1 else 0)∨(d < a.length∧d=b.length∧cmpR a b=1)∨(∃ (ha:d < a.length) (hb:d < b.length),cmpV a[d] b[d]≠0∧cmpR a b=cmpV a[d] b[d]))
 | [],b=>⟨0,Nat.le_refl _,Nat.zero_le _,fun k h=>absurd h (Nat.not_lt_zero _),.inl ⟨rfl,by cases b<;>simp[cmpR]⟩⟩
 | a::x,[]=>⟨0,Nat.zero_le _,Nat.le_refl _,fun k h=>absurd h (Nat.not_lt_zero _),.inr (.inl ⟨by simp,rfl,rfl⟩)⟩
 | a::x,b::y=>by
  by_cases h:cmpV a b=0
  ·obtain ⟨d,h1,h2,h3,h4⟩:=cmpR_diff x y
   refine ⟨d+1,by simpa using h1,by simpa using h2,fun k hk ha hb=>?_,?_⟩
   ·cases k with
    | zero=>exact h
    | succ k=>exact h3 k (by omega) (by simpa using ha) (by simpa using hb)
   ·have e:cmpR (a::x) (b::y)=cmpR x y:=by simp[cmpR,lex,h]
    rw[e]
    rcases h4 with ⟨e1,e2⟩|⟨e1,e2,e3⟩|⟨ha,hb,e1,e2⟩
    ·exact .inl ⟨by simp[e1],by simpa using e2⟩
    ·exact .inr (.inl ⟨by simpa using e1,by simp[e2],e3⟩)
    ·exact .inr (.inr ⟨by simpa using ha,by simpa using hb,by simpa using e1,by simpa using e2⟩)
  ·exact ⟨0,Nat.zero_le _,Nat.zero_le _,fun k h=>absurd h (Nat.not_lt_zero _),.inr (.inr ⟨by simp,by simp,h,by simp[cmpR,lex,h]⟩)⟩
theorem CompareRows(b b':Bool)(r q:List Val)(hr:r.length≤most):pcall I.qfq [.imm b (rowA r),.imm b' (rowA q),.fn I.qfj [] []]=some (.int .i64 (cmpR r q)):=by
 rw[pcall_eq c_qfq rfl]
 obtain ⟨d,h1,h2,h3,h4⟩:=cmpR_diff r q
 have hstep:∀ k,k < d→thenLoop 0 [3,4,5,6,7,11,12,13] l_qfq_0 (run code l_qfq_0 ⟨[.imm b (rowA r),.imm b' (rowA q),.fn 143 [] [],.any,.any,.any,.any,.any,.imm b (rowA r),.int .i64 r.length,.int .i64 k,.any,.any,.any,.any],[]⟩) =
   rounds code 0 [3,4,5,6,7,11,12,13] l_qfq_0 ⟨[.imm b (rowA r),.imm b' (rowA q),.fn 143 [] [],.any,.any,.any,.any,.any,.imm b (rowA r),.int .i64 r.length,.int .i64 (k+1:Nat),.any,.any,.any,.any],[]⟩:=fun k hk=>by
  have ha:k < r.length:=by omega
  have hb:k < q.length:=by omega
  have e1:=rowA_get ha
  have e2:=rowA_get hb
  have e3:=values_spec r[k] q[k]
  rw[h3 k hk ha hb]at e3
  have i1:((k:Int) < (r.length:Int)):=by omega
  have i2:¬((q.length:Int)≤(k:Int)):=by omega
  simp[l_qfq_0,e1,e2,e3,i1,i2,wrap_lt ha hr,roundEnd]
 rcases h4 with ⟨e1,e2⟩|⟨e1,e2,e3⟩|⟨ha,hb,e1,e2⟩
 ·have hloop:=rounds_iter (base:=0) (clr:=[3,4,5,6,7,11,12,13]) (b:=l_qfq_0) (fun k=>⟨[.imm b (rowA r),.imm b' (rowA q),.fn 143 [] [],.any,.any,.any,.any,.any,.imm b (rowA r),.int .i64 r.length,.int .i64 k,.any,.any,.any,.any],[]⟩) d _ hstep (by
   subst e1
   simp[l_qfq_0];rfl)
  simp[f_qfq,b_qfq]
  simp at hloop
  rw[hloop,e2]
  by_cases hlt:r.length < q.length
  ·have i1:((r.length:Int) < (q.length:Int)):=by omega
   simp[hlt,i1]
  ·have i1:¬((r.length:Int) < (q.length:Int)):=by omega
   simp[hlt,i1]
 ·have hloop:=rounds_iter (base:=0) (clr:=[3,4,5,6,7,11,12,13]) (b:=l_qfq_0) (fun k=>⟨[.imm b (rowA r),.imm b' (rowA q),.fn 143 [] [],.any,.any,.any,.any,.any,.imm b (rowA r),.int .i64 r.length,.int .i64 k,.any,.any,.any,.any],[]⟩) d _ hstep (by
   have a1:=rowA_get e1
   have i1:((d:Int) < (r.length:Int)):=by omega
   have i2:((q.length:Int)≤(d:Int)):=by omega
   simp[l_qfq_0,a1,i1,i2];rfl)
  simp[f_qfq,b_qfq]
  simp at hloop
  rw[hloop,e3]
  simp
 ·have hloop:=rounds_iter (base:=0) (clr:=[3,4,5,6,7,11,12,13]) (b:=l_qfq_0) (fun k=>⟨[.imm b (rowA r),.imm b' (rowA q),.fn 143 [] [],.any,.any,.any,.any,.any,.imm b (rowA r),.int .i64 r.length,.int .i64 k,.any,.any,.any,.any],[]⟩) d _ hstep (by
   have a1:=rowA_get ha
   have a2:=rowA_get hb
   have a3:=values_spec r[d] q[d]
   have i1:((d:Int) < (r.length:Int)):=by omega
   have i2:¬((q.length:Int)≤(d:Int)):=by omega
   simp[l_qfq_0,a1,a2,a3,i1,i2,bne_t e1];rfl)
  simp[f_qfq,b_qfq]
  simp at hloop
  rw[hloop,e2]
  simp
theorem order_spec(b b':Bool)(r q:List Val)(hr:r.length≤most):pcall I.qfc [.imm b (rowA r),.imm b' (rowA q)]=some (.int .i64 (cmpR r q)):=by
 rw[pcall_eq c_qfc rfl]
 have:=fun b b'=>CompareRows b b' r q hr
 simp[f_qfc,b_qfc,this]
theorem Compare_spec(b b':Bool)(r q:List Val)(hr:okR r=true)(hq:okR q=true):pcall I.qeo [.imm b (rowA r),.imm b' (rowA q)]=some (.int .i64 (cmpR r q)):=by
 rw[pcall_eq c_qeo rfl]
 have hl:r.length≤most:=by
  unfold okR at hr;simp at hr;unfold most;omega
 have h1:=fun b b'=>order_spec b b' r q hl
 have h2:=fun b=>right_spec b r
 have h3:=fun b=>right_spec b q
 rw[hr]at h2
 rw[hq]at h3
 simp[f_qeo,b_qeo,h1,h2,h3]
theorem dvalues_spec(v w:Val)(hv:okV v=true)(hw:okV w=true):pcall I.qbl [v.a,w.a]=some (.int .i64 (cmpV v w)):=by
 rw[pcall_eq c_qbl rfl]
 have h:=fun b b'=>Compare_spec b b' [v] [w] (by simp[okR,hv]) (by simp[okR,hw])
 have e:cmpR [v] [w]=cmpV v w:=by
  simp only[cmpR]
  unfold lex
  split
  ·rfl
  ·omega
 rw[e]at h
 simp only[rowA,List.map_cons,List.map_nil]at h
 simp[f_qbl,b_qbl,h]
end Go.AM
end
section
namespace Go.AM
open P
set_option maxHeartbeats 4000000
set_option maxRecDepth 4000
def ordA(o:Int×Bool):AVal:=.agg [.int .i64 o.1,.bool o.2]
def ordsA(os:List (Int×Bool)):List AVal:=os.map ordA
@[simp] theorem ordsA_length(os:List (Int×Bool)):(ordsA os).length=os.length:=by simp[ordsA]
def colV(r:List Val)(i:Int):Val:=r.getD i.toNat default
theorem row_col{r:List Val}{i:Int}(h:0≤i∧i < r.length):(rowA r)[i.toNat]?=some (colV r i).a:=by
 have hl:i.toNat < r.length:=by omega
 rw[rowA_get hl]
 simp[colV,List.getD,hl]
end Go.AM
end
section
namespace Go.AM
open P
set_option maxHeartbeats 4000000
set_option maxRecDepth 4000
def ordOf:AVal→Int×Bool
 | .agg [.int _ c,.bool d]=>(c,d)
 | _=>(0,false)
@[simp] theorem ordOf_a(o:Int×Bool):ordOf (ordA o)=o:=rfl
@[simp] theorem rowA_fz(r:List Val)(fl top:Bool)(base:Nat)(σ:Store)(n:Nat):(rowA r).map (fz fl top base σ (n+2))=rowA r:=by
 unfold rowA
 rw[List.map_map]
 exact List.map_congr_left fun v _=>a_fz v fl top base σ n
@[simp] theorem rowA_ncells(r:List Val):(rowA r).map ncells=List.replicate r.length 4:=by
 unfold rowA
 rw[List.map_map,List.eq_replicate_iff]
 exact ⟨by simp,fun x hx=>by simp at hx;exact hx.2.symm ▸ rfl⟩
theorem rowA_all(r:List Val):((rowA r).all fun y=>ncells y == 4)=true:=by
 rw[List.all_eq_true]
 intro x hx
 obtain ⟨v,_,rfl⟩:=List.mem_map.1 hx
 rfl
theorem fresh_row(r:List Val)(id ep:Nat)(σ:Store)(h:σ[id]?=some (.arr 4 ep (rowA r))):freshOf 4 σ (.sl id ep 0 r.length)=.frs 4 (rowA r):=by
 have h9:(rowA r).take r.length=rowA r:=List.take_of_length_le (by simp)
 have h10:∀ σ',(rowA r).map (frozen σ')=rowA r:=fun σ'=>rowA_fz r false false 0 σ' 18
 simp only[freshOf,h,h9,h10,frsAt]
 simp
theorem clone_empty:∀ b,pcall I.qfl [.imm b []]=some (.frs 4 [])
 | true=>pcall_from (n:=20) (σ:=[]) (by kernel_rfl)
 | false=>pcall_from (n:=20) (σ:=[]) (by kernel_rfl)
theorem clone_spec(b:Bool)(r:List Val)(hn:r.length≤most):pcall I.qfl [.imm b (rowA r)]=some (.frs 4 (rowA r)):=by
 cases r with
 | nil=>exact clone_empty b
 | cons v r=>
  have hall:=rowA_all (v::r)
  have hl:(rowA (v::r)).length=r.length+1:=by simp
  have hne:emptyS [] (.imm b (rowA (v::r)))=false:=rfl
  unfold pcall
  rw[acall_nilfn good c_qfl,hne]
  simp only[Bool.false_eq_true,if_false]
  unfold acallG
  have hn':r.length+1≤most:=by simpa using hn
  have hnil:nilsV false [] (.imm b (rowA (v::r)))=some (.bool false):=rfl
  have hf:=fresh_row (v::r) 0 0 [.arr 4 0 (rowA (v::r))] rfl
  have hx:rowA (v::r)≠[]:=by simp[rowA]
  have hy:∀ x,x∈rowA (v::r)→ncells x=4:=fun x hx=>by simpa using List.all_eq_true.1 hall x hx
  have ht:(rowA (v::r)).take (r.length+1)=rowA (v::r):=List.take_of_length_le (by simp)
  simp only[List.length_cons]at hf
  generalize rowA (v::r)=xs at *
  simp[f_qfl,b_qfl,enter,leave,append,hall,hl,hn',-nilsV,hnil,hx]
  rw[if_pos hy]
  simp[leave]
  exact hf
end Go.AM
end
namespace Go.AM
class Nc {α:Type} (f:α→AVal) (n:outParam Nat) (g:outParam Bool):Prop where
 nc:∀ y,ncells (f y)=n
 ag:∀ y,isAgg (f y)=g
class Fx {α:Type} (f:α→AVal):Prop where
 fx:∀ fl top base σ n y,fz fl top base σ (n+3) (f y)=f y
class Ft {α:Type} (f:α→AVal):Prop where
 ft:∀ fl top base σ n y,(fl || top)=true→fz fl top base σ (n+3) (f y)=f y
abbrev i64(n:Int):AVal:=.int .i64 n
instance:Nc (fun n=>AVal.int .i64 n) 1 false:=⟨fun _=>rfl,fun _=>rfl⟩
instance:Nc (AVal.int .i64) 1 false:=⟨fun _=>rfl,fun _=>rfl⟩
instance:Fx (AVal.int .i64):=⟨fun _ _ _ _ _ _=>rfl⟩
instance:Nc Val.a 4 true:=⟨fun _=>rfl,fun _=>rfl⟩
instance:Fx Val.a:=⟨fun fl top base σ n y=>a_fz y fl top base σ (n+1)⟩
instance {α:Type} (f:α→AVal) [Fx f]:Ft f:=⟨fun fl top base σ n y _=>Fx.fx fl top base σ n y⟩
section
variable {α:Type} {f:α→AVal} {m:Nat} {g:Bool}
@[simp] theorem comp_fx[Fx f](fl top:Bool)(base:Nat)(σ:Store)(n:Nat)(l:List α):List.map (fz fl top base σ (n+3)∘f) l=List.map f l:=
 List.map_congr_left fun y _=>Fx.fx fl top base σ n y
@[simp] theorem comp_ftT[Ft f](top:Bool)(base:Nat)(σ:Store)(n:Nat)(l:List α):List.map (fz true top base σ (n+3)∘f) l=List.map f l:=
 List.map_congr_left fun y _=>Ft.ft true top base σ n y rfl
@[simp] theorem comp_ftF[Ft f](fl:Bool)(base:Nat)(σ:Store)(n:Nat)(l:List α):List.map (fz fl true base σ (n+3)∘f) l=List.map f l:=
 List.map_congr_left fun y _=>Ft.ft fl true base σ n y (by simp)
@[simp] theorem comp_freeze[Ft f](base:Nat)(σ:Store)(l:List α):List.map (freeze base σ∘f) l=List.map f l:=
 List.map_congr_left fun y _=>Ft.ft false true base σ 17 y rfl
@[simp] theorem comp_nc[Nc f m g](l:List α):List.map (ncells∘f) l=List.replicate l.length m:=by
 rw[List.eq_replicate_iff]
 exact ⟨by simp,fun x hx=>by
  obtain ⟨y,_,rfl⟩:=List.mem_map.1 hx
  exact Nc.nc y⟩
theorem all_nc[Nc f m g](l:List α):((l.map f).all fun y=>ncells y == m)=true:=by
 rw[List.all_eq_true]
 intro x hx
 obtain ⟨y,_,rfl⟩:=List.mem_map.1 hx
 simp[Nc.nc y]
@[simp] theorem take_map_all(l:List α)(f:α→AVal):List.take l.length (List.map f l)=List.map f l:=List.take_of_length_le (by simp)
end
end Go.AM
namespace Go.AM
structure SlX (α:Type) where
 b:Bool
 l:List α
abbrev SlX.c{α:Type}(f:α→AVal)(s:SlX α):AVal:=.imm s.b (s.l.map f)
end Go.AM
namespace Go.AM
open P
theorem condRun_if(a b:ACode)(s:St)(c:Bool):condRun a b s (.bool c)=if c=true then run code a s else run code b s:=by cases c<;>rfl
theorem when_if(env:List AVal)(x:Opd)(b:Bool)(o:AOp)(is:List Ins)(ls:List AVal)(σ:Store)(c:Bool) :
  whenOps env (P.g x b o) is ls σ (some c)=if c=true then thenOps env is ls (step code env ls σ o) else runOps code env is (ls++[.tup []]) σ:=by cases c<;>rfl
theorem bne_not{α:Type}[BEq α](a b:α):(a != b)=!(a == b):=rfl
end Go.AM
section
namespace Go.AM
open P
set_option maxHeartbeats 2000000
set_option maxRecDepth 4000
def rowP(two:Bool)(p:Int×Int):List AVal:=if two then [intV p.1,intV p.2] else [intV p.1]
def IsRow(two:Bool)(r:List AVal):Prop:=∃ p:Int×Int,(two=false→p.2=0)∧r=rowP two p
theorem IsRow.ok{two:Bool}{r:List AVal}(h:IsRow two r):RowOk r:=by
 obtain ⟨p,_,rfl⟩:=h
 cases two
 ·exact row1_ok p.1
 ·exact row2_ok p.1 p.2
theorem all_fuel{α:Type}{F:Nat→α→Prop}(hm:∀ n m x,n≤m→F n x→F m x):∀ l:List α,(∀ x∈l,∃ n,F n x)→∃ n,∀ x∈l,F n x
 | [],_=>⟨0,fun _ h=>by cases h⟩
 | x::l,h=>by
  obtain ⟨n,hn⟩:=h x (List.mem_cons_self ..)
  obtain ⟨m,hm'⟩:=all_fuel hm l fun y hy=>h y (List.mem_cons_of_mem _ hy)
  refine ⟨max n m,fun y hy=>?_⟩
  rcases List.mem_cons.1 hy with rfl|hy
  ·exact hm _ _ _ (Nat.le_max_left ..) hn
  ·exact hm _ _ _ (Nat.le_max_right ..) (hm' y hy)
end Go.AM
end
section
namespace Go.AM
open P
set_option maxHeartbeats 4000000
set_option maxRecDepth 4000
theorem insertBy_map{α:Type}{le:AVal→AVal→Bool}{c:α→α→Int}{f:α→AVal}{a:α}:∀ {l:List α},(∀ b∈l,le (f a) (f b)=decide (c a b≤0))→insertBy le (f a) (l.map f)=(insC c a l).map f
 | [],_=>rfl
 | b::r,h=>by
  have h1:=h b (List.mem_cons_self ..)
  simp only[List.map_cons,insertBy,insC,h1]
  by_cases hc:c a b≤0
  ·simp[hc]
  ·simp[hc,insertBy_map fun x hx=>h x (List.mem_cons_of_mem _ hx)]
theorem sortBy_map{α:Type}{le:AVal→AVal→Bool}{c:α→α→Int}{f:α→AVal}:∀ {l:List α},(∀ a∈l,∀ b∈l,le (f a) (f b)=decide (c a b≤0))→sortBy le (l.map f)=(sortC c l).map f
 | [],_=>rfl
 | a::r,h=>by
  simp only[List.map_cons,sortBy,sortC]
  rw[sortBy_map fun x hx y hy=>h x (List.mem_cons_of_mem _ hx) y (List.mem_cons_of_mem _ hy)]
  exact insertBy_map fun b hb=>h a (List.mem_cons_self ..) b (List.mem_cons_of_mem _ ((sortC_perm r).mem_iff.1 hb))
theorem rowsA_V(rs:List (List Val)):rowsA false rs=rowsV (rs.map rowA):=by simp[rowsA,rowsV,Function.comp_def]
theorem rowsA_succ{rs:List (List Val)}{k:Nat}(h:k < rs.length):rowsA false (rs.take (k+1))=rowsA false (rs.take k)++[.imm false (rowA rs[k])]:=by
 unfold rowsA
 rw[List.take_succ_eq_append_getElem h,List.map_append]
 rfl
theorem rowsA_fz(rs:List (List Val))(top:Bool)(base:Nat)(σ:Store)(n:Nat):(rowsA false rs).map (fz false top base σ (n+1))=rowsA false rs:=by
 rw[rowsA_V];exact rows_freeze _ top base σ n
theorem rowsA_freeze(rs:List (List Val))(base:Nat)(σ:Store):(rowsA false rs).map (freeze base σ)=rowsA false rs:=by
 rw[rowsA_V];exact rows_freeze' _ base σ
theorem rowsA_nc(rs:List (List Val))(base:Nat)(σ:Store):(rowsA false rs).map (ncells∘freeze base σ)=List.replicate rs.length 1:=by
 rw[rowsA_V,rows_nc];simp
theorem rowsA_nc'(rs:List (List Val))(fl top:Bool)(base:Nat)(σ:Store)(n:Nat):(∀ a,a∈rowsA false rs→ncells (fz fl top base σ (n+1) a)=ncells a)↔True:=
 ⟨fun _=>trivial,fun _ a ha=>by
  obtain ⟨r,_,rfl⟩:=List.mem_map.1 ha
  simp⟩
@[simp] theorem rowsA_ncells(rs:List (List Val)):(rowsA false rs).map ncells=List.replicate rs.length 1:=by
 rw[rowsA_V,rowsV_ncells];simp
theorem rowA_nc(r:List Val)(fl top:Bool)(base:Nat)(σ:Store)(n:Nat):(∀ a,a∈rowA r→ncells (fz fl top base σ (n+2) a)=ncells a)↔True:=
 ⟨fun _=>trivial,fun _ a ha=>by
  obtain ⟨v,_,rfl⟩:=List.mem_map.1 ha
  simp⟩
end Go.AM
end
section
namespace Go.AM
open P
set_option maxHeartbeats 4000000
set_option maxRecDepth 4000
theorem sortC_length{α:Type}(c:α→α→Int)(l:List α):(sortC c l).length=l.length:=(sortC_perm l).length_eq
theorem eqa_self(v:Val):eqa true [0,0,0,2] v.a v.a=some (.bool false):=by simp[Val.a]
theorem Equal_self(b b':Bool)(r:List Val)(hn:r.length≤most):pcall I.qgc [.imm b (rowA r),.imm b' (rowA r)]=some (.bool true):=by
 rw[pcall_eq c_qgc rfl]
 have hloop:=rounds_iter (base:=0) (clr:=[2,3,7,8]) (b:=l_qgc_0) (fun k=>⟨[.imm b (rowA r),.imm b' (rowA r),.any,.any,.bool false,.int .i64 r.length,.int .i64 k,.any,.any],[]⟩) r.length
  (.ext 0,⟨[.imm b (rowA r),.imm b' (rowA r),.any,.any,.bool false,.int .i64 r.length,.int .i64 r.length,.bool false,.any],[]⟩)
  (fun k hk=>by
   have h1:=rowA_get hk
   have hlt:((k:Int) < (r.length:Int)):=by omega
   have h2:=eqa_self r[k]
   simp[l_qgc_0,h1,hlt,-eqa,h2,wrap_lt hk hn,roundEnd_same])
  (by simp[l_qgc_0])
 simp at hloop
 simp[f_qgc,b_qgc,hloop]
theorem equal_self(b b':Bool)(r:List Val)(hn:r.length≤most):pcall I.qey [.imm b (rowA r),.imm b' (rowA r)]=some (.bool true):=by
 rw[pcall_eq c_qey rfl]
 have:=fun b b'=>Equal_self b b' r hn
 simp[f_qey,b_qey,this]
theorem Same_self(b b' c c':Bool)(rs:List (List Val))(hn:rs.length≤most)(hr:∀ r∈rs,r.length≤most):pcall I.qet [.imm b (rowsA c rs),.imm b' (rowsA c' rs)]=some (.bool true):=by
 rw[pcall_eq c_qet rfl]
 have h:∀ b b',pcall I.qga [.imm b (rowsA c rs),.imm b' (rowsA c' rs),.fn 116 [] []]=some (.bool true):=fun b b'=>by
  rw[pcall_eq c_qga rfl]
  have hloop:=rounds_iter (base:=0) (clr:=[3,4,5,6,11,12]) (b:=l_qga_0) (fun k=>⟨[.imm b (rowsA c rs),.imm b' (rowsA c' rs),.fn 116 [] [],.any,.any,.any,.any,.bool false,.imm b (rowsA c rs),.int .i64 rs.length,.int .i64 k,.any,.any],[]⟩) rs.length
   (.ext 0,⟨[.imm b (rowsA c rs),.imm b' (rowsA c' rs),.fn 116 [] [],.any,.any,.any,.any,.bool false,.imm b (rowsA c rs),.int .i64 rs.length,.int .i64 rs.length,.bool false,.any],[]⟩)
   (fun k hk=>by
    have h1:=rowsA_get (b:=c) hk
    have h2:=rowsA_get (b:=c') hk
    have h3:=fun b b'=>equal_self b b' rs[k] (hr _ (List.getElem_mem hk))
    have hlt:((k:Int) < (rs.length:Int)):=by omega
    simp[l_qga_0,h1,h2,h3,hlt,wrap_lt hk hn,roundEnd_same])
   (by simp[l_qga_0])
  simp at hloop
  simp[f_qga,b_qga,hloop]
 simp[f_qet,b_qet,h]
theorem alike_self(b b' c c':Bool)(rs:List (List Val))(hn:rs.length≤most)(hr:∀ r∈rs,r.length≤most):pcall I.qu [.imm b (rowsA c rs),.imm b' (rowsA c' rs)]=some (.bool true):=by
 rw[pcall_eq c_qu rfl]
 have:=fun b b'=>Same_self b b' c c' rs hn hr
 simp[f_qu,b_qu,this]
end Go.AM
end
section
namespace Go.AM
open P
set_option maxHeartbeats 4000000
set_option maxRecDepth 4000
def thenKeep(res:List Res)(r:Option (Ex×St)):Option (AVal×Store):=r.bind fun r=>match r.1 with
 | .ext _=>none
 | _=>(results r.2 res).map fun v=>(v,r.2.st)
@[simp] theorem thenKeep_ret(res:List Res)(s:St):thenKeep res (some (.ret,s))=(results s res).map fun v=>(v,s.st):=rfl
@[simp] theorem thenKeep_nrm(res:List Res)(s:St):thenKeep res (some (.nrm,s))=(results s res).map fun v=>(v,s.st):=rfl
theorem acall_keep{f:Nat}{g:AFunc}(h:code.fns f=.fn g)(hm:g.mode=.keep)(args:List AVal)(σ:Store) :
  acall code f args σ=thenKeep g.res (run code g.body ⟨args.take g.np++List.replicate (g.nenv - g.np) .any,σ⟩):=by
 rw[acall_fn good h]
 have he:enter g args σ=⟨args.take g.np++List.replicate (g.nenv - g.np) .any,σ⟩:=by unfold enter;rw[hm]
 rw[he]
 unfold thenKeep
 congr 1
 funext r
 obtain ⟨e,s⟩:=r
 unfold leave finish
 rw[hm]
 cases e<;>rfl
theorem rowA_take(r:List Val)(k:Nat):(rowA r).take k=rowA (r.take k):=by simp[rowA,List.map_take]
theorem rowA_nc4(r:List Val):∀ a,a∈rowA r→ncells a=4:=fun a ha=>by
 obtain ⟨o,_,rfl⟩:=List.mem_map.1 ha
 rfl
theorem cutVal_spec(b:Bool)(r:List Val):pcall I.qab [.imm b (rowA r),.int .i64 17]=some (.frs 4 (rowA (r.take 17))):=by
 rw[pcall_eq c_qab rfl]
 by_cases h:17 < r.length
 ·have hi:((17:Int) < r.length):=by omega
  have h1:min 17 r.length=17:=by omega
  have h2:r.take 17≠[]:=List.ne_nil_of_length_pos (by simp;omega)
  have h3:rowA (r.take 17)≠[]:=List.ne_nil_of_length_pos (by simp;omega)
  have h4:(17:Nat)≤r.length:=by omega
  have h5:(rowA (r.take 17)).take 17=rowA (r.take 17):=List.take_of_length_le (by simp;omega)
  have h7:=fun a ha=>rowA_nc4 r a ha
  have h8:=fun a ha=>rowA_nc4 (r.take 17) a ha
  have hf:=fresh_row (r.take 17) 0 1 [.arr 4 1 (rowA (r.take 17))] rfl
  rw[show (r.take 17).length=17 by simp;omega]at hf
  simp[f_qab,b_qab,hi,append,rowA_take,h1,h2,h3,h4,h5,if_pos h7,if_pos h8,most,hf]
 ·have hi:¬((17:Int) < r.length):=by omega
  have h0:r.take 17=r:=List.take_of_length_le (by omega)
  have h6:r.take r.length=r:=List.take_of_length_le (by omega)
  have h7:=fun a ha=>rowA_nc4 r a ha
  rw[h0]
  by_cases he:r=[]
  ·subst he
   simp[f_qab,b_qab,append,rowA,freshOf]
  ·have h3:rowA r≠[]:=by simpa [rowA] using he
   have h5:(rowA r).take r.length=rowA r:=List.take_of_length_le (by simp)
   have h9:r.length≤most:=by unfold most;omega
   have hf:=fresh_row r 0 1 [.arr 4 1 (rowA r)] rfl
   simp[f_qab,b_qab,hi,append,rowA_take,he,h3,h5,h6,if_pos h7,h9,hf]
end Go.AM
end
