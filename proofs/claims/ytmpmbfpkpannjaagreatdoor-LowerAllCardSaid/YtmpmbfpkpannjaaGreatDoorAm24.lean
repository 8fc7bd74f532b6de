/- Part of the proof. -/
import Derived.Test.YtmpmbfpkpannjaaGreatDoorAm23
set_option linter.unusedVariables false
set_option linter.unusedSimpArgs false
set_option linter.unusedSectionVars false
namespace Go.AM
def akS:List aq:=[.str [83,69,76,69,67,84,32,98,32,70,82,79,77,32,116,32,87,72,69,82,69,32,97,32,61,32,49]]
def ak1:aq:=.tup [.agg [.aa false [.agg [.bool false,.bool false,.aa false [.agg [.aa false [.agg [.int .i64 2,.int .i64 (-1),.int .i64 (-1),.int .i64 0,.int .i64 0,.int .u64 0,.str [],.str [],.str [98]]],.str []]],.str [116],.str [],.aa false [],.aa false [.agg [.int .i64 2,.int .i64 (-1),.int .i64 (-1),.int .i64 0,.int .i64 0,.int .u64 0,.str [],.str [],.str [97]],.agg [.int .i64 1,.int .i64 (-1),.int .i64 (-1),.int .i64 2,.int .i64 1,.int .u64 0,.str [],.str [],.str []],.agg [.int .i64 16,.int .i64 0,.int .i64 1,.int .i64 0,.int .i64 0,.int .u64 0,.str [],.str [],.str []]],.aa false [],.aa false []]],.aa false [],.int .i64 (-1)],.int .i64 0,.int .i64 0]
def amW:List aq:=[.str [83,69,76,69,67,84,32,122,32,70,82,79,77,32,116]]
def anK:aq:=.tup [.agg [.aa false [.agg [.bool false,.bool false,.aa false [.agg [.aa false [.agg [.int .i64 2,.int .i64 (-1),.int .i64 (-1),.int .i64 0,.int .i64 0,.int .u64 0,.str [],.str [],.str [122]]],.str []]],.str [116],.str [],.aa false [],.aa false [],.aa false [],.aa false []]],.aa false [],.int .i64 (-1)],.int .i64 0,.int .i64 0]
def alP:List aq:=[.agg [.aa false [.agg [.str [116],.aa false [.agg [.str [97],.int .i64 2],.agg [.str [98],.int .i64 3]],.aa false []],.agg [.str [117],.aa false [.agg [.str [97],.int .i64 2]],.aa false []]]],.agg [.aa false [.agg [.bool false,.bool false,.aa false [.agg [.aa false [.agg [.int .i64 2,.int .i64 (-1),.int .i64 (-1),.int .i64 0,.int .i64 0,.int .u64 0,.str [],.str [],.str [98]]],.str []]],.str [116],.str [],.aa false [],.aa false [.agg [.int .i64 2,.int .i64 (-1),.int .i64 (-1),.int .i64 0,.int .i64 0,.int .u64 0,.str [],.str [],.str [97]],.agg [.int .i64 1,.int .i64 (-1),.int .i64 (-1),.int .i64 2,.int .i64 1,.int .u64 0,.str [],.str [],.str []],.agg [.int .i64 16,.int .i64 0,.int .i64 1,.int .i64 0,.int .i64 0,.int .u64 0,.str [],.str [],.str []]],.aa false [],.aa false []]],.aa false [],.int .i64 (-1)]]
def anH:aq:=.tup [.agg [.aa false [.agg [.aa false [.int .i64 0],.aa false [],.aa false [.agg [.int .i64 2,.int .i64 (-1),.int .i64 (-1),.int .i64 0,.int .i64 0,.int .i64 0,.int .u64 0,.str []],.agg [.int .i64 1,.int .i64 (-1),.int .i64 (-1),.int .i64 0,.int .i64 2,.int .i64 1,.int .u64 0,.str []],.agg [.int .i64 16,.int .i64 0,.int .i64 1,.int .i64 0,.int .i64 0,.int .i64 0,.int .u64 0,.str []]],.aa false [],.bool false,.bool false,.aa false [],.aa false [],.aa false [.agg [.aa false [.agg [.int .i64 2,.int .i64 (-1),.int .i64 (-1),.int .i64 1,.int .i64 0,.int .i64 0,.int .u64 0,.str []]]]]]],.aa false [.str [98]],.aa false [.int .i64 3],.aa false [],.int .i64 (-1)],.int .i64 0,.int .i64 0]
def ams:List aq:=[.agg [.aa false [.agg [.str [116],.aa false [.agg [.str [97],.int .i64 2],.agg [.str [98],.int .i64 3]],.aa false []],.agg [.str [117],.aa false [.agg [.str [97],.int .i64 2]],.aa false []]]],.agg [.aa false [.agg [.bool false,.bool false,.aa false [.agg [.aa false [.agg [.int .i64 2,.int .i64 (-1),.int .i64 (-1),.int .i64 0,.int .i64 0,.int .u64 0,.str [],.str [],.str [122]]],.str []]],.str [116],.str [],.aa false [],.aa false [],.aa false [],.aa false []]],.aa false [],.int .i64 (-1)]]
def aol:aq:=.tup [.agg [.aa false [],.aa false [],.aa false [],.aa false [],.int .i64 0],.int .i64 4,.int .i64 222]
def aok:List aq:=[.agg [.aa false [.agg [.str [116],.aa false [.agg [.str [97],.int .i64 2],.agg [.str [98],.int .i64 3]],.aa false []],.agg [.str [117],.aa false [.agg [.str [97],.int .i64 2]],.aa false []]]],.agg [.aa false [.agg [.aa false [.int .i64 0],.aa false [],.aa false [.agg [.int .i64 2,.int .i64 (-1),.int .i64 (-1),.int .i64 0,.int .i64 0,.int .i64 0,.int .u64 0,.str []],.agg [.int .i64 1,.int .i64 (-1),.int .i64 (-1),.int .i64 0,.int .i64 2,.int .i64 1,.int .u64 0,.str []],.agg [.int .i64 16,.int .i64 0,.int .i64 1,.int .i64 0,.int .i64 0,.int .i64 0,.int .u64 0,.str []]],.aa false [],.bool false,.bool false,.aa false [],.aa false [],.aa false [.agg [.aa false [.agg [.int .i64 2,.int .i64 (-1),.int .i64 (-1),.int .i64 1,.int .i64 0,.int .i64 0,.int .u64 0,.str []]]]]]],.aa false [.str [98]],.aa false [.int .i64 3],.aa false [],.int .i64 (-1)]]
def aj9:aq:=.tup [.agg [.aa false [.agg [.int .i64 1,.int .i64 (-1),.int .i64 (-1),.int .i64 0,.aa false [.int .i64 2,.int .i64 3],.bool false,.aa false [],.aa false [],.aa false [],.aa false [],.aa false [],.int .i64 0],.agg [.int .i64 3,.int .i64 0,.int .i64 (-1),.int .i64 0,.aa false [],.bool false,.aa false [.agg [.int .i64 2,.int .i64 (-1),.int .i64 (-1),.int .i64 0,.int .i64 0,.int .i64 0,.int .u64 0,.str []],.agg [.int .i64 1,.int .i64 (-1),.int .i64 (-1),.int .i64 0,.int .i64 2,.int .i64 1,.int .u64 0,.str []],.agg [.int .i64 16,.int .i64 0,.int .i64 1,.int .i64 0,.int .i64 0,.int .i64 0,.int .u64 0,.str []]],.aa false [],.aa false [],.aa false [],.aa false [],.int .i64 0],.agg [.int .i64 5,.int .i64 1,.int .i64 (-1),.int .i64 0,.aa false [],.bool false,.aa false [],.aa false [],.aa false [],.aa false [.agg [.aa false [.agg [.int .i64 2,.int .i64 (-1),.int .i64 (-1),.int .i64 1,.int .i64 0,.int .i64 0,.int .u64 0,.str []]]]],.aa false [],.int .i64 0],.agg [.int .i64 8,.int .i64 2,.int .i64 (-1),.int .i64 0,.aa false [],.bool false,.aa false [],.aa false [],.aa false [],.aa false [],.aa false [],.int .i64 (-1)]]],.int .i64 0]
end Go.AM
namespace Go.AM
def IN(P:Code)(C:ir)(n:Nat):ir:=fun f args σ=>match P.fns f with
 |.none=>none
 |.prim k=>P.prims k C args σ
 |.fn g=>pJ C n g args σ
 |.nilfn g=>match args with
  |x::rest=>
   if kw σ x then (pJ C n g (.emp true::rest) σ).bind fun r=>(pJ C n g (.emp false::rest) σ).bind fun q=>if same r.1 q.1&&su r.2 q.2 then some r else none
   else pJ C n g args σ
  |[]=>none
 |.round g=>match args with
  |.frs l _::rest=>
   match σ[l]? with
   |some (.pend false none)=>
    if (rest.drop g.nenv).length=g.params.length then
     (exec C n g.pre ⟨sA (rest.take g.nenv) g.params (rest.drop g.nenv),σ⟩).bind (pq C n l g.body)
    else none
   |_=>none
  |_=>none
theorem IX(P:Code)(n:Nat)(f:Nat)(args:List aq)(σ:aw):dV P (n+1) f args σ=IN P (dV P n) n f args σ:=by
 simp only[dV,IN];rfl
theorem Rb{P:Code}(i:P.Good){C D:ir}{n m:Nat}(a:WM C D)(c:n≤m):WM (IN P C n) (IN P D m):=fun f args σ r h=>by
 unfold IN at h ⊢;split at h
 ·cases h
 ·exact i _ _ _ _ _ _ a h
 ·exact mg a c h
 ·split at h
  ·split at h
   ·rename_i d;rw[if_pos d];rw[aK]at h ⊢;obtain⟨x,e,b⟩:=h;refine⟨x,mg a c e,?_⟩;rw[aK]at b ⊢;obtain⟨y,g,b⟩:=b;exact⟨y,mg a c g,b⟩
   rename_i d;rw[if_neg d];exact mg a c h
  cases h
 split at h
 ·split at h
  ·split at h
   ·rename_i j;rw[if_pos j];rw[aK]at h ⊢;obtain⟨x,e,b⟩:=h;exact⟨x,im a c e,wT a c b⟩
   cases h
  cases h
 cases h
structure yb where
 f:Nat
 args:List aq
 out:aq
def agj(m:List yb)(f:Nat)(args:List aq):Option aq:=(m.find? fun e=>e.f==f&&qZ e.args args).map (·.out)
def Df(P:Code)(m:List yb):Nat→ir
 |0=>fun _ _ _=>none
 |n+1=>fun f args σ=>match agj m f (args.map (snap σ)) with
  |some v=>some (v,σ)
  |none=>IN P (Df P m n) n f args σ
def ID:li→Bool
 |.fn g=>g.mode.isPure
 |_=>false
def yb.Ok(P:Code)(N:Nat)(e:yb):Prop:=ID (P.fns e.f)=true∧dV P N e.f e.args []=some (e.out,[])
theorem Sv{P:Code}{N f:Nat}(a:ID (P.fns f)=true){args:List aq}{σ:aw}{v:aq}(h:dV P N f (args.map (snap σ)) []=some (v,[])):dV P N f args σ=some (v,σ):=by
 cases N with
 |zero=>cases h
 |succ n=>
  cases hf:P.fns f with
  |fn g=>
   rw[hf]at a;have b:g.mode.isPure=true:=a;rw[IX]at h ⊢;unfold IN at h ⊢;rw[hf]at h ⊢;dsimp only at h ⊢;unfold pJ at h ⊢;have j:enter g args σ=enter g (args.map (snap σ)) []:=by
    have i:((args.map (snap σ)).take g.np).map (snap [])=(args.take g.np).map (snap σ):=by
     rw[←List.map_take,bY];exact aW fun x _=>pK σ [] x
    unfold enter;cases hg:g.mode<;>rw[hg]at b<;>first|exact absurd b (by decide)|(simp only[i])
   rw[j];rw[aK]at h ⊢;obtain⟨r,d,c⟩:=h;refine⟨r,d,?_⟩;obtain⟨e,s⟩:=r;have key:(results s g.res).map (fun v=>iw g.mode [] s v)=some (v,[])→(results s g.res).map (fun v=>iw g.mode σ s v)=some (v,σ):=fun h=>by
    cases hq:results s g.res with
    |none=>rw[hq]at h;cases h
    |some x=>
     rw[hq]at h;cases hg:g.mode<;>rw[hg]at b h<;>first|exact absurd b (by decide)|(simp only[dK,aL,iw,dZ]at h ⊢;exact⟨h.1,trivial⟩)
   cases e with
   |ext _=>cases c
   |nrm=>exact key c
   |ret=>exact key c
  |_=>rw[hf]at a;cases a
theorem uQ{P:Code}(d:P.Good){m:List yb}{N:Nat}(i:∀e∈m,e.Ok P N):∀n,WM (Df P m n) (dV P (n+N))
 |0=>fun _ _ _ _ h=>by cases h
 |n+1=>fun f args σ r h=>by
  have l:=uQ d i n;unfold Df at h;split at h
  ·rename_i v a;cases h;unfold agj at a;rw[aQ]at a;obtain⟨e,k,a⟩:=a;subst a;have c:=List.mem_of_find?_eq_some k;have j:=List.find?_some k;simp only[ax,aX]at j;obtain⟨rfl,g⟩:=j;have g:=nW g;obtain⟨k1,k2⟩:=i e c;rw[g]at k2;have:=Sv k1 k2;have b:=(mf d e.f args σ).le (show N≤n+1+N by omega) this;exact b
  rw[show n+1+N=(n+N)+1 by omega,IX];exact Rb d l (Nat.le_add_right n N) f args σ r h
theorem yb.Ok.mono{N a:Nat}{e:yb}{P:Code}(b:P.Good)(h:e.Ok P N)(c:N≤a):e.Ok P a:=⟨h.1,(mf b e.f e.args []).le c h.2⟩
end Go.AM
section
set_option maxRecDepth 100000
namespace Go.AM
def kq1:List yb:=[
 ⟨86,[.agg [.aa false [.agg [.str [116],.aa false [.agg [.str [97],.int .i64 2],.agg [.str [98],.int .i64 3]],.aa false []],.agg [.str [117],.aa false [.agg [.str [97],.int .i64 2]],.aa false []]]]],.int .i64 0⟩,
 ⟨11,[.str [116]],.bool true⟩,
 ⟨11,[.str [97]],.bool true⟩,
 ⟨11,[.str [98]],.bool true⟩,
 ⟨11,[.str [117]],.bool true⟩,
 ⟨11,[.str [122]],.bool true⟩,
 ⟨41,[.agg [.aa false [.agg [.int .i64 2,.int .i64 (-1),.int .i64 (-1),.int .i64 0,.int .i64 0,.int .i64 0,.int .u64 0,.str []],.agg [.int .i64 1,.int .i64 (-1),.int .i64 (-1),.int .i64 0,.int .i64 2,.int .i64 1,.int .u64 0,.str []],.agg [.int .i64 16,.int .i64 0,.int .i64 1,.int .i64 0,.int .i64 0,.int .i64 0,.int .u64 0,.str []]]],.aa false [.int .i64 2,.int .i64 3]],.tup [.int .i64 1,.int .i64 0]⟩,
 ⟨41,[.agg [.aa false [.agg [.int .i64 2,.int .i64 (-1),.int .i64 (-1),.int .i64 1,.int .i64 0,.int .i64 0,.int .u64 0,.str []]]],.aa false [.int .i64 2,.int .i64 3]],.tup [.int .i64 3,.int .i64 0]⟩]
noncomputable def okB(N:Nat)(e:yb):Bool:=ID (code.fns e.f)&&match dV code N e.f e.args [] with
 |some (v,[])=>same v e.out
 |_=>false
theorem aiY{N:Nat}{e:yb}(h:okB N e=true):e.Ok code N:=by
 unfold okB at h;simp only[ax]at h;refine⟨h.1,?_⟩;have a:=h.2;split at a
 ·rename_i v b;rw[b,tj a]
 cases a
theorem alS:(kq1.all fun e=>okB 40 e)=true:=by kernel_rfl
theorem DG:∀e∈kq1,e.Ok code 40:=fun e a=>aiY (aY.1 alS e a)
end Go.AM
end
section
set_option maxRecDepth 100000
namespace Go.AM
theorem acj:Df code kq1 60 122 akS []=some (ak1,[]):=by kernel_rfl
end Go.AM
end
section
set_option maxRecDepth 100000
namespace Go.AM
theorem adM:Df code kq1 60 122 amW []=some (anK,[]):=by kernel_rfl
end Go.AM
end
section
set_option maxRecDepth 100000
namespace Go.AM
theorem adk:Df code kq1 60 134 alP []=some (anH,[]):=by kernel_rfl
end Go.AM
end
section
set_option maxRecDepth 100000
namespace Go.AM
theorem adL:Df code kq1 60 134 ams []=some (aol,[]):=by kernel_rfl
end Go.AM
end
section
set_option maxRecDepth 100000
namespace Go.AM
theorem adr:Df code kq1 60 171 aok []=some (aj9,[]):=by kernel_rfl
end Go.AM
end
section
set_option maxRecDepth 100000
namespace Go.AM
def kq2:List yb:=[⟨122,akS,ak1⟩,⟨122,amW,anK⟩,⟨134,alP,anH⟩,⟨134,ams,aol⟩,⟨171,aok,aj9⟩]
theorem aiE:∀e∈kq2,e.Ok code 100:=fun e a=>by
 simp only[kq2,dY,List.not_mem_nil,or_false]at a;rcases a with rfl|rfl|rfl|rfl|rfl
 ·exact⟨rfl,uQ good DG 60 _ _ _ _ acj⟩
 ·exact⟨rfl,uQ good DG 60 _ _ _ _ adM⟩
 ·exact⟨rfl,uQ good DG 60 _ _ _ _ adk⟩
 ·exact⟨rfl,uQ good DG 60 _ _ _ _ adL⟩
 exact⟨rfl,uQ good DG 60 _ _ _ _ adr⟩
theorem QR:Df code (kq2++kq1) 60 I.qaz [] []=some (.bool true,[]):=by kernel_rfl
theorem adv:∀e∈kq2++kq1,e.Ok code 100:=fun e a=>by
 rcases ba.1 a with h|h
 ·exact aiE e h
 exact yb.Ok.mono good (DG e h) (by decide)
theorem Wj:dV code 160 I.qaz [] []=some (.bool true,[]):=uQ good adv 60 _ _ _ _ QR
end Go.AM
end
namespace Go.AM
open P
set_option maxHeartbeats 64000000
set_option maxRecDepth 40000
theorem UT{c:Type}{cs:List Sh}{f:c→aq}(hd:∀b:List aq,b.length=cs.length→(∀i (h:i<cs.length) (o:i<b.length),mJ cs[i] b[i])→∃a,aq.agg b=f a){x:aq}(h:mJ (.sl true cs) x):∃l:List c,x=.aa true (l.map f):=by
 obtain⟨xs,rfl,n,e,j⟩:=h.sl_inv;obtain⟨m,rfl⟩:=aaa f (l:=xs) fun x d=>by
  obtain⟨b,rfl,k,g⟩:=Pj (e x d) (j x d);exact hd b k g
 exact⟨m,rfl⟩
theorem Yr{x:aq}(h:mJ (.sl false [.int .i64]) x):∃l:List Int,x=.aa true (l.map (.int .i64)):=by
 obtain⟨xs,rfl,e,d,c⟩:=h.sl_inv;obtain⟨m,rfl⟩:=aaa (.int .i64) (l:=xs) fun x b=>by
  obtain⟨a,rfl,_⟩:=(Yy (d x b) (c x b)).int_inv;exact⟨a,rfl⟩
 exact⟨m,rfl⟩
abbrev coX:List Sh:=[.str,.int .i64]
theorem ah4(b:List aq)(f:b.length=coX.length)(c:∀i (h:i<coX.length) (k:i<b.length),mJ coX[i] b[i]):∃a,aq.agg b=fG.a a:=by
 match b,f,c with
 |[j,g],_,c=>
  obtain⟨d,rfl,_⟩:=(c 0 (by simp) (by simp)).str_inv;obtain⟨e,rfl,_⟩:=(c 1 (by simp) (by simp)).int_inv;exact⟨⟨d,e⟩,rfl⟩
abbrev taX:List Sh:=[.str,.sl true coX,.sl false [.int .i64]]
theorem aiN(b:List aq)(g:b.length=taX.length)(c:∀i (h:i<taX.length) (m:i<b.length),mJ taX[i] b[i]):∃a,aq.agg b=iD.a a:=by
 match b,g,c with
 |[l,k,j],_,c=>
  obtain⟨d,rfl,_⟩:=(c 0 (by simp) (by simp)).str_inv;obtain⟨f,rfl⟩:=UT ah4 (c 1 (by simp) (by simp));obtain⟨e,rfl⟩:=Yr (c 2 (by simp) (by simp));exact⟨⟨d,true,f,true,e⟩,rfl⟩
abbrev aiV:List Sh:=[.sl true taX]
theorem ad5{x:aq}(h:J8 (true,aiV) x):∃l:List iD,x=.agg [.aa true (l.map iD.a)]:=by
 obtain⟨b,rfl,d,a⟩:=Pj (cs:=aiV) ⟨h.1,h.2.1,h.2.2.1⟩ h.2.2.2
 match b,d,a with
 |[e],_,a=>
  obtain⟨c,rfl⟩:=UT aiN (a 0 (by simp) (by simp));exact⟨c,rfl⟩
theorem aeb:bB I.qaz []=some (.bool true):=kV (n:=160) (σ:=[]) Wj
end Go.AM
