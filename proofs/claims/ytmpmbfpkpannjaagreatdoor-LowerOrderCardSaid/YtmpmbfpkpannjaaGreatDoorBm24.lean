/- Part of the proof. -/
import Derived.Test.YtmpmbfpkpannjaaGreatDoorBm23
set_option linter.unusedVariables false
set_option linter.unusedSimpArgs false
set_option linter.unusedSectionVars false
namespace Go.AM
def anF:List aq:=[.str [83,69,76,69,67,84,32,98,32,70,82,79,77,32,116,32,87,72,69,82,69,32,97,32,61,32,49]]
def anK:aq:=.tup [.agg [.aa false [.agg [.bool false,.bool false,.aa false [.agg [.aa false [.agg [.int .i64 2,.int .i64 (-1),.int .i64 (-1),.int .i64 0,.int .i64 0,.int .u64 0,.str [],.str [],.str [98]]],.str []]],.str [116],.str [],.aa false [],.aa false [.agg [.int .i64 2,.int .i64 (-1),.int .i64 (-1),.int .i64 0,.int .i64 0,.int .u64 0,.str [],.str [],.str [97]],.agg [.int .i64 1,.int .i64 (-1),.int .i64 (-1),.int .i64 2,.int .i64 1,.int .u64 0,.str [],.str [],.str []],.agg [.int .i64 16,.int .i64 0,.int .i64 1,.int .i64 0,.int .i64 0,.int .u64 0,.str [],.str [],.str []]],.aa false [],.aa false []]],.aa false [],.int .i64 (-1)],.int .i64 0,.int .i64 0]
def akl:List aq:=[.str [83,69,76,69,67,84,32,122,32,70,82,79,77,32,116]]
def amV:aq:=.tup [.agg [.aa false [.agg [.bool false,.bool false,.aa false [.agg [.aa false [.agg [.int .i64 2,.int .i64 (-1),.int .i64 (-1),.int .i64 0,.int .i64 0,.int .u64 0,.str [],.str [],.str [122]]],.str []]],.str [116],.str [],.aa false [],.aa false [],.aa false [],.aa false []]],.aa false [],.int .i64 (-1)],.int .i64 0,.int .i64 0]
def alf:List aq:=[.agg [.aa false [.agg [.str [116],.aa false [.agg [.str [97],.int .i64 2],.agg [.str [98],.int .i64 3]],.aa false []],.agg [.str [117],.aa false [.agg [.str [97],.int .i64 2]],.aa false []]]],.agg [.aa false [.agg [.bool false,.bool false,.aa false [.agg [.aa false [.agg [.int .i64 2,.int .i64 (-1),.int .i64 (-1),.int .i64 0,.int .i64 0,.int .u64 0,.str [],.str [],.str [98]]],.str []]],.str [116],.str [],.aa false [],.aa false [.agg [.int .i64 2,.int .i64 (-1),.int .i64 (-1),.int .i64 0,.int .i64 0,.int .u64 0,.str [],.str [],.str [97]],.agg [.int .i64 1,.int .i64 (-1),.int .i64 (-1),.int .i64 2,.int .i64 1,.int .u64 0,.str [],.str [],.str []],.agg [.int .i64 16,.int .i64 0,.int .i64 1,.int .i64 0,.int .i64 0,.int .u64 0,.str [],.str [],.str []]],.aa false [],.aa false []]],.aa false [],.int .i64 (-1)]]
def akj:aq:=.tup [.agg [.aa false [.agg [.aa false [.int .i64 0],.aa false [],.aa false [.agg [.int .i64 2,.int .i64 (-1),.int .i64 (-1),.int .i64 0,.int .i64 0,.int .i64 0,.int .u64 0,.str []],.agg [.int .i64 1,.int .i64 (-1),.int .i64 (-1),.int .i64 0,.int .i64 2,.int .i64 1,.int .u64 0,.str []],.agg [.int .i64 16,.int .i64 0,.int .i64 1,.int .i64 0,.int .i64 0,.int .i64 0,.int .u64 0,.str []]],.aa false [],.bool false,.bool false,.aa false [],.aa false [],.aa false [.agg [.aa false [.agg [.int .i64 2,.int .i64 (-1),.int .i64 (-1),.int .i64 1,.int .i64 0,.int .i64 0,.int .u64 0,.str []]]]]]],.aa false [.str [98]],.aa false [.int .i64 3],.aa false [],.int .i64 (-1)],.int .i64 0,.int .i64 0]
def am5:List aq:=[.agg [.aa false [.agg [.str [116],.aa false [.agg [.str [97],.int .i64 2],.agg [.str [98],.int .i64 3]],.aa false []],.agg [.str [117],.aa false [.agg [.str [97],.int .i64 2]],.aa false []]]],.agg [.aa false [.agg [.bool false,.bool false,.aa false [.agg [.aa false [.agg [.int .i64 2,.int .i64 (-1),.int .i64 (-1),.int .i64 0,.int .i64 0,.int .u64 0,.str [],.str [],.str [122]]],.str []]],.str [116],.str [],.aa false [],.aa false [],.aa false [],.aa false []]],.aa false [],.int .i64 (-1)]]
def amf:aq:=.tup [.agg [.aa false [],.aa false [],.aa false [],.aa false [],.int .i64 0],.int .i64 4,.int .i64 222]
def ann:List aq:=[.agg [.aa false [.agg [.str [116],.aa false [.agg [.str [97],.int .i64 2],.agg [.str [98],.int .i64 3]],.aa false []],.agg [.str [117],.aa false [.agg [.str [97],.int .i64 2]],.aa false []]]],.agg [.aa false [.agg [.aa false [.int .i64 0],.aa false [],.aa false [.agg [.int .i64 2,.int .i64 (-1),.int .i64 (-1),.int .i64 0,.int .i64 0,.int .i64 0,.int .u64 0,.str []],.agg [.int .i64 1,.int .i64 (-1),.int .i64 (-1),.int .i64 0,.int .i64 2,.int .i64 1,.int .u64 0,.str []],.agg [.int .i64 16,.int .i64 0,.int .i64 1,.int .i64 0,.int .i64 0,.int .i64 0,.int .u64 0,.str []]],.aa false [],.bool false,.bool false,.aa false [],.aa false [],.aa false [.agg [.aa false [.agg [.int .i64 2,.int .i64 (-1),.int .i64 (-1),.int .i64 1,.int .i64 0,.int .i64 0,.int .u64 0,.str []]]]]]],.aa false [.str [98]],.aa false [.int .i64 3],.aa false [],.int .i64 (-1)]]
def anD:aq:=.tup [.agg [.aa false [.agg [.int .i64 1,.int .i64 (-1),.int .i64 (-1),.int .i64 0,.aa false [.int .i64 2,.int .i64 3],.bool false,.aa false [],.aa false [],.aa false [],.aa false [],.aa false [],.int .i64 0],.agg [.int .i64 3,.int .i64 0,.int .i64 (-1),.int .i64 0,.aa false [],.bool false,.aa false [.agg [.int .i64 2,.int .i64 (-1),.int .i64 (-1),.int .i64 0,.int .i64 0,.int .i64 0,.int .u64 0,.str []],.agg [.int .i64 1,.int .i64 (-1),.int .i64 (-1),.int .i64 0,.int .i64 2,.int .i64 1,.int .u64 0,.str []],.agg [.int .i64 16,.int .i64 0,.int .i64 1,.int .i64 0,.int .i64 0,.int .i64 0,.int .u64 0,.str []]],.aa false [],.aa false [],.aa false [],.aa false [],.int .i64 0],.agg [.int .i64 5,.int .i64 1,.int .i64 (-1),.int .i64 0,.aa false [],.bool false,.aa false [],.aa false [],.aa false [],.aa false [.agg [.aa false [.agg [.int .i64 2,.int .i64 (-1),.int .i64 (-1),.int .i64 1,.int .i64 0,.int .i64 0,.int .u64 0,.str []]]]],.aa false [],.int .i64 0],.agg [.int .i64 8,.int .i64 2,.int .i64 (-1),.int .i64 0,.aa false [],.bool false,.aa false [],.aa false [],.aa false [],.aa false [],.aa false [],.int .i64 (-1)]]],.int .i64 0]
end Go.AM
namespace Go.AM
def He(P:Code)(C:ic)(n:Nat):ic:=fun f args σ=>match P.fns f with
 |.none=>none
 |.prim k=>P.prims k C args σ
 |.fn g=>pE C n g args σ
 |.nilfn g=>match args with
  |x::rest=>
   if jJ σ x then (pE C n g (.emp true::rest) σ).bind fun r=>(pE C n g (.emp false::rest) σ).bind fun q=>if same r.1 q.1&&rN r.2 q.2 then some r else none
   else pE C n g args σ
  |[]=>none
 |.round g=>match args with
  |.frs l _::rest=>
   match σ[l]? with
   |some (.pend false none)=>
    if (rest.drop g.nenv).length=g.params.length then
     (exec C n g.pre ⟨sz (rest.take g.nenv) g.params (rest.drop g.nenv),σ⟩).bind (pf C n l g.body)
    else none
   |_=>none
  |_=>none
theorem Jc(P:Code)(n:Nat)(f:Nat)(args:List aq)(σ:aw):dV P (n+1) f args σ=He P (dV P n) n f args σ:=by
 simp only[dV,He];rfl
theorem Q3{P:Code}(g:P.Good){C D:ic}{n m:Nat}(a:Wc C D)(b:n≤m):Wc (He P C n) (He P D m):=fun f args σ r h=>by
 unfold He at h ⊢;split at h
 ·cases h
 ·exact g _ _ _ _ _ _ a h
 ·exact lY a b h
 ·split at h
  ·split at h
   ·rename_i d;rw[if_pos d];rw[aL]at h ⊢;obtain⟨x,e,c⟩:=h;refine⟨x,lY a b e,?_⟩;rw[aL]at c ⊢;obtain⟨y,j,c⟩:=c;exact⟨y,lY a b j,c⟩
   rename_i d;rw[if_neg d];exact lY a b h
  cases h
 split at h
 ·split at h
  ·split at h
   ·rename_i i;rw[if_pos i];rw[aL]at h ⊢;obtain⟨x,e,c⟩:=h;exact⟨x,gZ a b e,xE a b c⟩
   cases h
  cases h
 cases h
structure xW where
 f:Nat
 args:List aq
 out:aq
def af9(m:List xW)(f:Nat)(args:List aq):Option aq:=(m.find? fun e=>e.f==f&&qT e.args args).map (·.out)
def CS(P:Code)(m:List xW):Nat→ic
 |0=>fun _ _ _=>none
 |n+1=>fun f args σ=>match af9 m f (args.map (snap σ)) with
  |some v=>some (v,σ)
  |none=>He P (CS P m n) n f args σ
def IJ:kQ→Bool
 |.fn g=>g.mode.isPure
 |_=>false
def xW.Ok(P:Code)(N:Nat)(e:xW):Prop:=IJ (P.fns e.f)=true∧dV P N e.f e.args []=some (e.out,[])
theorem PZ{P:Code}{N f:Nat}(b:IJ (P.fns f)=true){args:List aq}{σ:aw}{v:aq}(h:dV P N f (args.map (snap σ)) []=some (v,[])):dV P N f args σ=some (v,σ):=by
 cases N with
 |zero=>cases h
 |succ n=>
  cases hf:P.fns f with
  |fn g=>
   rw[hf]at b;have a:g.mode.isPure=true:=b;rw[Jc]at h ⊢;unfold He at h ⊢;rw[hf]at h ⊢;dsimp only at h ⊢;unfold pE at h ⊢;have i:enter g args σ=enter g (args.map (snap σ)) []:=by
    have d:((args.map (snap σ)).take g.np).map (snap [])=(args.take g.np).map (snap σ):=by
     rw[←List.map_take,bT];exact aT fun x _=>pI σ [] x
    unfold enter;cases hg:g.mode<;>rw[hg]at a<;>first|exact absurd a (by decide)|(simp only[d])
   rw[i];rw[aL]at h ⊢;obtain⟨r,j,c⟩:=h;refine⟨r,j,?_⟩;obtain⟨e,s⟩:=r;have key:(results s g.res).map (fun v=>ij g.mode [] s v)=some (v,[])→(results s g.res).map (fun v=>ij g.mode σ s v)=some (v,σ):=fun h=>by
    cases hq:results s g.res with
    |none=>rw[hq]at h;cases h
    |some x=>
     rw[hq]at h;cases hg:g.mode<;>rw[hg]at a h<;>first|exact absurd a (by decide)|(simp only[dL,aK,ij,dX]at h ⊢;exact⟨h.1,trivial⟩)
   cases e with
   |ext _=>cases c
   |nrm=>exact key c
   |ret=>exact key c
  |_=>rw[hf]at b;cases b
theorem uv{P:Code}(c:P.Good){m:List xW}{N:Nat}(j:∀e∈m,e.Ok P N):∀n,Wc (CS P m n) (dV P (n+N))
 |0=>fun _ _ _ _ h=>by cases h
 |n+1=>fun f args σ r h=>by
  have l:=uv c j n;unfold CS at h;split at h
  ·rename_i v a;cases h;unfold af9 at a;rw[aR]at a;obtain⟨e,i,a⟩:=a;subst a;have d:=List.mem_of_find?_eq_some i;have k:=List.find?_some i;simp only[ax,aX]at k;obtain⟨rfl,b⟩:=k;have b:=nP b;obtain⟨k1,k2⟩:=j e d;rw[b]at k2;have:=PZ k1 k2;have g:=(mn c e.f args σ).le (show N≤n+1+N by omega) this;exact g
  rw[show n+1+N=(n+N)+1 by omega,Jc];exact Q3 c l (Nat.le_add_right n N) f args σ r h
theorem xW.Ok.mono{N a:Nat}{e:xW}{P:Code}(b:P.Good)(h:e.Ok P N)(c:N≤a):e.Ok P a:=⟨h.1,(mn b e.f e.args []).le c h.2⟩
end Go.AM
section
set_option maxRecDepth 100000
namespace Go.AM
def kq1:List xW:=[
 ⟨86,[.agg [.aa false [.agg [.str [116],.aa false [.agg [.str [97],.int .i64 2],.agg [.str [98],.int .i64 3]],.aa false []],.agg [.str [117],.aa false [.agg [.str [97],.int .i64 2]],.aa false []]]]],.int .i64 0⟩,
 ⟨11,[.str [116]],.bool true⟩,
 ⟨11,[.str [97]],.bool true⟩,
 ⟨11,[.str [98]],.bool true⟩,
 ⟨11,[.str [117]],.bool true⟩,
 ⟨11,[.str [122]],.bool true⟩,
 ⟨41,[.agg [.aa false [.agg [.int .i64 2,.int .i64 (-1),.int .i64 (-1),.int .i64 0,.int .i64 0,.int .i64 0,.int .u64 0,.str []],.agg [.int .i64 1,.int .i64 (-1),.int .i64 (-1),.int .i64 0,.int .i64 2,.int .i64 1,.int .u64 0,.str []],.agg [.int .i64 16,.int .i64 0,.int .i64 1,.int .i64 0,.int .i64 0,.int .i64 0,.int .u64 0,.str []]]],.aa false [.int .i64 2,.int .i64 3]],.tup [.int .i64 1,.int .i64 0]⟩,
 ⟨41,[.agg [.aa false [.agg [.int .i64 2,.int .i64 (-1),.int .i64 (-1),.int .i64 1,.int .i64 0,.int .i64 0,.int .u64 0,.str []]]],.aa false [.int .i64 2,.int .i64 3]],.tup [.int .i64 3,.int .i64 0]⟩]
noncomputable def okB(N:Nat)(e:xW):Bool:=IJ (code.fns e.f)&&match dV code N e.f e.args [] with
 |some (v,[])=>same v e.out
 |_=>false
theorem ai9{N:Nat}{e:xW}(h:okB N e=true):e.Ok code N:=by
 unfold okB at h;simp only[ax]at h;refine⟨h.1,?_⟩;have a:=h.2;split at a
 ·rename_i v b;rw[b,tz a]
 cases a
theorem akR:(kq1.all fun e=>okB 40 e)=true:=by kernel_rfl
theorem Eg:∀e∈kq1,e.Ok code 40:=fun e a=>ai9 (ba.1 akR e a)
end Go.AM
end
section
set_option maxRecDepth 100000
namespace Go.AM
theorem ads:CS code kq1 60 122 anF []=some (anK,[]):=by kernel_rfl
end Go.AM
end
section
set_option maxRecDepth 100000
namespace Go.AM
theorem ab8:CS code kq1 60 122 akl []=some (amV,[]):=by kernel_rfl
end Go.AM
end
section
set_option maxRecDepth 100000
namespace Go.AM
theorem adu:CS code kq1 60 134 alf []=some (akj,[]):=by kernel_rfl
end Go.AM
end
section
set_option maxRecDepth 100000
namespace Go.AM
theorem acZ:CS code kq1 60 134 am5 []=some (amf,[]):=by kernel_rfl
end Go.AM
end
section
set_option maxRecDepth 100000
namespace Go.AM
theorem aer:CS code kq1 60 171 ann []=some (anD,[]):=by kernel_rfl
end Go.AM
end
section
set_option maxRecDepth 100000
namespace Go.AM
def kq2:List xW:=[⟨122,anF,anK⟩,⟨122,akl,amV⟩,⟨134,alf,akj⟩,⟨134,am5,amf⟩,⟨171,ann,anD⟩]
theorem ahs:∀e∈kq2,e.Ok code 100:=fun e a=>by
 simp only[kq2,dW,List.not_mem_nil,or_false]at a;rcases a with rfl|rfl|rfl|rfl|rfl
 ·exact⟨rfl,uv good Eg 60 _ _ _ _ ads⟩
 ·exact⟨rfl,uv good Eg 60 _ _ _ _ ab8⟩
 ·exact⟨rfl,uv good Eg 60 _ _ _ _ adu⟩
 ·exact⟨rfl,uv good Eg 60 _ _ _ _ acZ⟩
 exact⟨rfl,uv good Eg 60 _ _ _ _ aer⟩
theorem Sp:CS code (kq2++kq1) 60 I.qaz [] []=some (.bool true,[]):=by kernel_rfl
theorem adY:∀e∈kq2++kq1,e.Ok code 100:=fun e a=>by
 rcases aY.1 a with h|h
 ·exact ahs e h
 exact xW.Ok.mono good (Eg e h) (by decide)
theorem We:dV code 160 I.qaz [] []=some (.bool true,[]):=uv good adY 60 _ _ _ _ Sp
end Go.AM
end
namespace Go.AM
open P
set_option maxHeartbeats 64000000
set_option maxRecDepth 40000
theorem U5{d:Type}{cs:List Sh}{f:d→aq}(hd:∀b:List aq,b.length=cs.length→(∀i (h:i<cs.length) (n:i<b.length),mA cs[i] b[i])→∃a,aq.agg b=f a){x:aq}(h:mA (.sl true cs) x):∃l:List d,x=.aa true (l.map f):=by
 obtain⟨xs,rfl,o,e,g⟩:=h.sl_inv;obtain⟨m,rfl⟩:=aar f (l:=xs) fun x c=>by
  obtain⟨b,rfl,j,k⟩:=O7 (e x c) (g x c);exact hd b j k
 exact⟨m,rfl⟩
theorem abI{x:aq}(h:mA (.sl false [.int .i64]) x):∃l:List Int,x=.aa true (l.map (.int .i64)):=by
 obtain⟨xs,rfl,e,c,d⟩:=h.sl_inv;obtain⟨m,rfl⟩:=aar (.int .i64) (l:=xs) fun x b=>by
  obtain⟨a,rfl,_⟩:=(abJ (c x b) (d x b)).int_inv;exact⟨a,rfl⟩
 exact⟨m,rfl⟩
abbrev coX:List Sh:=[.str,.int .i64]
theorem aik(b:List aq)(d:b.length=coX.length)(c:∀i (h:i<coX.length) (g:i<b.length),mA coX[i] b[i]):∃a,aq.agg b=fE.a a:=by
 match b,d,c with
 |[j,k],_,c=>
  obtain⟨e,rfl,_⟩:=(c 0 (by simp) (by simp)).str_inv;obtain⟨f,rfl,_⟩:=(c 1 (by simp) (by simp)).int_inv;exact⟨⟨e,f⟩,rfl⟩
abbrev taX:List Sh:=[.str,.sl true coX,.sl false [.int .i64]]
theorem ahv(c:List aq)(d:c.length=taX.length)(b:∀i (h:i<taX.length) (j:i<c.length),mA taX[i] c[i]):∃a,aq.agg c=iH.a a:=by
 match c,d,b with
 |[k,l,m],_,b=>
  obtain⟨e,rfl,_⟩:=(b 0 (by simp) (by simp)).str_inv;obtain⟨f,rfl⟩:=U5 aik (b 1 (by simp) (by simp));obtain⟨g,rfl⟩:=abI (b 2 (by simp) (by simp));exact⟨⟨e,true,f,true,g⟩,rfl⟩
abbrev ahX:List Sh:=[.sl true taX]
theorem ab5{x:aq}(h:JL (true,ahX) x):∃l:List iH,x=.agg [.aa true (l.map iH.a)]:=by
 obtain⟨d,rfl,b,a⟩:=O7 (cs:=ahX) ⟨h.1,h.2.1,h.2.2.1⟩ h.2.2.2
 match d,b,a with
 |[e],_,a=>
  obtain⟨c,rfl⟩:=U5 ahv (a 0 (by simp) (by simp));exact⟨c,rfl⟩
theorem adM:bw I.qaz []=some (.bool true):=kV (n:=160) (σ:=[]) We
end Go.AM
