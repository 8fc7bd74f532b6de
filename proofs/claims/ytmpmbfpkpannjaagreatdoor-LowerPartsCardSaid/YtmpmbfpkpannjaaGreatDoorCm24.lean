/- Part of the proof. -/
import Derived.Test.YtmpmbfpkpannjaaGreatDoorCm23
set_option linter.unusedVariables false
set_option linter.unusedSimpArgs false
set_option linter.unusedSectionVars false
namespace Go.AM
open P
set_option maxHeartbeats 64000000
set_option maxRecDepth 40000
attribute [local simp] aG bj
theorem Ig(H:bB I.qaz []=some (aC true))(B:Bool)(c:List iI)(text:List UInt8):bB I.qas [aH [.aa B (c.map iI.a)],aO text]=some (aC true):=by
 rw[aR agi rfl];have o:=Tp B c;have p:=Tp true c;obtain⟨E,F⟩:=WS c;generalize BG c=x at *;obtain⟨m,j,P,k⟩:∃m:Nat,(if (600:Int)<(text.length:Int) then (600:Int) else (text.length:Int))=(m:Int)∧m≤600∧m≤text.length:=by
  by_cases h:(600:Int)<(text.length:Int)
  ·exact⟨600,by rw[if_pos h];rfl,by omega,by omega⟩
  exact⟨text.length,by rw[if_neg h],by omega,by omega⟩
 obtain⟨v,A,O⟩:=aci (text.take m) (by simp;omega);rcases O with⟨a,e,G,rfl⟩|⟨q,rfl⟩
 ·simp[aso,T7,H,o,p,j,k,A,G]
 have n:q.a=aH [.aa false (q.sels.map mL.a),.aa false ((q.keys.getD []).map BZ.a),ap q.limit]:=rfl;rcases adA x E F q with⟨a,e,G,y⟩|⟨b,L,t,y,f⟩
 ·rw[n]at A y;simp[aso,T7,H,o,p,j,k,A,y,G]
 obtain⟨J,i⟩:=akr f;have R:=f.tl;have d:bB I.qef [mC x,b.a]=some (Lb 240 (some (t++[FK b t]))):=by
  rw[←f.low];exact adB x f.cat b f.ok
 have M:=f.bg.l3;have C:=f.bg.l1;have Q:b.selects.length≤8000:=f.ok.sl;have N:PtI x (t++[FK b t]) t.length L 0 0:=by
  unfold PtI;rw[if_pos rfl];cases hL:L with
  |nil=>rw[hL]at C;simp at C
  |cons S l=>
   have g:=f.sel;have z:=f.h16;have i:=f.bg.kd;have s:=f.un;rw[f.bg.sels]at s;rw[hL]at g z i s M;obtain⟨u,T,U,V,W,X⟩:=WM g z M i s;exact⟨rfl,S,l,u,rfl,T,U,V,W.app _,X.app _⟩
 have K:(t++[FK b t]).length=t.length+1:=by simp
 have D:b.a=aH [.aa false (b.selects.map sO.a),.aa false (b.names.map aO),.aa false (b.ac.map (.int .i64)),.aa false (b.order.map gT),ap b.limit]:=rfl;generalize FK b t=r at *;generalize t++[r]=w at *;have loop:=acK (aH [.aa B (c.map iI.a)]) (mC x) q.a rfl rfl rfl (fun base σ m=>by simp) (fun base σ m=>by simp) (fun base σ m=>by rw[n];simp) text x rfl f.cat b L f.bg.sels f.ok.sel (by omega) C w J (by omega) t.length N;have Y:IntKind.i64.wrap (t.length:Int)=(t.length:Int):=pT (by omega) (by omega);rw[n]at A y loop;rw[D]at y d loop;unfold Lb at d;simp only[Fh,OE,aY,cT]at loop d;simp at d;simp[aso,T7,H,o,p,j,k,A,y,d,loop,K,Y]
end Go.AM
namespace Go.AM
theorem mG.sl_inv{a:Bool}{cs:List Sh}{x:aq}(h:mG (.sl a cs) x):∃xs,x=.aa true xs∧xs.length≤maxLen∧(∀x∈xs,isAgg x=a∧(cellsOf x).length=cs.length∧aM x=cs.length) ∧
  ∀x∈xs,∀i (h:i<cs.length) (e:i<(cellsOf x).length),mG cs[i] (cellsOf x)[i]:=by
 cases h with
 |sl b c d=>exact⟨_,rfl,b,c,d⟩
theorem abq{b:Type}(f:b→aq):∀{l:List aq},(∀x∈l,∃a,x=f a)→∃m:List b,l=m.map f
 |[],_=>⟨[],rfl⟩
 |x::l,h=>by
  obtain⟨a,rfl⟩:=h x (dH ..);obtain⟨m,rfl⟩:=abq f fun y c=>h y (cd _ c);exact⟨a::m,rfl⟩
theorem Oq{cs:List Sh}{x:aq}(h:isAgg x=true∧(cellsOf x).length=cs.length∧aM x=cs.length)(b:∀i (h:i<cs.length) (b:i<(cellsOf x).length),mG cs[i] (cellsOf x)[i]) :
  ∃a,x=.agg a∧a.length=cs.length∧∀i (h:i<cs.length) (b:i<a.length),mG cs[i] a[i]:=by
 cases x with
 |agg a=>exact⟨a,rfl,h.2.1,b⟩
 |_=>cases h.1
theorem ZZ{s:Sh}{x:aq}(h:isAgg x=false∧(cellsOf x).length=[s].length∧aM x=[s].length)(a:∀i (h:i < [s].length) (a:i<(cellsOf x).length),mG [s][i] (cellsOf x)[i]):mG s x:=by
 have b:cellsOf x=[x]:=by
  cases x with
  |agg c=>cases h.1
  |_=>rfl
 have:=a 0 (by simp) (by rw[b];simp);simpa only [b,cX] using this
end Go.AM
namespace Go.AM
def alo:List aq:=[.str [83,69,76,69,67,84,32,98,32,70,82,79,77,32,116,32,87,72,69,82,69,32,97,32,61,32,49]]
def akA:aq:=.tup [.agg [.aa false [.agg [.bool false,.bool false,.aa false [.agg [.aa false [.agg [.int .i64 2,.int .i64 (-1),.int .i64 (-1),.int .i64 0,.int .i64 0,.int .u64 0,.str [],.str [],.str [98]]],.str []]],.str [116],.str [],.aa false [],.aa false [.agg [.int .i64 2,.int .i64 (-1),.int .i64 (-1),.int .i64 0,.int .i64 0,.int .u64 0,.str [],.str [],.str [97]],.agg [.int .i64 1,.int .i64 (-1),.int .i64 (-1),.int .i64 2,.int .i64 1,.int .u64 0,.str [],.str [],.str []],.agg [.int .i64 16,.int .i64 0,.int .i64 1,.int .i64 0,.int .i64 0,.int .u64 0,.str [],.str [],.str []]],.aa false [],.aa false []]],.aa false [],.int .i64 (-1)],.int .i64 0,.int .i64 0]
def akH:List aq:=[.str [83,69,76,69,67,84,32,122,32,70,82,79,77,32,116]]
def akY:aq:=.tup [.agg [.aa false [.agg [.bool false,.bool false,.aa false [.agg [.aa false [.agg [.int .i64 2,.int .i64 (-1),.int .i64 (-1),.int .i64 0,.int .i64 0,.int .u64 0,.str [],.str [],.str [122]]],.str []]],.str [116],.str [],.aa false [],.aa false [],.aa false [],.aa false []]],.aa false [],.int .i64 (-1)],.int .i64 0,.int .i64 0]
def amw:List aq:=[.agg [.aa false [.agg [.str [116],.aa false [.agg [.str [97],.int .i64 2],.agg [.str [98],.int .i64 3]],.aa false []],.agg [.str [117],.aa false [.agg [.str [97],.int .i64 2]],.aa false []]]],.agg [.aa false [.agg [.bool false,.bool false,.aa false [.agg [.aa false [.agg [.int .i64 2,.int .i64 (-1),.int .i64 (-1),.int .i64 0,.int .i64 0,.int .u64 0,.str [],.str [],.str [98]]],.str []]],.str [116],.str [],.aa false [],.aa false [.agg [.int .i64 2,.int .i64 (-1),.int .i64 (-1),.int .i64 0,.int .i64 0,.int .u64 0,.str [],.str [],.str [97]],.agg [.int .i64 1,.int .i64 (-1),.int .i64 (-1),.int .i64 2,.int .i64 1,.int .u64 0,.str [],.str [],.str []],.agg [.int .i64 16,.int .i64 0,.int .i64 1,.int .i64 0,.int .i64 0,.int .u64 0,.str [],.str [],.str []]],.aa false [],.aa false []]],.aa false [],.int .i64 (-1)]]
def amn:aq:=.tup [.agg [.aa false [.agg [.aa false [.int .i64 0],.aa false [],.aa false [.agg [.int .i64 2,.int .i64 (-1),.int .i64 (-1),.int .i64 0,.int .i64 0,.int .i64 0,.int .u64 0,.str []],.agg [.int .i64 1,.int .i64 (-1),.int .i64 (-1),.int .i64 0,.int .i64 2,.int .i64 1,.int .u64 0,.str []],.agg [.int .i64 16,.int .i64 0,.int .i64 1,.int .i64 0,.int .i64 0,.int .i64 0,.int .u64 0,.str []]],.aa false [],.bool false,.bool false,.aa false [],.aa false [],.aa false [.agg [.aa false [.agg [.int .i64 2,.int .i64 (-1),.int .i64 (-1),.int .i64 1,.int .i64 0,.int .i64 0,.int .u64 0,.str []]]]]]],.aa false [.str [98]],.aa false [.int .i64 3],.aa false [],.int .i64 (-1)],.int .i64 0,.int .i64 0]
def alx:List aq:=[.agg [.aa false [.agg [.str [116],.aa false [.agg [.str [97],.int .i64 2],.agg [.str [98],.int .i64 3]],.aa false []],.agg [.str [117],.aa false [.agg [.str [97],.int .i64 2]],.aa false []]]],.agg [.aa false [.agg [.bool false,.bool false,.aa false [.agg [.aa false [.agg [.int .i64 2,.int .i64 (-1),.int .i64 (-1),.int .i64 0,.int .i64 0,.int .u64 0,.str [],.str [],.str [122]]],.str []]],.str [116],.str [],.aa false [],.aa false [],.aa false [],.aa false []]],.aa false [],.int .i64 (-1)]]
def anP:aq:=.tup [.agg [.aa false [],.aa false [],.aa false [],.aa false [],.int .i64 0],.int .i64 4,.int .i64 222]
def ak9:List aq:=[.agg [.aa false [.agg [.str [116],.aa false [.agg [.str [97],.int .i64 2],.agg [.str [98],.int .i64 3]],.aa false []],.agg [.str [117],.aa false [.agg [.str [97],.int .i64 2]],.aa false []]]],.agg [.aa false [.agg [.aa false [.int .i64 0],.aa false [],.aa false [.agg [.int .i64 2,.int .i64 (-1),.int .i64 (-1),.int .i64 0,.int .i64 0,.int .i64 0,.int .u64 0,.str []],.agg [.int .i64 1,.int .i64 (-1),.int .i64 (-1),.int .i64 0,.int .i64 2,.int .i64 1,.int .u64 0,.str []],.agg [.int .i64 16,.int .i64 0,.int .i64 1,.int .i64 0,.int .i64 0,.int .i64 0,.int .u64 0,.str []]],.aa false [],.bool false,.bool false,.aa false [],.aa false [],.aa false [.agg [.aa false [.agg [.int .i64 2,.int .i64 (-1),.int .i64 (-1),.int .i64 1,.int .i64 0,.int .i64 0,.int .u64 0,.str []]]]]]],.aa false [.str [98]],.aa false [.int .i64 3],.aa false [],.int .i64 (-1)]]
def aj9:aq:=.tup [.agg [.aa false [.agg [.int .i64 1,.int .i64 (-1),.int .i64 (-1),.int .i64 0,.aa false [.int .i64 2,.int .i64 3],.bool false,.aa false [],.aa false [],.aa false [],.aa false [],.aa false [],.int .i64 0],.agg [.int .i64 3,.int .i64 0,.int .i64 (-1),.int .i64 0,.aa false [],.bool false,.aa false [.agg [.int .i64 2,.int .i64 (-1),.int .i64 (-1),.int .i64 0,.int .i64 0,.int .i64 0,.int .u64 0,.str []],.agg [.int .i64 1,.int .i64 (-1),.int .i64 (-1),.int .i64 0,.int .i64 2,.int .i64 1,.int .u64 0,.str []],.agg [.int .i64 16,.int .i64 0,.int .i64 1,.int .i64 0,.int .i64 0,.int .i64 0,.int .u64 0,.str []]],.aa false [],.aa false [],.aa false [],.aa false [],.int .i64 0],.agg [.int .i64 5,.int .i64 1,.int .i64 (-1),.int .i64 0,.aa false [],.bool false,.aa false [],.aa false [],.aa false [],.aa false [.agg [.aa false [.agg [.int .i64 2,.int .i64 (-1),.int .i64 (-1),.int .i64 1,.int .i64 0,.int .i64 0,.int .u64 0,.str []]]]],.aa false [],.int .i64 0],.agg [.int .i64 8,.int .i64 2,.int .i64 (-1),.int .i64 0,.aa false [],.bool false,.aa false [],.aa false [],.aa false [],.aa false [],.aa false [],.int .i64 (-1)]]],.int .i64 0]
end Go.AM
namespace Go.AM
def IS(P:Code)(C:ip)(n:Nat):ip:=fun f args σ=>match P.fns f with
 |.none=>none
 |.prim k=>P.prims k C args σ
 |.fn g=>pD C n g args σ
 |.nilfn g=>match args with
  |x::rest=>
   if jK σ x then (pD C n g (.emp true::rest) σ).bind fun r=>(pD C n g (.emp false::rest) σ).bind fun q=>if same r.1 q.1&&sr r.2 q.2 then some r else none
   else pD C n g args σ
  |[]=>none
 |.round g=>match args with
  |.frs l _::rest=>
   match σ[l]? with
   |some (.pend false none)=>
    if (rest.drop g.nenv).length=g.params.length then
     (exec C n g.pre ⟨sH (rest.take g.nenv) g.params (rest.drop g.nenv),σ⟩).bind (po C n l g.body)
    else none
   |_=>none
  |_=>none
theorem Hw(P:Code)(n:Nat)(f:Nat)(args:List aq)(σ:aw):dV P (n+1) f args σ=IS P (dV P n) n f args σ:=by
 simp only[dV,IS];rfl
theorem QI{P:Code}(g:P.Good){C D:ip}{n m:Nat}(a:WB C D)(b:n≤m):WB (IS P C n) (IS P D m):=fun f args σ r h=>by
 unfold IS at h ⊢;split at h
 ·cases h
 ·exact g _ _ _ _ _ _ a h
 ·exact mq a b h
 ·split at h
  ·split at h
   ·rename_i d;rw[if_pos d];rw[aL]at h ⊢;obtain⟨x,e,c⟩:=h;refine⟨x,mq a b e,?_⟩;rw[aL]at c ⊢;obtain⟨y,j,c⟩:=c;exact⟨y,mq a b j,c⟩
   rename_i d;rw[if_neg d];exact mq a b h
  cases h
 split at h
 ·split at h
  ·split at h
   ·rename_i i;rw[if_pos i];rw[aL]at h ⊢;obtain⟨x,e,c⟩:=h;exact⟨x,ig a b e,xj a b c⟩
   cases h
  cases h
 cases h
structure ye where
 f:Nat
 args:List aq
 out:aq
def af0(m:List ye)(f:Nat)(args:List aq):Option aq:=(m.find? fun e=>e.f==f&&qY e.args args).map (·.out)
def Cw(P:Code)(m:List ye):Nat→ip
 |0=>fun _ _ _=>none
 |n+1=>fun f args σ=>match af0 m f (args.map (snap σ)) with
  |some v=>some (v,σ)
  |none=>IS P (Cw P m n) n f args σ
def Hf:kW→Bool
 |.fn g=>g.mode.isPure
 |_=>false
def ye.Ok(P:Code)(N:Nat)(e:ye):Prop:=Hf (P.fns e.f)=true∧dV P N e.f e.args []=some (e.out,[])
theorem SK{P:Code}{N f:Nat}(b:Hf (P.fns f)=true){args:List aq}{σ:aw}{v:aq}(h:dV P N f (args.map (snap σ)) []=some (v,[])):dV P N f args σ=some (v,σ):=by
 cases N with
 |zero=>cases h
 |succ n=>
  cases hf:P.fns f with
  |fn g=>
   rw[hf]at b;have a:g.mode.isPure=true:=b;rw[Hw]at h ⊢;unfold IS at h ⊢;rw[hf]at h ⊢;dsimp only at h ⊢;unfold pD at h ⊢;have i:enter g args σ=enter g (args.map (snap σ)) []:=by
    have d:((args.map (snap σ)).take g.np).map (snap [])=(args.take g.np).map (snap σ):=by
     rw[←List.map_take,bU];exact aU fun x _=>pO σ [] x
    unfold enter;cases hg:g.mode<;>rw[hg]at a<;>first|exact absurd a (by decide)|(simp only[d])
   rw[i];rw[aL]at h ⊢;obtain⟨r,j,c⟩:=h;refine⟨r,j,?_⟩;obtain⟨e,s⟩:=r;have key:(results s g.res).map (fun v=>iu g.mode [] s v)=some (v,[])→(results s g.res).map (fun v=>iu g.mode σ s v)=some (v,σ):=fun h=>by
    cases hq:results s g.res with
    |none=>rw[hq]at h;cases h
    |some x=>
     rw[hq]at h;cases hg:g.mode<;>rw[hg]at a h<;>first|exact absurd a (by decide)|(simp only[dJ,aK,iu,dY]at h ⊢;exact⟨h.1,trivial⟩)
   cases e with
   |ext _=>cases c
   |nrm=>exact key c
   |ret=>exact key c
  |_=>rw[hf]at b;cases b
theorem uI{P:Code}(c:P.Good){m:List ye}{N:Nat}(j:∀e∈m,e.Ok P N):∀n,WB (Cw P m n) (dV P (n+N))
 |0=>fun _ _ _ _ h=>by cases h
 |n+1=>fun f args σ r h=>by
  have l:=uI c j n;unfold Cw at h;split at h
  ·rename_i v a;cases h;unfold af0 at a;rw[aT]at a;obtain⟨e,i,a⟩:=a;subst a;have d:=List.mem_of_find?_eq_some i;have k:=List.find?_some i;simp only[ax,aX]at k;obtain⟨rfl,b⟩:=k;have b:=ou b;obtain⟨k1,k2⟩:=j e d;rw[b]at k2;have:=SK k1 k2;have g:=(mf c e.f args σ).le (show N≤n+1+N by omega) this;exact g
  rw[show n+1+N=(n+N)+1 by omega,Hw];exact QI c l (Nat.le_add_right n N) f args σ r h
theorem ye.Ok.mono{N a:Nat}{e:ye}{P:Code}(b:P.Good)(h:e.Ok P N)(c:N≤a):e.Ok P a:=⟨h.1,(mf b e.f e.args []).le c h.2⟩
end Go.AM
section
set_option maxRecDepth 100000
namespace Go.AM
def kq1:List ye:=[
 ⟨86,[.agg [.aa false [.agg [.str [116],.aa false [.agg [.str [97],.int .i64 2],.agg [.str [98],.int .i64 3]],.aa false []],.agg [.str [117],.aa false [.agg [.str [97],.int .i64 2]],.aa false []]]]],.int .i64 0⟩,
 ⟨11,[.str [116]],.bool true⟩,
 ⟨11,[.str [97]],.bool true⟩,
 ⟨11,[.str [98]],.bool true⟩,
 ⟨11,[.str [117]],.bool true⟩,
 ⟨11,[.str [122]],.bool true⟩,
 ⟨41,[.agg [.aa false [.agg [.int .i64 2,.int .i64 (-1),.int .i64 (-1),.int .i64 0,.int .i64 0,.int .i64 0,.int .u64 0,.str []],.agg [.int .i64 1,.int .i64 (-1),.int .i64 (-1),.int .i64 0,.int .i64 2,.int .i64 1,.int .u64 0,.str []],.agg [.int .i64 16,.int .i64 0,.int .i64 1,.int .i64 0,.int .i64 0,.int .i64 0,.int .u64 0,.str []]]],.aa false [.int .i64 2,.int .i64 3]],.tup [.int .i64 1,.int .i64 0]⟩,
 ⟨41,[.agg [.aa false [.agg [.int .i64 2,.int .i64 (-1),.int .i64 (-1),.int .i64 1,.int .i64 0,.int .i64 0,.int .u64 0,.str []]]],.aa false [.int .i64 2,.int .i64 3]],.tup [.int .i64 3,.int .i64 0]⟩]
noncomputable def okB(N:Nat)(e:ye):Bool:=Hf (code.fns e.f)&&match dV code N e.f e.args [] with
 |some (v,[])=>same v e.out
 |_=>false
theorem ajb{N:Nat}{e:ye}(h:okB N e=true):e.Ok code N:=by
 unfold okB at h;simp only[ax]at h;refine⟨h.1,?_⟩;have a:=h.2;split at a
 ·rename_i v b;rw[b,tG a]
 cases a
theorem anT:(kq1.all fun e=>okB 40 e)=true:=by kernel_rfl
theorem DL:∀e∈kq1,e.Ok code 40:=fun e a=>ajb (bd.1 anT e a)
end Go.AM
end
section
set_option maxRecDepth 100000
namespace Go.AM
theorem aet:Cw code kq1 60 122 alo []=some (akA,[]):=by kernel_rfl
end Go.AM
end
section
set_option maxRecDepth 100000
namespace Go.AM
theorem acN:Cw code kq1 60 122 akH []=some (akY,[]):=by kernel_rfl
end Go.AM
end
section
set_option maxRecDepth 100000
namespace Go.AM
theorem ach:Cw code kq1 60 134 amw []=some (amn,[]):=by kernel_rfl
end Go.AM
end
section
set_option maxRecDepth 100000
namespace Go.AM
theorem acm:Cw code kq1 60 134 alx []=some (anP,[]):=by kernel_rfl
end Go.AM
end
section
set_option maxRecDepth 100000
namespace Go.AM
theorem adS:Cw code kq1 60 171 ak9 []=some (aj9,[]):=by kernel_rfl
end Go.AM
end
section
set_option maxRecDepth 100000
namespace Go.AM
def kq2:List ye:=[⟨122,alo,akA⟩,⟨122,akH,akY⟩,⟨134,amw,amn⟩,⟨134,alx,anP⟩,⟨171,ak9,aj9⟩]
theorem ah1:∀e∈kq2,e.Ok code 100:=fun e a=>by
 simp only[kq2,dX,List.not_mem_nil,or_false]at a;rcases a with rfl|rfl|rfl|rfl|rfl
 ·exact⟨rfl,uI good DL 60 _ _ _ _ aet⟩
 ·exact⟨rfl,uI good DL 60 _ _ _ _ acN⟩
 ·exact⟨rfl,uI good DL 60 _ _ _ _ ach⟩
 ·exact⟨rfl,uI good DL 60 _ _ _ _ acm⟩
 exact⟨rfl,uI good DL 60 _ _ _ _ adS⟩
theorem Q7:Cw code (kq2++kq1) 60 I.qaz [] []=some (.bool true,[]):=by kernel_rfl
theorem ado:∀e∈kq2++kq1,e.Ok code 100:=fun e a=>by
 rcases ba.1 a with h|h
 ·exact ah1 e h
 exact ye.Ok.mono good (DL e h) (by decide)
theorem V8:dV code 160 I.qaz [] []=some (.bool true,[]):=uI good ado 60 _ _ _ _ Q7
end Go.AM
end
namespace Go.AM
open P
set_option maxHeartbeats 64000000
set_option maxRecDepth 40000
theorem Uz{d:Type}{cs:List Sh}{f:d→aq}(hd:∀b:List aq,b.length=cs.length→(∀i (h:i<cs.length) (n:i<b.length),mG cs[i] b[i])→∃a,aq.agg b=f a){x:aq}(h:mG (.sl true cs) x):∃l:List d,x=.aa true (l.map f):=by
 obtain⟨xs,rfl,o,e,g⟩:=h.sl_inv;obtain⟨m,rfl⟩:=abq f (l:=xs) fun x c=>by
  obtain⟨b,rfl,j,k⟩:=Oq (e x c) (g x c);exact hd b j k
 exact⟨m,rfl⟩
theorem abr{x:aq}(h:mG (.sl false [.int .i64]) x):∃l:List Int,x=.aa true (l.map (.int .i64)):=by
 obtain⟨xs,rfl,e,c,d⟩:=h.sl_inv;obtain⟨m,rfl⟩:=abq (.int .i64) (l:=xs) fun x b=>by
  obtain⟨a,rfl,_⟩:=(ZZ (c x b) (d x b)).int_inv;exact⟨a,rfl⟩
 exact⟨m,rfl⟩
abbrev coX:List Sh:=[.str,.int .i64]
theorem ajl(b:List aq)(d:b.length=coX.length)(c:∀i (h:i<coX.length) (g:i<b.length),mG coX[i] b[i]):∃a,aq.agg b=fD.a a:=by
 match b,d,c with
 |[j,k],_,c=>
  obtain⟨e,rfl,_⟩:=(c 0 (by simp) (by simp)).str_inv;obtain⟨f,rfl,_⟩:=(c 1 (by simp) (by simp)).int_inv;exact⟨⟨e,f⟩,rfl⟩
abbrev taX:List Sh:=[.str,.sl true coX,.sl false [.int .i64]]
theorem ajd(c:List aq)(d:c.length=taX.length)(b:∀i (h:i<taX.length) (j:i<c.length),mG taX[i] c[i]):∃a,aq.agg c=iI.a a:=by
 match c,d,b with
 |[k,l,m],_,b=>
  obtain⟨e,rfl,_⟩:=(b 0 (by simp) (by simp)).str_inv;obtain⟨f,rfl⟩:=Uz ajl (b 1 (by simp) (by simp));obtain⟨g,rfl⟩:=abr (b 2 (by simp) (by simp));exact⟨⟨e,true,f,true,g⟩,rfl⟩
abbrev ai7:List Sh:=[.sl true taX]
theorem adx{x:aq}(h:JY (true,ai7) x):∃l:List iI,x=.agg [.aa true (l.map iI.a)]:=by
 obtain⟨d,rfl,b,a⟩:=Oq (cs:=ai7) ⟨h.1,h.2.1,h.2.2.1⟩ h.2.2.2
 match d,b,a with
 |[e],_,a=>
  obtain⟨c,rfl⟩:=Uz ajd (a 0 (by simp) (by simp));exact⟨c,rfl⟩
theorem acq:bB I.qaz []=some (.bool true):=kQ (n:=160) (σ:=[]) V8
end Go.AM
