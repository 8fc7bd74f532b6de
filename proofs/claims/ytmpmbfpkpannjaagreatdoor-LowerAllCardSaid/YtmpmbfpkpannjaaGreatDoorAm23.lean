/- Part of the proof. -/
import Derived.Test.YtmpmbfpkpannjaaGreatDoorAm22
set_option linter.unusedVariables false
set_option linter.unusedSimpArgs false
set_option linter.unusedSectionVars false
namespace Go.AM
open P
set_option maxHeartbeats 64000000
set_option maxRecDepth 40000
attribute [local simp] aG bd
abbrev NG:aq:=aI [.ai,.ai,.ai,.ai,ap 0]
def yB(r:Option (Ex×St)):Prop:=∃(a e:Int) (env:List aq) (τ:aw),r=some (.ret,⟨env,τ⟩)∧e≠0∧env[4]?=some (aH 2 0 0 0)∧env[5]?=some (ap a)∧env[6]?=some (ap e)∧τ[2]?=some (aB 5 0 [NG])
theorem ahv(σ:aw)(n:Nat)(c:List cL)(x:mI):ey σ n (scZ c x):=by
 refine⟨⟨fun e a=>(by cases a),fun s=>.inl rfl⟩,⟨fun e a=>(by cases a),fun s=>.inl rfl,fun s s' id e d o o' k b h=>(by cases h)⟩,⟨fun e a=>(by cases a),fun t s=>.inl rfl⟩⟩
theorem aa1{c:List cL}{q:tG}{τ:aw}(G:CtK c)(B:τ[2]?=some (aB 5 0 [NG]))(k:Nat)(x:mI)(I:wH x) :
  yB (run code vl ⟨yd c q k (ap k) (aH τ.length 0 0 0) (aH (τ.length+4) 0 0 0) am am (aC true) am am am,τ++[Obj.arr 9 0 [x.a],.map [],.map [],.map [],aB 25 0 [aI [.aa false (c.map cL.a),aC x.distinct,aC x.star,.aa false ((x.items.getD []).map pY.a),aO x.table,aO x.as',.aa false (x.joins.map pb.a),gQ (x.whr.getD []),gQ (x.having.getD []),.aa false ((x.group.getD []).map uV.a),.ai,.ai,.ai,.ai,aC false,aC false,.ai,.ai,.ai,.mp (τ.length+1),.mp (τ.length+2),.mp (τ.length+3),.ai,.ai,ap 0]]]⟩) ∨
  ∃(b:aw) (S:fJ),run code vl ⟨yd c q k (ap k) (aH τ.length 0 0 0) (aH (τ.length+4) 0 0 0) am am (aC true) am am am,τ++[Obj.arr 9 0 [x.a],.map [],.map [],.map [],aB 25 0 [aI [.aa false (c.map cL.a),aC x.distinct,aC x.star,.aa false ((x.items.getD []).map pY.a),aO x.table,aO x.as',.aa false (x.joins.map pb.a),gQ (x.whr.getD []),gQ (x.having.getD []),.aa false ((x.group.getD []).map uV.a),.ai,.ai,.ai,.ai,aC false,aC false,.ai,.ai,.ai,.mp (τ.length+1),.mp (τ.length+2),.mp (τ.length+3),.ai,.ai,ap 0]]]⟩=some (.nrm,⟨yd c q k (ap k) (aH τ.length 0 0 0) (aH (τ.length+4) 0 0 0) (ap 0) am (aC true) (aC false) am am,b⟩)∧SA b (τ.length+1) S∧Bm S∧S.cat=c∧S.fr=x∧(∀i o,i<τ.length→τ[i]?=some o→b[i]?=some o):=by
 have r:SA (τ++[Obj.arr 9 0 [x.a]]++BA (τ.length+1) (scZ c x)) (τ.length+1) (scZ c x):=⟨τ++[Obj.arr 9 0 [x.a]],[],by simp,by simp⟩;obtain⟨h,b,S,g,y,K,C⟩:=Wa r (ahv _ _ _ _) G I
 have d:∀i o,i<τ.length→τ[i]?=some o→b[i]?=some o:=fun i o hi D=>K.kl i o (by omega) (by
  rw[dG,aS hi];exact D)
 have t:=(ak.1 B).1;have m:=d 2 _ t B;have J:vl=.seq (.lift 12 10 1 (.lift 12 11 2 (.lift 12 16 1 (.lift 12 17 2 (.lift 12 18 1 (.lift 12 22 1 (.lift 12 23 1 (.reg [i (.call 141 [(e 12)] false)] [(13,l 0)])))))))) (.seq (.reg [i (.bin .neq (e 13) (v (ap 0)))] [(24,l 0)]) (.cond (e 24) (.seq (.regd [i (.build [.ai,.ai,.ai,.ai,ap 0] []),i (.bin .mul (v (ap 10)) (e 10)),i (.nilck (e 12)),i (.fld 24 (l 2)),i (.load false 1 (l 3)),i (.bin .add (l 1) (l 4)),i (.store 5 (e 4) (l 0))] [(5,l 5),(6,e 13)] [(2,7),(3,7),(4,7)]) .ret) .skip)):=rfl;rw[J,fA,ado k x (fun n=>run code (.reg [i (.call 141 [(e 12)] false)] [(13,l 0)]) ⟨yd c q k (ap k) (aH τ.length 0 0 0) (aH (τ.length+4) 0 0 0) am am (aC true) am am am,n⟩) _ (fun n=>rfl)];generalize τ++[Obj.arr 9 0 [x.a]]++BA (τ.length+1) (scZ c x)=j at *;have qc:run code (.reg [i (.call 141 [(e 12)] false)] [(13,l 0)]) ⟨yd c q k (ap k) (aH τ.length 0 0 0) (aH (τ.length+4) 0 0 0) am am (aC true) am am am,j⟩=some (.nrm,⟨yd c q k (ap k) (aH τ.length 0 0 0) (aH (τ.length+4) 0 0 0) (ap h) am (aC true) am am am,b⟩):=by
  have f:cC code 141 [aH (τ.length+4) 0 0 0] j=some (ap h,b):=g;simp[f]
 rw[qc,bW];have z:=y.len;have s:b[τ.length+4]?=some (aB 25 0 [aI (iJ (τ.length+1) S)]):=by simpa using y.at3 []
 by_cases p:h=0
 ·right;obtain⟨k1,k2,k3⟩:=C p;subst p;exact⟨b,S,by simp,y,k1,k2,k3,d⟩
 left;have u:2<b.length:=(ak.1 m).1;have A:(b.set 2 (aB 5 0 [NG]))[τ.length+4]?=some (aB 25 0 [aI (iJ (τ.length+1) S)]):=by rw[aD (by omega)];exact s
 have w:∃(a:Int) (env:List aq),run code (.seq (.reg [i (.bin .neq (e 13) (v (ap 0)))] [(24,l 0)]) (.cond (e 24) (.seq (.regd [i (.build [.ai,.ai,.ai,.ai,ap 0] []),i (.bin .mul (v (ap 10)) (e 10)),i (.nilck (e 12)),i (.fld 24 (l 2)),i (.load false 1 (l 3)),i (.bin .add (l 1) (l 4)),i (.store 5 (e 4) (l 0))] [(5,l 5),(6,e 13)] [(2,7),(3,7),(4,7)]) .ret) .skip)) ⟨yd c q k (ap k) (aH τ.length 0 0 0) (aH (τ.length+4) 0 0 0) (ap h) am (aC true) am am am,b⟩=some (.ret,⟨env,b.set 2 (aB 5 0 [NG])⟩)∧env[4]?=some (aH 2 0 0 0)∧env[5]?=some (ap a)∧env[6]?=some (ap h):=by
  simp only[iJ]at s A;exact⟨_,_,by simp[p,s,m,A];rfl,rfl,rfl,rfl⟩
 obtain⟨a,env,w,F,H,E⟩:=w;exact⟨a,h,env,_,w,p,F,H,E,by rw[aU u]⟩
abbrev u7(S:fJ):List Int:=S.items.map fun it=>(eI it (mD S)).1
abbrev bO(k:Nat)(nm kd:aq)(lim:Int):Obj:=aB 5 0 [aI [kF 4 k,nm,kd,.ai,ap lim]]
theorem Bm.lens{S:fJ}(h:Bm S)(a:CtOk S.cat):S.ac.length≤12∧(mD S).length≤8000∧S.items.length≤100∧(∀it∈S.items,it.length≤1000):=by
 have f:=Ci a S.tables h.js.rng;have e:=h.js.len;have d:=h.jl;have b:S.ac.length≤12:=by rw[h.kd];omega
 have i:S.groups.length≤15:=by
  have g:=h.gk.kl;have c:=h.gk.al;rw[h.gk.gr];simp;omega
 have hi:=S.fr.hi;refine⟨b,by unfold mD;split<;>omega,?_,fun it hit=>(h.items it hit).1⟩;rw[h.il];split<;>omega
theorem akx{c:List cL}{q:tG}{τ:aw}{n:Nat}{S:fJ}(G:CtK c)(h:SA τ n S)(t:Bm S)(j:S.cat=c)(K:wH S.fr)(p r:aq)(D:aM p=1∧isAgg p=false)(w:aM r=1∧isAgg r=false)(H:τ[3]?=some (bO 0 p r q.limit))(u s:aq) :
  ∃(a:aw) (f b:Nat) (e:List (List UInt8)),run code nF ⟨yd c q 0 (ap 0) u (aH (n+3) 0 0 0) (ap 0) am s (aC false) am am,τ⟩=some (.nrm,⟨yd c q 0 (ap 0) u (aH (n+3) 0 0 0) (ap 0) (kF b (u7 S).length) s (aC false) (aC true) am,a⟩) ∧
   a[3]?=some (bO 0 (kF f e.length) (kF b (u7 S).length) q.limit)∧a[f]?=some (DP e)∧a[b]?=some (aB 1 (u7 S).length (eA (u7 S)))∧e.length=(u7 S).length∧τ.length≤b∧b<f∧f<a.length∧(∀i o,i≠3→τ[i]?=some o→a[i]?=some o):=by
 obtain⟨k1,k2,k3,k4⟩:=t.lens (by rw[j];exact G.toCtOk);have A:=yS h k2 k3 k4;have I:3<τ.length:=(ak.1 H).1;have l:(u7 S).length=S.items.length:=by simp
 have B:SA (τ++(aB 1 S.items.length (eA (u7 S))::W9 S.items)) n S:=h.app _;obtain⟨e,X,g,E⟩:=Qw B (by rw[j];exact G.toCtOk) t.js t.jl K;have x:e.length=(u7 S).length:=by
  rw[E,l,t.il,t.kd]
 have J:∀T,(τ++T)[3]?=some (bO 0 p r q.limit):=fq H;rw[l];generalize M:eA (u7 S)=F at *;generalize v:τ++(Obj.arr 1 S.items.length F::W9 S.items)=τ1 at *;have z:τ1[3]?=some (bO 0 p r q.limit):=by rw[←v];exact J _
 have k:=fq z;have C:τ.length<τ1.length:=by rw[←v];simp
 have y:τ1[τ.length]?=some (aB 1 S.items.length F):=by rw[←v];simp
 have d:∀o,((τ1++(DP e::X)).set 3 o)[3]?=some o:=fun o=>by rw[aU (by simp;omega)]
 refine⟨(τ1++(DP e::X)).set 3 (bO 0 (kF τ1.length e.length) (kF τ.length S.items.length) q.limit),τ1.length,τ.length,e,?_,d _,?_,?_,by rw[x,l],aF _,C,by simp,?_⟩
 ·have m:∀o o',((τ1++(DP e::X)).set 3 o).set 3 o'=(τ1++(DP e::X)).set 3 o':=fun o o'=>ew ..;simp only[bO]at k d;simp[nF,A,g,k,d,m,D,w]
 ·rw[aD (by omega)];simp
 ·rw[aD (by omega)];exact fq y _
 intro i o hi L;rw[aD (by omega)];refine fq ?_ _;rw[←v];exact fq L _
theorem alJ{c:List cL}{q:tG}{τ:aw}{n:Nat}{S:fJ}(H:CtK c)(h:SA τ n S)(Q:Bm S)(s:S.cat=c)(k:Nat)(V:k≠0)(D:aq)(b:Nat)(K:List Int)(R:K.length≤100)(U:τ[2]?=some (aB 5 0 [NG]))(O:τ[3]?=some (bO k D (kF b K.length) q.limit))(m:τ[b]?=some (aB 1 K.length (eA K)))(N:5≤b)(g f:aq) :
  yB (run code nF ⟨yd c q k (ap k) g (aH (n+3) 0 0 0) (ap 0) am f (aC false) am am,τ⟩) ∨
  ∃(e:aw) (cs:List Int) (v:aq),run code nF ⟨yd c q k (ap k) g (aH (n+3) 0 0 0) (ap 0) am f (aC false) am am,τ⟩=some (.nrm,⟨yd c q k (ap k) g (aH (n+3) 0 0 0) (ap 0) v f (aC false) (aC false) (aC false),e⟩) ∧
   mM K (u7 S)=some cs∧cs.length=K.length∧K.length=(u7 S).length∧e[b]?=some (aB 1 K.length (eA cs))∧τ.length≤e.length∧(∀i o,i≠b→τ[i]?=some o→e[i]?=some o):=by
 obtain⟨k1,k2,k3,k4⟩:=Q.lens (by rw[s];exact H.toCtOk);have r:=yS h k2 k3 k4;have z:(u7 S).length=S.items.length:=by simp
 have J:=(ak.1 m).1;have l:¬(k:Int)=0:=by omega
 have p:((k:Int)==0)=false:=by simpa using l
 generalize w:τ++(Obj.arr 1 S.items.length (eA (u7 S))::W9 S.items)=τ1 at *;have d:∀i o,τ[i]?=some o→τ1[i]?=some o:=fun i o A=>by rw[←w];exact fq A _
 have u:τ1[τ.length]?=some (aB 1 S.items.length (eA (u7 S))):=by rw[←w];simp
 have M:τ.length<τ1.length:=by rw[←w];simp
 obtain⟨ok,cs,j,y,B⟩:=R9 K (u7 S) (d _ _ m) u (by omega) R;rw[z]at j;have t:=d _ _ O;have C:=d _ _ U;have E:=(ak.1 C).1;cases ok with
 |true=>
  right;obtain⟨T,F⟩:=B rfl;refine⟨τ1.set b (aB 1 K.length (eA cs)),cs,kF τ.length S.items.length,?_,F,y,T,by rw[aU (by omega)],by simp;omega,fun i o hi A=>by rw[aD (by omega)];exact d _ _ A⟩;simp only[bO]at t;simp[nF,r,l,p,t,j]
 |false=>
  left;have L:(τ1.set b (aB 1 K.length (eA cs)))[2]?=some (aB 5 0 [NG]):=by rw[aD (by omega)];exact C
  have x:∃(a:Int) (env:List aq),run code nF ⟨yd c q k (ap k) g (aH (n+3) 0 0 0) (ap 0) am f (aC false) am am,τ⟩=some (.ret,⟨env,(τ1.set b (aB 1 K.length (eA cs))).set 2 (aB 5 0 [NG])⟩)∧env[4]?=some (aH 2 0 0 0)∧env[5]?=some (ap a)∧env[6]?=some (ap 229):=by
   simp only[bO]at t;exact⟨_,_,by simp[nF,r,l,p,t,j,L];rfl,rfl,rfl,rfl⟩
  obtain⟨a,env,x,P,I,G⟩:=x;exact⟨a,229,env,_,x,by omega,P,I,G,by rw[aU (by simpa using E)]⟩
abbrev wU(n:Nat)(S:fJ):aq:=aI [kF (n+4) S.tables.length,kF (n+5) S.joins.length,sv (S.whr.map (·.map EN.a)),sv (S.having.map (·.map EN.a)),aC S.grouped,aC S.distinct,kF (n+6) S.keys.length,kF (n+7) S.ah.length,kF (n+8) S.items.length]
theorem Ol{c:List cL}{q:tG}{τ:aw}{n:Nat}{S:fJ}(r:τ[n+3]?=some (aB 25 0 [aI (iJ n S)]))(k:Nat)(v:k≤10)(j l:aq)(vs:List aq)(u:vs.length=k)(p:τ[3]?=some (bO k j l q.limit))(t:τ[4]?=some (aB 9 k vs))(e f a h d b g:aq) :
  run code vp ⟨yd c q k (ap k) e (aH (n+3) 0 0 0) f a h d b g,τ⟩=some (.nrm,⟨yd c q k (ap k) e (aH (n+3) 0 0 0) f a h d b g,(τ.set 4 (aB 9 (k+1) (vs++[wU n S]))).set 3 (bO (k+1) j l q.limit)⟩):=by
 have s:(τ.set 4 (aB 9 (k+1) (vs++[wU n S])))[3]?=some (bO k j l q.limit):=by rw[aD (by omega)];exact p
 have o:List.take k vs=vs:=ay (by omega);have i:k+1≤bC:=by unfold bC;omega
 have m:k≤vs.length:=by omega
 simp only[iJ,bO,wU]at r p s ⊢;simp[vp,r,p,t,s,append,o,i,m]
structure LA (τ:aw) (n:Nat) (S:fJ):Prop where
 b4:τ[n+4]?=some (aB 1 S.tables.length (eA S.tables))
 b5:τ[n+5]?=some (aB 2 S.joins.length (S.joins.map JX.a))
 b6:τ[n+6]?=some (aB 1 S.keys.length (eA S.keys))
 b7:τ[n+7]?=some (aB 2 S.ah.length (S.ah.map kP.a))
 b8:τ[n+8]?=some (aB 1 S.items.length (S.items.map jq))
theorem SA.la{τ:aw}{n:Nat}{S:fJ}(h:SA τ n S):LA τ n S:=by
 obtain⟨P,J,rfl,rfl⟩:=h;constructor<;>simp
theorem LA.keep{τ b:aw}{n:Nat}{S:fJ}(h:LA τ n S)(a:∀i o,n≤i→i<n+11→τ[i]?=some o→b[i]?=some o):LA b n S:=
 ⟨a _ _ (by omega) (by omega) h.b4,a _ _ (by omega) (by omega) h.b5,a _ _ (by omega) (by omega) h.b6,a _ _ (by omega) (by omega) h.b7,a _ _ (by omega) (by omega) h.b8⟩
def kdU:List fJ→Option (List Int)
 |[]=>none
 |S::r=>r.foldl (fun o T=>o.bind fun K=>mM K (u7 T)) (some (u7 S))
theorem aaU{l:List fJ}(a:l≠[])(T:fJ):kdU (l++[T])=(kdU l).bind fun K=>mM K (u7 T):=by
 cases l with
 |nil=>exact absurd rfl a
 |cons S r=>simp[kdU,List.foldl_append]
structure BSt (c:List cL) (q:tG) (τ:aw) (L:List (Nat×fJ)) (nm kd:aq):Prop where
 b0:τ[0]?=some (aB 1 0 [mN c])
 b1:τ[1]?=some (aB 3 0 [q.a])
 b2:τ[2]?=some (aB 5 0 [NG])
 b3:τ[3]?=some (bO L.length nm kd q.limit)
 b4:τ[4]?=some (aB 9 L.length (L.map fun p=>wU p.1 p.2))
 la:∀p∈L,LA τ p.1 p.2∧Bm p.2∧p.2.cat=c∧5≤p.1∧p.1+11≤τ.length
 fr:L.map (fun p=>p.2.fr)=q.sels.take L.length
def NmK(τ:aw)(L:List (Nat×fJ))(nm kd:aq):Prop:=(L=[]∧nm=.ai∧kd=.ai)∨(L≠[]∧∃(idn idk:Nat) (ns:List (List UInt8)) (K:List Int),nm=kF idn ns.length∧τ[idn]?=some (DP ns)∧kd=kF idk K.length∧τ[idk]?=some (aB 1 K.length (eA K))∧ns.length=K.length∧idn≠idk∧5≤idn∧5≤idk∧(∀p∈L,p.1+11≤idk∨idk<p.1)∧kdU (L.map fun p=>p.2)=some K∧K.length≤100)
noncomputable abbrev TJ(c:List cL)(q:tG)(k base:Nat)(τ:aw):Option (Ex×St):=bU code base [9999,5,6,10,11,12,13,14,23,24,25,26] zf ⟨yd c q k am am am am am am am am am,τ⟩
theorem ah7(c:List cL)(q:tG)(k base:Nat)(f:k<q.sels.length)(τ:aw):TJ c q k base τ=dh base [9999,5,6,10,11,12,13,14,23,24,25,26] zf (td (.reg [i (.bin .add (e 22) (v (ap 1)))] [(22,l 0)]) (rT 1 (run code (.seq zF (.seq Ay (.seq vl (.seq nF vp)))) ⟨yd c q k am am am am am (aC true) am am am,τ⟩))):=by
 have a:(k:Int)<(q.sels.length:Int):=by omega
 unfold TJ;rw[aZ];have b:run code (.reg [i (.bin .lss (e 22) (e 21))] [(23,l 0)]) ⟨yd c q k am am am am am am am am am,τ⟩=some (.nrm,⟨yd c q k am am am am am (aC true) am am am,τ⟩):=by
  simp[a,f]
 have d:run code (.cond (e 23) .skip (.exit 0)) ⟨yd c q k am am am am am (aC true) am am am,τ⟩=some (.nrm,⟨yd c q k am am am am am (aC true) am am am,τ⟩):=by
  simp
 conv=>lhs;rw[show run code zf=run code (.seq (.reg [i (.bin .lss (e 22) (e 21))] [(23,l 0)]) (.seq (.cond (e 23) .skip (.exit 0)) (.seq (.blk 1 (.seq zF (.seq Ay (.seq vl (.seq nF vp))))) (.reg [i (.bin .add (e 22) (v (ap 1)))] [(22,l 0)])))) by rw[←ap4]]
 rw[fA,b,bW,fA,d,bW,fA,agS]
theorem YQ{base:Nat}{r:Option (Ex×St)}(d:az)(h:yB r):yB (dh base [9999,5,6,10,11,12,13,14,23,24,25,26] zf (td d (rT 1 r))):=by
 obtain⟨a,e,env,τ,rfl,c,i,f,b,g⟩:=h;exact⟨a,e,env,τ,rfl,c,i,f,b,g⟩
theorem Vj{r:Option (Ex×St)}(b:az)(h:yB r):yB (td b r):=by
 obtain⟨a,e,env,τ,rfl,d,i,f,c,g⟩:=h;exact⟨a,e,env,τ,rfl,d,i,f,c,g⟩
theorem XW{c:List cL}{q:tG}{τ τ1:aw}{L:List (Nat×fJ)}{v C nm' kd':aq}{n:Nat}{S:fJ}{x:mI}(k:BSt c q τ L v C)(bad:Nat)(f:∀i o,i<τ.length→i≠3→i≠bad→τ[i]?=some o→τ1[i]?=some o)(D:5≤bad)(h:∀p∈L,p.1+11≤bad∨bad<p.1)(A:τ1[3]?=some (bO L.length nm' kd' q.limit))(la:LA τ1 n S)(B:Bm S)(l:S.cat=c)(E:n=τ.length+1)(s:n+11≤τ1.length)(r:S.fr=x)(t:q.sels[L.length]?=some x)(I:5≤τ.length) :
  BSt c q ((τ1.set 4 (aB 9 (L.length+1) ((L.map fun p=>wU p.1 p.2)++[wU n S]))).set 3 (bO (L.length+1) nm' kd' q.limit)) (L++[(n,S)]) nm' kd':=by
 have G:3<τ1.length:=(ak.1 A).1;have e:∀i o,i<τ.length→i≠3→i≠4→i≠bad→τ[i]?=some o→((τ1.set 4 (aB 9 (L.length+1) ((L.map fun p=>wU p.1 p.2)++[wU n S]))).set 3 (bO (L.length+1) nm' kd' q.limit))[i]?=some o:=fun i o hi a b d j=>by
  rw[aD (by omega),aD (by omega)];exact f i o hi a d j
 refine⟨e 0 _ (by omega) (by omega) (by omega) (by omega) k.b0,e 1 _ (by omega) (by omega) (by omega) (by omega) k.b1,e 2 _ (by omega) (by omega) (by omega) (by omega) k.b2,?_,?_,?_,?_⟩
 ·rw[aU (by simp;omega)];simp
 ·rw[aD (by omega),aU (by omega)];simp
 ·intro p g;rcases ba.1 g with g|g
  ·obtain⟨y,u,z,w,F⟩:=k.la p g;have H:=h p g;refine⟨y.keep fun i o hi m j=>e i o (by omega) (by omega) (by omega) (by omega) j,u,z,w,by simp;omega⟩
  rw[aP.1 g];refine⟨la.keep fun i o hi m j=>?_,B,l,by show 5≤n;omega,by simp;omega⟩;rw[aD (by omega),aD (by omega)];exact j
 have J:=(ak.1 t).1;rw[df,k.fr,bZ,bA,bD,eH,t];simp[r]
theorem aaS(c:List cL)(q:tG)(k base:Nat)(r:k≤10)(f j h a d n m g b:aq)(τ:aw):dh base [9999,5,6,10,11,12,13,14,23,24,25,26] zf (td (.reg [i (.bin .add (e 22) (v (ap 1)))] [(22,l 0)]) (rT 1 (some (.nrm,⟨yd c q k f j h a d n m g b,τ⟩))))=TJ c q (k+1) base τ:=by
 have o:IntKind.i64.wrap ((k:Int)+1)=(k:Int)+1:=rJ (by omega) (by omega);have p:((k+1:Nat):Int)=(k:Int)+1:=by omega
 unfold TJ;simp only[yd,p];simp[o,ff]
theorem Z5{c:List cL}{q:tG}{τ:aw}{L:List (Nat×fJ)}{T Y:aq}(C:CtK c)(h:BSt c q τ L T Y)(hN:NmK τ L T Y)(x:mI)(D:q.sels[L.length]?=some x)(W:wH x)(base:Nat) :
  yB (TJ c q L.length base τ)∨∃(f:aw) (n:Nat) (S:fJ) (nm' kd':aq),TJ c q L.length base τ=TJ c q (L.length+1) base f∧BSt c q f (L++[(n,S)]) nm' kd'∧NmK f (L++[(n,S)]) nm' kd':=by
 have hl:=(ak.1 D).1;have ae:=q.h3;have l4:4<τ.length:=(ak.1 h.b4).1;rw[ah7 c q L.length base hl τ];obtain⟨ad,q1,rfl⟩:=Z7 h.b0 L.length x D;rw[q1,fA];rcases aa1 (q:=q) C h.b2 L.length x W with R|⟨f,S,q2,v,y,e,t,a⟩
 ·exact .inl (YQ _ (Vj _ R))
 rw[q2,bW,fA];have ab:=v.len;have a3:f[τ.length+1+3]?=some (aB 25 0 [aI (iJ (τ.length+1) S)]):=by simpa using v.at3 []
 rcases hN with⟨rfl,rfl,rfl⟩|⟨A,d,b,l,K,rfl,U,rfl,V,n3,n4,n5,Q,Z,n8,u⟩
 ·right;obtain⟨τ1,d,b,l,H,E,P,d4,N,d6,r,d8,B⟩:=akx (q:=q) C v y e (by rw[t];exact W) .ai .ai ⟨rfl,rfl⟩ ⟨rfl,rfl⟩ (a 3 _ (by omega) h.b3) (aH τ.length 0 0 0) (aC true);have s:run code nF ⟨yd c q ([]:List (Nat×fJ)).length (ap (([]:List (Nat×fJ)).length:Nat)) (aH τ.length 0 0 0) (aH (τ.length+4) 0 0 0) (ap 0) am (aC true) (aC false) am am,f⟩=_:=H;rw[s,bW];have O:τ1[4]?=some (aB 9 0 []):=B 4 _ (by omega) (a 4 _ (by omega) h.b4);have F:=Ol (c:=c) (q:=q) (τ:=τ1) (n:=τ.length+1) (S:=S) (B _ _ (by omega) a3) 0 (by omega) (kF d l.length) (kF b (u7 S).length) [] rfl E O (aH τ.length 0 0 0) (ap 0) (kF b (u7 S).length) (aC true) (aC false) (aC true) am;have J:run code vp ⟨yd c q 0 (ap 0) (aH τ.length 0 0 0) (aH (τ.length+1+3) 0 0 0) (ap 0) (kF b (u7 S).length) (aC true) (aC false) (aC true) am,τ1⟩=_:=F;rw[J];have j:=XW (τ1:=τ1) (n:=τ.length+1) (S:=S) (nm':=kF d l.length) (kd':=kF b (u7 S).length) h (τ.length+100) (fun i o hi z _ m=>B i o z (a i o hi m)) (by omega) (fun p k=>by cases k) E (v.la.keep fun i o hi I m=>B i o (by omega) m) y e rfl (by omega) t D (by omega)
  refine⟨_,τ.length+1,S,_,_,aaS c q 0 base (by omega) _ _ _ _ _ _ _ _ _ _,j,.inr ⟨by simp,d,b,l,u7 S,rfl,?_,rfl,?_,N,by omega,by omega,by omega,?_,rfl,by
   have:=(y.lens (by rw[e];exact C.toCtOk)).2.2.1;simpa using this⟩⟩
  ·rw[aD (by omega),aD (by omega)];exact P
  ·rw[aD (by omega),aD (by omega)];exact d4
  intro p k;have:p=(τ.length+1,S):=by simpa using k
  rw[this];left;show τ.length+1+11≤b;omega
 have X:0<L.length:=eY.2 A;have M:=(ak.1 V).1;rcases alJ (q:=q) C v y e L.length (by omega) (kF d l.length) b K u (a 2 _ (by omega) h.b2) (a 3 _ (by omega) h.b3) (a b _ M V) Q (aH τ.length 0 0 0) (aC true) with R|⟨τ1,cs,G,H,E,P,d4,N,d6,r⟩
 ·exact .inl (YQ _ (Vj _ R))
 right;have s:run code nF ⟨yd c q L.length (ap L.length) (aH τ.length 0 0 0) (aH (τ.length+4) 0 0 0) (ap 0) am (aC true) (aC false) am am,f⟩=_:=H;rw[s,bW];have O:τ1[4]?=some (aB 9 L.length (L.map fun p=>wU p.1 p.2)):=r 4 _ (by omega) (a 4 _ (by omega) h.b4);have c3:τ1[3]?=some (bO L.length (kF d l.length) (kF b K.length) q.limit):=r 3 _ (by omega) (a 3 _ (by omega) h.b3);have F:=Ol (c:=c) (q:=q) (τ:=τ1) (n:=τ.length+1) (S:=S) (r _ _ (by omega) a3) L.length (by omega) (kF d l.length) (kF b K.length) (L.map fun p=>wU p.1 p.2) (by simp) c3 O (aH τ.length 0 0 0) (ap 0) G (aC true) (aC false) (aC false) (aC false);rw[F];have j:=XW (τ1:=τ1) (n:=τ.length+1) (S:=S) (nm':=kF d l.length) (kd':=kF b K.length) h b (fun i o hi z hb m=>r i o hb (a i o hi m)) Q Z c3 (v.la.keep fun i o hi I m=>r i o (by omega) m) y e rfl (by omega) t D (by omega);have g:cs.length=K.length:=P;refine⟨_,τ.length+1,S,_,_,aaS c q L.length base (by omega) _ _ _ _ _ _ _ _ _ _,j,.inr ⟨by simp,d,b,l,cs,rfl,?_,by rw[g],?_,by rw[n3,g],n4,n5,Q,?_,?_,by omega⟩⟩
 ·have w:=(ak.1 U).1;rw[aD (by omega),aD (by omega)];exact r _ _ n4 (a _ _ w U)
 ·rw[aD (by omega),aD (by omega),g];exact N
 ·intro p k;rcases ba.1 k with k|k
  ·exact Z p k
  rw[aP.1 k];right;show b<τ.length+1;omega
 rw[df];show kdU (L.map (fun p=>p.2)++[S])=some cs;rw[aaU (by simpa using A),n8];exact E
theorem ads{c:List cL}{q:tG}(l:CtK c)(o:∀x∈q.sels,wH x)(base:Nat):∀(m:Nat) (τ:aw) (L:List (Nat×fJ)) (b d:aq),L.length+m=q.sels.length→BSt c q τ L b d→NmK τ L b d →
  yB (TJ c q L.length base τ)∨∃(a:aw) (g:List (Nat×fJ)) (nm' kd':aq),TJ c q L.length base τ=some (.ext 0,⟨yd c q q.sels.length am am am am am (aC false) am am am,a⟩)∧BSt c q a g nm' kd'∧NmK a g nm' kd'∧g.length=q.sels.length:=by
 intro m;induction m with
 |zero=>
  intro τ L b d e j i;right;have e:L.length=q.sels.length:=by omega
  refine⟨τ,L,b,d,?_,j,i,e⟩;rw[e];unfold TJ;rw[aZ];simp[zf]
 |succ m s=>
  intro τ L b d e j i;have u:=au (show L.length<q.sels.length by omega);rcases Z5 l j i _ u (o _ (aJ _)) base with v|⟨τ1,n,S,h,f,p,r,t⟩
  ·exact .inl v
  have k:(L++[(n,S)]).length=L.length+1:=by simp
  have:=s τ1 (L++[(n,S)]) h f (by omega) r t;rw[k]at this;rw[p];exact this
abbrev kyE(c:List cL)(q:tG)(k:Nat)(e15 e16 e17 e30 e31:aq):List aq:=[mN c,q.a,aH 0 0 0 0,aH 1 0 0 0,aH 2 0 0 0,am,am,ap 0,ap 0,aH 3 0 0 0,am,am,am,am,am,e15,e16,e17,aC false,aC false,.aa false (q.sels.map mI.a),ap q.sels.length,ap q.sels.length,aC false,am,am,am,.aa false ((q.keys.getD []).map B3.a),ap (q.keys.getD []).length,ap k,e30,e31]
noncomputable abbrev kyR(c:List cL)(q:tG)(k base:Nat)(τ:aw):Option (Ex×St):=bU code base [9999,5,6,15,16,17,30,31] EP ⟨kyE c q k am am am am am,τ⟩
abbrev bP(N:Nat)(nm kd:aq)(ido k:Nat)(lim:Int):Obj:=aB 5 0 [aI [kF 4 N,nm,kd,kF ido k,ap lim]]
theorem YR{c:List cL}{q:tG}{τ:aw}(k:Nat)(D:k<(q.keys.getD []).length)(N b a:Nat)(f:List (List UInt8))(n:aq)(I:τ[b]?=some (DP f))(C:f.length≤8000)(H:τ[2]?=some (aB 5 0 [NG]))(F:τ[3]?=some (bP N (kF b f.length) n a k q.limit))(os:List (Int×Bool))(v:os.length=k)(E:τ[a]?=some (aB 2 k (os.map iq)))(R:5≤a)(base:Nat) :
  yB (kyR c q k base τ)∨∃(g:aw) (x:Int) (d:Bool),kyR c q k base τ=kyR c q (k+1) base g∧0≤x∧x<f.length∧g[3]?=some (bP N (kF b f.length) n a (k+1) q.limit)∧g[a]?=some (aB 2 (k+1) ((os++[(x,d)]).map iq))∧(∀i o,i≠3→i≠a→τ[i]?=some o→g[i]?=some o):=by
 have W:=q.hk;have l:(k:Int)<((q.keys.getD []).length:Int):=by omega
 have V:IntKind.i64.wrap ((k:Int)+1)=(k:Int)+1:=rJ (by omega) (by omega);have X:((k+1:Nat):Int)=(k:Int)+1:=by omega
 obtain⟨y,s⟩:∃y,(q.keys.getD [])[k]?=some y:=⟨(q.keys.getD [])[k],au D⟩;have m:∀h:k<(q.keys.getD []).length,(q.keys.getD [])[k]'h=y:=fun h=>(ak.1 s).2;have j:y.a=aI [aO y.name,ap y.number,aC y.desc]:=rfl;obtain⟨x,w,e,A⟩:=aln y true f C;rw[j]at e;have n3:=fq F;have p:=fq I;have O:=fq H;have K:=fq E;have Z:3<τ.length:=(ak.1 F).1;have Y:2<τ.length:=(ak.1 H).1;have lo:a<τ.length:=(ak.1 E).1;have Q:List.take f.length (f.map aq.str)=f.map aq.str:=ay (by simp);unfold kyR;by_cases t:w=0
 ·right;subst t;obtain⟨S,L⟩:=A rfl;have G:((τ++[Obj.arr 3 0 [aI [aO y.name,ap y.number,aC y.desc]]]).set a (aB 2 (k+1) (os.map iq++[aI [ap x,aC y.desc]])))[3]?=some (bP N (kF b f.length) n a k q.limit):=by rw[aD (by omega)];exact n3 _
  have u:List.take k (os.map iq)=os.map iq:=ay (by simp;omega);have r:k+1≤bC:=by unfold bC;omega
  have B:k≤os.length:=by omega
  refine⟨((τ++[Obj.arr 3 0 [aI [aO y.name,ap y.number,aC y.desc]]]).set a (aB 2 (k+1) (os.map iq++[aI [ap x,aC y.desc]]))).set 3 (bP N (kF b f.length) n a (k+1) q.limit),x,y.desc,?_,S,L,by rw[aU (by simp;omega)],?_,fun i o U J hi=>?_⟩
  ·rw[aZ];simp only[kyE,bP,X,DP]at n3 G p ⊢;simp[EP,l,D,s,m,j,n3,p,K,G,e,append,u,r,B,v,V,ff]
  ·rw[aD (by omega),aU (by simp;omega)];simp[iq]
  rw[aD (by omega),aD (by omega)];exact fq hi _
 left;have z:∃(env:List aq),bU code base [9999,5,6,15,16,17,30,31] EP ⟨kyE c q k am am am am am,τ⟩=some (.ret,⟨env,(τ++[Obj.arr 3 0 [aI [aO y.name,ap y.number,aC y.desc]]]).set 2 (aB 5 0 [NG])⟩)∧env[4]?=some (aH 2 0 0 0)∧env[5]?=some (ap 90)∧env[6]?=some (ap w):=by
  rw[aZ];simp only[kyE,bP,DP]at n3 p ⊢;exact⟨_,by simp[EP,l,D,s,m,j,n3,p,O,e,t];rfl,rfl,rfl,rfl⟩
 obtain⟨env,z,T,P,M⟩:=z;exact⟨90,w,env,_,z,t,T,P,M,by rw[aU (by simp;omega)]⟩
theorem adV{c:List cL}{q:tG}(N g e:Nat)(p:List (List UInt8))(z:aq)(y:p.length≤8000)(s:5≤e)(w:g≠e)(I:5≤g)(base:Nat):∀(m k:Nat) (τ:aw) (os:List (Int×Bool)),k+m=(q.keys.getD []).length→os.length=k→(∀o∈os,0≤o.1∧o.1<p.length)→τ[g]?=some (DP p)→τ[2]?=some (aB 5 0 [NG])→τ[3]?=some (bP N (kF g p.length) z e k q.limit)→τ[e]?=some (aB 2 k (os.map iq)) →
  yB (kyR c q k base τ)∨∃(n:aw) (f:List (Int×Bool)),kyR c q k base τ=some (.ext 2,⟨kyE c q (q.keys.getD []).length am am am (aC false) am,n⟩)∧f.length=(q.keys.getD []).length∧(∀o∈f,0≤o.1∧o.1<p.length)∧n[3]?=some (bP N (kF g p.length) z e f.length q.limit)∧n[e]?=some (aB 2 f.length (f.map iq))∧(∀i o,i≠3→i≠e→τ[i]?=some o→n[i]?=some o):=by
 intro m;induction m with
 |zero=>
  intro k τ os A l r t B v u;have A:k=(q.keys.getD []).length:=by omega
  right;refine⟨τ,os,?_,by omega,r,by rw[l];exact v,by rw[l];exact u,fun i o _ _ h=>h⟩;rw[A];unfold kyR;rw[aZ];simp[EP]
 |succ m F=>
  intro k τ os A l r t B v u;rcases YR (c:=c) k (by omega) N g e p z t y B v os l u s base with C|⟨τ1,x,d,D,H,E,G,J,keep⟩
  ·exact .inl C
  rcases F (k+1) τ1 (os++[(x,d)]) (by omega) (by simp[l]) (fun o j=>by
   rcases ba.1 j with j|j
   ·exact r o j
   rw[aP.1 j];exact⟨H,E⟩) (keep _ _ (by omega) w t) (keep _ _ (by omega) (by omega) B) G J with C|⟨τ2,f,q2,l2,r2,b3,bo,keep2⟩
  ·left;rw[D];exact C
  exact .inr ⟨τ2,f,D.trans q2,l2,r2,b3,bo,fun i o a b h=>keep2 i o a b (keep i o a b h)⟩
theorem wH.of{s:mI}(h:IC s=true):wH s:=by
 unfold IC at h;simp only[ax]at h;obtain⟨⟨⟨⟨⟨⟨k,_⟩,j⟩,i⟩,_⟩,f⟩,g⟩:=h;have a:∀c:List eP,c.length≤1300→xX c=true→c=[]∨mv c:=fun c l b=>by
  unfold xX at b;simp only[dL,aX,cS]at b;rcases b with b|b
  ·exact .inl b
  obtain⟨e,_,_,h⟩:=Ut c l;exact .inr (h b)
 refine⟨by simpa using k,fun x d=>?_,fun x d=>?_,a _ s.hw f,a _ s.hh g⟩
 ·have:=aY.1 j x d;unfold zz at this;simp only[ax]at this;obtain⟨e,_,_,h⟩:=Ut x.ns x.h;exact h this.1
 have:=aY.1 i x d;unfold AI at this;simp only[ax]at this;obtain⟨e,_,_,h⟩:=Ut x.on x.h;exact h this.1
def wa(S:fJ):nG:=⟨S.tables,S.joins,S.whr.getD [],S.having.getD [],S.grouped,S.distinct,S.keys,S.ah.map kP.x,S.items.map fun it=>⟨false,it⟩⟩
theorem kP.fz0(g:kP)(base:Nat)(σ:aw)(m:Nat):fz false false base σ (m+4) g.a=xK g.x:=by
 obtain⟨t,o⟩:=g;cases o<;>simp[kP.a,kP.x,kP.es,xK,sv]
theorem ahx{τ:aw}{n:Nat}{S:fJ}(h:LA τ n S)(m:Nat):fz false false 0 τ (m+10) (wU n S)=(wa S).a:=by
 obtain⟨l,e,u,i,d⟩:=h;have v:(wa S).a=aI [.aa false (S.tables.map (.int .i64)),.aa false (S.joins.map JX.a),.aa false ((S.whr.getD []).map EN.a),.aa false ((S.having.getD []).map EN.a),aC S.grouped,aC S.distinct,.aa false (S.keys.map (.int .i64)),.aa false ((S.ah.map kP.x).map xK),.aa false ((S.items.map fun it=>(⟨false,it⟩:yK)).map yv)]:=rfl;rw[v];have c:List.take S.tables.length (eA S.tables)=eA S.tables:=ay (by simp);have s:List.take S.joins.length (S.joins.map JX.a)=S.joins.map JX.a:=ay (by simp);have t:List.take S.keys.length (eA S.keys)=eA S.keys:=ay (by simp);have q:List.take S.ah.length (S.ah.map kP.a)=S.ah.map kP.a:=ay (by simp);have k:List.take S.items.length (S.items.map jq)=S.items.map jq:=ay (by simp);have p:∀(j:JX) m,fz false false 0 τ (m+3) j.a=j.a:=fun j m=>Fx.fx false false 0 τ m j;have w:∀(g:kP) m,fz false false 0 τ (m+4) g.a=xK g.x:=fun g m=>g.fz0 0 τ m;have f:∀g:kP,aM (xK g.x)=2:=fun _=>rfl;have a:∀g:kP,aM g.a=2:=fun _=>rfl;have r:∀j:JX,aM j.a=2:=fun _=>rfl;have b:∀(o:Option (List EN)) m,fz false false 0 τ (m+3) (sv (o.map (·.map EN.a)))=.aa false ((o.getD []).map EN.a):=fun o m=>by cases o<;>simp[sv]
 simp[wU,l,e,u,i,d,c,s,t,q,k,p,w,f,a,r,b,yv,nJ]
structure MO (c:List cL) (q:tG) (b:B2) (L:List fJ):Prop where
 sels:b.selects=L.map wa
 good:∀S∈L,Bm S∧S.cat=c∧wH S.fr
 l1:1≤L.length
 l3:L.length≤3
 kd:kdU L=some b.ac
 nm:b.names.length=b.ac.length
 od:∀o∈b.order,0≤o.1∧o.1<b.ac.length
 ol:b.order.length≤3
 lim:MQ b.limit=true
def Nn(c:List cL)(q:tG)(v:aq):Prop:=(∃a e:Int,e≠0∧v=fy [aI [.aa false [],.aa false [],.aa false [],.aa false [],ap 0],ap a,ap e])∨∃(b:B2) (L:List fJ),v=fy [b.a,ap 0,ap 0]∧MO c q b L
abbrev st0(c:List cL)(q:tG):aw:=[aB 1 0 [mN c],aB 3 0 [q.a],aB 5 0 [NG],bO 0 .ai .ai q.limit,aB 9 0 []]
theorem apl(c:List cL)(q:tG):BSt c q (st0 c q) [] .ai .ai:=⟨rfl,rfl,rfl,rfl,rfl,fun p a=>(by cases a),rfl⟩
theorem ac7{c:List cL}{q:tG}(d:bB I.qbb [mN c]=some (ap 0))(n:P4 q=true)(r:Option (Ex×St))
  (f:TJ c q 0 5 (st0 c q)=r) (j:yB r):∃v,bB I.qn [mN c,q.a]=some v∧Nn c q v:=by
 obtain⟨a,e,env,τ,rfl,m,l,i,k,h⟩:=j;have b:=I1 q;rw[n]at b;simp only[cw]at b;have g:q.a=aI [.aa false (q.sels.map mI.a),.aa false ((q.keys.getD []).map B3.a),ap q.limit]:=rfl;refine⟨_,?_,.inl ⟨a,e,m,rfl⟩⟩;rw[aT aaM rfl];unfold TJ at f;simp only[yd,st0,bO,NG,kF,bj]at f h;rw[g]at f b ⊢;simp[arP,WK,d,b,f,l,i,k,h]
theorem acx{c:List cL}{q:tG}(B:bB I.qbb [mN c]=some (ap 0))(O:P4 q=true){τ:aw}{L:List (Nat×fJ)}{Z kd:aq}
  (C:TJ c q 0 5 (st0 c q)=some (.ext 0,⟨yd c q q.sels.length am am am am am (aC false) am am am,τ⟩)) (y:BSt c q τ L Z kd) (hN:NmK τ L Z kd) (hL:L.length=q.sels.length) (ht:∀x∈q.sels,wH x):∃v,bB I.qn [mN c,q.a]=some v∧Nn c q v:=by
 have k:=I1 q;rw[O]at k;simp only[cw]at k;have D:q.a=aI [.aa false (q.sels.map mI.a),.aa false ((q.keys.getD []).map B3.a),ap q.limit]:=rfl;have ae:=q.h1;have ab:=q.h3;rcases hN with⟨rfl,_⟩|⟨af,f,d,n,K,rfl,T,rfl,n2,n3,n4,n5,n6,n7,n8,n9⟩
 ·simp at hL;omega
 have P:=y.b3;have l3:=(ak.1 P).1;have ln:=(ak.1 T).1;have lk:=(ak.1 n2).1;have l4:=(ak.1 y.b4).1;have l:∀i o,i≠3→τ[i]?=some o→(τ.set 3 (bP L.length (kF f n.length) (kF d K.length) τ.length 0 q.limit)++[Obj.arr 2 0 []])[i]?=some o:=fun i o hi w=>fq (by rw[aD (by omega)];exact w) _;have k3:(τ.set 3 (bP L.length (kF f n.length) (kF d K.length) τ.length 0 q.limit)++[Obj.arr 2 0 []])[3]?=some (bP L.length (kF f n.length) (kF d K.length) τ.length 0 q.limit):=fq (by rw[aU l3]) _;have ko:(τ.set 3 (bP L.length (kF f n.length) (kF d K.length) τ.length 0 q.limit)++[Obj.arr 2 0 []])[τ.length]?=some (aB 2 0 (([]:List (Int×Bool)).map iq)):=by
  rw[bI (by simp)];simp
 have u:=adV (c:=c) (q:=q) L.length f τ.length n (kF d K.length) (by omega) (by omega) (by omega) n5 (τ.length+1) (q.keys.getD []).length 0 _ [] (by omega) rfl (fun o w=>by cases w) (l _ _ (by omega) T) (l _ _ (by omega) y.b2) k3 ko;generalize M:τ.set 3 (bP L.length (kF f n.length) (kF d K.length) τ.length 0 q.limit)++[Obj.arr 2 0 []]=J at *;have r:τ.set 3 (aB 5 0 [aI [kF 4 L.length,kF f n.length,kF d K.length,.sl τ.length 0 0 0,ap q.limit]])++[Obj.arr 2 0 []]=J:=M;have k1:=l 1 _ (by omega) y.b1;have A:J.length=τ.length+1:=by rw[←M];simp
 unfold TJ at C;simp only[yd,st0,bO,NG,kF,bj]at C;unfold kyR at u;simp only[kyE,bj]at u;simp only[bO,kF]at P;simp only[kF]at r;rcases u with⟨a,e,env,s,F,he,e4,e5,e6,h2⟩|⟨s,os,F,ol,X,c3,co,keep⟩
 ·refine⟨_,?_,.inl ⟨a,e,he,rfl⟩⟩;rw[aT aaM rfl];rw[D]at C k F k1 ⊢;simp only[NG]at h2;simp[arP,WK,B,k,C,P,r,A,k1,F,e4,e5,e6,h2]
 have g:∀i o,i≠3→i≠τ.length→τ[i]?=some o→s[i]?=some o:=fun i o a b w=>keep i o a b (l i o a w);have U:s[2]?=some (aB 5 0 [NG]):=g 2 _ (by omega) (by omega) y.b2;have l2:=(ak.1 U).1;generalize Q:s.set 2 (aB 5 0 [aI [kF 4 L.length,kF f n.length,kF d K.length,kF τ.length os.length,ap q.limit]])=t at *;have j:∀i o,i≠2→s[i]?=some o→t[i]?=some o:=fun i o a w=>by rw[←Q,aD (by omega)];exact w
 have f2:t[2]?=some (aB 5 0 [aI [kF 4 L.length,kF f n.length,kF d K.length,kF τ.length os.length,ap q.limit]]):=by rw[←Q,aU l2]
 have f4:=j 4 _ (by omega) (g 4 _ (by omega) (by omega) y.b4);have fn:=j f _ (by omega) (g f _ (by omega) (by omega) T);have fk:=j d _ (by omega) (g d _ (by omega) (by omega) n2);have fo:=j τ.length _ (by omega) co;have E:∀p∈L,fz false false 0 t 17 (wU p.1 p.2)=(wa p.2).a:=fun p z=>by
  obtain⟨a1,_,_,a4,a5⟩:=y.la p z;exact ahx (a1.keep fun i o hi ad w=>j i o (by omega) (g i o (by omega) (by omega) w)) 7
 refine⟨_,?_,.inr ⟨⟨L.map fun p=>wa p.2,n,K,os,q.limit⟩,L.map fun p=>p.2,rfl,⟨by simp,?_,by simp;omega,by simp;omega,n8,n3,fun o w=>by have:=X o w;rw[←n3];exact this,(show os.length≤3 by have:=q.hk;omega),?_⟩⟩⟩
 ·rw[aT aaM rfl];have G:s[3]?=some (aB 5 0 [aI [kF 4 L.length,kF f n.length,kF d K.length,kF τ.length os.length,ap q.limit]]):=c3;have t4:List.take L.length (L.map fun p=>wU p.1 p.2)=L.map fun p=>wU p.1 p.2:=ay (by simp);have tn:List.take n.length (n.map aq.str)=n.map aq.str:=ay (by simp);have tk:List.take K.length (eA K)=eA K:=ay (by simp);have W:List.take os.length (os.map iq)=os.map iq:=ay (by simp);have m4:(L.map fun p=>wU p.1 p.2).map (fz false false 0 t 17)=L.map fun p=>(wa p.2).a:=by
   rw[bY];exact aW fun p z=>E p z
  have R:(⟨L.map fun p=>wa p.2,n,K,os,q.limit⟩:B2).a=aI [.aa false ((L.map fun p=>wa p.2).map nG.a),.aa false (n.map aO),.aa false (K.map (.int .i64)),.aa false (os.map iq),ap q.limit]:=rfl;have V:∀(o:Int×Bool) m,fz false false 0 t (m+3) (iq o)=iq o:=fun o m=>by simp[iq]
  have no:∀o:Int×Bool,aM (iq o)=2:=fun _=>rfl;have nb:∀S:fJ,aM (wa S).a=9:=fun _=>rfl;have Y:∀a∈L.map (fun p=>wU p.1 p.2),aM (fz false false 0 t 17 a)=aM a:=fun a ha=>by
   obtain⟨p,z,rfl⟩:=bK.1 ha;rw[E p z];rfl
  have H:L.length≤(L.map fun p=>wU p.1 p.2).length:=by simp
  generalize (L.map fun p=>wU p.1 p.2)=ov at *;have N:=eq_true Y;rw[D]at C k F k1 ⊢;simp only[kF,NG]at G U Q f2 ⊢;simp[arP,WK,B,k,C,P,r,A,k1,F,G,U,Q,f2,f4,fn,fk,fo,t4,tn,tk,W,H,m4,N,V,no,R];intro a x h;rcases h with⟨_,rfl⟩|⟨_,rfl⟩<;>simp[iq]
 ·intro S hS;obtain⟨p,z,rfl⟩:=bK.1 hS;obtain⟨_,a2,a3,_,_⟩:=y.la p z;refine⟨a2,a3,ht _ ?_⟩;have:p.2.fr∈L.map (fun p=>p.2.fr):=bK.2 ⟨p,z,rfl⟩;rw[y.fr]at this;exact cT this
 unfold P4 at O;simp only[ax]at O;exact O.1.1
theorem ajk{c:List cL}(f:CtK c)(b:bB I.qbb [mN c]=some (ap 0))(q:tG):∃v,bB I.qn [mN c,q.a]=some v∧Nn c q v:=by
 cases hq:P4 q with
 |false=>
  have a:=I1 q;rw[hq]at a;simp only[bq,cI]at a;have e:q.a=aI [.aa false (q.sels.map mI.a),.aa false ((q.keys.getD []).map B3.a),ap q.limit]:=rfl;refine⟨_,?_,.inl ⟨0,180,by omega,rfl⟩⟩;rw[aT aaM rfl];rw[e]at a ⊢;simp[arP,WK,b,a]
 |true=>
  have d:∀x∈q.sels,wH x:=fun x k=>by
   unfold P4 at hq;simp only[ax]at hq;exact wH.of (aY.1 hq.2 x k)
  rcases ads f d 5 q.sels.length (st0 c q) [] .ai .ai (by simp) (apl c q) (.inl ⟨rfl,rfl,rfl⟩) with l|⟨τ,L,m,n,h,j,i,g⟩
  ·exact ac7 b hq _ rfl l
  exact acx b hq h j i g d
end Go.AM
namespace Go.AM
open P
set_option maxHeartbeats 64000000
set_option maxRecDepth 40000
def vI(k:Nat)(n:cJ):cJ:={ n with l:=if 0≤n.l then n.l+k else n.l,r:=if 0≤n.r then n.r+k else n.r }
theorem aat{n:cJ}(h:nH n):n.bk=false∧n.bc=false∧n.by'=false∧n.bg=false∧n.bi=false∧n.bo=false:=by
 have:=h.z;simp[cJ.a,B4]at this;exact⟨this.1,this.2.1,this.2.2.1,this.2.2.2.1.1,this.2.2.2.2.1.1,this.2.2.2.2.2⟩
theorem M9{n:cJ}(h:nH n)(k:Nat):gD k n=vI k n:=by
 obtain⟨f,e,c,b,d,a⟩:=aat h;cases n;simp_all[gD,vI]
theorem Gw{N M:Nat}{n:cJ}(a:n.op≠8)(ks:List (iN Int))(fs:List Nat):pd N n ks fs=pd M n ks fs:=by
 unfold pd kX;simp[a]
theorem YH(k:Nat)(n:cJ):iy (vI k n)=iy n:=by unfold iy vI;rfl
theorem tA{fs0 fs:List Nat}{k j:Nat}(a:fs0.length=k)(b:j<fs.length):(fs0++fs.map (·+k)).getD (k+j) 0=fs.getD j 0+k:=by
 subst a;rw[aR,bI (by omega),aR];simp[b]
theorem XF{k:Nat}{n:cJ}{i:Nat}{fs0 fs:List Nat}(g:fs0.length=k)(x:fs.length=i)(w:iz n.op=2→n.l.toNat < i)(h:(fK n i fs).2=true) :
  fK (vI k n) (k+i) (fs0++fs.map (·+k))=((fK n i fs).1+k,true):=by
 unfold fK at h ⊢;have m:(vI k n).op=n.op:=rfl;rw[m];split at h
 ·rename_i d;rw[if_pos d,if_pos d];simp at h;obtain⟨a,b⟩:=h;simp[vI,a,b];omega
 rename_i d;rw[if_neg d,if_neg d];split at h
 ·rename_i e;rw[if_pos e,if_pos e];split at h
  ·cases h
  rename_i f;have l:n.l=(i:Int)-1:=by omega
  have c:n.r=-1:=by omega
  have hi:i≠0:=by omega
  have p:(vI k n).l=((k+i:Nat):Int)-1:=by simp[vI];rw[if_pos (by omega)];omega
  have r:(vI k n).r=-1:=by simp[vI,c]
  rw[if_neg f,if_neg (by omega)];have:=tA (fs0:=fs0) (fs:=fs) (k:=k) (j:=i-1) g (by omega);rw[show k+i-1=k+(i-1) by omega,this];simp
 rename_i e;rw[if_neg e,if_neg e];split at h
 ·cases h
 rename_i f;have o:iz n.op=2:=by rcases tE n.op with h|h|h<;>simp_all
 have t:=w o;have hi:i≠0:=by omega
 have c:n.r=(i:Int)-1:=by omega
 have l:n.l=((fs.getD (i-1) 0:Nat):Int)-1:=by omega
 have v:0≤n.l:=by omega
 have s:=tA (fs0:=fs0) (fs:=fs) (k:=k) (j:=i-1) g (by omega);have p:(vI k n).l=n.l+k:=by simp[vI];omega
 have r:(vI k n).r=((k+i:Nat):Int)-1:=by simp[vI];rw[if_pos (by omega)];omega
 rw[if_neg f,if_neg (by rw[show k+i-1=k+(i-1) by omega,s];omega)];have q:=tA (fs0:=fs0) (fs:=fs) (k:=k) (j:=n.l.toNat) g (by omega);have u:(vI k n).l.toNat=k+n.l.toNat:=by rw[p];omega
 rw[u,q];simp
theorem D6{a ks:List (iN Int)}{k:Nat}(b:a.length=k){x:Int}(c:0≤x):(a++ks)[(x+k).toNat]?=ks[x.toNat]?:=by
 subst b;rw[bI (by omega)];congr 1;omega
theorem ahC{N k:Nat}{n:cJ}{d ks:List (iN Int)}(g:d.length=k)(l:n.op≠8)(j:n.op≠1→0≤n.l)(e:n.op=2∨n.op=7→0≤n.r):kX N (d++ks) (vI k n)=kX 0 ks n:=by
 unfold kX;have i:(vI k n).op=n.op:=rfl;rw[i];by_cases c:n.op=1
 ·rw[if_pos c,if_pos c];rfl
 rw[if_neg c,if_neg c];have j:=j c;have m:(vI k n).l=n.l+k:=by simp[vI];omega
 rw[m,D6 g j];cases ks[n.l.toNat]? with
 |none=>rfl
 |some a=>
  simp only[cH];by_cases b:n.op=2
  ·have h:(vI k n).r=n.r+k:=by have:=e (.inl b);simp[vI];omega
   rw[if_pos b,if_pos b,h,D6 g (e (.inl b))];rfl
  rw[if_neg b,if_neg b];by_cases f:n.op=7
  ·have h:(vI k n).r=n.r+k:=by have:=e (.inr f);simp[vI];omega
   simp only[f];rw[h,D6 g (e (.inr f))];rfl
  simp only[f,cI,l];rfl
theorem Al{b σ ρ:Type}(g:Nat→b→σ→σ⊕ρ)(l m:List b):∀k s,dp g (l++m) k s=match dp g l k s with
  |.inl s'=>dp g m (k+l.length) s'
  |.inr r=>.inr r:=by
 induction l with
 |nil=>intro k s;rfl
 |cons a l c=>
  intro k s;simp only[bX,dp];cases g k a s with
  |inr r=>rfl
  |inl s'=>
   simp only;rw[c];simp only[bA];rw[show k+1+l.length=k+(l.length+1) by omega]
theorem Yu{n:cJ}{i:Nat}{fs:List Nat}(h:(fK n i fs).2=true):(iz n.op=1→0≤n.l)∧(iz n.op=2→0≤n.l∧0≤n.r):=by
 unfold fK at h;split at h
 ·rename_i a;exact⟨fun h=>by omega,fun h=>by omega⟩
 split at h
 ·rename_i b;split at h
  ·cases h
  exact⟨fun _=>by omega,fun h=>by omega⟩
 split at h
 ·cases h
 exact⟨fun h=>by omega,fun _=>by omega⟩
theorem ack{N:Nat}{n:cJ}{ks:List (iN Int)}{fs:List Nat}{r:iN Int}{f:Nat}(h:pd N n ks fs=some (r,f)) :
  (decide (1≤n.op)&&decide (n.op≤8)&&iy n)=true∧(fK n ks.length fs).2=true∧kX N ks n=some r∧r.l.length≤16∧f=(fK n ks.length fs).1.toNat:=by
 unfold pd at h;split at h
 ·cases h
 rename_i a;split at h
 ·cases h
 rename_i c b;split at h
 ·cases h
 cases h;simp only[kZ,not_or,Bool.not_eq_false]at a;exact⟨by simp[a.1.1.1,a.1.1.2,a.1.2],a.2,b,by omega,rfl⟩
theorem De{N:Nat}{n:cJ}{ks:List (iN Int)}{fs:List Nat}{r:iN Int}(c:(decide (1≤n.op)&&decide (n.op≤8)&&iy n)=true)(b:(fK n ks.length fs).2=true)(a:kX N ks n=some r)(d:r.l.length≤16) :
  pd N n ks fs=some (r,(fK n ks.length fs).1.toNat):=by
 unfold pd;rw[c,b,a];simp only[jM,Bool.true_eq_false,cI];rw[if_neg (by omega)]
theorem acl{N k i:Nat}{n:cJ}{b ks:List (iN Int)}{fs0 fs:List Nat}{r:iN Int}{f:Nat}(u:b.length=k)(y:fs0.length=k)(hi:ks.length=i)(A:fs.length=i)(z:n.op≠8)(h:pd 0 n ks fs=some (r,f))(C:0≤(fK n i fs).1) :
  pd N (vI k n) (b++ks) (fs0++fs.map (·+k))=some (r,f+k):=by
 obtain⟨x,m,j,v,t⟩:=ack h;rw[hi]at m t;have d:=Yu m;have w:n.op=1∨iz n.op=1∨iz n.op=2:=by
  by_cases e:n.op=1
  ·exact .inl e
  rcases tE n.op with h|h|h
  ·unfold iz at h;rw[if_neg e]at h;split at h<;>omega
  ·exact .inr (.inl h)
  exact .inr (.inr h)
 have p:n.op≠1→0≤n.l:=fun e=>by
  rcases w with h|h|h
  ·exact absurd h e
  ·exact d.1 h
  exact (d.2 h).1
 have s:n.op=2∨n.op=7→iz n.op=2:=fun h=>by unfold iz;rcases h with h|h<;>simp[h]
 have l:=ahC (N:=N) u z p (fun h=>(d.2 (s h)).2) (ks:=ks);rw[j]at l;have o:iz n.op=2→n.l.toNat < i:=fun q=>by
  have B:n.op=2∨n.op=7:=by
   unfold iz at q;split at q
   ·omega
   split at q
   ·assumption
   omega
  have e:n.op≠1:=by omega
  unfold kX at j;rw[if_neg e]at j;obtain⟨a,l,_⟩:=aK.1 j;have:=(ak.1 l).1;omega
 have g:=XF (fs0:=fs0) y A o m;have c:(b++ks).length=k+i:=by simp[u,hi]
 have:=De (N:=N) (n:=vI k n) (ks:=b++ks) (fs:=fs0++fs.map (·+k)) (r:=r) (by rw[YH];exact x) (by rw[c,g]) l v;rw[c,g]at this;rw[this];congr 2;rw[t];simp only;omega
theorem WO{n:cJ}{i:Nat}{fs:List Nat}:0≤(fK n i fs).1:=by
 unfold fK
 repeat' split
 all_goals simp
theorem acv{N k:Nat}{b:List (iN Int)}{fs0:List Nat}(l:b.length=k)(e:fs0.length=k):∀(u:List cJ) (i:Nat) (ks:List (iN Int)) (fs:List Nat) (s:List (iN Int)×List Nat),ks.length=i→fs.length=i→(∀n∈u,n.op≠8) →
  dp (jK 0) u i (ks,fs)=.inl s→dp (jK N) (u.map (vI k)) (k+i) (b++ks,fs0++fs.map (·+k))=.inl (b++s.1,fs0++s.2.map (·+k)):=by
 intro u;induction u with
 |nil=>
  intro i ks fs s _ _ _ h;simp only[dp]at h;cases h;rfl
 |cons n u j=>
  intro i ks fs s hi d c h;simp only[dp,jK]at h;cases hs:pd 0 n ks fs with
  |none=>rw[hs]at h;cases h
  |some q=>
   obtain⟨r,f⟩:=q;rw[hs]at h;simp only at h;have m:=acl (N:=N) l e hi d (c n (by simp)) hs WO;have a:=j (i+1) (ks++[r]) (fs++[f]) s (by simp[hi]) (by simp[d]) (fun n g=>c n (by simp[g])) h;simp only[aV,dp,jK];rw[m];simp only;rw[show k+(i+1)=k+i+1 by omega]at a;simp only[df,aV,bm]at a;rw[dG,dG];exact a
theorem Me{N:Nat}:∀(u:List cJ) (i:Nat) (s:List (iN Int)×List Nat),(∀n∈u,n.op≠8)→dp (jK N) u i s=dp (jK 0) u i s:=by
 intro u;induction u with
 |nil=>intro i s _;rfl
 |cons n u b=>
  intro i s h;have c:jK N i n s=jK 0 i n s:=by unfold jK;rw[Gw (N:=N) (M:=0) (h n (by simp))]
  simp only[dp];rw[c];cases jK 0 i n s with
  |inr _=>rfl
  |inl s'=>exact b _ _ fun n a=>h n (by simp[a])
structure TR (t:List cJ) (K:List Int):Prop where
 own:∀n∈t,nH n
 ns:∀n∈t,NS n
 nosort:∀n∈t,n.op≠8
 pos:0<t.length
 le:t.length≤60
 look:∃s:List (iN Int)×List Nat,dp (jK 0) t 0 ([],[])=.inl s∧s.1.length=t.length∧s.2.length=t.length∧s.2.getD (t.length-1) 0=0∧∃r,s.1[t.length-1]?=some r∧r.l=K
theorem TR.lookF{t:List cJ}{K:List Int}(h:TR t K):∃s,lookF t=some s:=by
 obtain⟨s,a,_,_,b,_⟩:=h.look;refine⟨s,?_⟩;unfold Go.AM.lookF;rw[if_neg (by have:=h.pos;have:=h.le;omega),Me t 0 _ h.nosort,a];simp only;rw[if_pos b]
theorem ae1(n:cJ):vI 0 n=n:=by
 cases n;simp[vI]
theorem CU{t:List cJ}(h:∀n∈t,nH n)(k:Nat):t.map (gD k)=t.map (vI k):=aW fun n a=>M9 (h n a) k
theorem LV(t:List cJ):t.map (vI 0)=t:=by
 have:∀n∈t,vI 0 n=id n:=fun n _=>ae1 n;rw[aW this,List.map_id]
theorem wB{n:cJ}(h:nH n)(l r:Int):nH (eU n l r):=by
 have b:=aat h;obtain⟨i,g,e,d,f,c⟩:=b;have a:=tT (n:=eU n l r) ⟨h.fl.ag,h.fl.ex⟩ ⟨h.fit.ac,h.fit.cond,h.fit.keys,h.fit.ah,h.fit.args,h.fit.items,h.fit.exprs,h.fit.ords⟩ 0;have:gD 0 (eU n l r)=eU n l r:=by
  cases n;simp_all[gD,eU]
 rw[this]at a;exact a
theorem Cj{n:cJ}(h:nH n)(l r:Int):gD 0 (eU n l r)=eU n l r:=by
 have:=M9 (wB h l r) 0;rw[ae1]at this;exact this
theorem zJ{t:List cJ}{m:cJ}{s:List (iN Int)×List Nat}{r:iN Int}(d:t.length<60)(h:dp (jK (t.length+1)) t 0 ([],[])=.inl s)(b:pd (t.length+1) m s.1 s.2=some (r,0))(c:s.2.length=t.length) :
  lookF (t++[m])=some (s.1++[r],s.2++[0]):=by
 unfold lookF;rw[if_neg (by simp;omega)];have a:(t++[m]).length=t.length+1:=by simp
 rw[a,Al,h];simp only[dp,jK,b];have:(s.2++[0]).getD (t.length+1-1) 0=0:=by
  rw[aR];simp[c]
 simp only[this,cw]
structure Un (n:cJ) (K K':List Int):Prop where
 own:nH n
 ns:NS n
 op:n.op=3∨n.op=4∨n.op=5∨n.op=6
 blank:iy n=true
 asks:∀ks:List (iN Int),∀l a,0≤l→ks[l.toNat]?=some a→a.l=K→∃r,kX 0 ks (eU n l (-1))=some r∧r.l=K'
 le:K'.length≤16
theorem zR(n:cJ)(l r:Int):iy (eU n l r)=iy n:=by unfold iy eU;rfl
theorem tU{t:List cJ}{K u:List Int}(h:TR t K){n:cJ}(c:Un n K u)(G:t.length<60):dR n (some t)=some (t++[eU n ((t.length:Int)-1) (-1)])∧TR (t++[eU n ((t.length:Int)-1) (-1)]) u:=by
 obtain⟨s,w,k,p,E,r,F,z⟩:=h.look;have H:=h.pos;have f:((t.length:Int)-1).toNat=t.length-1:=by omega
 obtain⟨e,D,v⟩:=c.asks s.1 ((t.length:Int)-1) r (by omega) (by rw[f];exact F) z;have j:=c.op;have b:(eU n ((t.length:Int)-1) (-1)).op=n.op:=rfl;have x:(eU n ((t.length:Int)-1) (-1)).op≠8:=by rw[b];omega
 have o:iz n.op=1:=by unfold iz;rcases j with h|h|h|h<;>simp[h]
 have g:fK (eU n ((t.length:Int)-1) (-1)) t.length s.2=(0,true):=by
  unfold fK;rw[b,if_neg (by omega),if_pos o];have B:(eU n ((t.length:Int)-1) (-1)).l=(t.length:Int)-1:=rfl;have y:(eU n ((t.length:Int)-1) (-1)).r=-1:=rfl;rw[B,y,if_neg (by omega),E];rfl
 have i:pd 0 (eU n ((t.length:Int)-1) (-1)) s.1 s.2=some (e,0):=by
  have:=De (N:=0) (n:=eU n ((t.length:Int)-1) (-1)) (ks:=s.1) (fs:=s.2) (r:=e) (by rw[b,zR,c.blank];rcases j with h|h|h|h<;>simp[h]) (by rw[k,g]) D (by rw[v];exact c.le);rw[this,k,g];rfl
 have d:pd (t.length+1) (eU n ((t.length:Int)-1) (-1)) s.1 s.2=some (e,0):=by rw[Gw (M:=0) x];exact i
 have l:=zJ (m:=eU n ((t.length:Int)-1) (-1)) G (by rw[Me t 0 _ h.nosort];exact w) d p;obtain⟨q,C⟩:=h.lookF;refine⟨?_,?_⟩
 ·unfold dR ij;simp only[cH,dp,om,C,ky,cw,bT,bD];rw[show (((0:Nat):Int))=((0:Nat):Int) from rfl,CU h.own 0,LV];have A:((0:Nat):Int)+(t.length:Int)-1=(t.length:Int)-1:=by omega
  rw[A,Cj c.own,l];rfl
 refine⟨?_,?_,?_,by simp,by simp;omega,?_⟩
 ·intro m a;rcases ba.1 a with a|a
  ·exact h.own m a
  rw[aP.1 a];exact wB c.own _ _
 ·intro m a;rcases ba.1 a with a|a
  ·exact h.ns m a
  rw[aP.1 a];exact⟨(wB c.own _ _).fit,c.ns.keys,c.ns.ah,c.ns.items⟩
 ·intro m a;rcases ba.1 a with a|a
  ·exact h.nosort m a
  rw[aP.1 a];exact x
 refine⟨(s.1++[e],s.2++[0]),?_,by simp[k],by simp[p],?_,e,?_,v⟩
 ·rw[Al,w];simp only[dp,jK,i]
 ·rw[aR];simp[p]
 simp[k]
structure Bi (n:cJ) (K L K':List Int):Prop where
 own:nH n
 ns:NS n
 op:n.op=2∨n.op=7
 blank:iy n=true
 asks:∀ks:List (iN Int),∀l r a b,0≤l→0≤r→ks[l.toNat]?=some a→ks[r.toNat]?=some b→a.l=K→b.l=L→∃q,kX 0 ks (eU n l r)=some q∧q.l=K'
 le:K'.length≤16
theorem Ke{t u:List cJ}{K L R:List Int}(h:TR t K)(d:TR u L){n:cJ}(e:Bi n K L R)(hl:t.length+u.length<60) :
  jJ n (some t) (some u)=some (t++u.map (vI t.length)++[eU n ((t.length:Int)-1) ((t.length:Int)+u.length-1)])∧TR (t++u.map (vI t.length)++[eU n ((t.length:Int)-1) ((t.length:Int)+u.length-1)]) R:=by
 obtain⟨s,h1,Q,H,h4,T,h5,W⟩:=h.look;obtain⟨w,g1,g2,Y,g4,U,g5,g6⟩:=d.look;have hp:=h.pos;have ab:=d.pos;have D:=acv (N:=0) Q H u 0 [] [] w rfl rfl d.nosort g1;simp only[eX,dO,bm]at D;have i:dp (jK 0) (t++u.map (vI t.length)) 0 ([],[])=.inl (s.1++w.1,s.2++w.2.map (·+t.length)):=by
  rw[Al,h1];simp only[cE];exact D
 have b:(t++u.map (vI t.length)).length=t.length+u.length:=by simp
 have g:(s.1++w.1).length=t.length+u.length:=by simp[Q,g2]
 have l:(s.2++w.2.map (·+t.length)).length=t.length+u.length:=by simp[H,Y]
 have I:(s.1++w.1)[((t.length:Int)-1).toNat]?=some T:=by
  rw[show ((t.length:Int)-1).toNat=t.length-1 by omega,aS (by omega)];exact h5
 have J:(s.1++w.1)[((t.length:Int)+u.length-1).toNat]?=some U:=by
  rw[show ((t.length:Int)+u.length-1).toNat=t.length+(u.length-1) by omega,bI (by omega),Q,show t.length+(u.length-1)-t.length=u.length-1 by omega];exact g5
 obtain⟨z,e1,S⟩:=e.asks (s.1++w.1) ((t.length:Int)-1) ((t.length:Int)+u.length-1) T U (by omega) (by omega) I J W g6;generalize o:eU n ((t.length:Int)-1) ((t.length:Int)+u.length-1)=m at *;have f:m.op=n.op:=by rw[←o];rfl
 have O:m.l=(t.length:Int)-1:=by rw[←o];rfl
 have F:m.r=(t.length:Int)+u.length-1:=by rw[←o];rfl
 have G:iy m=true:=by rw[←o,zR];exact e.blank
 have v:nH m:=by rw[←o];exact wB e.own _ _
 have V:m.op≠8:=by rw[f];have:=e.op;omega
 have ad:iz m.op=2:=by rw[f];unfold iz;rcases e.op with h|h<;>simp[h]
 have B:fK m (t.length+u.length) (s.2++w.2.map (·+t.length))=(0,true):=by
  unfold fK;have f1:(s.2++w.2.map (·+t.length)).getD (t.length+u.length-1) 0=t.length:=by
   have:=tA (fs0:=s.2) (fs:=w.2) (k:=t.length) (j:=u.length-1) H (by omega);rw[show t.length+u.length-1=t.length+(u.length-1) by omega,this,g4];omega
  have Z:(s.2++w.2.map (·+t.length)).getD (t.length-1) 0=0:=by
   rw[aR,aS (by omega),←List.getD_eq_getElem?_getD];exact h4
  rw[if_neg (by omega),if_neg (by omega),O,F,f1,if_neg (by omega)];rw[show ((t.length:Int)-1).toNat=t.length-1 by omega,Z];rfl
 have C:pd 0 m (s.1++w.1) (s.2++w.2.map (·+t.length))=some (z,0):=by
  have:=De (N:=0) (n:=m) (ks:=s.1++w.1) (fs:=s.2++w.2.map (·+t.length)) (r:=z) (by rw[G,f];rcases e.op with h|h<;>simp[h]) (by rw[g,B]) e1 (by rw[S];exact e.le);rw[this,g,B];rfl
 have A:∀x∈t++u.map (vI t.length),x.op≠8:=by
  intro x a;rcases ba.1 a with a|a
  ·exact h.nosort x a
  obtain⟨y,c,rfl⟩:=bK.1 a;exact d.nosort y c
 have E:=zJ (t:=t++u.map (vI t.length)) (m:=m) (s:=(s.1++w.1,s.2++w.2.map (·+t.length))) (r:=z) (by rw[b];exact hl) (by rw[Me _ 0 _ A];exact i) (by rw[Gw (M:=0) V];exact C) (by rw[b];exact l);obtain⟨q,hq⟩:=h.lookF;obtain⟨q2,P⟩:=d.lookF;have p:∀y∈u,nH (vI t.length y)∧NS (vI t.length y):=fun y c=>by
  have:=tT (d.own y c).fl (d.own y c).fit t.length;rw[M9 (d.own y c)]at this;exact⟨this,⟨this.fit,(d.ns y c).keys,(d.ns y c).ah,(d.ns y c).items⟩⟩
 refine⟨?_,?_⟩
 ·unfold jJ ij;have X:((0:Nat):Int)+(t.length:Int)-1=(t.length:Int)-1:=by omega
  simp only[cH,dp,om,hq,P,ky,cw,bT,bD,X];rw[CU h.own 0,LV,CU d.own];simp only[cE,Nat.one_ne_zero,cI];rw[Cj e.own,o,E];rfl
 refine⟨?_,?_,?_,by simp;omega,by simp;omega,?_⟩
 ·intro x a;rcases ba.1 a with a|a
  ·rcases ba.1 a with a|a
   ·exact h.own x a
   obtain⟨y,c,rfl⟩:=bK.1 a;exact (p y c).1
  rw[aP.1 a];exact v
 ·intro x a;rcases ba.1 a with a|a
  ·rcases ba.1 a with a|a
   ·exact h.ns x a
   obtain⟨y,c,rfl⟩:=bK.1 a;exact (p y c).2
  rw[aP.1 a];exact⟨v.fit,by rw[←o];exact e.ns.keys,by rw[←o];exact e.ns.ah,by rw[←o];exact e.ns.items⟩
 ·intro x a;rcases ba.1 a with a|a
  ·exact A x a
  rw[aP.1 a];exact V
 refine⟨(s.1++w.1++[z],s.2++w.2.map (·+t.length)++[0]),?_,by rw[bZ,g,bZ,b];rfl,by rw[bZ,l,bZ,b];rfl,?_,z,?_,S⟩
 ·rw[Al,i];simp only[dp,jK,C]
 ·rw[aR,bI (by rw[l,bZ,b];simp)];rw[bZ,b,l];simp
 rw[bI (by rw[g,bZ,b];simp),bZ,b,g];simp
theorem aal{e:List EN}{K:List Int}(h:jE e K=true)(j:e.length≤uZ)(g:K.length≤16):Un (rp e) K K:=by
 have b:=CM j;refine⟨b.1,b.2,.inl rfl,by simp[iy,rp,dz],?_,g⟩;intro ks l a k d c;refine⟨a,?_,c⟩;have:(eU (rp e) l (-1)).op=3:=rfl;have i:(eU (rp e) l (-1)).l=l:=rfl;have f:(eU (rp e) l (-1)).cond=e:=rfl;unfold kX;rw[this,i,f,d];simp only[cH,c,h];simp
theorem ZB{k:List Int}{g:List ll}{K:List Int}(p:k.length≤3)(m:g.length≤12)(b:0<k.length+g.length)(c:vc k K=true)(d:g.all (fun x=>(Dw K x).1)=true)(e:∀x∈g,x.arg.length≤uZ)(n:∀x∈g,x.b=false) :
  Un (jr k g) K (k.map (fun x=>K.getD x.toNat 0)++g.map (uY K)):=by
 have f:=LG (ks:=k) (gs:=g) (by omega) (by omega) e n;refine⟨f.1,f.2,.inr (.inl rfl),by simp[iy,jr,dz],?_,by simp;omega⟩;intro ks l a s o j;have i:(eU (jr k g) l (-1)).op=4:=rfl;have r:(eU (jr k g) l (-1)).l=l:=rfl;have q:(eU (jr k g) l (-1)).keys=k:=rfl;have h:(eU (jr k g) l (-1)).ah=g:=rfl;refine⟨_,by
  unfold kX vA Er;rw[i,r,q,h,o];simp only[cH,j,c,d,p,m,b,decide_true,lM];simp;rfl,rfl⟩
theorem adq{es:List yK}{K:List Int}(g:1≤es.length)(c:es.length≤16)(k:es.all (fun e=>(eI e.l K).2==0)=true)(n:∀e∈es,e.l.length≤uZ)(i:∀e∈es,e.b=false) :
  Un (mG es) K (es.map fun e=>(eI e.l K).1):=by
 have b:=GV (es:=es) (by omega) n i;refine⟨b.1,b.2,.inr (.inr (.inl rfl)),by simp[iy,mG,dz],?_,by simpa using c⟩;intro ks l a o j h;have m:(eU (mG es) l (-1)).op=5:=rfl;have f:(eU (mG es) l (-1)).l=l:=rfl;have d:(eU (mG es) l (-1)).items=es:=rfl;refine⟨_,by
  unfold kX;rw[m,f,d,j];simp only[cH,h,k,g,c,decide_true,lM];simp;rfl,rfl⟩
theorem ahI{K:List Int}(d:K.length≤16):Un vJ K K:=by
 refine⟨Ai.1,Ai.2,.inr (.inr (.inr rfl)),by simp[iy,vJ,dz],?_,d⟩;intro ks l a g c f;refine⟨a,?_,f⟩;have b:(eU vJ l (-1)).op=6:=rfl;have e:(eU vJ l (-1)).l=l:=rfl;unfold kX;rw[b,e,c];simp
theorem adA{j:JX}{K L:List Int}(h:jE j.on (K++L)=true)(q:j.on.length≤uZ)(n:K.length+L.length≤16):Bi (jV j) K L (K++L):=by
 have c:=HB q;refine⟨c.1,c.2,.inl rfl,by simp[iy,jV,dz],?_,by simpa using n⟩;intro ks l r a b s f k m i g;have p:(eU (jV j) l r).op=2:=rfl;have e:(eU (jV j) l r).l=l:=rfl;have d:(eU (jV j) l r).r=r:=rfl;have o:(eU (jV j) l r).cond=j.on:=rfl;refine⟨_,by
  unfold kX;rw[p,e,d,o,k];simp only[cH,m,i,g,h];simp;rfl,rfl⟩
theorem JV:∀(a b M:List Int),kq a b=some M→M.length=a.length
 |[],_,M,h=>by simp[kq]at h;subst h;rfl
 |_::_,[],M,h=>by simp[kq]at h
 |k::a,o::b,M,h=>by
  by_cases c:o≠0∧o≠(if k=0 then o else k)
  ·rw[kq,if_pos c]at h;cases h
  rw[kq,if_neg c]at h;obtain⟨m,d,e⟩:=aQ.1 h;rw[←e,bA,JV a b m d,bA]
theorem aja{K L M:List Int}(c:K.length=L.length)(h:kq K L=some M)(m:K.length≤16):Bi qW K L M:=by
 refine⟨Ar.1,Ar.2,.inr rfl,by simp[iy,qW,dz],?_,by rw[JV _ _ _ h];exact m⟩;intro ks l r a b o f j k i g;have n:(eU qW l r).op=7:=rfl;have e:(eU qW l r).l=l:=rfl;have d:(eU qW l r).r=r:=rfl;refine⟨_,by
  unfold kX;rw[n,e,d,j];simp only[cH,k,i,g,h,c];simp;rfl,rfl⟩
structure V9 (ks:List Int):Prop where
 pos:0<ks.length
 le:ks.length≤4
 kd:∀k∈ks,1≤k∧k≤3
abbrev KB(c:List cL)(t:Int):cJ:=eU (kA t ((c[t.toNat]?.map cL.ac).getD [])) (-1) (-1)
theorem OL{c:List cL}{t:Int}(q:0≤t)(y:t<c.length)(x:t<4)(l:V9 ((c[t.toNat]?.map cL.ac).getD [])):iP c t=some [KB c t]∧TR [KB c t] ((c[t.toNat]?.map cL.ac).getD []):=by
 unfold KB iP;rw[if_pos ⟨q,y⟩];generalize (c[t.toNat]?.map cL.ac).getD []=ks at *;have j:=l.le;have d:=l.pos;have g:=Hc t (ks:=ks) (by omega);have u:nH (eU (kA t ks) (-1) (-1)):=wB g.1 _ _;have f:ks.any (fun k=>decide (k<1) ||decide (3<k))=false:=by
  rw[cQ];intro k p;have:=l.kd k p;simp;omega
 have o:Iq (eU (kA t ks) (-1) (-1))=true:=by
  unfold Iq;have i:(eU (kA t ks) (-1) (-1)).ac=ks:=rfl;have w:(eU (kA t ks) (-1) (-1)).tab=t:=rfl;rw[i,w,f];simp[q,x,d,j]
 have e:pd 0 (eU (kA t ks) (-1) (-1)) [] []=some (⟨false,ks⟩,0):=by
  have v:fK (eU (kA t ks) (-1) (-1)) ([]:List (iN Int)).length []=(0,true):=rfl;have h:iy (kA t ks)=true:=by simp[iy,kA,dz]
  have:=De (N:=0) (n:=eU (kA t ks) (-1) (-1)) (ks:=[]) (fs:=[]) (r:=⟨false,ks⟩) (by rw[zR,h];rfl) (by rw[v]) (by
   unfold kX;have i:(eU (kA t ks) (-1) (-1)).op=1:=rfl;rw[i,o];rfl) (by simp;omega)
  rw[this,v];rfl
 have z:dp (jK 0) [eU (kA t ks) (-1) (-1)] 0 ([],[])=.inl ([⟨false,ks⟩],[0]):=by
  simp only[dp,jK,e];rfl
 have b:=zJ (t:=[]) (m:=eU (kA t ks) (-1) (-1)) (s:=([],[])) (r:=⟨false,ks⟩) (by simp) rfl (by rw[Gw (M:=0) (by show (1:Int)≠8;omega)];exact e) rfl;refine⟨?_,⟨?_,?_,?_,by simp,by simp,⟨([⟨false,ks⟩],[0]),z,rfl,rfl,rfl,⟨false,ks⟩,rfl,rfl⟩⟩⟩
 ·unfold ij;simp only[dp];rw[Cj g.1];rw[show ([]:List cJ)++[eU (kA t ks) (-1) (-1)]=[eU (kA t ks) (-1) (-1)] from rfl]at b ⊢;rw[b];rfl
 ·intro n a;rw[aP.1 a];exact u
 ·intro n a;rw[aP.1 a];exact⟨u.fit,g.2.keys,g.2.ah,g.2.items⟩
 intro n a;rw[aP.1 a];show (1:Int)≠8;omega
theorem aaH{c:List cL}{a:List Int}{b:List JX}(i:Hf c a b)(l:∀t∈a,V9 (Ag c t))(J:c.length≤4)(I:a.length≤3):∀(m k:Nat) (t:List cJ),k+m=a.length→1≤k→TR t (yj c (a.take k))→t.length=2*k-1→(yj c (a.take k)).length≤4*k →
  ∃q,((b.drop (k-1)).zip (a.drop k)).foldl (fun o p=>jJ (jV p.1) o (iP c p.2)) (some t)=some q∧TR q (yj c a)∧q.length=2*a.length-1:=by
 intro m;induction m with
 |zero=>
  intro k t r E h x _;have r:k=a.length:=by omega
  subst r;rw[de]at h;exact⟨t,by simp,h,x⟩
 |succ m y=>
  intro k t r E h x H;have d:k<a.length:=by omega
  have u:=i.len;have g:k-1<b.length:=by omega
  have hd:a.drop k=a[k]::a.drop (k+1):=dx d;have s:b.drop (k-1)=b[k-1]::b.drop k:=by
   have:=dx g;rw[show k-1+1=k by omega]at this;exact this
  rw[hd,s,fV,dX];obtain⟨A,z⟩:=i.rng _ (aJ d);have f:=l _ (aJ d);obtain⟨D,C⟩:=OL (c:=c) (t:=a[k]) A z (by omega) f;obtain⟨K,v⟩:=i.on (k-1) b[k-1] (au g);have e:yj c (a.take (k+1))=yj c (a.take k)++Ag c a[k]:=by
   show List.flatMap (Ag c) (a.take (k+1))=List.flatMap (Ag c) (a.take k)++Ag c a[k];rw[dt d,jy,fN,List.flatMap_nil,dO]
  rw[show k-1+2=k+1 by omega,e]at v;have G:((c[a[k].toNat]?.map cL.ac).getD []).length≤4:=f.le;have L:1000≤uZ:=by decide
  obtain⟨F,B⟩:=Ke h C (adA (j:=b[k-1]) v (by omega) (by omega)) (by simp;omega);simp only;rw[D,F];have n:(t++[KB c a[k]].map (vI t.length)++[eU (jV b[k-1]) ((t.length:Int)-1) ((t.length:Int)+([KB c a[k]]:List cJ).length-1)]).length=2*(k+1)-1:=by simp;omega
  have:=y (k+1) _ (by omega) (by omega) (by rw[e];exact B) n (by rw[e,bZ];have w:=f.le;omega);rw[show k+1-1=k by omega]at this;exact this
theorem VK{c:List cL}{S:fJ}(n:Bm S)(b:S.cat=c)(g:∀t∈S.tables,V9 (Ag c t))(w:c.length≤4):∃t,oE c (wa S)=some t∧TR t S.ac∧t.length≤5:=by
 have i:=n.js;rw[b]at i;have p:=i.len;have u:=n.jl;have s:=n.kd;rw[b]at s;have j:(wa S).tables=S.tables:=rfl;have o:(wa S).joins=S.joins:=rfl;unfold oE;rw[j,o,if_neg (by omega)];have d:0<S.tables.length:=by omega
 have A:S.tables=S.tables[0]::S.tables.drop 1:=by
  have:=dx d;simpa using this
 obtain⟨y,x⟩:=i.rng _ (aJ d);have f:=g _ (aJ d);obtain⟨v,B⟩:=OL (c:=c) (t:=S.tables[0]) y x (by omega) f;have m:S.tables.headD 0=S.tables[0]:=by
  have:∀(l:List Int) (h:0<l.length),l.headD 0=l[0]:=fun l h=>by cases l with
   |nil=>simp at h
   |cons a r=>rfl
  exact this _ d
 have k:S.tables.tail=S.tables.drop 1:=by simp
 rw[m,k,v];have e:yj c (S.tables.take 1)=Ag c S.tables[0]:=by
  show List.flatMap (Ag c) (S.tables.take 1)=_;rw[show (1:Nat)=0+1 from rfl,dt d,jy,fN,List.flatMap_nil,dO];simp
 obtain⟨C,q,z,D⟩:=aaH i g w (by omega) (S.tables.length-1) 1 [KB c S.tables[0]] (by omega) (by omega) (by rw[e];exact B) (by simp) (by rw[e];have:=f.le;omega);refine⟨C,?_,by rw[s];exact z,by omega⟩;rw[show (1:Nat)-1=0 from rfl,nv]at q;exact q
theorem aam{S:fJ}{t:List cJ}{K:List Int}(h:TR t K)(k:t.length≤20)(f:K.length≤16)(a:DU S.whr K):∃d,vC (wa S) (some t)=some d∧TR d K∧d.length≤t.length+1:=by
 have j:(wa S).whr=S.whr.getD []:=rfl;have l:1000≤uZ:=by decide
 unfold vC;rw[j];by_cases b:S.whr.getD []=[]
 ·rw[if_pos b];exact⟨t,rfl,h,by omega⟩
 rw[if_neg b];rcases a with a|⟨es,a,m,c⟩
 ·rw[a]at b;exact absurd rfl b
 rw[a];obtain⟨g,i⟩:=tU h (aal (e:=es) c (by omega) f) (by omega);exact⟨_,g,i,by simp⟩
def uL(S:fJ):List Int:=if S.grouped then (if S.keys.length+S.ah.length=0 then S.groups++[2] else S.groups) else S.ac
theorem Q1(S:fJ):(wa S).ah=S.ah.map kP.x:=rfl
theorem R3{S:fJ}{t:List cJ}{K:List Int}(h:TR t K)(k:t.length≤25)(c:K.length≤16)(f:S.having.getD []≠[]→jE (S.having.getD []) K=true∧(S.having.getD []).length≤1000):∃b,(if S.having.getD []=[] then (some t) else dR (rp (S.having.getD [])) (some t))=some b∧TR b K∧b.length≤t.length+1:=by
 have l:1000≤uZ:=by decide
 by_cases a:S.having.getD []=[]
 ·rw[if_pos a];exact⟨t,rfl,h,by omega⟩
 rw[if_neg a];obtain⟨i,j⟩:=f a;obtain⟨d,g⟩:=tU h (aal (e:=S.having.getD []) i (by omega) c) (by omega);exact⟨_,d,g,by simp⟩
theorem Xo{S:fJ}(e:Bm S)(a:S.grouped=false)(t:List cJ):pG (wa S) (some t)=some t:=by
 have c:(wa S).grouped=S.grouped:=rfl;have b:(wa S).keys=S.keys:=rfl;have d:(wa S).having=S.having.getD []:=rfl;obtain⟨g,f,n3,n4⟩:=e.nog a;unfold pG;rw[c,a,b,d,Q1,g,f,n3];simp
theorem Yb{S:fJ}(F:Bm S)(w:S.grouped=true){t:List cJ}(h:TR t S.ac)(T:t.length≤20):∃A,pG (wa S) (some t)=some A∧TR A (uL S)∧A.length≤t.length+2∧(uL S).length≤16:=by
 have z:(wa S).grouped=S.grouped:=rfl;have n:(wa S).keys=S.keys:=rfl;have E:(wa S).having=S.having.getD []:=rfl;have V:1000≤uZ:=by decide
 have b:=F.gk;have D:∀x∈[(2:Int)],k03 x:=fun x o=>by rw[aP.1 o];exact⟨by decide,by decide⟩
 have f:uL S=if S.keys.length+S.ah.length=0 then S.groups++[2] else S.groups:=by unfold uL;rw[if_pos w]
 have J:S.groups.length≤15:=by
  have Q:=b.kl;have P:=b.al;rw[b.gr];simp;omega
 have i:(uL S).length≤16:=by
  rw[f];split
  ·simp;omega
  omega
 have j:∃y,dR (jr S.keys (jP (wa S))) (some t)=some y∧TR y (uL S)∧y.length=t.length+1:=by
  have q:vc S.keys S.ac=true:=by
   unfold vc;have G:(S.keys.any fun c=>decide (c<0) ||decide ((S.ac.length:Int)≤c))=false:=by
    rw[cQ];intro k L;have:=b.kr k L;simp;omega
   rw[G];rfl
  by_cases B:S.keys.length+S.ah.length=0
  ·have e:S.keys=[]:=cS.1 (by omega);have u:S.ah=[]:=cS.1 (by omega);have p:S.groups=[]:=by rw[b.gr,e,u];rfl
   have a:jP (wa S)=[⟨1,false,[]⟩]:=by
    unfold jP;rw[n,Q1,e,u];rfl
   have m:=ZB (k:=S.keys) (g:=jP (wa S)) (K:=S.ac) b.kl (by rw[a];simp) (by rw[a];simp) q (by rw[a];rfl) (by rw[a];simp) (by rw[a];simp);obtain⟨s,l⟩:=tU h m (by omega);refine⟨_,s,?_,by simp⟩;rw[f,if_pos B,p];rw[a,e]at l;rw[a,e];exact l
  have a:jP (wa S)=S.ah.map kP.x:=by
   unfold jP;rw[n,Q1,dg,if_neg B]
  have m:=ZB (k:=S.keys) (g:=jP (wa S)) (K:=S.ac) b.kl (by rw[a];simpa using b.al) (by rw[a];simp;omega) q (by
   rw[a,aY];intro x o;obtain⟨g,d,rfl⟩:=bK.1 o;exact b.ag g d) (by
   rw[a];intro x o;obtain⟨g,d,rfl⟩:=bK.1 o;have:=b.ae g d;show g.es.length≤uZ;omega) (by
   rw[a];intro x o;obtain⟨g,d,rfl⟩:=bK.1 o;rfl)
  obtain⟨s,l⟩:=tU h m (by omega);refine⟨_,s,?_,by simp⟩;rw[f,if_neg B,b.gr];rw[a,bY]at l;rw[a];exact l
 obtain⟨y,s,l,R⟩:=j;have H:S.having.getD []≠[]→jE (S.having.getD []) (uL S)=true∧(S.having.getD []).length≤1000:=fun v=>by
  rcases F.having with C|⟨es,C,O,r⟩
  ·rw[C]at v;exact absurd rfl v
  rw[C];refine⟨?_,O⟩;rw[f];split
  ·exact Qm r D
  exact r
 obtain⟨N,I,M,U⟩:=R3 l (by omega) i H;refine⟨N,?_,M,by omega,i⟩;unfold pG;rw[z,w,n,E,if_pos rfl,s];exact I
theorem OW{c:List cL}{S:fJ}(d:Bm S)(g:S.cat=c)(k:∀t∈S.tables,V9 (Ag c t))(V:c.length≤4)(T:CtOk c)(i:S.fr.star=((S.fr.items.getD []).length==0)):∃t,pQ c (wa S)=some t∧TR t (u7 S)∧t.length≤10:=by
 obtain⟨G,_,_,v⟩:=d.lens (by rw[g];exact T);have hm:1000≤uZ:=by decide
 have z:∀x∈[(2:Int)],k03 x:=fun x w=>by rw[aP.1 w];exact⟨by decide,by decide⟩
 obtain⟨Y,O,L,Z⟩:=VK d g k V;obtain⟨q,N,E,b3⟩:=aam (S:=S) L (by omega) (by omega) d.whr;have n:∃j,pG (wa S) (some q)=some j∧TR j (uL S)∧j.length≤q.length+2:=by
  cases hgr:S.grouped with
  |false=>
   refine⟨q,Xo d hgr q,?_,by omega⟩;unfold uL;rw[hgr];exact E
  |true=>
   obtain⟨j,C,A,J,_⟩:=Yb d hgr E (by omega);exact⟨j,C,A,J⟩
 obtain⟨j,C,A,J⟩:=n;have h:∀it∈S.items,eI it (uL S)=eI it (mD S):=fun it hit=>by
  have:=(d.items it hit).2;unfold uL mD at *;cases hgr:S.grouped with
  |false=>simp
  |true=>
   rw[hgr]at this;simp only[cw]at this ⊢;split
   ·exact EC this z
   rfl
 have o:1≤S.items.length:=by
  rw[d.il];cases hs:S.fr.star with
  |false=>
   rw[hs]at i;simp only[bq,cI];cases hl:S.fr.items.getD [] with
   |nil=>rw[hl]at i;simp at i
   |cons a r=>simp
  |true=>
   simp only[cw];have H:=d.kd;rw[g]at H;have D:=d.js.len;have F:0<S.tables.length:=by omega
   have u:=k _ (aJ F);rw[H];have Q:=u.pos;have p:∃x,x∈yj c S.tables:=by
    obtain⟨y,P⟩:=List.exists_mem_of_length_pos Q;exact⟨y,lw.2 ⟨_,aJ F,P⟩⟩
   obtain⟨x,w⟩:=p;exact List.length_pos_of_mem w
 have f:S.items.length≤16:=by
  rw[d.il];have:=S.fr.hi;split<;>omega
 have b:(wa S).items=S.items.map fun it=>(⟨false,it⟩:yK):=rfl
 have m:=adq (es:=(wa S).items) (K:=uL S) (by rw[b];simpa using o) (by rw[b];simpa using f) (by
  rw[b,aY];intro e l;obtain⟨it,hit,rfl⟩:=bK.1 l;have W:=h it hit;have X:=(d.items it hit).2;show ((eI it (uL S)).2==0)=true;rw[W,X];rfl) (by
  rw[b];intro e l;obtain⟨it,hit,rfl⟩:=bK.1 l;have:=v it hit;show it.length≤uZ;omega) (by
  rw[b];intro e l;obtain⟨it,hit,rfl⟩:=bK.1 l;rfl)
 have s:((wa S).items.map fun e=>(eI e.l (uL S)).1)=u7 S:=by
  rw[b,bY];exact aW fun it hit=>by
   show (eI it (uL S)).1=(eI it (mD S)).1;rw[h it hit]
 rw[s]at m;obtain⟨U,I⟩:=tU A m (by omega);have B:(wa S).distinct=S.distinct:=rfl;unfold pQ wu;rw[O,N,C,B,U];cases hd:S.distinct with
 |false=>exact⟨_,rfl,I,by simp;omega⟩
 |true=>
  obtain⟨R,M⟩:=tU I (ahI (by simpa using f)) (by simp;omega);exact⟨_,R,M,by simp;omega⟩
theorem Ax:∀(a b M:List Int),mM a b=some M→a.length=b.length∧M.length=a.length
 |[],[],M,h=>by simp[mM]at h;subst h;exact⟨rfl,rfl⟩
 |[],_::_,M,h=>by simp[mM]at h
 |_::_,[],M,h=>by simp[mM]at h
 |k::a,o::b,M,h=>by
  simp only[mM]at h;by_cases f:k=0
  ·rw[if_pos f]at h;obtain⟨m,d,rfl⟩:=aQ.1 h;obtain⟨c,e⟩:=Ax a b m d;exact⟨by simp[c],by simp[e]⟩
  rw[if_neg f]at h;by_cases g:o≠0∧o≠k
  ·rw[if_pos g]at h;cases h
  rw[if_neg g]at h;obtain⟨m,d,rfl⟩:=aQ.1 h;obtain⟨c,e⟩:=Ax a b m d;exact⟨by simp[c],by simp[e]⟩
theorem Hx(l:List fJ):l.foldl (fun o T=>o.bind fun K=>mM K (u7 T)) none=none:=by
 induction l with
 |nil=>rfl
 |cons a r b=>exact b
theorem N4{c:List cL}:∀(l:List fJ) (k:Nat) (t:List cJ) (K M:List Int),(∀S∈l,∃u,pQ c (wa S)=some u∧TR u (u7 S)∧u.length≤10)→1≤k→TR t K→K.length≤16→t.length+11*l.length≤50→l.foldl (fun o T=>o.bind fun K=>mM K (u7 T)) (some K)=some M →
  ∃f,dp (rj c) (l.map wa) k (some t)=.inl (some f)∧TR f M∧f.length≤t.length+11*l.length
 |[],k,t,K,M,_,_,e,_,_,d=>by
  simp at d;subst d;exact⟨t,rfl,e,by simp⟩
 |S::l,k,t,K,M,b,z,e,r,w,d=>by
  obtain⟨u,j,v,y⟩:=b S (by simp);rw[dX,cH]at d;cases hu:mM K (u7 S) with
  |none=>rw[hu,Hx]at d;cases d
  |some h=>
   rw[hu]at d;obtain⟨i,x⟩:=Ax _ _ _ hu;have g:kq K (u7 S)=some h:=by rw[←NU _ _ i];exact hu
   simp only[bA]at w;obtain⟨s,m⟩:=Ke e v (aja i g r) (by omega);have a:(t++u.map (vI t.length)++[eU qW ((t.length:Int)-1) ((t.length:Int)+u.length-1)]).length=t.length+u.length+1:=by simp;omega
   obtain⟨f,n,p,q⟩:=N4 l (k+1) _ h M (fun T e=>b T (by simp[e])) (by omega) m (by omega) (by rw[a];omega) d;refine⟨f,?_,p,by rw[a]at q;simp only[bA];omega⟩;rw[aV];simp only[dp,rj,j];rw[if_neg (by omega),s];exact n
theorem VV{c:List cL}{l:List fJ}{M:List Int}(a:∀S∈l,∃u,pQ c (wa S)=some u∧TR u (u7 S)∧u.length≤10)(b:∀S∈l,(u7 S).length≤16)(h:l.length≤3)(d:kdU l=some M):∃t,sK c (l.map wa)=some t∧TR t M∧t.length≤43:=by
 cases l with
 |nil=>cases d
 |cons S r=>
  obtain⟨u,g,j,n⟩:=a S (by simp);simp only[bA]at h;obtain⟨k,i,e,m⟩:=N4 r 1 u (u7 S) M (fun T f=>a T (by simp[f])) (by omega) j (b S (by simp)) (by omega) d;refine⟨k,?_,e,by omega⟩;unfold sK;rw[aV];simp only[dp,rj,g];rw[if_pos trivial,i]
theorem X3{t:List cJ}{K:List Int}(h:TR t K)(L:t.length<60)(H:K.length≤16){a:List (Int×Bool)}{lim:Int}(C:∀o∈a,0≤o.1∧o.1<K.length)(y:a.length≤3)(d:MQ lim=true) :
  ∃s:List (iN Int)×List Nat,dR (jA a lim) (some t)=some (t++[eU (jA a lim) ((t.length:Int)-1) (-1)])∧lookF (t++[eU (jA a lim) ((t.length:Int)-1) (-1)])=some s∧∃r,s.1[t.length]?=some r∧r.l=K:=by
 obtain⟨s,G,l,D,F,r,I,u⟩:=h.look;have M:=h.pos;have i:((t.length:Int)-1).toNat=t.length-1:=by omega
 have x:=Lv (o:=a) lim (by omega);have b:(eU (jA a lim) ((t.length:Int)-1) (-1)).op=8:=rfl;have e:Il (eU (jA a lim) ((t.length:Int)-1) (-1)) r.l=true:=by
  unfold Il;have v:(eU (jA a lim) ((t.length:Int)-1) (-1)).ords=a:=rfl;have p:(eU (jA a lim) ((t.length:Int)-1) (-1)).limit=lim:=rfl;rw[v,p,u];have B:(a.any fun o=>decide (o.1<0) ||decide ((K.length:Int)≤o.1))=false:=by
   rw[cQ];intro o J;have:=C o J;simp;omega
  rw[B];unfold MQ VT at d;simp at d;simp[y];omega
 have k:kX (t.length+1) s.1 (eU (jA a lim) ((t.length:Int)-1) (-1))=some r:=by
  have z:(eU (jA a lim) ((t.length:Int)-1) (-1)).l=(t.length:Int)-1:=rfl;unfold kX;rw[b,z,i,I];simp[e,l]
 have j:fK (eU (jA a lim) ((t.length:Int)-1) (-1)) t.length s.2=(0,true):=by
  unfold fK;have g:iz 8=1:=rfl;rw[b,if_neg (by rw[g];omega),if_pos g];have v:(eU (jA a lim) ((t.length:Int)-1) (-1)).l=(t.length:Int)-1:=rfl;have p:(eU (jA a lim) ((t.length:Int)-1) (-1)).r=-1:=rfl;rw[v,p,if_neg (by omega),F];rfl
 have c:iy (jA a lim)=true:=by simp[iy,jA,dz]
 have w:pd (t.length+1) (eU (jA a lim) ((t.length:Int)-1) (-1)) s.1 s.2=some (r,0):=by
  have:=De (N:=t.length+1) (n:=eU (jA a lim) ((t.length:Int)-1) (-1)) (ks:=s.1) (fs:=s.2) (r:=r) (by rw[b,zR,c];rfl) (by rw[l,j]) k (by rw[u];exact H);rw[this,l,j];rfl
 have f:=zJ (m:=eU (jA a lim) ((t.length:Int)-1) (-1)) L (by rw[Me t 0 _ h.nosort];exact G) w D;obtain⟨q,E⟩:=h.lookF;refine⟨_,?_,f,r,by simp[l],u⟩;unfold dR ij;simp only[cH,dp,om,E,ky,cw,bT,bD];rw[show (((0:Nat):Int))=((0:Nat):Int) from rfl,CU h.own 0,LV];have A:((0:Nat):Int)+(t.length:Int)-1=(t.length:Int)-1:=by omega
 rw[A,Cj x.1,f];rfl
theorem adB{w:List cJ}{s:List (iN Int)×List Nat}(b:lookF w=some s){r:iN Int}(a:s.1[w.length-1]?=some r):Nw (some w)=r.l:=by
 unfold Nw ldK;simp[b,a]
theorem Tc{l:List fJ}{M:List Int}(h:kdU l=some M)(a:∀S∈l,(u7 S).length≤16):M.length≤16:=by
 cases l with
 |nil=>cases h
 |cons S r=>
  have c:=a S (by simp);have key:∀(r:List fJ) (K M:List Int),K.length≤16→r.foldl (fun o T=>o.bind fun K=>mM K (u7 T)) (some K)=some M→M.length≤16:=by
   intro r;induction r with
   |nil=>intro K M b h;simp at h;subst h;exact b
   |cons T r d=>
    intro K M b h;rw[dX,cH]at h;cases hu:mM K (u7 T) with
    |none=>rw[hu,Hx]at h;cases h
    |some e=>
     rw[hu]at h;have:=(Ax _ _ _ hu).2;exact d e M (by omega) h
  exact key r _ M c h
theorem WH{c:List cL}{q:tG}{b:B2}{L:List fJ}(a:MO c q b L)(k:CtOk c)(p:c.length≤4)(i:∀S∈L,∀t∈S.tables,V9 (Ag c t)):∃t,TR t b.ac∧t.length≤43∧sK c b.selects=some t∧BC c b=some (t++[eU (jA b.order b.limit) ((t.length:Int)-1) (-1)]):=by
 have e:∀S∈L,(u7 S).length≤16:=fun S g=>by
  obtain⟨f,j,m⟩:=a.good S g;obtain⟨k1,_,_,_⟩:=f.lens (by rw[j];exact k);have:=S.fr.hi;have z:(u7 S).length=S.items.length:=by simp
  rw[z,f.il];split<;>omega
 obtain⟨t,n,o,v⟩:=VV (c:=c) (l:=L) (M:=b.ac) (fun S g=>by
  obtain⟨f,j,m⟩:=a.good S g;exact OW f j (i S g) p k m.star) e a.l3 a.kd
 have d:=Tc a.kd e;obtain⟨s,w,u,r,x,y⟩:=X3 o (by omega) d a.od a.ol a.lim;refine⟨t,o,v,by rw[a.sels];exact n,?_⟩;have h:=adB u (r:=r) (by simpa using x);have A:=a.l1;have B:=a.l3;unfold BC;rw[a.sels,dg,if_neg (by omega),n,w,h,y];simp[a.nm]
theorem Mu{t:cL}(h:DB t=true):1≤t.af.length∧t.af.length≤4∧∀x∈t.af,1≤x.kind∧x.kind≤3:=by
 unfold DB at h;simp only[ax,cd,aY]at h;obtain⟨⟨⟨⟨⟨_,d⟩,c⟩,_⟩,b⟩,_⟩:=h;refine⟨d,c,fun x a=>?_⟩;have:=b x a;unfold AO at this;simp only[dL,aX]at this;omega
theorem Uo{c:List cL}(h:QQ c=true):CtK c∧c.length≤4∧∀t:Int,0≤t→t<c.length→V9 (Ag c t):=by
 unfold QQ at h;simp only[ax,cd,aY]at h;obtain⟨⟨g,d⟩,_⟩:=h;refine⟨⟨⟨by omega,fun tb a=>(Mu (d tb a)).2.1⟩,fun tb a x b=>(Mu (d tb a)).2.2 x b⟩,g,fun t l j=>?_⟩;have f:t.toNat < c.length:=by omega
 have e:Ag c t=c[t.toNat].af.map fG.kind:=by
  simp[Ag,au f,cL.ac]
 obtain⟨k1,k2,k3⟩:=Mu (d _ (aJ f));rw[e];refine⟨by simp;omega,by simpa using k2,fun k i=>?_⟩;obtain⟨x,b,rfl⟩:=bK.1 i;exact k3 x b
theorem Wg{c:List cL}(h:QQ c=true){q:tG}{b:B2}{L:List fJ}(d:MO c q b L):∃t,TR t b.ac∧t.length≤43∧sK c b.selects=some t∧BC c b=some (t++[eU (jA b.order b.limit) ((t.length:Int)-1) (-1)]):=by
 obtain⟨f,j,i⟩:=Uo h;refine WH d f.toCtOk j fun S l t e=>?_;obtain⟨m,k,_⟩:=d.good S l;obtain⟨g,a⟩:=m.js.rng t e;rw[k]at a;exact i t g a
theorem ahr{S:fJ}(c:Bm S)(m:CtOk S.cat):PU (wa S):=by
 obtain⟨k1,k2,k3,k4⟩:=c.lens m;have n:1000≤uZ:=by decide
 have r:=c.jl;have l:=c.js.len;have s:=c.gk.al;have t:=c.gk.kl;have b:∀(o:Option (List EN)) (K:List Int),DU o K→(o.getD []).length≤uZ:=fun o K p=>by
  rcases p with rfl|⟨es,rfl,q,_⟩
  ·simp
  show es.length≤uZ;omega
 refine⟨by show S.tables.length≤8000;omega,by show S.joins.length≤8000;omega,fun j h=>?_,b _ _ c.whr,b _ _ c.having,by show S.keys.length≤8000;omega,by show (S.ah.map kP.x).length≤8000;simp;omega,by show (S.items.map fun it=>(⟨false,it⟩:yK)).length≤8000;simp;omega,fun g f=>?_,fun e k=>?_,fun g f=>?_,fun e k=>?_⟩
 ·obtain⟨i,hi,rfl⟩:=cM.1 h;have:=(c.js.on i _ (au hi)).1;exact bR this n
 ·obtain⟨a,d,rfl⟩:=bK.1 f;have:=c.gk.ae a d;show a.es.length≤uZ;omega
 ·obtain⟨a,d,rfl⟩:=bK.1 k;have:=k4 a d;show a.length≤uZ;omega
 ·obtain⟨a,d,rfl⟩:=bK.1 f;rfl
 obtain⟨a,d,rfl⟩:=bK.1 k;rfl
def eF(t:List cJ):List Int:=(t.filter fun n=>n.op==1).map cJ.tab
theorem tY(a b:List cJ):eF (a++b)=eF a++eF b:=by simp[eF]
theorem pE(n:cJ):eF [n]=if n.op=1 then [n.tab] else []:=by
 unfold eF;by_cases h:n.op=1<;>simp[h]
theorem Qa(k:Int)(t:List cJ):eF (t.map (gD k))=eF t:=by
 induction t with
 |nil=>rfl
 |cons n t c=>
  have e:eF (n::t)=eF [n]++eF t:=tY [n] t;have b:eF ((n::t).map (gD k))=eF [gD k n]++eF (t.map (gD k)):=tY [gD k n] _;have a:eF [gD k n]=eF [n]:=by rw[pE,pE];rfl
  rw[e,b,c,a]
theorem KS:∀(a:List xh) (k:Nat) (s s':List cJ×Int×Int),dp om a k s=.inl s'→eF s'.1=eF s.1++a.flatMap fun t=>eF t.l
 |[],_,s,s',h=>by simp only[dp]at h;cases h;simp
 |t::a,k,s,s',h=>by
  simp only[dp]at h;unfold om at h;split at h
  ·rename_i c b;split at b
   ·cases b;rw[KS a _ _ _ h];simp only[tY,Qa,fN,dG]
   cases b
  cases h
theorem Bg{n:cJ}{a:List xh}{w:List cJ}(h:ij n a=some w):eF w=(a.flatMap fun t=>eF t.l)++eF [n]:=by
 unfold ij at h;split at h
 ·rename_i s c;split at h
  ·cases h;have:=KS a 0 _ _ c;have b:eF [gD 0 (eU n s.2.1 s.2.2)]=eF [n]:=by rw[pE,pE];rfl
   have d:eF ([]:List cJ)=[]:=rfl;rw[tY,this,b,d,bT]
  cases h
 cases h
theorem nV{n:cJ}(a:n.op≠1){o:Option (List cJ)}{w:List cJ}(h:dR n o=some w):∃t,o=some t∧eF w=eF t:=by
 unfold dR at h;obtain⟨t,b,h⟩:=aK.1 h;refine⟨t,b,?_⟩;rw[Bg h,pE,if_neg a];simp
theorem FR{n:cJ}(a:n.op≠1){o x:Option (List cJ)}{w:List cJ}(h:jJ n o x=some w):∃t u,o=some t∧x=some u∧eF w=eF t++eF u:=by
 unfold jJ at h;obtain⟨t,b,h⟩:=aK.1 h;obtain⟨u,c,h⟩:=aK.1 h;refine⟨t,u,b,c,?_⟩;rw[Bg h,pE,if_neg a];simp
theorem Fi{c:List cL}{t:Int}{w:List cJ}(h:iP c t=some w):eF w=[t]:=by
 unfold iP at h;split at h
 ·rw[Bg h];rfl
 cases h
theorem NR{c:List cL}{s:nG}{w:List cJ}(h:oE c s=some w):eF w=s.tables:=by
 unfold oE at h;split at h
 ·cases h
 rename_i n;have key:∀(l:List (JX×Int)) (o:Option (List cJ)) (w:List cJ),l.foldl (fun o p=>jJ (jV p.1) o (iP c p.2)) o=some w→∃t,o=some t∧eF w=eF t++l.map (·.2):=by
  intro l;induction l with
  |nil=>intro o w h;exact⟨w,h,by simp⟩
  |cons p l j=>
   intro o w h;rw[dX]at h;obtain⟨m,b,d⟩:=j _ _ h;obtain⟨t,u,k,g,f⟩:=FR (by show (2:Int)≠1;omega) b;refine⟨t,k,?_⟩;rw[d,f,Fi g];simp
 obtain⟨t,b,d⟩:=key _ _ _ h;rw[d,Fi b];have e:0<s.tables.length:=by omega
 have i:(s.joins.zip s.tables.tail).map (·.2)=s.tables.tail:=by
  have:=List.map_snd_zip (l₁:=s.joins) (l₂:=s.tables.tail) (by simp;omega);exact this
 rw[i];cases ht:s.tables with
 |nil=>rw[ht]at e;simp at e
 |cons a r=>rfl
theorem I4{c:List cL}{s:nG}{w:List cJ}(h:pQ c s=some w):eF w=s.tables:=by
 unfold pQ at h;have a:∀o w,wu s o=some w→∃t,o=some t∧eF w=eF t:=fun o w h=>by
  unfold wu at h;split at h
  ·obtain⟨k,f,e⟩:=nV (by show (6:Int)≠1;omega) h;obtain⟨j,i,b⟩:=nV (by show (5:Int)≠1;omega) f;exact⟨j,i,by rw[e,b]⟩
  exact nV (by show (5:Int)≠1;omega) h
 have d:∀o w,pG s o=some w→∃t,o=some t∧eF w=eF t:=fun o w h=>by
  unfold pG at h;split at h
  ·split at h
   ·exact nV (by show (4:Int)≠1;omega) h
   obtain⟨k,f,e⟩:=nV (by show (3:Int)≠1;omega) h;obtain⟨j,i,b⟩:=nV (by show (4:Int)≠1;omega) f;exact⟨j,i,by rw[e,b]⟩
  split at h
  ·cases h
  exact⟨w,h,rfl⟩
 have g:∀o w,vC s o=some w→∃t,o=some t∧eF w=eF t:=fun o w h=>by
  unfold vC at h;split at h
  ·exact⟨w,h,rfl⟩
  exact nV (by show (3:Int)≠1;omega) h
 obtain⟨k,f,e⟩:=a _ _ h;obtain⟨j,i,b⟩:=d _ _ f;obtain⟨n,m,l⟩:=g _ _ i;rw[e,b,l];exact NR m
theorem HF{c:List cL}:∀(l:List nG) (k:Nat) (t w:List cJ),1≤k→dp (rj c) l k (some t)=.inl (some w)→eF w=eF t++l.flatMap nG.tables
 |[],_,t,w,_,h=>by simp only[dp]at h;cases h;simp
 |s::l,k,t,w,j,h=>by
  simp only[dp]at h;unfold rj at h;split at h
  ·rename_i f a;split at a
   ·cases a
   rename_i x i;cases a;rw[if_neg (by omega)]at h;cases ho:jJ qW (some t) (some x) with
   |none=>
    rw[ho]at h;have b:∀(l:List nG) (k:Nat),1≤k→∀w,dp (rj c) l k none=.inl (some w)→False:=by
     intro l;induction l with
     |nil=>intro k _ w h;simp only[dp]at h;cases h
     |cons s l g=>
      intro k j w h;simp only[dp]at h;unfold rj at h;split at h
      ·rename_i f a;split at a
       ·cases a
       cases a;rw[if_neg (by omega)]at h;exact g (k+1) (by omega) w h
      cases h
    exact (b l (k+1) (by omega) w h).elim
   |some v=>
    rw[ho]at h;obtain⟨n,u,m,e,d⟩:=FR (by show (7:Int)≠1;omega) ho;cases m;cases e;rw[HF l (k+1) v w (by omega) h,d,I4 i];simp
  cases h
theorem NY{c:List cL}{l:List nG}{w:List cJ}(h:sK c l=some w):eF w=l.flatMap nG.tables:=by
 unfold sK at h;split at h
 ·rename_i o a;subst h;cases l with
  |nil=>simp only[dp]at a;cases a
  |cons s l=>
   simp only[dp]at a;unfold rj at a;split at a
   ·rename_i e b;split at b
    ·cases b
    rename_i x d;cases b;rw[if_pos rfl]at a;rw[HF l 1 x w (by omega) a,I4 d];simp
   cases a
 cases h
def UP(w:List cJ)(a:Nat)(x:List cJ):Prop:=∃(pre rest:List cJ) (s0:List (iN Int)×List Nat),w=pre++x.map (vI a)++rest∧pre.length=a∧(∀n∈pre,n.op≠8)∧dp (jK 0) pre 0 ([],[])=.inl s0∧s0.1.length=a∧s0.2.length=a
theorem UP.app{w x:List cJ}{a:Nat}(h:UP w a x)(r:List cJ):UP (w++r) a x:=by
 obtain⟨c,b,d,f,e⟩:=h;exact⟨c,b++r,d,by rw[f];simp,e⟩
def Ch(c:List cL)(w:List cJ)(e:Nat):List fJ→Nat→Prop
 |[],a=>a=e
 |S::l,a=>∃u,pQ c (wa S)=some u∧TR u (u7 S)∧u.length≤10∧UP w a u∧(∃n,w[a+u.length]?=some n∧n.op=7)∧Ch c w e l (a+u.length+1)
theorem Ch.app{c:List cL}{w:List cJ}{e:Nat}(r:List cJ):∀{l:List fJ} {a:Nat},Ch c w e l a→Ch c (w++r) e l a
 |[],_,h=>h
 |S::l,a,h=>by
  obtain⟨u,g,k,j,f,⟨n,b,d⟩,i⟩:=h;exact⟨u,g,k,j,f.app r,⟨n,by rw[aS (ak.1 b).1];exact b,d⟩,i.app r⟩
end Go.AM
namespace Go.AM
open P
set_option maxHeartbeats 64000000
set_option maxRecDepth 40000
attribute [local simp] aG bd
theorem Qs(j i:Bool)(a:List (Int×Bool))(n:a.length≤8000):bB I.qgs [.aa j (a.map iq),.aa i (a.map iq)]=some (aC true):=by
 rw[aT amM rfl];have m:a.length≤bC:=by unfold bC;omega
 have loop:=dl (base:=0) (clr:=[2,3,7,8]) (b:=GG)
  (fun k=>⟨[.aa j (a.map iq),.aa i (a.map iq),am,am,aC false,ap a.length,ap k,am,am],[]⟩) a.length
  (.ext 0,⟨[.aa j (a.map iq),.aa i (a.map iq),am,am,aC false,ap a.length,ap a.length,aC false,am],[]⟩)
  (fun k e=>by
   have l:a[k]?=some a[k]:=au e;have f:∀h:k<a.length,a[k]'h=a[k]'e:=fun _=>rfl;generalize a[k]=g at *;obtain⟨c,d⟩:=g;simp[GG,e,l,f,iq,eqa,eR,sF,lX,neg,cW e m,bQ])
  (by simp[GG])
 simp only[bj]at loop;simp[atV,afX,loop]
structure Sh8 (n:cJ):Prop where
 ac:n.ac.length≤8000
 cond:n.cond.length≤uZ
 keys:n.keys.length≤8000
 ah:n.ah.length≤8000
 args:∀g∈n.ah,g.arg.length≤uZ
 items:n.items.length≤8000
 exprs:∀e∈n.items,e.l.length≤uZ
 ords:n.ords.length≤8000
end Go.AM
namespace Go.AM
open P
set_option maxHeartbeats 64000000
set_option maxRecDepth 40000
theorem wP{a:Type}{l:List a}{n:Nat}(h:n<l.length)(b:n≠0):l.take n≠[]:=List.ne_nil_of_length_pos (by simp;omega)
theorem aid{g:Type}{enc:g→aq}[Nc enc 3 true](b:Bool)(l:List g)(n:Nat)(p:n≠0)(w:n≤1000)(σ:aw) :
  ∃ep,cC code I.qau [.aa b (l.map enc),ap (n:Int)] σ=some (.sl σ.length ep 0 (l.take n).length,σ++[aB 3 ep ((l.take n).map enc)]):=by
 rw[cz anB rfl];have d:∀(k:List g),∀a∈k.map enc,aM a=3:=fun k a u=>by
  obtain⟨y,_,rfl⟩:=bK.1 u;exact Nc.nc y
 have f:∀x:g,aM (enc x)=3:=fun x=>Nc.nc x;have c:¬((n:Int)<0):=by omega
 by_cases h:n<l.length
 ·have hi:((n:Int)<l.length):=by omega
  have t:min n l.length=n:=by omega
  have v:l.take n≠[]:=wP h p;have s:n≤l.length:=by omega
  have j:=d l;have q:=d (l.take n);have i:n≤bC:=by unfold bC;omega
  have m:l≠[]:=by intro e;simp[e]at h
  refine⟨1,?_⟩;simp only[jN]at q;simp[asf,Vr,hi,f,c,append,p,t,v,s,i,m,if_pos j,if_pos q]
 have hi:¬((n:Int)<l.length):=by omega
 have r:l.take n=l:=ay (by omega);have j:=d l;rw[r];by_cases o:l=[]
 ·subst o;refine⟨0,?_⟩;simp[asf,Vr,append,f,c]
 have i:l.length≤bC:=by unfold bC;omega
 refine⟨1,?_⟩;simp[asf,Vr,hi,f,c,append,o,if_pos j,i]
theorem aio{q:Type}{enc:q→aq}[Nc enc 1 false][Fx enc](b:Bool)(l:List q)(n:Nat)(A:n≠0)(G:n≤1000) :
  bB I.qav [.aa b (l.map enc),ap (n:Int)]=some (.aa false ((l.take n).map enc)):=by
 rw[aT aj2 rfl];have o:∀(k:List q),∀a∈k.map enc,aM a=1:=fun k a g=>by
  obtain⟨y,_,rfl⟩:=bK.1 g;exact Nc.nc y
 have s:∀(k:List q) fl top base σ m,∀a∈k.map enc,fz fl top base σ (m+3) a=a:=fun k fl top base σ m a g=>by
  obtain⟨y,_,rfl⟩:=bK.1 g;exact Fx.fx fl top base σ m y
 have p:=fun (k:List q) (σ:aw) (ep:Nat) (h:σ[0]?=some (aB 1 ep (k.map enc)))=>rz (f:=enc) (m:=1) k 0 ep σ h;have d:∀x:q,aM (enc x)=1:=fun x=>Nc.nc x;have i:¬((n:Int)<0):=by omega
 by_cases h:n<l.length
 ·have hi:((n:Int)<l.length):=by omega
  have E:min n l.length=n:=by omega
  have F:l.take n≠[]:=wP h A;have D:n≤l.length:=by omega
  have u:=o l;have B:=o (l.take n);have t:n≤bC:=by unfold bC;omega
  have v:l≠[]:=by intro e;simp[e]at h
  have c:=p (l.take n) [aB 1 1 ((l.take n).map enc)] 1 rfl;have j:=s (l.take n);have r:((l.take n).map enc).take n=(l.take n).map enc:=ay (by simp;omega);rw[show (l.take n).length=n by simp;omega]at c;simp only[jN]at B c j r;have w:∀top base σ m,List.map (fz false top base σ (m+3)) (List.take n (List.map enc l))=List.take n (List.map enc l):=fun top base σ m=>by
   conv=>rhs;rw[←List.map_id (List.take n (List.map enc l))]
   exact aW fun a g=>j false top base σ m a g
  simp[ase,UR,hi,d,i,append,A,E,F,D,t,v,if_pos u,if_pos B,c,r,w];exact fun a g=>by rw[j _ _ _ _ 16 a g]
 have hi:¬((n:Int)<l.length):=by omega
 have C:l.take n=l:=ay (by omega);have u:=o l;rw[C];by_cases z:l=[]
 ·subst z;have c:=p [] [aB 1 0 []] 0 rfl;simp at c;simp[ase,UR,append,d,i,c]
 have t:l.length≤bC:=by unfold bC;omega
 have c:=p l [aB 1 1 (l.map enc)] 1 rfl;simp[ase,UR,hi,d,i,append,z,if_pos u,t,c];exact fun a g=>by rw[s l _ _ _ _ 16 (enc a) (md g),d]
theorem aig{q:Type}{enc:q→aq}[Nc enc 2 true][Fx enc](b:Bool)(l:List q)(n:Nat)(A:n≠0)(G:n≤1000) :
  bB I.qat [.aa b (l.map enc),ap (n:Int)]=some (.aa false ((l.take n).map enc)):=by
 rw[aT alt rfl];have o:∀(k:List q),∀a∈k.map enc,aM a=2:=fun k a g=>by
  obtain⟨y,_,rfl⟩:=bK.1 g;exact Nc.nc y
 have s:∀(k:List q) fl top base σ m,∀a∈k.map enc,fz fl top base σ (m+3) a=a:=fun k fl top base σ m a g=>by
  obtain⟨y,_,rfl⟩:=bK.1 g;exact Fx.fx fl top base σ m y
 have p:=fun (k:List q) (σ:aw) (ep:Nat) (h:σ[0]?=some (aB 2 ep (k.map enc)))=>rz (f:=enc) (m:=2) k 0 ep σ h;have d:∀x:q,aM (enc x)=2:=fun x=>Nc.nc x;have i:¬((n:Int)<0):=by omega
 by_cases h:n<l.length
 ·have hi:((n:Int)<l.length):=by omega
  have E:min n l.length=n:=by omega
  have F:l.take n≠[]:=wP h A;have D:n≤l.length:=by omega
  have u:=o l;have B:=o (l.take n);have t:n≤bC:=by unfold bC;omega
  have v:l≠[]:=by intro e;simp[e]at h
  have c:=p (l.take n) [aB 2 1 ((l.take n).map enc)] 1 rfl;have j:=s (l.take n);have r:((l.take n).map enc).take n=(l.take n).map enc:=ay (by simp;omega);rw[show (l.take n).length=n by simp;omega]at c;simp only[jN]at B c j r;have w:∀top base σ m,List.map (fz false top base σ (m+3)) (List.take n (List.map enc l))=List.take n (List.map enc l):=fun top base σ m=>by
   conv=>rhs;rw[←List.map_id (List.take n (List.map enc l))]
   exact aW fun a g=>j false top base σ m a g
  simp[ar8,T4,hi,d,i,append,A,E,F,D,t,v,if_pos u,if_pos B,c,r,w];exact fun a g=>by rw[j _ _ _ _ 16 a g]
 have hi:¬((n:Int)<l.length):=by omega
 have C:l.take n=l:=ay (by omega);have u:=o l;rw[C];by_cases z:l=[]
 ·subst z;have c:=p [] [aB 2 0 []] 0 rfl;simp at c;simp[ar8,T4,append,d,i,c]
 have t:l.length≤bC:=by unfold bC;omega
 have c:=p l [aB 2 1 (l.map enc)] 1 rfl;simp[ar8,T4,hi,d,i,append,z,if_pos u,t,c];exact fun a g=>by rw[s l _ _ _ _ 16 (enc a) (md g),d]
end Go.AM
namespace Go.AM
open P
set_option maxHeartbeats 64000000
set_option maxRecDepth 40000
attribute [local simp] aG bd
section
def VI{α:Type}(f:α→α)(l:List α)(i:Nat):List α:=(l.take i).map f++l.drop i
section
variable {α:Type} (f:α→α)
theorem X9(l:List α):VI f l 0=l:=by simp[VI]
theorem adw(l:List α):VI f l l.length=l.map f:=by simp[VI]
theorem acS{l:List α}{i:Nat}{y:α}(enc:α→aq)(h:l[i]?=some y):((VI f l i).map enc)[i]?=some (enc y):=by
 obtain⟨b,a⟩:=ak.1 h;unfold VI;rw[df,bI (by simp;omega)];simp[show i-min i l.length=0 by omega,b,a]
theorem acF{l:List α}{i:Nat}{y:α}(enc:α→aq)(h:l[i]?=some y):((VI f l i).map enc).set i (enc (f y))=(VI f l (i+1)).map enc:=by
 obtain⟨b,a⟩:=ak.1 h;have d:l.drop i=y::l.drop (i+1):=by rw[←a];exact dx b
 have c:l.take (i+1)=l.take i++[y]:=by rw[←a];exact dt b
 unfold VI;rw[d,c];simp only[df,aV,bm];rw[fg _ _ (by simp;omega)];simp[show i-min i l.length=0 by omega]
end
end
structure iD where
 name:List UInt8
 bc:Bool
 af:List fG
 bk:Bool
 keys:List Int
def iD.a(t:iD):aq:=aI [aO t.name,.aa t.bc (t.af.map fG.a),.aa t.bk (t.keys.map (.int .i64))]
instance:Nc iD.a 3 true:=⟨fun _=>rfl,fun _=>rfl⟩
instance:Ft iD.a:=⟨fun fl top base σ n y h=>by cases fl<;>cases top<;>simp_all[iD.a]⟩
def Nx(t:iD):iD:=⟨t.name,false,t.af.take 5,false,t.keys.take 5⟩
def smF(t:iD):cL:=⟨t.name,t.af.take 5,t.keys.take 5⟩
theorem aeT(t:iD):(Nx t).a=(smF t).a:=rfl
def BE(c:List iD):List cL:=(c.take 5).map smF
abbrev Wk(A:aq)(ep n:Nat)(M:List aq):aw:=[aB 1 0 [A],aB 1 0 [aI [.ai]],aB 3 ep M,aB 1 0 [aI [.sl 2 ep 0 n]]]
theorem Rh(d:Bool)(c:List iD)(ep:Nat)(L:List iD)(r:L.length≤8000) :
  bU code 4 [4,5,9] CE ⟨[aI [.aa d (c.map iD.a)],aH 0 0 0 0,aH 1 0 0 0,aH 3 0 0 0,am,am,.sl 2 ep 0 L.length,ap L.length,ap 0,am],Wk (aI [.aa d (c.map iD.a)]) ep L.length (L.map iD.a)⟩ =
   some (.ext 0,⟨[aI [.aa d (c.map iD.a)],aH 0 0 0 0,aH 1 0 0 0,aH 3 0 0 0,am,am,.sl 2 ep 0 L.length,ap L.length,ap L.length,aC false],Wk (aI [.aa d (c.map iD.a)]) ep L.length ((L.map Nx).map iD.a)⟩):=by
 have p:L.length≤bC:=by unfold bC;omega
 have j:=gL (base:=4) (clr:=[4,5,9]) (b:=CE) L (fun i (_:Unit)=>⟨[aI [.aa d (c.map iD.a)],aH 0 0 0 0,aH 1 0 0 0,aH 3 0 0 0,am,am,.sl 2 ep 0 L.length,ap L.length,ap i,am],Wk (aI [.aa d (c.map iD.a)]) ep L.length ((VI Nx L i).map iD.a)⟩)
  (fun _ _=>True) (fun _ _=>()) (fun _=>(.ext 0,⟨[aI [.aa d (c.map iD.a)],aH 0 0 0 0,aH 1 0 0 0,aH 3 0 0 0,am,am,.sl 2 ep 0 L.length,ap L.length,ap L.length,aC false],Wk (aI [.aa d (c.map iD.a)]) ep L.length ((L.map Nx).map iD.a)⟩))
  (fun i y _ hi n _=>by
   have q:((i:Int)<(L.length:Int)):=by omega
   have h:=acS Nx iD.a n;have o:=acF Nx iD.a n;obtain⟨m,h⟩:=ak.1 h;have f:=aig (enc:=fG.a) y.bc y.af 5 (by decide) (by decide);have g:=aio (enc:=.int .i64) y.bk y.keys 5 (by decide) (by decide);refine⟨?_,trivial⟩;have e:i<L.length:=hi;have a:∀x,List.map (cn 4 x) (List.map iD.a (VI Nx L (i+1)))=List.map iD.a (VI Nx L (i+1)):=fun x=>by simp
   rw[←o]at a;rw[←o];have k:y.a=aI [aO y.name,.aa y.bc (y.af.map fG.a),.aa y.bk (y.keys.map (.int .i64))]:=rfl;have l:(Nx y).a=aI [aO y.name,.aa false ((y.af.take 5).map fG.a),.aa false ((y.keys.take 5).map (.int .i64))]:=rfl;rw[l]at a ⊢;rw[k]at h;generalize (VI Nx L i).map iD.a=M at *;simp only[Wk];simp at f g a;simp[CE,q,h,m,e,f,g,cW hi p,bQ,bw,a])
  (fun _ _=>by simp[CE,adw]) () trivial
 have j:=j.1;rw[X9]at j;simpa using j
theorem Vx(b:Bool)(c:List iD):bB I.qay [aI [.aa b (c.map iD.a)]]=some (mN (BE c)):=by
 obtain⟨ep,d⟩:=aid (enc:=iD.a) b c 5 (by decide) (by decide) [aB 1 0 [aI [.aa b (c.map iD.a)]],aB 1 0 [aI [.ai]]];have j:=Rh b c ep (c.take 5) (by simp;omega);have k:mN (BE c)=aI [.aa false (((c.take 5).map Nx).map iD.a)]:=by
  have:((c.take 5).map Nx).map iD.a=((c.take 5).map smF).map cL.a:=by
   rw[bY,bY];exact aW fun s _=>aeT s
  rw[this];rfl
 have i:∀top base σ m,List.map (fz false top base σ (m+3)) (((c.take 5).map Nx).map iD.a)=((c.take 5).map Nx).map iD.a:=fun top base σ m=>by
  rw[bY,bY,bY];exact aW fun s _=>by
   show fz false top base σ (m+3) (Nx s).a=(Nx s).a;rw[aeT];exact Fx.fx false top base σ m _
 have e:∀(g:iD) (fl top:Bool) (base:Nat) (σ:aw) (m:Nat),aM (fz fl top base σ (m+1) (iD.a g))=aM (iD.a g):=fun g fl top base σ m=>by simp[iD.a]
 have a:((c.take 5).map Nx).length=(c.take 5).length:=by simp
 rw[k,aT ank rfl];simp only[Wk,bj]at j;generalize (c.take 5).map Nx=h at *;have f:List.take (c.take 5).length (h.map iD.a)=h.map iD.a:=by rw[←a];exact KZ h iD.a
 simp[-List.length_take]at d;simp only[jN]at j;generalize (c.take 5).length=l at *;cases b<;>simp[atx,ae0,d,j,i,a,f,e,-List.length_take]
theorem EI(t:List cJ):(eF t).length≤t.length:=by
 unfold eF;rw[dg];exact List.length_filter_le _ _
theorem Ro{a:List cJ}{k:Nat}{n:cJ}(h:a[k]?=some n):eF (a.take (k+1))=eF (a.take k)++(if n.op=1 then [n.tab] else []):=by
 rw[eH,h,tY];simp[pE]
theorem Y5(c:List cJ)(H:∀n∈c,sZ n)(F:(lookF c).isSome)(K:c.length≤8000):bB I.qdd [aI [.aa false (c.map cJ.a)]]=some (.aa false (cG (dF (iK (eF c))))):=by
 rw[aT amg rfl];obtain⟨L,x⟩:=Aw false c H;rw[F]at x;have z:c.length≤bC:=by unfold bC;omega
 have i:=de (l:=c);have C:=EI c;have key:=iQ (base:=2) (clr:=[5,10,11]) (b:=AB) c
  (fun k (_:Unit)=>⟨[aI [.aa false (c.map cJ.a)],aH 0 0 0 0,.ai,ap 0,.sl 1 (eF (c.take k)).length 0 (eF (c.take k)).length,am,aC false,.aa false (c.map cJ.a),ap c.length,ap k,am,am],[aB 1 0 [aI [.aa false (c.map cJ.a)]],aB 1 (eF (c.take k)).length (cG (eF (c.take k)))]⟩)
  (fun _ _=>True) (fun _ _ _=>(.inl ():Unit⊕Unit))
  (fun _=>(.ext 0,⟨[aI [.aa false (c.map cJ.a)],aH 0 0 0 0,.ai,ap 0,.sl 1 (eF c).length 0 (eF c).length,am,aC false,.aa false (c.map cJ.a),ap c.length,ap c.length,aC false,am],[aB 1 0 [aI [.aa false (c.map cJ.a)]],aB 1 (eF c).length (cG (eF c))]⟩))
  (fun _ _=>False)
  (fun k n _ s q _=>by
   refine⟨?_,trivial⟩;have g:∀h:k<c.length,c[k]'h=n:=fun h=>(ak.1 q).2;have y:=Ro q;have t:=EI (c.take k);rw[cY]at t;have n3:aM n.a=12∧isAgg n.a=true:=⟨rfl,rfl⟩;have v:∀base σ m,fz true false base σ (m+3) n.a=n.a:=fun base σ m=>Ft.ft true false base σ m n rfl;rw[y];generalize eF (c.take k)=S at *;have E:S.length+1≤bC:=by unfold bC at *;omega
   have d:List.take S.length (cG S)=cG S:=ay (by simp);have f:n.a=aI [ap n.op,ap n.l,ap n.r,ap n.tab,.aa n.bk (n.ac.map (.int .i64)),aC n.left,.aa n.bc (n.cond.map EN.a),.aa n.by' (n.keys.map (.int .i64)),.aa n.bg (n.ah.map ll.a),.aa n.bi (n.items.map yK.a),.aa n.bo (n.ords.map iq),ap n.limit]:=rfl;rw[f]at n3 v;by_cases r:n.op=1
   ·have p:((n.op:Int)==1)=true:=by simpa using r
    simp[AB,s,q,g,f,n3,v,r,append,E,d,cW s z,bQ,bw,cn,dE]
   have p:((n.op:Int)==1)=false:=by simpa using r
   simp[AB,s,q,g,f,n3,v,r,p,cW s z,bQ,bw,cn,dE])
  (fun _ _=>by rw[i];simp[AB]) () trivial
 have loop:bU code 2 [5,10,11] AB ⟨[aI [.aa false (c.map cJ.a)],aH 0 0 0 0,.ai,ap 0,.sl 1 0 0 0,am,aC false,.aa false (c.map cJ.a),ap c.length,ap 0,am,am],[aB 1 0 [aI [.aa false (c.map cJ.a)]],aB 1 0 []]⟩ =
   some (.ext 0,⟨[aI [.aa false (c.map cJ.a)],aH 0 0 0 0,.ai,ap 0,.sl 1 (eF c).length 0 (eF c).length,am,aC false,.aa false (c.map cJ.a),ap c.length,ap c.length,aC false,am],[aB 1 0 [aI [.aa false (c.map cJ.a)]],aB 1 (eF c).length (cG (eF c))]⟩):=by
  have G:∀(m:List cJ) k,dp (ρ:=Unit) (fun _ _ _=>(.inl ():Unit⊕Unit)) m k ()=.inl ():=by
   intro m;induction m with
   |nil=>intro k;rfl
   |cons a m D=>intro k;exact D _
  rw[G]at key;exact key.2
 have j:(eF c).length≤bC:=by omega
 generalize eF c=S at *;have o:=EB (σ:=[aB 1 0 [aI [.aa false (c.map cJ.a)]],aB 1 S.length (cG S)]) (id:=1) (ep:=S.length) (l:=S) rfl j;obtain⟨A,e,B,w⟩:=xE (σ:=[aB 1 0 [aI [.aa false (c.map cJ.a)]],aB 1 S.length (cG (iK S))]) (id:=1) (ep:=S.length) (l:=iK S) rfl (by rw[oO];exact j);rw[oO]at e;have J:=sh (iK S);have d:(cG A).take (dF (iK S)).length=cG (dF (iK S)):=by
  rw[←List.map_take,w]
 have u:(dF (iK S)).length≤A.length:=by omega
 generalize dF (iK S)=R at *;generalize iK S=S' at *;simp only[List.set]at o e;simp at x;simp[auD,ag3,x,loop,o,e,d,u]

theorem YV{c:List cL}(a:bB I.qbb [mN c]=some (ap 210))(q:tG):bB I.qn [mN c,q.a]=some (fy [aI [.aa false [],.aa false [],.aa false [],.aa false [],ap 0],ap 0,ap 210]):=by
 rw[aT aaM rfl];have b:q.a=aI [.aa false (q.sels.map mI.a),.aa false ((q.keys.getD []).map B3.a),ap q.limit]:=rfl;rw[b];simp[arP,WK,a]
structure MD (c:List cL) (q:tG) (b:B2) (L:List fJ) (t:List cJ):Prop where
 bg:MO c q b L
 cat:A4 c
 good:QQ c=true
 tr:TR t b.ac
 tl:t.length≤43
 un:sK c b.selects=some t
 low:BC c b=some (t++[eU (jA b.order b.limit) ((t.length:Int)-1) (-1)])
 ok:adR b
 sel:∀S∈L,∃u,pQ c (wa S)=some u∧TR u (u7 S)∧u.length≤10
 h16:∀S∈L,(u7 S).length≤16
theorem ad2(c:List cL)(p:c.length≤8000)(k:∀t∈c,Tq t)(q:tG):(∃a e:Int,e≠0∧bB I.qn [mN c,q.a]=some (fy [aI [.aa false [],.aa false [],.aa false [],.aa false [],ap 0],ap a,ap e])) ∨
  ∃b L t,bB I.qn [mN c,q.a]=some (fy [b.a,ap 0,ap 0])∧MD c q b L t:=by
 have d:=Rr c p k;cases hr:QQ c with
 |false=>
  rw[hr]at d;exact .inl ⟨0,210,by decide,YV d q⟩
 |true=>
  rw[hr]at d;simp only[cw]at d;obtain⟨k1,k2,k3⟩:=Uo hr;obtain⟨v,w,E⟩:=ajk k1 d q;rcases E with⟨a,e,B,rfl⟩|⟨b,L,rfl,f⟩
  ·exact .inl ⟨a,e,B,w⟩
  obtain⟨t,z,F,C,D⟩:=Wg hr f;have h:∀tb∈c,tb.af.length≤8000:=fun t o=>(k t o).af;have l:∀S∈L,∃u,pQ c (wa S)=some u∧TR u (u7 S)∧u.length≤10:=fun S j=>by
   obtain⟨g,i,n⟩:=f.good S j;exact OW g i (fun t o=>by
    obtain⟨A,r⟩:=g.js.rng t o;rw[i]at r;exact k3 t A r) k2 k1.toCtOk n.star
  have m:∀S∈L,(u7 S).length≤16:=fun S j=>by
   obtain⟨g,i,n⟩:=f.good S j;obtain⟨m1,_,_,_⟩:=g.lens (by rw[i];exact k1.toCtOk);have:=S.fr.hi;have G:(u7 S).length=S.items.length:=by simp
   rw[G,g.il];split<;>omega
  have x:=Tc f.kd m;refine .inr ⟨b,L,t,w,f,⟨d,h⟩,hr,z,F,C,D,⟨fun s y=>?_,?_,?_,?_,?_⟩,l,m⟩
  ·rw[f.sels]at y;obtain⟨S,j,rfl⟩:=bK.1 y;obtain⟨g,i,n⟩:=f.good S j;exact ahr g (by rw[i];exact k1.toCtOk)
  ·have:=f.l3;rw[f.sels,dg];omega
  ·have:=f.nm;omega
  ·omega
  have:=f.ol;omega
abbrev yW(b:B2)(t:List cJ):cJ:=eU (jA b.order b.limit) ((t.length:Int)-1) (-1)
theorem Zu(b:B2)(t:List cJ)(c:b.order.length≤8000):nH (yW b t)∧NS (yW b t):=by
 have h:=Lv b.limit c;have a:=wB h.1 ((t.length:Int)-1) (-1);exact⟨a,⟨a.fit,h.2.keys,h.2.ah,h.2.items⟩⟩
structure aod (w:List cJ):Prop where
 own:∀n∈w,nH n
 ns:∀n∈w,NS n
 look:(lookF w).isSome
theorem ali{c:List cL}{q:tG}{b:B2}{L:List fJ}{t:List cJ}(h:MD c q b L t):aod (t++[yW b t])∧Nw (some (t++[yW b t]))=b.ac:=by
 have f:=Zu b t h.ok.ol;have a:=h.low;unfold BC at a;split at a
 ·cases a
 split at a
 ·rename_i e;rw[a]at e;refine⟨⟨fun n d=>?_,fun n d=>?_,Hu a⟩,e.2.2⟩
  ·rcases ba.1 d with d|d
   ·exact h.tr.own n d
   rw[aP.1 d];exact f.1
  rcases ba.1 d with d|d
  ·exact h.tr.ns n d
  rw[aP.1 d];exact f.2
 cases a
theorem VD{c:List cL}{q:tG}{b:B2}{L:List fJ}{t:List cJ}(h:MD c q b L t):eF (t++[yW b t])=b.selects.flatMap nG.tables:=by
 rw[tY,NY h.un,pE,if_neg (by show (8:Int)≠1;omega)];simp
abbrev BT(X:aq)(text:List UInt8)(b:B2)(K:List aq)(k n:Nat)(z:aq):List aq:=
 [X,aO text,aH 0 0 0 0,aC false,aH 1 0 0 0,aH 2 0 0 0,ap 0,aH 3 0 0 0,aH 4 0 0 0,.aa false K,ap 0,.sl 5 k 0 n,am,am,aC false,aC false,aC false,aC false,aC false,.aa false (b.selects.map nG.a),ap b.selects.length,ap k,z]
abbrev Cd(X C Q B W:aq)(k:Nat)(T:List Int):aw:=[aB 1 0 [X],aB 1 0 [C],aB 3 0 [Q],aB 5 0 [B],aB 1 0 [W],aB 1 k (cG T)]
theorem V3{b:B2}{k:Nat}{s:nG}(h:b.selects[k]?=some s):(b.selects.take (k+1)).flatMap nG.tables=(b.selects.take k).flatMap nG.tables++s.tables:=by
 rw[eH,h];simp
theorem YJ(X C Q B W:aq)(u:aM X=1)(G:aM C=1)(t:aM Q=3)(x:aM B=5)(D:aM W=1)(w:∀base σ m,fz false true base σ (m+3) X=X)(A:∀base σ m,fz false true base σ (m+3) C=C)(F:∀base σ m,fz false true base σ (m+3) Q=Q)(v:∀base σ m,fz false true base σ (m+3) B=B)(E:∀base σ m,fz false true base σ (m+3) W=W)
  (text:List UInt8) (b:B2) (K:List aq) (I:b.selects.length≤8000) (q:∀s∈b.selects,s.tables≠[]) (J:(b.selects.flatMap nG.tables).length≤8000) :
  bU code 6 [12,22] CJ ⟨BT X text b K 0 0 am,Cd X C Q B W 0 []⟩ =
   some (.ext 0,⟨BT X text b K b.selects.length (b.selects.flatMap nG.tables).length (aC false),Cd X C Q B W b.selects.length (b.selects.flatMap nG.tables)⟩):=by
 have H:b.selects.length≤bC:=by unfold bC;omega
 have a:b.selects.take b.selects.length=b.selects:=de;have key:=dl (base:=6) (clr:=[12,22]) (b:=CJ)
  (fun k=>⟨BT X text b K k ((b.selects.take k).flatMap nG.tables).length am,Cd X C Q B W k ((b.selects.take k).flatMap nG.tables)⟩) b.selects.length
  (.ext 0,⟨BT X text b K b.selects.length (b.selects.flatMap nG.tables).length (aC false),Cd X C Q B W b.selects.length (b.selects.flatMap nG.tables)⟩)
  (fun k f=>by
   have g:b.selects[k]?=some b.selects[k]:=au f;have i:∀h:k<b.selects.length,b.selects[k]'h=b.selects[k]'f:=fun _=>rfl;have n:=V3 g;have e:((b.selects.take (k+1)).flatMap nG.tables).length≤(b.selects.flatMap nG.tables).length:=by
    conv=>rhs;rw[←List.take_append_drop (k+1) b.selects,jy,bZ]
    omega
   have d:=q _ (aJ f);generalize b.selects[k]=s at *;rw[n]at e ⊢;generalize (b.selects.take k).flatMap nG.tables=T at *;rw[bZ]at e;have c:s.tables.length≠0:=fun h=>d (cS.1 h);have p:T.length+s.tables.length≤bC:=by unfold bC;omega
   have o:List.take T.length (cG T)=cG T:=ay (by simp);have j:s.a=aI s.c:=rfl;have r:s.c=[.aa false (s.tables.map (.int .i64)),.aa false (s.joins.map JX.a),.aa false (s.whr.map EN.a),.aa false (s.having.map EN.a),aC s.grouped,aC s.distinct,.aa false (s.keys.map (.int .i64)),.aa false (s.ah.map xK),.aa false (s.items.map yv)]:=rfl;have l:(List.map (aq.int IntKind.i64) s.tables).all (fun y=>aM y==1)=true:=by rw[aY];intro y g;obtain⟨z,_,rfl⟩:=bK.1 g;rfl
   simp[CJ,BT,Cd,f,g,i,j,r,append,d,c,p,o,l,u,G,t,x,D,w,A,F,v,E,cW f H,bQ,bw,cn,dE])
  (by rw[a];simp[CJ,BT,Cd])
 simpa using key
theorem Ow{c:List cL}{s:nG}{u:List cJ}(h:pQ c s=some u):s.tables≠[]:=by
 intro a;unfold pQ oE at h;rw[a]at h;simp[vC,pG,wu,dR]at h
theorem WL(c:List iD):(BE c).length≤8000∧∀t∈BE c,Tq t:=by
 refine⟨by simp[BE];omega,fun t b=>?_⟩;simp only[BE,bK]at b;obtain⟨a,_,rfl⟩:=b;exact⟨by simp[smF];omega,by simp[smF];omega⟩
theorem Lb(hw:bB I.qaz []=some (aC true))(J:Bool)(c:List iD)(text:List UInt8):bB I.qaq [aI [.aa J (c.map iD.a)],aO text]=some (aC true):=by
 rw[aT afj rfl];have y:=Vx J c;have C:=Vx true c;obtain⟨x,Z⟩:=WL c;generalize BE c=D at *;obtain⟨m,B,al,z⟩:∃m:Nat,(if (600:Int)<(text.length:Int) then (600:Int) else (text.length:Int))=(m:Int)∧m≤600∧m≤text.length:=by
  by_cases h:(600:Int)<(text.length:Int)
  ·exact⟨600,by rw[if_pos h];rfl,by omega,by omega⟩
  exact⟨text.length,by rw[if_neg h],by omega,by omega⟩
 obtain⟨v,G,ha⟩:=acR (text.take m) (by simp;omega);rcases ha with⟨a,e,X,rfl⟩|⟨q,rfl⟩
 ·simp[ar9,Uf,hw,y,C,B,z,G,X]
 have p:q.a=aI [.aa false (q.sels.map mI.a),.aa false ((q.keys.getD []).map B3.a),ap q.limit]:=rfl;rcases ad2 D x Z q with⟨a,e,X,E⟩|⟨b,L,t,E,i⟩
 ·rw[p]at G E;simp[ar9,Uf,hw,y,C,B,z,G,E,X]
 obtain⟨f,W⟩:=ali i;have ah:=VD i;have d:bB I.qef [mN D,b.a]=some (PQ 240 (some (t++[yW b t]))):=by
  rw[←i.low];exact acq D i.cat b i.ok
 have ag:∀s∈b.selects,s.tables≠[]:=fun s hs=>by
  rw[i.bg.sels]at hs;obtain⟨S,hS,rfl⟩:=bK.1 hs;obtain⟨u,hu,_⟩:=i.sel S hS;exact Ow hu
 have aj:(t++[yW b t]).length=t.length+1:=by simp
 have M:(t++[yW b t])[t.length]?=some (yW b t):=by simp
 have P:(yW b t).a=aI [ap 8,ap ((t.length:Int)-1),ap (-1),ap 0,.aa false [],aC false,.aa false [],.aa false [],.aa false [],.aa false [],.aa false (b.order.map iq),ap b.limit]:=rfl;have an:=i.tl;generalize yW b t=r at *;generalize t++[r]=w at *;have hO:mF (some w):=⟨f.own,f.ns,by show w.length≤8000;omega⟩;have Q:=O9 (some w) hO (fun w' h=>by cases h;exact f.look);rw[W]at Q;have k:∀n∈w,sZ n:=fun n hn=>(f.own n hn).fit;obtain⟨kc,Y⟩:=Aw false w k;rw[f.look]at Y;have N:=BH false false b.ac b.ac i.ok.kl;have hT:=Y5 w k f.look (by omega);have V:=EI w;rw[ah]at hT V;have O:=Qs false false b.order i.ok.ol;have F:b.a=aI [.aa false (b.selects.map nG.a),.aa false (b.names.map aO),.aa false (b.ac.map (.int .i64)),.aa false (b.order.map iq),ap b.limit]:=rfl;have loop:=YJ (aI [.aa J (c.map iD.a)]) (mN D) q.a b.a (aI [.aa false (w.map cJ.a)]) rfl rfl rfl rfl rfl (fun base σ m=>by simp) (fun base σ m=>by simp) (fun base σ m=>by rw[p];simp) (fun base σ m=>by rw[F];simp) (fun base σ m=>by simp) text b (cG b.ac) i.ok.sl ag (by omega);have H:(b.selects.flatMap nG.tables).length≤bC:=by unfold bC;omega
 generalize b.selects.flatMap nG.tables=T at *;have j:=EB (σ:=Cd (aI [.aa J (c.map iD.a)]) (mN D) q.a b.a (aI [.aa false (w.map cJ.a)]) b.selects.length T) (id:=5) (ep:=b.selects.length) (l:=T) rfl H;obtain⟨A,g,ab,af⟩:=xE (σ:=Cd (aI [.aa J (c.map iD.a)]) (mN D) q.a b.a (aI [.aa false (w.map cJ.a)]) b.selects.length (iK T)++[aB 12 0 [r.a]]) (id:=5) (ep:=b.selects.length) (l:=iK T) rfl (by rw[oO];exact H);rw[oO]at g;have x:=sh (iK T);rw[oO]at x ab;have ae:(cG A).take (dF (iK T)).length=cG (dF (iK T)):=by rw[←List.map_take,af]
 have ad:(dF (iK T)).length≤A.length:=by omega
 have o:=fun b1 b2=>BH b1 b2 (dF (iK T)) (dF (iK T)) (by omega);generalize dF (iK T)=R at *;generalize iK T=T' at *;have w1:IntKind.i64.wrap ((w.length:Int)-1)=(t.length:Int):=by rw[rJ (by omega) (by omega)];omega
 have U:t.length<w.length:=by omega
 have K:∀h:t.length<w.length,w[t.length]'h=r:=fun h=>(ak.1 M).2;rw[p]at G E loop j g;rw[F]at E d loop j g;rw[P]at g;unfold PQ at d;simp only[BT,Cd,Bt,bj,bm,List.set,bX,bT,dd]at loop j g d Q;simp at d Q Y N o;simp[ar9,Uf,hw,y,C,B,z,G,E,d,Q,Y,N,loop,j,g,hT,o,O,ae,ad,w1,M,U,K,P]
end Go.AM
namespace Go.AM
open P
set_option maxHeartbeats 64000000
set_option maxRecDepth 40000

end Go.AM
namespace Go.AM
open P
set_option maxHeartbeats 64000000
set_option maxRecDepth 40000
attribute [local simp] aG bd



end Go.AM
namespace Go.AM
theorem mJ.sl_inv{a:Bool}{cs:List Sh}{x:aq}(h:mJ (.sl a cs) x):∃xs,x=.aa true xs∧xs.length≤maxLen∧(∀x∈xs,isAgg x=a∧(cellsOf x).length=cs.length∧aM x=cs.length) ∧
  ∀x∈xs,∀i (h:i<cs.length) (e:i<(cellsOf x).length),mJ cs[i] (cellsOf x)[i]:=by
 cases h with
 |sl b d c=>exact⟨_,rfl,b,d,c⟩
theorem aaa{b:Type}(f:b→aq):∀{l:List aq},(∀x∈l,∃a,x=f a)→∃m:List b,l=m.map f
 |[],_=>⟨[],rfl⟩
 |x::l,h=>by
  obtain⟨a,rfl⟩:=h x (dH ..);obtain⟨m,rfl⟩:=aaa f fun y c=>h y (cf _ c);exact⟨a::m,rfl⟩
theorem Pj{cs:List Sh}{x:aq}(h:isAgg x=true∧(cellsOf x).length=cs.length∧aM x=cs.length)(b:∀i (h:i<cs.length) (b:i<(cellsOf x).length),mJ cs[i] (cellsOf x)[i]) :
  ∃a,x=.agg a∧a.length=cs.length∧∀i (h:i<cs.length) (b:i<a.length),mJ cs[i] a[i]:=by
 cases x with
 |agg a=>exact⟨a,rfl,h.2.1,b⟩
 |_=>cases h.1
theorem Yy{s:Sh}{x:aq}(h:isAgg x=false∧(cellsOf x).length=[s].length∧aM x=[s].length)(b:∀i (h:i < [s].length) (b:i<(cellsOf x).length),mJ [s][i] (cellsOf x)[i]):mJ s x:=by
 have a:cellsOf x=[x]:=by
  cases x with
  |agg c=>cases h.1
  |_=>rfl
 have:=b 0 (by simp) (by rw[a];simp);simpa only [a,cV] using this
end Go.AM
