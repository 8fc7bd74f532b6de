/- Part of the proof. -/
import Derived.Test.YtmpmbfpkpannjaaGreatDoorCm22
set_option linter.unusedVariables false
set_option linter.unusedSimpArgs false
set_option linter.unusedSectionVars false
namespace Go.AM
open P
set_option maxHeartbeats 64000000
set_option maxRecDepth 40000
attribute [local simp] aG bj
abbrev OQ:aq:=aH [.ai,.ai,.ai,.ai,ap 0]
def yX(r:Option (Ex×St)):Prop:=∃(a e:Int) (env:List aq) (τ:aw),r=some (.ret,⟨env,τ⟩)∧e≠0∧env[4]?=some (aI 2 0 0 0)∧env[5]?=some (ap a)∧env[6]?=some (ap e)∧τ[2]?=some (aB 5 0 [OQ])
theorem aiY(σ:aw)(n:Nat)(c:List cK)(x:mL):ey σ n (scZ c x):=by
 refine⟨⟨fun e a=>(by cases a),fun s=>.inl rfl⟩,⟨fun e a=>(by cases a),fun s=>.inl rfl,fun s s' id e b o o' k d h=>(by cases h)⟩,⟨fun e a=>(by cases a),fun t s=>.inl rfl⟩⟩
theorem Z1{c:List cK}{q:tX}{τ:aw}(H:CtK c)(A:τ[2]?=some (aB 5 0 [OQ]))(k:Nat)(x:mL)(K:wh x) :
  yX (run code vp ⟨xU c q k (ap k) (aI τ.length 0 0 0) (aI (τ.length+4) 0 0 0) am am (aC true) am am am,τ++[Obj.arr 9 0 [x.a],.map [],.map [],.map [],aB 25 0 [aH [.aa false (c.map cK.a),aC x.distinct,aC x.star,.aa false ((x.items.getD []).map pU.a),aO x.table,aO x.as',.aa false (x.joins.map o7.a),gN (x.whr.getD []),gN (x.having.getD []),.aa false ((x.group.getD []).map uV.a),.ai,.ai,.ai,.ai,aC false,aC false,.ai,.ai,.ai,.mp (τ.length+1),.mp (τ.length+2),.mp (τ.length+3),.ai,.ai,ap 0]]]⟩) ∨
  ∃(b:aw) (S:fA),run code vp ⟨xU c q k (ap k) (aI τ.length 0 0 0) (aI (τ.length+4) 0 0 0) am am (aC true) am am am,τ++[Obj.arr 9 0 [x.a],.map [],.map [],.map [],aB 25 0 [aH [.aa false (c.map cK.a),aC x.distinct,aC x.star,.aa false ((x.items.getD []).map pU.a),aO x.table,aO x.as',.aa false (x.joins.map o7.a),gN (x.whr.getD []),gN (x.having.getD []),.aa false ((x.group.getD []).map uV.a),.ai,.ai,.ai,.ai,aC false,aC false,.ai,.ai,.ai,.mp (τ.length+1),.mp (τ.length+2),.mp (τ.length+3),.ai,.ai,ap 0]]]⟩=some (.nrm,⟨xU c q k (ap k) (aI τ.length 0 0 0) (aI (τ.length+4) 0 0 0) (ap 0) am (aC true) (aC false) am am,b⟩)∧SA b (τ.length+1) S∧BS S∧S.cat=c∧S.fr=x∧(∀i o,i<τ.length→τ[i]?=some o→b[i]?=some o):=by
 have w:SA (τ++[Obj.arr 9 0 [x.a]]++Bm (τ.length+1) (scZ c x)) (τ.length+1) (scZ c x):=⟨τ++[Obj.arr 9 0 [x.a]],[],by simp,by simp⟩;obtain⟨h,b,S,g,u,I,G⟩:=VT w (aiY _ _ _ _) H K
 have d:∀i o,i<τ.length→τ[i]?=some o→b[i]?=some o:=fun i o hi J=>I.kl i o (by omega) (by
  rw[dy,aQ hi];exact J)
 have s:=(ak.1 A).1;have j:=d 2 _ s A;have F:vp=.seq (.lift 12 10 1 (.lift 12 11 2 (.lift 12 16 1 (.lift 12 17 2 (.lift 12 18 1 (.lift 12 22 1 (.lift 12 23 1 (.reg [i (.call 141 [(e 12)] false)] [(13,l 0)])))))))) (.seq (.reg [i (.bin .neq (e 13) (v (ap 0)))] [(24,l 0)]) (.cond (e 24) (.seq (.regd [i (.build [.ai,.ai,.ai,.ai,ap 0] []),i (.bin .mul (v (ap 10)) (e 10)),i (.nilck (e 12)),i (.fld 24 (l 2)),i (.load false 1 (l 3)),i (.bin .add (l 1) (l 4)),i (.store 5 (e 4) (l 0))] [(5,l 5),(6,e 13)] [(2,7),(3,7),(4,7)]) .ret) .skip)):=rfl;rw[F,fy,acW k x (fun m=>run code (.reg [i (.call 141 [(e 12)] false)] [(13,l 0)]) ⟨xU c q k (ap k) (aI τ.length 0 0 0) (aI (τ.length+4) 0 0 0) am am (aC true) am am am,m⟩) _ (fun m=>rfl)];generalize τ++[Obj.arr 9 0 [x.a]]++Bm (τ.length+1) (scZ c x)=n at *;have qc:run code (.reg [i (.call 141 [(e 12)] false)] [(13,l 0)]) ⟨xU c q k (ap k) (aI τ.length 0 0 0) (aI (τ.length+4) 0 0 0) am am (aC true) am am am,n⟩=some (.nrm,⟨xU c q k (ap k) (aI τ.length 0 0 0) (aI (τ.length+4) 0 0 0) (ap h) am (aC true) am am am,b⟩):=by
  have f:cD code 141 [aI (τ.length+4) 0 0 0] n=some (ap h,b):=g;simp[f]
 rw[qc,bW];have B:=u.len;have r:b[τ.length+4]?=some (aB 25 0 [aH (iH (τ.length+1) S)]):=by simpa using u.at3 []
 by_cases p:h=0
 ·right;obtain⟨k1,k2,k3⟩:=G p;subst p;exact⟨b,S,by simp,u,k1,k2,k3,d⟩
 left;have y:2<b.length:=(ak.1 j).1;have z:(b.set 2 (aB 5 0 [OQ]))[τ.length+4]?=some (aB 25 0 [aH (iH (τ.length+1) S)]):=by rw[aD (by omega)];exact r
 have t:∃(a:Int) (env:List aq),run code (.seq (.reg [i (.bin .neq (e 13) (v (ap 0)))] [(24,l 0)]) (.cond (e 24) (.seq (.regd [i (.build [.ai,.ai,.ai,.ai,ap 0] []),i (.bin .mul (v (ap 10)) (e 10)),i (.nilck (e 12)),i (.fld 24 (l 2)),i (.load false 1 (l 3)),i (.bin .add (l 1) (l 4)),i (.store 5 (e 4) (l 0))] [(5,l 5),(6,e 13)] [(2,7),(3,7),(4,7)]) .ret) .skip)) ⟨xU c q k (ap k) (aI τ.length 0 0 0) (aI (τ.length+4) 0 0 0) (ap h) am (aC true) am am am,b⟩=some (.ret,⟨env,b.set 2 (aB 5 0 [OQ])⟩)∧env[4]?=some (aI 2 0 0 0)∧env[5]?=some (ap a)∧env[6]?=some (ap h):=by
  simp only[iH]at r z;exact⟨_,_,by simp[p,r,j,z];rfl,rfl,rfl,rfl⟩
 obtain⟨a,env,t,C,D,E⟩:=t;exact⟨a,h,env,_,t,p,C,D,E,by rw[aW y]⟩
abbrev rI(S:fA):List Int:=S.items.map fun it=>(eG it (mB S)).1
abbrev bO(k:Nat)(nm kd:aq)(lim:Int):Obj:=aB 5 0 [aH [kA 4 k,nm,kd,.ai,ap lim]]
theorem BS.lens{S:fA}(h:BS S)(a:CtOk S.cat):S.ac.length≤12∧(mB S).length≤8000∧S.items.length≤100∧(∀it∈S.items,it.length≤1000):=by
 have e:=CB a S.tables h.js.rng;have f:=h.js.len;have g:=h.jl;have b:S.ac.length≤12:=by rw[h.kd];omega
 have i:S.groups.length≤15:=by
  have c:=h.gk.kl;have d:=h.gk.al;rw[h.gk.gr];simp;omega
 have hi:=S.fr.hi;refine⟨b,by unfold mB;split<;>omega,?_,fun it hit=>(h.items it hit).1⟩;rw[h.il];split<;>omega
theorem anf{c:List cK}{q:tX}{τ:aw}{n:Nat}{S:fA}(G:CtK c)(h:SA τ n S)(s:BS S)(k:S.cat=c)(M:wh S.fr)(u t:aq)(D:aM u=1∧isAgg u=false)(z:aM t=1∧isAgg t=false)(F:τ[3]?=some (bO 0 u t q.limit))(p r:aq) :
  ∃(a:aw) (g d:Nat) (e:List (List UInt8)),run code nB ⟨xU c q 0 (ap 0) p (aI (n+3) 0 0 0) (ap 0) am r (aC false) am am,τ⟩=some (.nrm,⟨xU c q 0 (ap 0) p (aI (n+3) 0 0 0) (ap 0) (kA d (rI S).length) r (aC false) (aC true) am,a⟩) ∧
   a[3]?=some (bO 0 (kA g e.length) (kA d (rI S).length) q.limit)∧a[g]?=some (Ej e)∧a[d]?=some (aB 1 (rI S).length (eD (rI S)))∧e.length=(rI S).length∧τ.length≤d∧d<g∧g<a.length∧(∀i o,i≠3→τ[i]?=some o→a[i]?=some o):=by
 obtain⟨k1,k2,k3,k4⟩:=s.lens (by rw[k];exact G.toCtOk);have x:=yG h k2 k3 k4;have K:3<τ.length:=(ak.1 F).1;have l:(rI S).length=S.items.length:=by simp
 have E:SA (τ++(aB 1 S.items.length (eD (rI S))::ikB S.items)) n S:=h.app _;obtain⟨e,X,f,C⟩:=RP E (by rw[k];exact G.toCtOk) s.js s.jl M;have B:e.length=(rI S).length:=by
  rw[C,l,s.il,s.kd]
 have I:∀T,(τ++T)[3]?=some (bO 0 u t q.limit):=fu F;rw[l];generalize J:eD (rI S)=H at *;generalize v:τ++(Obj.arr 1 S.items.length H::ikB S.items)=τ1 at *;have w:τ1[3]?=some (bO 0 u t q.limit):=by rw[←v];exact I _
 have j:=fu w;have A:τ.length<τ1.length:=by rw[←v];simp
 have y:τ1[τ.length]?=some (aB 1 S.items.length H):=by rw[←v];simp
 have b:∀o,((τ1++(Ej e::X)).set 3 o)[3]?=some o:=fun o=>by rw[aW (by simp;omega)]
 refine⟨(τ1++(Ej e::X)).set 3 (bO 0 (kA τ1.length e.length) (kA τ.length S.items.length) q.limit),τ1.length,τ.length,e,?_,b _,?_,?_,by rw[B,l],aF _,A,by simp,?_⟩
 ·have m:∀o o',((τ1++(Ej e::X)).set 3 o).set 3 o'=(τ1++(Ej e::X)).set 3 o':=fun o o'=>ez ..;simp only[bO]at j b;simp[nB,x,f,j,b,m,D,z]
 ·rw[aD (by omega)];simp
 ·rw[aD (by omega)];exact fu y _
 intro i o hi L;rw[aD (by omega)];refine fu ?_ _;rw[←v];exact fu L _
theorem aku{c:List cK}{q:tX}{τ:aw}{n:Nat}{S:fA}(M:CtK c)(h:SA τ n S)(L:BS S)(m:S.cat=c)(k:Nat)(P:k≠0)(T:aq)(b:Nat)(K:List Int)(J:K.length≤100)(H:τ[2]?=some (aB 5 0 [OQ]))(I:τ[3]?=some (bO k T (kA b K.length) q.limit))(s:τ[b]?=some (aB 1 K.length (eD K)))(N:5≤b)(e f:aq) :
  yX (run code nB ⟨xU c q k (ap k) e (aI (n+3) 0 0 0) (ap 0) am f (aC false) am am,τ⟩) ∨
  ∃(g:aw) (cs:List Int) (B:aq),run code nB ⟨xU c q k (ap k) e (aI (n+3) 0 0 0) (ap 0) am f (aC false) am am,τ⟩=some (.nrm,⟨xU c q k (ap k) e (aI (n+3) 0 0 0) (ap 0) B f (aC false) (aC false) (aC false),g⟩) ∧
   lT K (rI S)=some cs∧cs.length=K.length∧K.length=(rI S).length∧g[b]?=some (aB 1 K.length (eD cs))∧τ.length≤g.length∧(∀i o,i≠b→τ[i]?=some o→g[i]?=some o):=by
 obtain⟨k1,k2,k3,k4⟩:=L.lens (by rw[m];exact M.toCtOk);have p:=yG h k2 k3 k4;have x:(rI S).length=S.items.length:=by simp
 have O:=(ak.1 s).1;have j:¬(k:Int)=0:=by omega
 have r:((k:Int)==0)=false:=by simpa using j
 generalize u:τ++(Obj.arr 1 S.items.length (eD (rI S))::ikB S.items)=τ1 at *;have d:∀i o,τ[i]?=some o→τ1[i]?=some o:=fun i o y=>by rw[←u];exact fu y _
 have v:τ1[τ.length]?=some (aB 1 S.items.length (eD (rI S))):=by rw[←u];simp
 have Q:τ.length<τ1.length:=by rw[←u];simp
 obtain⟨ok,cs,l,w,z⟩:=Qu K (rI S) (d _ _ s) v (by omega) J;rw[x]at l;have t:=d _ _ I;have C:=d _ _ H;have R:=(ak.1 C).1;cases ok with
 |true=>
  right;obtain⟨U,V⟩:=z rfl;refine⟨τ1.set b (aB 1 K.length (eD cs)),cs,kA τ.length S.items.length,?_,V,w,U,by rw[aW (by omega)],by simp;omega,fun i o hi y=>by rw[aD (by omega)];exact d _ _ y⟩;simp only[bO]at t;simp[nB,p,j,r,t,l]
 |false=>
  left;have D:(τ1.set b (aB 1 K.length (eD cs)))[2]?=some (aB 5 0 [OQ]):=by rw[aD (by omega)];exact C
  have A:∃(a:Int) (env:List aq),run code nB ⟨xU c q k (ap k) e (aI (n+3) 0 0 0) (ap 0) am f (aC false) am am,τ⟩=some (.ret,⟨env,(τ1.set b (aB 1 K.length (eD cs))).set 2 (aB 5 0 [OQ])⟩)∧env[4]?=some (aI 2 0 0 0)∧env[5]?=some (ap a)∧env[6]?=some (ap 229):=by
   simp only[bO]at t;exact⟨_,_,by simp[nB,p,j,r,t,l,D];rfl,rfl,rfl,rfl⟩
  obtain⟨a,env,A,E,F,G⟩:=A;exact⟨a,229,env,_,A,by omega,E,F,G,by rw[aW (by simpa using R)]⟩
abbrev xe(n:Nat)(S:fA):aq:=aH [kA (n+4) S.tables.length,kA (n+5) S.joins.length,sv (S.whr.map (·.map EN.a)),sv (S.having.map (·.map EN.a)),aC S.grouped,aC S.distinct,kA (n+6) S.keys.length,kA (n+7) S.ah.length,kA (n+8) S.items.length]
theorem Pv{c:List cK}{q:tX}{τ:aw}{n:Nat}{S:fA}(r:τ[n+3]?=some (aB 25 0 [aH (iH n S)]))(k:Nat)(v:k≤10)(p o:aq)(vs:List aq)(u:vs.length=k)(i:τ[3]?=some (bO k p o q.limit))(t:τ[4]?=some (aB 9 k vs))(a b d e f g h:aq) :
  run code vC ⟨xU c q k (ap k) a (aI (n+3) 0 0 0) b d e f g h,τ⟩=some (.nrm,⟨xU c q k (ap k) a (aI (n+3) 0 0 0) b d e f g h,(τ.set 4 (aB 9 (k+1) (vs++[xe n S]))).set 3 (bO (k+1) p o q.limit)⟩):=by
 have s:(τ.set 4 (aB 9 (k+1) (vs++[xe n S])))[3]?=some (bO k p o q.limit):=by rw[aD (by omega)];exact i
 have m:List.take k vs=vs:=ay (by omega);have j:k+1≤bD:=by unfold bD;omega
 have l:k≤vs.length:=by omega
 simp only[iH,bO,xe]at r i s ⊢;simp[vC,r,i,t,s,append,m,j,l]
structure LA (τ:aw) (n:Nat) (S:fA):Prop where
 b4:τ[n+4]?=some (aB 1 S.tables.length (eD S.tables))
 b5:τ[n+5]?=some (aB 2 S.joins.length (S.joins.map JX.a))
 b6:τ[n+6]?=some (aB 1 S.keys.length (eD S.keys))
 b7:τ[n+7]?=some (aB 2 S.ah.length (S.ah.map kM.a))
 b8:τ[n+8]?=some (aB 1 S.items.length (S.items.map jm))
theorem SA.la{τ:aw}{n:Nat}{S:fA}(h:SA τ n S):LA τ n S:=by
 obtain⟨P,J,rfl,rfl⟩:=h;constructor<;>simp
theorem LA.keep{τ b:aw}{n:Nat}{S:fA}(h:LA τ n S)(a:∀i o,n≤i→i<n+11→τ[i]?=some o→b[i]?=some o):LA b n S:=
 ⟨a _ _ (by omega) (by omega) h.b4,a _ _ (by omega) (by omega) h.b5,a _ _ (by omega) (by omega) h.b6,a _ _ (by omega) (by omega) h.b7,a _ _ (by omega) (by omega) h.b8⟩
def kdU:List fA→Option (List Int)
 |[]=>none
 |S::r=>r.foldl (fun o T=>o.bind fun K=>lT K (rI T)) (some (rI S))
theorem Y7{l:List fA}(a:l≠[])(T:fA):kdU (l++[T])=(kdU l).bind fun K=>lT K (rI T):=by
 cases l with
 |nil=>exact absurd rfl a
 |cons S r=>simp[kdU,List.foldl_append]
structure BSt (c:List cK) (q:tX) (τ:aw) (L:List (Nat×fA)) (nm kd:aq):Prop where
 b0:τ[0]?=some (aB 1 0 [mC c])
 b1:τ[1]?=some (aB 3 0 [q.a])
 b2:τ[2]?=some (aB 5 0 [OQ])
 b3:τ[3]?=some (bO L.length nm kd q.limit)
 b4:τ[4]?=some (aB 9 L.length (L.map fun p=>xe p.1 p.2))
 la:∀p∈L,LA τ p.1 p.2∧BS p.2∧p.2.cat=c∧5≤p.1∧p.1+11≤τ.length
 fr:L.map (fun p=>p.2.fr)=q.sels.take L.length
def NmK(τ:aw)(L:List (Nat×fA))(nm kd:aq):Prop:=(L=[]∧nm=.ai∧kd=.ai)∨(L≠[]∧∃(idn idk:Nat) (ns:List (List UInt8)) (K:List Int),nm=kA idn ns.length∧τ[idn]?=some (Ej ns)∧kd=kA idk K.length∧τ[idk]?=some (aB 1 K.length (eD K))∧ns.length=K.length∧idn≠idk∧5≤idn∧5≤idk∧(∀p∈L,p.1+11≤idk∨idk<p.1)∧kdU (L.map fun p=>p.2)=some K∧K.length≤100)
noncomputable abbrev Tg(c:List cK)(q:tX)(k base:Nat)(τ:aw):Option (Ex×St):=bT code base [9999,5,6,10,11,12,13,14,23,24,25,26] zi ⟨xU c q k am am am am am am am am am,τ⟩
theorem aiW(c:List cK)(q:tX)(k base:Nat)(b:k<q.sels.length)(τ:aw):Tg c q k base τ=dh base [9999,5,6,10,11,12,13,14,23,24,25,26] zi (sY (.reg [i (.bin .add (e 22) (v (ap 1)))] [(22,l 0)]) (rO 1 (run code (.seq Aa (.seq Ad (.seq vp (.seq nB vC)))) ⟨xU c q k am am am am am (aC true) am am am,τ⟩))):=by
 have a:(k:Int)<(q.sels.length:Int):=by omega
 unfold Tg;rw[aZ];have d:run code (.reg [i (.bin .lss (e 22) (e 21))] [(23,l 0)]) ⟨xU c q k am am am am am am am am am,τ⟩=some (.nrm,⟨xU c q k am am am am am (aC true) am am am,τ⟩):=by
  simp[a,b]
 have f:run code (.cond (e 23) .skip (.exit 0)) ⟨xU c q k am am am am am (aC true) am am am,τ⟩=some (.nrm,⟨xU c q k am am am am am (aC true) am am am,τ⟩):=by
  simp
 conv=>lhs;rw[show run code zi=run code (.seq (.reg [i (.bin .lss (e 22) (e 21))] [(23,l 0)]) (.seq (.cond (e 23) .skip (.exit 0)) (.seq (.blk 1 (.seq Aa (.seq Ad (.seq vp (.seq nB vC))))) (.reg [i (.bin .add (e 22) (v (ap 1)))] [(22,l 0)])))) by rw[←apn]]
 rw[fy,d,bW,fy,f,bW,fy,agS]
theorem Xv{base:Nat}{r:Option (Ex×St)}(b:az)(h:yX r):yX (dh base [9999,5,6,10,11,12,13,14,23,24,25,26] zi (sY b (rO 1 r))):=by
 obtain⟨a,e,env,τ,rfl,c,d,f,g,i⟩:=h;exact⟨a,e,env,τ,rfl,c,d,f,g,i⟩
theorem SV{r:Option (Ex×St)}(b:az)(h:yX r):yX (sY b r):=by
 obtain⟨a,e,env,τ,rfl,c,d,f,g,i⟩:=h;exact⟨a,e,env,τ,rfl,c,d,f,g,i⟩
theorem Y4{c:List cK}{q:tX}{τ τ1:aw}{L:List (Nat×fA)}{D C nm' kd':aq}{n:Nat}{S:fA}{x:mL}(h:BSt c q τ L D C)(bad:Nat)(f:∀i o,i<τ.length→i≠3→i≠bad→τ[i]?=some o→τ1[i]?=some o)(B:5≤bad)(j:∀p∈L,p.1+11≤bad∨bad<p.1)(z:τ1[3]?=some (bO L.length nm' kd' q.limit))(la:LA τ1 n S)(A:BS S)(k:S.cat=c)(I:n=τ.length+1)(s:n+11≤τ1.length)(m:S.fr=x)(t:q.sels[L.length]?=some x)(F:5≤τ.length) :
  BSt c q ((τ1.set 4 (aB 9 (L.length+1) ((L.map fun p=>xe p.1 p.2)++[xe n S]))).set 3 (bO (L.length+1) nm' kd' q.limit)) (L++[(n,S)]) nm' kd':=by
 have J:3<τ1.length:=(ak.1 z).1;have e:∀i o,i<τ.length→i≠3→i≠4→i≠bad→τ[i]?=some o→((τ1.set 4 (aB 9 (L.length+1) ((L.map fun p=>xe p.1 p.2)++[xe n S]))).set 3 (bO (L.length+1) nm' kd' q.limit))[i]?=some o:=fun i o hi a b d l=>by
  rw[aD (by omega),aD (by omega)];exact f i o hi a d l
 refine⟨e 0 _ (by omega) (by omega) (by omega) (by omega) h.b0,e 1 _ (by omega) (by omega) (by omega) (by omega) h.b1,e 2 _ (by omega) (by omega) (by omega) (by omega) h.b2,?_,?_,?_,?_⟩
 ·rw[aW (by simp;omega)];simp
 ·rw[aD (by omega),aW (by omega)];simp
 ·intro p g;rcases ba.1 g with g|g
  ·obtain⟨u,v,w,y,E⟩:=h.la p g;have G:=j p g;refine⟨u.keep fun i o hi r l=>e i o (by omega) (by omega) (by omega) (by omega) l,v,w,y,by simp;omega⟩
  rw[aP.1 g];refine⟨la.keep fun i o hi r l=>?_,A,k,by show 5≤n;omega,by simp;omega⟩;rw[aD (by omega),aD (by omega)];exact l
 have H:=(ak.1 t).1;rw[dg,h.fr,cn,bw,bE,eW,t];simp[m]
theorem abt(c:List cK)(q:tX)(k base:Nat)(r:k≤10)(a b d f g h j m n:aq)(τ:aw):dh base [9999,5,6,10,11,12,13,14,23,24,25,26] zi (sY (.reg [i (.bin .add (e 22) (v (ap 1)))] [(22,l 0)]) (rO 1 (some (.nrm,⟨xU c q k a b d f g h j m n,τ⟩))))=Tg c q (k+1) base τ:=by
 have p:IntKind.i64.wrap ((k:Int)+1)=(k:Int)+1:=pT (by omega) (by omega);have o:((k+1:Nat):Int)=(k:Int)+1:=by omega
 unfold Tg;simp only[xU,o];simp[p,fv]
theorem aa5{c:List cK}{q:tX}{τ:aw}{L:List (Nat×fA)}{nm Z:aq}(D:CtK c)(g:BSt c q τ L nm Z)(hN:NmK τ L nm Z)(x:mL)(E:q.sels[L.length]?=some x)(Y:wh x)(base:Nat) :
  yX (Tg c q L.length base τ)∨∃(f:aw) (n:Nat) (S:fA) (nm' kd':aq),Tg c q L.length base τ=Tg c q (L.length+1) base f∧BSt c q f (L++[(n,S)]) nm' kd'∧NmK f (L++[(n,S)]) nm' kd':=by
 have hl:=(ak.1 E).1;have ab:=q.h3;have l4:4<τ.length:=(ak.1 g.b4).1;rw[aiW c q L.length base hl τ];obtain⟨ad,q1,rfl⟩:=aaU g.b0 L.length x E;rw[q1,fy];rcases Z1 (q:=q) D g.b2 L.length x Y with J|⟨f,S,q2,v,y,e,t,a⟩
 ·exact .inl (Xv _ (SV _ J))
 rw[q2,bW,fy];have W:=v.len;have T:f[τ.length+1+3]?=some (aB 25 0 [aH (iH (τ.length+1) S)]):=by simpa using v.at3 []
 rcases hN with⟨rfl,rfl,rfl⟩|⟨A,d,b,l,K,rfl,n1,rfl,n2,n3,n4,n5,O,n7,n8,s⟩
 ·right;obtain⟨τ1,d,b,l,G,B,H,V,I,d6,r,d8,C⟩:=anf (q:=q) D v y e (by rw[t];exact Y) .ai .ai ⟨rfl,rfl⟩ ⟨rfl,rfl⟩ (a 3 _ (by omega) g.b3) (aI τ.length 0 0 0) (aC true);have m:run code nB ⟨xU c q ([]:List (Nat×fA)).length (ap (([]:List (Nat×fA)).length:Nat)) (aI τ.length 0 0 0) (aI (τ.length+4) 0 0 0) (ap 0) am (aC true) (aC false) am am,f⟩=_:=G;rw[m,bW];have F:τ1[4]?=some (aB 9 0 []):=C 4 _ (by omega) (a 4 _ (by omega) g.b4);have P:=Pv (c:=c) (q:=q) (τ:=τ1) (n:=τ.length+1) (S:=S) (C _ _ (by omega) T) 0 (by omega) (kA d l.length) (kA b (rI S).length) [] rfl B F (aI τ.length 0 0 0) (ap 0) (kA b (rI S).length) (aC true) (aC false) (aC true) am;have Q:run code vC ⟨xU c q 0 (ap 0) (aI τ.length 0 0 0) (aI (τ.length+1+3) 0 0 0) (ap 0) (kA b (rI S).length) (aC true) (aC false) (aC true) am,τ1⟩=_:=P;rw[Q];have j:=Y4 (τ1:=τ1) (n:=τ.length+1) (S:=S) (nm':=kA d l.length) (kd':=kA b (rI S).length) g (τ.length+100) (fun i o hi w _ u=>C i o w (a i o hi u)) (by omega) (fun p k=>by cases k) B (v.la.keep fun i o hi M u=>C i o (by omega) u) y e rfl (by omega) t E (by omega)
  refine⟨_,τ.length+1,S,_,_,abt c q 0 base (by omega) _ _ _ _ _ _ _ _ _ _,j,.inr ⟨by simp,d,b,l,rI S,rfl,?_,rfl,?_,I,by omega,by omega,by omega,?_,rfl,by
   have:=(y.lens (by rw[e];exact D.toCtOk)).2.2.1;simpa using this⟩⟩
  ·rw[aD (by omega),aD (by omega)];exact H
  ·rw[aD (by omega),aD (by omega)];exact V
  intro p k;have:p=(τ.length+1,S):=by simpa using k
  rw[this];left;show τ.length+1+11≤b;omega
 have X:0<L.length:=eZ.2 A;have N:=(ak.1 n2).1;rcases aku (q:=q) D v y e L.length (by omega) (kA d l.length) b K s (a 2 _ (by omega) g.b2) (a 3 _ (by omega) g.b3) (a b _ N n2) O (aI τ.length 0 0 0) (aC true) with J|⟨τ1,cs,R,G,B,H,V,I,d6,r⟩
 ·exact .inl (Xv _ (SV _ J))
 right;have m:run code nB ⟨xU c q L.length (ap L.length) (aI τ.length 0 0 0) (aI (τ.length+4) 0 0 0) (ap 0) am (aC true) (aC false) am am,f⟩=_:=G;rw[m,bW];have F:τ1[4]?=some (aB 9 L.length (L.map fun p=>xe p.1 p.2)):=r 4 _ (by omega) (a 4 _ (by omega) g.b4);have U:τ1[3]?=some (bO L.length (kA d l.length) (kA b K.length) q.limit):=r 3 _ (by omega) (a 3 _ (by omega) g.b3);have P:=Pv (c:=c) (q:=q) (τ:=τ1) (n:=τ.length+1) (S:=S) (r _ _ (by omega) T) L.length (by omega) (kA d l.length) (kA b K.length) (L.map fun p=>xe p.1 p.2) (by simp) U F (aI τ.length 0 0 0) (ap 0) R (aC true) (aC false) (aC false) (aC false);rw[P];have j:=Y4 (τ1:=τ1) (n:=τ.length+1) (S:=S) (nm':=kA d l.length) (kd':=kA b K.length) g b (fun i o hi w hb u=>r i o hb (a i o hi u)) O n7 U (v.la.keep fun i o hi M u=>r i o (by omega) u) y e rfl (by omega) t E (by omega);have h:cs.length=K.length:=H;refine⟨_,τ.length+1,S,_,_,abt c q L.length base (by omega) _ _ _ _ _ _ _ _ _ _,j,.inr ⟨by simp,d,b,l,cs,rfl,?_,by rw[h],?_,by rw[n3,h],n4,n5,O,?_,?_,by omega⟩⟩
 ·have z:=(ak.1 n1).1;rw[aD (by omega),aD (by omega)];exact r _ _ n4 (a _ _ z n1)
 ·rw[aD (by omega),aD (by omega),h];exact I
 ·intro p k;rcases ba.1 k with k|k
  ·exact n7 p k
  rw[aP.1 k];right;show b<τ.length+1;omega
 rw[dg];show kdU (L.map (fun p=>p.2)++[S])=some cs;rw[Y7 (by simpa using A),n8];exact B
theorem aco{c:List cK}{q:tX}(r:CtK c)(s:∀x∈q.sels,wh x)(base:Nat):∀(m:Nat) (τ:aw) (L:List (Nat×fA)) (d b:aq),L.length+m=q.sels.length→BSt c q τ L d b→NmK τ L d b →
  yX (Tg c q L.length base τ)∨∃(a:aw) (f:List (Nat×fA)) (nm' kd':aq),Tg c q L.length base τ=some (.ext 0,⟨xU c q q.sels.length am am am am am (aC false) am am am,a⟩)∧BSt c q a f nm' kd'∧NmK a f nm' kd'∧f.length=q.sels.length:=by
 intro m;induction m with
 |zero=>
  intro τ L d b e g h;right;have e:L.length=q.sels.length:=by omega
  refine⟨τ,L,d,b,?_,g,h,e⟩;rw[e];unfold Tg;rw[aZ];simp[zi]
 |succ m u=>
  intro τ L d b e g h;have t:=au (show L.length<q.sels.length by omega);rcases aa5 r g h _ t (s _ (aJ _)) base with p|⟨τ1,n,S,k,j,v,l,o⟩
  ·exact .inl p
  have i:(L++[(n,S)]).length=L.length+1:=by simp
  have:=u τ1 (L++[(n,S)]) k j (by omega) l o;rw[i]at this;rw[v];exact this
abbrev kyE(c:List cK)(q:tX)(k:Nat)(e15 e16 e17 e30 e31:aq):List aq:=[mC c,q.a,aI 0 0 0 0,aI 1 0 0 0,aI 2 0 0 0,am,am,ap 0,ap 0,aI 3 0 0 0,am,am,am,am,am,e15,e16,e17,aC false,aC false,.aa false (q.sels.map mL.a),ap q.sels.length,ap q.sels.length,aC false,am,am,am,.aa false ((q.keys.getD []).map BZ.a),ap (q.keys.getD []).length,ap k,e30,e31]
noncomputable abbrev kyR(c:List cK)(q:tX)(k base:Nat)(τ:aw):Option (Ex×St):=bT code base [9999,5,6,15,16,17,30,31] Em ⟨kyE c q k am am am am am,τ⟩
abbrev bP(N:Nat)(nm kd:aq)(ido k:Nat)(lim:Int):Obj:=aB 5 0 [aH [kA 4 N,nm,kd,kA ido k,ap lim]]
theorem YO{c:List cK}{q:tX}{τ:aw}(k:Nat)(t:k<(q.keys.getD []).length)(N e a:Nat)(f:List (List UInt8))(n:aq)(Q:τ[e]?=some (Ej f))(w:f.length≤8000)(F:τ[2]?=some (aB 5 0 [OQ]))(G:τ[3]?=some (bP N (kA e f.length) n a k q.limit))(os:List (Int×Bool))(z:os.length=k)(H:τ[a]?=some (aB 2 k (os.map gT)))(O:5≤a)(base:Nat) :
  yX (kyR c q k base τ)∨∃(g:aw) (x:Int) (d:Bool),kyR c q k base τ=kyR c q (k+1) base g∧0≤x∧x<f.length∧g[3]?=some (bP N (kA e f.length) n a (k+1) q.limit)∧g[a]?=some (aB 2 (k+1) ((os++[(x,d)]).map gT))∧(∀i o,i≠3→i≠a→τ[i]?=some o→g[i]?=some o):=by
 have P:=q.hk;have m:(k:Int)<((q.keys.getD []).length:Int):=by omega
 have V:IntKind.i64.wrap ((k:Int)+1)=(k:Int)+1:=pT (by omega) (by omega);have L:((k+1:Nat):Int)=(k:Int)+1:=by omega
 obtain⟨y,D⟩:∃y,(q.keys.getD [])[k]?=some y:=⟨(q.keys.getD [])[k],au t⟩;have l:∀h:k<(q.keys.getD []).length,(q.keys.getD [])[k]'h=y:=fun h=>(ak.1 D).2;have j:y.a=aH [aO y.name,ap y.number,aC y.desc]:=rfl;obtain⟨x,r,b,C⟩:=ami y true f w;rw[j]at b;have n3:=fu G;have p:=fu Q;have T:=fu F;have U:=fu H;have Z:3<τ.length:=(ak.1 G).1;have Y:2<τ.length:=(ak.1 F).1;have lo:a<τ.length:=(ak.1 H).1;have S:List.take f.length (f.map aq.str)=f.map aq.str:=ay (by simp);unfold kyR;by_cases s:r=0
 ·right;subst s;obtain⟨W,X⟩:=C rfl;have E:((τ++[Obj.arr 3 0 [aH [aO y.name,ap y.number,aC y.desc]]]).set a (aB 2 (k+1) (os.map gT++[aH [ap x,aC y.desc]])))[3]?=some (bP N (kA e f.length) n a k q.limit):=by rw[aD (by omega)];exact n3 _
  have B:List.take k (os.map gT)=os.map gT:=ay (by simp;omega);have u:k+1≤bD:=by unfold bD;omega
  have v:k≤os.length:=by omega
  refine⟨((τ++[Obj.arr 3 0 [aH [aO y.name,ap y.number,aC y.desc]]]).set a (aB 2 (k+1) (os.map gT++[aH [ap x,aC y.desc]]))).set 3 (bP N (kA e f.length) n a (k+1) q.limit),x,y.desc,?_,W,X,by rw[aW (by simp;omega)],?_,fun i o M R hi=>?_⟩
  ·rw[aZ];simp only[kyE,bP,L,Ej]at n3 E p ⊢;simp[Em,m,t,D,l,j,n3,p,U,E,b,append,B,u,v,z,V,fv]
  ·rw[aD (by omega),aW (by simp;omega)];simp[gT]
  rw[aD (by omega),aD (by omega)];exact fu hi _
 left;have A:∃(env:List aq),bT code base [9999,5,6,15,16,17,30,31] Em ⟨kyE c q k am am am am am,τ⟩=some (.ret,⟨env,(τ++[Obj.arr 3 0 [aH [aO y.name,ap y.number,aC y.desc]]]).set 2 (aB 5 0 [OQ])⟩)∧env[4]?=some (aI 2 0 0 0)∧env[5]?=some (ap 90)∧env[6]?=some (ap r):=by
  rw[aZ];simp only[kyE,bP,Ej]at n3 p ⊢;exact⟨_,by simp[Em,m,t,D,l,j,n3,p,T,b,s];rfl,rfl,rfl,rfl⟩
 obtain⟨env,A,I,J,K⟩:=A;exact⟨90,r,env,_,A,s,I,J,K,by rw[aW (by simp;omega)]⟩
theorem acF{c:List cK}{q:tX}(N g e:Nat)(r:List (List UInt8))(C:aq)(A:r.length≤8000)(v:5≤e)(z:g≠e)(G:5≤g)(base:Nat):∀(m k:Nat) (τ:aw) (os:List (Int×Bool)),k+m=(q.keys.getD []).length→os.length=k→(∀o∈os,0≤o.1∧o.1<r.length)→τ[g]?=some (Ej r)→τ[2]?=some (aB 5 0 [OQ])→τ[3]?=some (bP N (kA g r.length) C e k q.limit)→τ[e]?=some (aB 2 k (os.map gT)) →
  yX (kyR c q k base τ)∨∃(n:aw) (f:List (Int×Bool)),kyR c q k base τ=some (.ext 2,⟨kyE c q (q.keys.getD []).length am am am (aC false) am,n⟩)∧f.length=(q.keys.getD []).length∧(∀o∈f,0≤o.1∧o.1<r.length)∧n[3]?=some (bP N (kA g r.length) C e f.length q.limit)∧n[e]?=some (aB 2 f.length (f.map gT))∧(∀i o,i≠3→i≠e→τ[i]?=some o→n[i]?=some o):=by
 intro m;induction m with
 |zero=>
  intro k τ os w l p y s t B;have w:k=(q.keys.getD []).length:=by omega
  right;refine⟨τ,os,?_,by omega,p,by rw[l];exact t,by rw[l];exact B,fun i o _ _ h=>h⟩;rw[w];unfold kyR;rw[aZ];simp[Em]
 |succ m H=>
  intro k τ os w l p y s t B;rcases YO (c:=c) k (by omega) N g e r C y A s t os l B v base with u|⟨τ1,x,d,D,I,J,E,F,keep⟩
  ·exact .inl u
  rcases H (k+1) τ1 (os++[(x,d)]) (by omega) (by simp[l]) (fun o j=>by
   rcases ba.1 j with j|j
   ·exact p o j
   rw[aP.1 j];exact⟨I,J⟩) (keep _ _ (by omega) z y) (keep _ _ (by omega) (by omega) s) E F with u|⟨τ2,f,q2,l2,r2,b3,bo,keep2⟩
  ·left;rw[D];exact u
  exact .inr ⟨τ2,f,D.trans q2,l2,r2,b3,bo,fun i o a b h=>keep2 i o a b (keep i o a b h)⟩
theorem wh.of{s:mL}(h:HA s=true):wh s:=by
 unfold HA at h;simp only[ax]at h;obtain⟨⟨⟨⟨⟨⟨f,_⟩,g⟩,i⟩,_⟩,j⟩,k⟩:=h;have a:∀c:List eO,c.length≤1300→xW c=true→c=[]∨mu c:=fun c l b=>by
  unfold xW at b;simp only[dL,aX,db]at b;rcases b with b|b
  ·exact .inl b
  obtain⟨e,_,_,h⟩:=UV c l;exact .inr (h b)
 refine⟨by simpa using f,fun x d=>?_,fun x d=>?_,a _ s.hw j,a _ s.hh k⟩
 ·have:=bd.1 g x d;unfold zr at this;simp only[ax]at this;obtain⟨e,_,_,h⟩:=UV x.ns x.h;exact h this.1
 have:=bd.1 i x d;unfold AY at this;simp only[ax]at this;obtain⟨e,_,_,h⟩:=UV x.on x.h;exact h this.1
def pP(S:fA):sO:=⟨S.tables,S.joins,S.whr.getD [],S.having.getD [],S.grouped,S.distinct,S.keys,S.ah.map kM.x,S.items.map fun it=>⟨false,it⟩⟩
theorem kM.fz0(g:kM)(base:Nat)(σ:aw)(m:Nat):fz false false base σ (m+4) g.a=va g.x:=by
 obtain⟨t,o⟩:=g;cases o<;>simp[kM.a,kM.x,kM.es,va,sv]
theorem ahC{τ:aw}{n:Nat}{S:fA}(h:LA τ n S)(m:Nat):fz false false 0 τ (m+10) (xe n S)=(pP S).a:=by
 obtain⟨c,d,e,f,i⟩:=h;have k:(pP S).a=aH [.aa false (S.tables.map (.int .i64)),.aa false (S.joins.map JX.a),.aa false ((S.whr.getD []).map EN.a),.aa false ((S.having.getD []).map EN.a),aC S.grouped,aC S.distinct,.aa false (S.keys.map (.int .i64)),.aa false ((S.ah.map kM.x).map va),.aa false ((S.items.map fun it=>(⟨false,it⟩:yV)).map xE)]:=rfl;rw[k];have s:List.take S.tables.length (eD S.tables)=eD S.tables:=ay (by simp);have t:List.take S.joins.length (S.joins.map JX.a)=S.joins.map JX.a:=ay (by simp);have u:List.take S.keys.length (eD S.keys)=eD S.keys:=ay (by simp);have v:List.take S.ah.length (S.ah.map kM.a)=S.ah.map kM.a:=ay (by simp);have w:List.take S.items.length (S.items.map jm)=S.items.map jm:=ay (by simp);have l:∀(j:JX) m,fz false false 0 τ (m+3) j.a=j.a:=fun j m=>Fx.fx false false 0 τ m j;have p:∀(g:kM) m,fz false false 0 τ (m+4) g.a=va g.x:=fun g m=>g.fz0 0 τ m;have r:∀g:kM,aM (va g.x)=2:=fun _=>rfl;have b:∀g:kM,aM g.a=2:=fun _=>rfl;have q:∀j:JX,aM j.a=2:=fun _=>rfl;have a:∀(o:Option (List EN)) m,fz false false 0 τ (m+3) (sv (o.map (·.map EN.a)))=.aa false ((o.getD []).map EN.a):=fun o m=>by cases o<;>simp[sv]
 simp[xe,c,d,e,f,i,s,t,u,v,w,l,p,r,b,q,a,xE,nN]
structure Mu (c:List cK) (q:tX) (b:Dj) (L:List fA):Prop where
 sels:b.selects=L.map pP
 good:∀S∈L,BS S∧S.cat=c∧wh S.fr
 l1:1≤L.length
 l3:L.length≤3
 kd:kdU L=some b.ac
 nm:b.names.length=b.ac.length
 od:∀o∈b.order,0≤o.1∧o.1<b.ac.length
 ol:b.order.length≤3
 lim:Mw b.limit=true
def LD(c:List cK)(q:tX)(v:aq):Prop:=(∃a e:Int,e≠0∧v=fb [aH [.aa false [],.aa false [],.aa false [],.aa false [],ap 0],ap a,ap e])∨∃(b:Dj) (L:List fA),v=fb [b.a,ap 0,ap 0]∧Mu c q b L
abbrev st0(c:List cK)(q:tX):aw:=[aB 1 0 [mC c],aB 3 0 [q.a],aB 5 0 [OQ],bO 0 .ai .ai q.limit,aB 9 0 []]
theorem apV(c:List cK)(q:tX):BSt c q (st0 c q) [] .ai .ai:=⟨rfl,rfl,rfl,rfl,rfl,fun p a=>(by cases a),rfl⟩
theorem acv{c:List cK}{q:tX}(d:bB I.qbb [mC c]=some (ap 0))(m:R5 q=true)(r:Option (Ex×St))
  (f:Tg c q 0 5 (st0 c q)=r) (n:yX r):∃v,bB I.qn [mC c,q.a]=some v∧LD c q v:=by
 obtain⟨a,e,env,τ,rfl,l,i,j,k,h⟩:=n;have b:=Jk q;rw[m]at b;simp only[cw]at b;have g:q.a=aH [.aa false (q.sels.map mL.a),.aa false ((q.keys.getD []).map BZ.a),ap q.limit]:=rfl;refine⟨_,?_,.inl ⟨a,e,l,rfl⟩⟩;rw[aR Yu rfl];unfold Tg at f;simp only[xU,st0,bO,OQ,kA,aY]at f h;rw[g]at f b ⊢;simp[arY,WY,d,b,f,i,j,k,h]
theorem acx{c:List cK}{q:tX}(z:bB I.qbb [mC c]=some (ap 0))(Q:R5 q=true){τ:aw}{L:List (Nat×fA)}{nm kd:aq}
  (C:Tg c q 0 5 (st0 c q)=some (.ext 0,⟨xU c q q.sels.length am am am am am (aC false) am am am,τ⟩)) (y:BSt c q τ L nm kd) (hN:NmK τ L nm kd) (hL:L.length=q.sels.length) (ht:∀x∈q.sels,wh x):∃v,bB I.qn [mC c,q.a]=some v∧LD c q v:=by
 have k:=Jk q;rw[Q]at k;simp only[cw]at k;have H:q.a=aH [.aa false (q.sels.map mL.a),.aa false ((q.keys.getD []).map BZ.a),ap q.limit]:=rfl;have ae:=q.h1;have af:=q.h3;rcases hN with⟨rfl,_⟩|⟨ad,f,d,n,K,rfl,W,rfl,n2,n3,n4,n5,n6,n7,n8,n9⟩
 ·simp at hL;omega
 have O:=y.b3;have l3:=(ak.1 O).1;have ln:=(ak.1 W).1;have lk:=(ak.1 n2).1;have l4:=(ak.1 y.b4).1;have l:∀i o,i≠3→τ[i]?=some o→(τ.set 3 (bP L.length (kA f n.length) (kA d K.length) τ.length 0 q.limit)++[Obj.arr 2 0 []])[i]?=some o:=fun i o hi u=>fu (by rw[aD (by omega)];exact u) _;have k3:(τ.set 3 (bP L.length (kA f n.length) (kA d K.length) τ.length 0 q.limit)++[Obj.arr 2 0 []])[3]?=some (bP L.length (kA f n.length) (kA d K.length) τ.length 0 q.limit):=fu (by rw[aW l3]) _;have ko:(τ.set 3 (bP L.length (kA f n.length) (kA d K.length) τ.length 0 q.limit)++[Obj.arr 2 0 []])[τ.length]?=some (aB 2 0 (([]:List (Int×Bool)).map gT)):=by
  rw[bC (by simp)];simp
 have w:=acF (c:=c) (q:=q) L.length f τ.length n (kA d K.length) (by omega) (by omega) (by omega) n5 (τ.length+1) (q.keys.getD []).length 0 _ [] (by omega) rfl (fun o u=>by cases u) (l _ _ (by omega) W) (l _ _ (by omega) y.b2) k3 ko;generalize M:τ.set 3 (bP L.length (kA f n.length) (kA d K.length) τ.length 0 q.limit)++[Obj.arr 2 0 []]=N at *;have r:τ.set 3 (aB 5 0 [aH [kA 4 L.length,kA f n.length,kA d K.length,.sl τ.length 0 0 0,ap q.limit]])++[Obj.arr 2 0 []]=N:=M;have k1:=l 1 _ (by omega) y.b1;have B:N.length=τ.length+1:=by rw[←M];simp
 unfold Tg at C;simp only[xU,st0,bO,OQ,kA,aY]at C;unfold kyR at w;simp only[kyE,aY]at w;simp only[bO,kA]at O;simp only[kA]at r;rcases w with⟨a,e,env,t,J,he,e4,e5,e6,h2⟩|⟨t,os,J,ol,X,c3,co,keep⟩
 ·refine⟨_,?_,.inl ⟨a,e,he,rfl⟩⟩;rw[aR Yu rfl];rw[H]at C k J k1 ⊢;simp only[OQ]at h2;simp[arY,WY,z,k,C,O,r,B,k1,J,e4,e5,e6,h2]
 have g:∀i o,i≠3→i≠τ.length→τ[i]?=some o→t[i]?=some o:=fun i o a b u=>keep i o a b (l i o a u);have R:t[2]?=some (aB 5 0 [OQ]):=g 2 _ (by omega) (by omega) y.b2;have l2:=(ak.1 R).1;generalize P:t.set 2 (aB 5 0 [aH [kA 4 L.length,kA f n.length,kA d K.length,kA τ.length os.length,ap q.limit]])=s at *;have j:∀i o,i≠2→t[i]?=some o→s[i]?=some o:=fun i o a u=>by rw[←P,aD (by omega)];exact u
 have Z:s[2]?=some (aB 5 0 [aH [kA 4 L.length,kA f n.length,kA d K.length,kA τ.length os.length,ap q.limit]]):=by rw[←P,aW l2]
 have f4:=j 4 _ (by omega) (g 4 _ (by omega) (by omega) y.b4);have fn:=j f _ (by omega) (g f _ (by omega) (by omega) W);have fk:=j d _ (by omega) (g d _ (by omega) (by omega) n2);have fo:=j τ.length _ (by omega) co;have F:∀p∈L,fz false false 0 s 17 (xe p.1 p.2)=(pP p.2).a:=fun p A=>by
  obtain⟨a1,_,_,a4,a5⟩:=y.la p A;exact ahC (a1.keep fun i o hi ab u=>j i o (by omega) (g i o (by omega) (by omega) u)) 7
 refine⟨_,?_,.inr ⟨⟨L.map fun p=>pP p.2,n,K,os,q.limit⟩,L.map fun p=>p.2,rfl,⟨by simp,?_,by simp;omega,by simp;omega,n8,n3,fun o u=>by have:=X o u;rw[←n3];exact this,(show os.length≤3 by have:=q.hk;omega),?_⟩⟩⟩
 ·rw[aR Yu rfl];have D:t[3]?=some (aB 5 0 [aH [kA 4 L.length,kA f n.length,kA d K.length,kA τ.length os.length,ap q.limit]]):=c3;have t4:List.take L.length (L.map fun p=>xe p.1 p.2)=L.map fun p=>xe p.1 p.2:=ay (by simp);have tn:List.take n.length (n.map aq.str)=n.map aq.str:=ay (by simp);have tk:List.take K.length (eD K)=eD K:=ay (by simp);have Y:List.take os.length (os.map gT)=os.map gT:=ay (by simp);have m4:(L.map fun p=>xe p.1 p.2).map (fz false false 0 s 17)=L.map fun p=>(pP p.2).a:=by
   rw[bU];exact aU fun p A=>F p A
  have V:(⟨L.map fun p=>pP p.2,n,K,os,q.limit⟩:Dj).a=aH [.aa false ((L.map fun p=>pP p.2).map sO.a),.aa false (n.map aO),.aa false (K.map (.int .i64)),.aa false (os.map gT),ap q.limit]:=rfl;have T:∀(o:Int×Bool) m,fz false false 0 s (m+3) (gT o)=gT o:=fun o m=>by simp[gT]
  have no:∀o:Int×Bool,aM (gT o)=2:=fun _=>rfl;have nb:∀S:fA,aM (pP S).a=9:=fun _=>rfl;have U:∀a∈L.map (fun p=>xe p.1 p.2),aM (fz false false 0 s 17 a)=aM a:=fun a ha=>by
   obtain⟨p,A,rfl⟩:=bM.1 ha;rw[F p A];rfl
  have G:L.length≤(L.map fun p=>xe p.1 p.2).length:=by simp
  generalize (L.map fun p=>xe p.1 p.2)=ov at *;have E:=eq_true U;rw[H]at C k J k1 ⊢;simp only[kA,OQ]at D R P Z ⊢;simp[arY,WY,z,k,C,O,r,B,k1,J,D,R,P,Z,f4,fn,fk,fo,t4,tn,tk,Y,G,m4,E,T,no,V];intro a x h;rcases h with⟨_,rfl⟩|⟨_,rfl⟩<;>simp[gT]
 ·intro S hS;obtain⟨p,A,rfl⟩:=bM.1 hS;obtain⟨_,a2,a3,_,_⟩:=y.la p A;refine⟨a2,a3,ht _ ?_⟩;have:p.2.fr∈L.map (fun p=>p.2.fr):=bM.2 ⟨p,A,rfl⟩;rw[y.fr]at this;exact cL this
 unfold R5 at Q;simp only[ax]at Q;exact Q.1.1
theorem ahN{c:List cK}(k:CtK c)(b:bB I.qbb [mC c]=some (ap 0))(q:tX):∃v,bB I.qn [mC c,q.a]=some v∧LD c q v:=by
 cases hq:R5 q with
 |false=>
  have a:=Jk q;rw[hq]at a;simp only[bq,cH]at a;have e:q.a=aH [.aa false (q.sels.map mL.a),.aa false ((q.keys.getD []).map BZ.a),ap q.limit]:=rfl;refine⟨_,?_,.inl ⟨0,180,by omega,rfl⟩⟩;rw[aR Yu rfl];rw[e]at a ⊢;simp[arY,WY,b,a]
 |true=>
  have d:∀x∈q.sels,wh x:=fun x l=>by
   unfold R5 at hq;simp only[ax]at hq;exact wh.of (bd.1 hq.2 x l)
  rcases aco k d 5 q.sels.length (st0 c q) [] .ai .ai (by simp) (apV c q) (.inl ⟨rfl,rfl,rfl⟩) with j|⟨τ,L,n,m,f,g,i,h⟩
  ·exact acv b hq _ rfl j
  exact acx b hq f g i h d
end Go.AM
namespace Go.AM
open P
set_option maxHeartbeats 64000000
set_option maxRecDepth 40000
def sX(k:Nat)(n:cJ):cJ:={ n with l:=if 0≤n.l then n.l+k else n.l,r:=if 0≤n.r then n.r+k else n.r }
theorem Re{n:cJ}(h:mQ n):n.bk=false∧n.bc=false∧n.by'=false∧n.bg=false∧n.bi=false∧n.bo=false:=by
 have:=h.z;simp[cJ.a,tu]at this;exact⟨this.1,this.2.1,this.2.2.1,this.2.2.2.1.1,this.2.2.2.2.1.1,this.2.2.2.2.2⟩
theorem MB{n:cJ}(h:mQ n)(k:Nat):gJ k n=sX k n:=by
 obtain⟨a,b,c,d,e,f⟩:=Re h;cases n;simp_all[gJ,sX]
theorem Gx{N M:Nat}{n:cJ}(a:n.op≠8)(ks:List (iG Int))(fs:List Nat):oO N n ks fs=oO M n ks fs:=by
 unfold oO lc;simp[a]
theorem abk(k:Nat)(n:cJ):ir (sX k n)=ir n:=by unfold ir sX;rfl
theorem tJ{fs0 fs:List Nat}{k j:Nat}(a:fs0.length=k)(b:j<fs.length):(fs0++fs.map (·+k)).getD (k+j) 0=fs.getD j 0+k:=by
 subst a;rw[aS,bC (by omega),aS];simp[b]
theorem Zv{k:Nat}{n:cJ}{i:Nat}{fs0 fs:List Nat}(f:fs0.length=k)(x:fs.length=i)(u:iq n.op=2→n.l.toNat < i)(h:(fI n i fs).2=true) :
  fI (sX k n) (k+i) (fs0++fs.map (·+k))=((fI n i fs).1+k,true):=by
 unfold fI at h ⊢;have m:(sX k n).op=n.op:=rfl;rw[m];split at h
 ·rename_i c;rw[if_pos c,if_pos c];simp at h;obtain⟨a,b⟩:=h;simp[sX,a,b];omega
 rename_i c;rw[if_neg c,if_neg c];split at h
 ·rename_i d;rw[if_pos d,if_pos d];split at h
  ·cases h
  rename_i g;have l:n.l=(i:Int)-1:=by omega
  have e:n.r=-1:=by omega
  have hi:i≠0:=by omega
  have p:(sX k n).l=((k+i:Nat):Int)-1:=by simp[sX];rw[if_pos (by omega)];omega
  have r:(sX k n).r=-1:=by simp[sX,e]
  rw[if_neg g,if_neg (by omega)];have:=tJ (fs0:=fs0) (fs:=fs) (k:=k) (j:=i-1) f (by omega);rw[show k+i-1=k+(i-1) by omega,this];simp
 rename_i d;rw[if_neg d,if_neg d];split at h
 ·cases h
 rename_i g;have o:iq n.op=2:=by rcases tI n.op with h|h|h<;>simp_all
 have v:=u o;have hi:i≠0:=by omega
 have e:n.r=(i:Int)-1:=by omega
 have l:n.l=((fs.getD (i-1) 0:Nat):Int)-1:=by omega
 have w:0≤n.l:=by omega
 have q:=tJ (fs0:=fs0) (fs:=fs) (k:=k) (j:=i-1) f (by omega);have p:(sX k n).l=n.l+k:=by simp[sX];omega
 have r:(sX k n).r=((k+i:Nat):Int)-1:=by simp[sX];rw[if_pos (by omega)];omega
 rw[if_neg g,if_neg (by rw[show k+i-1=k+(i-1) by omega,q];omega)];have s:=tJ (fs0:=fs0) (fs:=fs) (k:=k) (j:=n.l.toNat) f (by omega);have t:(sX k n).l.toNat=k+n.l.toNat:=by rw[p];omega
 rw[t,s];simp
theorem DY{a ks:List (iG Int)}{k:Nat}(b:a.length=k){x:Int}(c:0≤x):(a++ks)[(x+k).toNat]?=ks[x.toNat]?:=by
 subst b;rw[bC (by omega)];congr 1;omega
theorem ajr{N k:Nat}{n:cJ}{d ks:List (iG Int)}(h:d.length=k)(m:n.op≠8)(i:n.op≠1→0≤n.l)(f:n.op=2∨n.op=7→0≤n.r):lc N (d++ks) (sX k n)=lc 0 ks n:=by
 unfold lc;have j:(sX k n).op=n.op:=rfl;rw[j];by_cases c:n.op=1
 ·rw[if_pos c,if_pos c];rfl
 rw[if_neg c,if_neg c];have i:=i c;have l:(sX k n).l=n.l+k:=by simp[sX];omega
 rw[l,DY h i];cases ks[n.l.toNat]? with
 |none=>rfl
 |some a=>
  simp only[cF];by_cases b:n.op=2
  ·have g:(sX k n).r=n.r+k:=by have:=f (.inl b);simp[sX];omega
   rw[if_pos b,if_pos b,g,DY h (f (.inl b))];rfl
  rw[if_neg b,if_neg b];by_cases e:n.op=7
  ·have g:(sX k n).r=n.r+k:=by have:=f (.inr e);simp[sX];omega
   simp only[e];rw[g,DY h (f (.inr e))];rfl
  simp only[e,cH,m];rfl
theorem tT{b σ ρ:Type}(g:Nat→b→σ→σ⊕ρ)(l m:List b):∀k s,dt g (l++m) k s=match dt g l k s with
  |.inl s'=>dt g m (k+l.length) s'
  |.inr r=>.inr r:=by
 induction l with
 |nil=>intro k s;rfl
 |cons a l c=>
  intro k s;simp only[bY,dt];cases g k a s with
  |inr r=>rfl
  |inl s'=>
   simp only;rw[c];simp only[bw];rw[show k+1+l.length=k+(l.length+1) by omega]
theorem aaX{n:cJ}{i:Nat}{fs:List Nat}(h:(fI n i fs).2=true):(iq n.op=1→0≤n.l)∧(iq n.op=2→0≤n.l∧0≤n.r):=by
 unfold fI at h;split at h
 ·rename_i a;exact⟨fun h=>by omega,fun h=>by omega⟩
 split at h
 ·rename_i b;split at h
  ·cases h
  exact⟨fun _=>by omega,fun h=>by omega⟩
 split at h
 ·cases h
 exact⟨fun h=>by omega,fun _=>by omega⟩
theorem aeB{N:Nat}{n:cJ}{ks:List (iG Int)}{fs:List Nat}{r:iG Int}{f:Nat}(h:oO N n ks fs=some (r,f)) :
  (decide (1≤n.op)&&decide (n.op≤8)&&ir n)=true∧(fI n ks.length fs).2=true∧lc N ks n=some r∧r.l.length≤16∧f=(fI n ks.length fs).1.toNat:=by
 unfold oO at h;split at h
 ·cases h
 rename_i a;split at h
 ·cases h
 rename_i c b;split at h
 ·cases h
 cases h;simp only[kV,not_or,Bool.not_eq_false]at a;exact⟨by simp[a.1.1.1,a.1.1.2,a.1.2],a.2,b,by omega,rfl⟩
theorem Cg{N:Nat}{n:cJ}{ks:List (iG Int)}{fs:List Nat}{r:iG Int}(a:(decide (1≤n.op)&&decide (n.op≤8)&&ir n)=true)(b:(fI n ks.length fs).2=true)(c:lc N ks n=some r)(d:r.l.length≤16) :
  oO N n ks fs=some (r,(fI n ks.length fs).1.toNat):=by
 unfold oO;rw[a,b,c];simp only[jI,Bool.true_eq_false,cH];rw[if_neg (by omega)]
theorem acJ{N k i:Nat}{n:cJ}{b ks:List (iG Int)}{fs0 fs:List Nat}{r:iG Int}{f:Nat}(u:b.length=k)(x:fs0.length=k)(hi:ks.length=i)(z:fs.length=i)(y:n.op≠8)(h:oO 0 n ks fs=some (r,f))(C:0≤(fI n i fs).1) :
  oO N (sX k n) (b++ks) (fs0++fs.map (·+k))=some (r,f+k):=by
 obtain⟨v,m,j,w,t⟩:=aeB h;rw[hi]at m t;have d:=aaX m;have B:n.op=1∨iq n.op=1∨iq n.op=2:=by
  by_cases e:n.op=1
  ·exact .inl e
  rcases tI n.op with h|h|h
  ·unfold iq at h;rw[if_neg e]at h;split at h<;>omega
  ·exact .inr (.inl h)
  exact .inr (.inr h)
 have p:n.op≠1→0≤n.l:=fun e=>by
  rcases B with h|h|h
  ·exact absurd h e
  ·exact d.1 h
  exact (d.2 h).1
 have s:n.op=2∨n.op=7→iq n.op=2:=fun h=>by unfold iq;rcases h with h|h<;>simp[h]
 have l:=ajr (N:=N) u y p (fun h=>(d.2 (s h)).2) (ks:=ks);rw[j]at l;have q:iq n.op=2→n.l.toNat < i:=fun o=>by
  have A:n.op=2∨n.op=7:=by
   unfold iq at o;split at o
   ·omega
   split at o
   ·assumption
   omega
  have e:n.op≠1:=by omega
  unfold lc at j;rw[if_neg e]at j;obtain⟨a,l,_⟩:=aL.1 j;have:=(ak.1 l).1;omega
 have g:=Zv (fs0:=fs0) x z q m;have c:(b++ks).length=k+i:=by simp[u,hi]
 have:=Cg (N:=N) (n:=sX k n) (ks:=b++ks) (fs:=fs0++fs.map (·+k)) (r:=r) (by rw[abk];exact v) (by rw[c,g]) l w;rw[c,g]at this;rw[this];congr 2;rw[t];simp only;omega
theorem Wt{n:cJ}{i:Nat}{fs:List Nat}:0≤(fI n i fs).1:=by
 unfold fI
 repeat' split
 all_goals simp
theorem UD{N k:Nat}{b:List (iG Int)}{fs0:List Nat}(g:b.length=k)(e:fs0.length=k):∀(u:List cJ) (i:Nat) (ks:List (iG Int)) (fs:List Nat) (s:List (iG Int)×List Nat),ks.length=i→fs.length=i→(∀n∈u,n.op≠8) →
  dt (iz 0) u i (ks,fs)=.inl s→dt (iz N) (u.map (sX k)) (k+i) (b++ks,fs0++fs.map (·+k))=.inl (b++s.1,fs0++s.2.map (·+k)):=by
 intro u;induction u with
 |nil=>
  intro i ks fs s _ _ _ h;simp only[dt]at h;cases h;rfl
 |cons n u m=>
  intro i ks fs s hi d c h;simp only[dt,iz]at h;cases hs:oO 0 n ks fs with
  |none=>rw[hs]at h;cases h
  |some q=>
   obtain⟨r,f⟩:=q;rw[hs]at h;simp only at h;have j:=acJ (N:=N) g e hi d (c n (by simp)) hs Wt;have a:=m (i+1) (ks++[r]) (fs++[f]) s (by simp[hi]) (by simp[d]) (fun n l=>c n (by simp[l])) h;simp only[aV,dt,iz];rw[j];simp only;rw[show k+(i+1)=k+i+1 by omega]at a;simp only[dg,aV,bm]at a;rw[dy,dy];exact a
theorem Hp{N:Nat}:∀(u:List cJ) (i:Nat) (s:List (iG Int)×List Nat),(∀n∈u,n.op≠8)→dt (iz N) u i s=dt (iz 0) u i s:=by
 intro u;induction u with
 |nil=>intro i s _;rfl
 |cons n u c=>
  intro i s h;have a:iz N i n s=iz 0 i n s:=by unfold iz;rw[Gx (N:=N) (M:=0) (h n (by simp))]
  simp only[dt];rw[a];cases iz 0 i n s with
  |inr _=>rfl
  |inl s'=>exact c _ _ fun n b=>h n (by simp[b])
structure TR (t:List cJ) (K:List Int):Prop where
 own:∀n∈t,mQ n
 ns:∀n∈t,NS n
 nosort:∀n∈t,n.op≠8
 pos:0<t.length
 le:t.length≤60
 look:∃s:List (iG Int)×List Nat,dt (iz 0) t 0 ([],[])=.inl s∧s.1.length=t.length∧s.2.length=t.length∧s.2.getD (t.length-1) 0=0∧∃r,s.1[t.length-1]?=some r∧r.l=K
theorem TR.lookF{t:List cJ}{K:List Int}(h:TR t K):∃s,lookF t=some s:=by
 obtain⟨s,a,_,_,b,_⟩:=h.look;refine⟨s,?_⟩;unfold Go.AM.lookF;rw[if_neg (by have:=h.pos;have:=h.le;omega),Hp t 0 _ h.nosort,a];simp only;rw[if_pos b]
theorem afA(n:cJ):sX 0 n=n:=by
 cases n;simp[sX]
theorem C9{t:List cJ}(h:∀n∈t,mQ n)(k:Nat):t.map (gJ k)=t.map (sX k):=aU fun n a=>MB (h n a) k
theorem Gw(t:List cJ):t.map (sX 0)=t:=by
 have:∀n∈t,sX 0 n=id n:=fun n _=>afA n;rw[aU this,yA]
theorem we{n:cJ}(h:mQ n)(l r:Int):mQ (eQ n l r):=by
 have b:=Re h;obtain⟨c,d,e,f,g,i⟩:=b;have a:=tY (n:=eQ n l r) ⟨h.fl.ag,h.fl.ex⟩ ⟨h.fit.ac,h.fit.cond,h.fit.keys,h.fit.ah,h.fit.args,h.fit.items,h.fit.exprs,h.fit.ords⟩ 0;have:gJ 0 (eQ n l r)=eQ n l r:=by
  cases n;simp_all[gJ,eQ]
 rw[this]at a;exact a
theorem C6{n:cJ}(h:mQ n)(l r:Int):gJ 0 (eQ n l r)=eQ n l r:=by
 have:=MB (we h l r) 0;rw[afA]at this;exact this
theorem Ae{t:List cJ}{m:cJ}{s:List (iG Int)×List Nat}{r:iG Int}(d:t.length<60)(h:dt (iz (t.length+1)) t 0 ([],[])=.inl s)(c:oO (t.length+1) m s.1 s.2=some (r,0))(b:s.2.length=t.length) :
  lookF (t++[m])=some (s.1++[r],s.2++[0]):=by
 unfold lookF;rw[if_neg (by simp;omega)];have a:(t++[m]).length=t.length+1:=by simp
 rw[a,tT,h];simp only[dt,iz,c];have:(s.2++[0]).getD (t.length+1-1) 0=0:=by
  rw[aS];simp[b]
 simp only[this,cw]
structure Un (n:cJ) (K K':List Int):Prop where
 own:mQ n
 ns:NS n
 op:n.op=3∨n.op=4∨n.op=5∨n.op=6
 blank:ir n=true
 asks:∀ks:List (iG Int),∀l a,0≤l→ks[l.toNat]?=some a→a.l=K→∃r,lc 0 ks (eQ n l (-1))=some r∧r.l=K'
 le:K'.length≤16
theorem zL(n:cJ)(l r:Int):ir (eQ n l r)=ir n:=by unfold ir eQ;rfl
theorem ua{t:List cJ}{K u:List Int}(h:TR t K){n:cJ}(c:Un n K u)(F:t.length<60):ed n (some t)=some (t++[eQ n ((t.length:Int)-1) (-1)])∧TR (t++[eQ n ((t.length:Int)-1) (-1)]) u:=by
 obtain⟨s,w,k,l,C,r,D,E⟩:=h.look;have H:=h.pos;have e:((t.length:Int)-1).toNat=t.length-1:=by omega
 obtain⟨j,B,v⟩:=c.asks s.1 ((t.length:Int)-1) r (by omega) (by rw[e];exact D) E;have f:=c.op;have b:(eQ n ((t.length:Int)-1) (-1)).op=n.op:=rfl;have x:(eQ n ((t.length:Int)-1) (-1)).op≠8:=by rw[b];omega
 have p:iq n.op=1:=by unfold iq;rcases f with h|h|h|h<;>simp[h]
 have d:fI (eQ n ((t.length:Int)-1) (-1)) t.length s.2=(0,true):=by
  unfold fI;rw[b,if_neg (by omega),if_pos p];have y:(eQ n ((t.length:Int)-1) (-1)).l=(t.length:Int)-1:=rfl;have z:(eQ n ((t.length:Int)-1) (-1)).r=-1:=rfl;rw[y,z,if_neg (by omega),C];rfl
 have g:oO 0 (eQ n ((t.length:Int)-1) (-1)) s.1 s.2=some (j,0):=by
  have:=Cg (N:=0) (n:=eQ n ((t.length:Int)-1) (-1)) (ks:=s.1) (fs:=s.2) (r:=j) (by rw[b,zL,c.blank];rcases f with h|h|h|h<;>simp[h]) (by rw[k,d]) B (by rw[v];exact c.le);rw[this,k,d];rfl
 have i:oO (t.length+1) (eQ n ((t.length:Int)-1) (-1)) s.1 s.2=some (j,0):=by rw[Gx (M:=0) x];exact g
 have o:=Ae (m:=eQ n ((t.length:Int)-1) (-1)) F (by rw[Hp t 0 _ h.nosort];exact w) i l;obtain⟨q,G⟩:=h.lookF;refine⟨?_,?_⟩
 ·unfold ed iA;simp only[cF,dt,pc,G,kg,cw,bX,bE];rw[show (((0:Nat):Int))=((0:Nat):Int) from rfl,C9 h.own 0,Gw];have A:((0:Nat):Int)+(t.length:Int)-1=(t.length:Int)-1:=by omega
  rw[A,C6 c.own,o];rfl
 refine⟨?_,?_,?_,by simp,by simp;omega,?_⟩
 ·intro m a;rcases ba.1 a with a|a
  ·exact h.own m a
  rw[aP.1 a];exact we c.own _ _
 ·intro m a;rcases ba.1 a with a|a
  ·exact h.ns m a
  rw[aP.1 a];exact⟨(we c.own _ _).fit,c.ns.keys,c.ns.ah,c.ns.items⟩
 ·intro m a;rcases ba.1 a with a|a
  ·exact h.nosort m a
  rw[aP.1 a];exact x
 refine⟨(s.1++[j],s.2++[0]),?_,by simp[k],by simp[l],?_,j,?_,v⟩
 ·rw[tT,w];simp only[dt,iz,g]
 ·rw[aS];simp[l]
 simp[k]
structure Bi (n:cJ) (K L K':List Int):Prop where
 own:mQ n
 ns:NS n
 op:n.op=2∨n.op=7
 blank:ir n=true
 asks:∀ks:List (iG Int),∀l r a b,0≤l→0≤r→ks[l.toNat]?=some a→ks[r.toNat]?=some b→a.l=K→b.l=L→∃q,lc 0 ks (eQ n l r)=some q∧q.l=K'
 le:K'.length≤16
theorem D0{t u:List cJ}{K L R:List Int}(h:TR t K)(c:TR u L){n:cJ}(g:Bi n K L R)(hl:t.length+u.length<60) :
  lf n (some t) (some u)=some (t++u.map (sX t.length)++[eQ n ((t.length:Int)-1) ((t.length:Int)+u.length-1)])∧TR (t++u.map (sX t.length)++[eQ n ((t.length:Int)-1) ((t.length:Int)+u.length-1)]) R:=by
 obtain⟨s,h1,E,F,h4,U,h5,h6⟩:=h.look;obtain⟨w,g1,g2,g3,g4,V,g5,g6⟩:=c.look;have hp:=h.pos;have ad:=c.pos;have A:=UD (N:=0) E F u 0 [] [] w rfl rfl c.nosort g1;simp only[ew,dK,bm]at A;have e:dt (iz 0) (t++u.map (sX t.length)) 0 ([],[])=.inl (s.1++w.1,s.2++w.2.map (·+t.length)):=by
  rw[tT,h1];simp only[cE];exact A
 have b:(t++u.map (sX t.length)).length=t.length+u.length:=by simp
 have f:(s.1++w.1).length=t.length+u.length:=by simp[E,g2]
 have l:(s.2++w.2.map (·+t.length)).length=t.length+u.length:=by simp[F,g3]
 have G:(s.1++w.1)[((t.length:Int)-1).toNat]?=some U:=by
  rw[show ((t.length:Int)-1).toNat=t.length-1 by omega,aQ (by omega)];exact h5
 have H:(s.1++w.1)[((t.length:Int)+u.length-1).toNat]?=some V:=by
  rw[show ((t.length:Int)+u.length-1).toNat=t.length+(u.length-1) by omega,bC (by omega),E,show t.length+(u.length-1)-t.length=u.length-1 by omega];exact g5
 obtain⟨D,X,S⟩:=g.asks (s.1++w.1) ((t.length:Int)-1) ((t.length:Int)+u.length-1) U V (by omega) (by omega) G H h6 g6;generalize o:eQ n ((t.length:Int)-1) ((t.length:Int)+u.length-1)=m at *;have i:m.op=n.op:=by rw[←o];rfl
 have O:m.l=(t.length:Int)-1:=by rw[←o];rfl
 have P:m.r=(t.length:Int)+u.length-1:=by rw[←o];rfl
 have J:ir m=true:=by rw[←o,zL];exact g.blank
 have z:mQ m:=by rw[←o];exact we g.own _ _
 have T:m.op≠8:=by rw[i];have:=g.op;omega
 have ab:iq m.op=2:=by rw[i];unfold iq;rcases g.op with h|h<;>simp[h]
 have v:fI m (t.length+u.length) (s.2++w.2.map (·+t.length))=(0,true):=by
  unfold fI;have Y:(s.2++w.2.map (·+t.length)).getD (t.length+u.length-1) 0=t.length:=by
   have:=tJ (fs0:=s.2) (fs:=w.2) (k:=t.length) (j:=u.length-1) F (by omega);rw[show t.length+u.length-1=t.length+(u.length-1) by omega,this,g4];omega
  have Z:(s.2++w.2.map (·+t.length)).getD (t.length-1) 0=0:=by
   rw[aS,aQ (by omega),←List.getD_eq_getElem?_getD];exact h4
  rw[if_neg (by omega),if_neg (by omega),O,P,Y,if_neg (by omega)];rw[show ((t.length:Int)-1).toNat=t.length-1 by omega,Z];rfl
 have C:oO 0 m (s.1++w.1) (s.2++w.2.map (·+t.length))=some (D,0):=by
  have:=Cg (N:=0) (n:=m) (ks:=s.1++w.1) (fs:=s.2++w.2.map (·+t.length)) (r:=D) (by rw[J,i];rcases g.op with h|h<;>simp[h]) (by rw[f,v]) X (by rw[S];exact g.le);rw[this,f,v];rfl
 have B:∀x∈t++u.map (sX t.length),x.op≠8:=by
  intro x a;rcases ba.1 a with a|a
  ·exact h.nosort x a
  obtain⟨y,d,rfl⟩:=bM.1 a;exact c.nosort y d
 have I:=Ae (t:=t++u.map (sX t.length)) (m:=m) (s:=(s.1++w.1,s.2++w.2.map (·+t.length))) (r:=D) (by rw[b];exact hl) (by rw[Hp _ 0 _ B];exact e) (by rw[Gx (M:=0) T];exact C) (by rw[b];exact l);obtain⟨q,hq⟩:=h.lookF;obtain⟨q2,Q⟩:=c.lookF;have p:∀y∈u,mQ (sX t.length y)∧NS (sX t.length y):=fun y d=>by
  have:=tY (c.own y d).fl (c.own y d).fit t.length;rw[MB (c.own y d)]at this;exact⟨this,⟨this.fit,(c.ns y d).keys,(c.ns y d).ah,(c.ns y d).items⟩⟩
 refine⟨?_,?_⟩
 ·unfold lf iA;have W:((0:Nat):Int)+(t.length:Int)-1=(t.length:Int)-1:=by omega
  simp only[cF,dt,pc,hq,Q,kg,cw,bX,bE,W];rw[C9 h.own 0,Gw,C9 c.own];simp only[cE,Nat.one_ne_zero,cH];rw[C6 g.own,o,I];rfl
 refine⟨?_,?_,?_,by simp;omega,by simp;omega,?_⟩
 ·intro x a;rcases ba.1 a with a|a
  ·rcases ba.1 a with a|a
   ·exact h.own x a
   obtain⟨y,d,rfl⟩:=bM.1 a;exact (p y d).1
  rw[aP.1 a];exact z
 ·intro x a;rcases ba.1 a with a|a
  ·rcases ba.1 a with a|a
   ·exact h.ns x a
   obtain⟨y,d,rfl⟩:=bM.1 a;exact (p y d).2
  rw[aP.1 a];exact⟨z.fit,by rw[←o];exact g.ns.keys,by rw[←o];exact g.ns.ah,by rw[←o];exact g.ns.items⟩
 ·intro x a;rcases ba.1 a with a|a
  ·exact B x a
  rw[aP.1 a];exact T
 refine⟨(s.1++w.1++[D],s.2++w.2.map (·+t.length)++[0]),?_,by rw[cn,f,cn,b];rfl,by rw[cn,l,cn,b];rfl,?_,D,?_,S⟩
 ·rw[tT,e];simp only[dt,iz,C]
 ·rw[aS,bC (by rw[l,cn,b];simp)];rw[cn,b,l];simp
 rw[bC (by rw[f,cn,b];simp),cn,b,f];simp
theorem aaq{e:List EN}{K:List Int}(h:jq e K=true)(j:e.length≤uX)(i:K.length≤16):Un (rB e) K K:=by
 have c:=CV j;refine⟨c.1,c.2,.inl rfl,by simp[ir,rB,dA],?_,i⟩;intro ks l a k g b;refine⟨a,?_,b⟩;have:(eQ (rB e) l (-1)).op=3:=rfl;have d:(eQ (rB e) l (-1)).l=l:=rfl;have f:(eQ (rB e) l (-1)).cond=e:=rfl;unfold lc;rw[this,d,f,g];simp only[cF,b,h];simp
theorem Xt{k:List Int}{g:List kU}{K:List Int}(r:k.length≤3)(q:g.length≤12)(b:0<k.length+g.length)(e:vh k K=true)(c:g.all (fun x=>(Cz K x).1)=true)(d:∀x∈g,x.arg.length≤uX)(p:∀x∈g,x.b=false) :
  Un (jn k g) K (k.map (fun x=>K.getD x.toNat 0)++g.map (vb K)):=by
 have f:=MA (ks:=k) (gs:=g) (by omega) (by omega) d p;refine⟨f.1,f.2,.inr (.inl rfl),by simp[ir,jn,dA],?_,by simp;omega⟩;intro ks l a s o n;have h:(eQ (jn k g) l (-1)).op=4:=rfl;have i:(eQ (jn k g) l (-1)).l=l:=rfl;have j:(eQ (jn k g) l (-1)).keys=k:=rfl;have m:(eQ (jn k g) l (-1)).ah=g:=rfl;refine⟨_,by
  unfold lc vg D3;rw[h,i,j,m,o];simp only[cF,n,e,c,r,q,b,decide_true,lL];simp;rfl,rfl⟩
theorem adQ{es:List yV}{K:List Int}(h:1≤es.length)(b:es.length≤16)(m:es.all (fun e=>(eG e.l K).2==0)=true)(n:∀e∈es,e.l.length≤uX)(k:∀e∈es,e.b=false) :
  Un (mK es) K (es.map fun e=>(eG e.l K).1):=by
 have c:=G7 (es:=es) (by omega) n k;refine⟨c.1,c.2,.inr (.inr (.inl rfl)),by simp[ir,mK,dA],?_,by simpa using b⟩;intro ks l a o j i;have d:(eQ (mK es) l (-1)).op=5:=rfl;have f:(eQ (mK es) l (-1)).l=l:=rfl;have g:(eQ (mK es) l (-1)).items=es:=rfl;refine⟨_,by
  unfold lc;rw[d,f,g,j];simp only[cF,i,m,h,b,decide_true,lL];simp;rfl,rfl⟩
theorem aju{K:List Int}(f:K.length≤16):Un vN K K:=by
 refine⟨Aj.1,Aj.2,.inr (.inr (.inr rfl)),by simp[ir,vN,dA],?_,f⟩;intro ks l a g e d;refine⟨a,?_,d⟩;have b:(eQ vN l (-1)).op=6:=rfl;have c:(eQ vN l (-1)).l=l:=rfl;unfold lc;rw[b,c,e];simp
theorem adX{j:JX}{K L:List Int}(h:jq j.on (K++L)=true)(q:j.on.length≤uX)(p:K.length+L.length≤16):Bi (kw j) K L (K++L):=by
 have c:=IM q;refine⟨c.1,c.2,.inl rfl,by simp[ir,kw,dA],?_,by simpa using p⟩;intro ks l r a b s i n o k m;have d:(eQ (kw j) l r).op=2:=rfl;have e:(eQ (kw j) l r).l=l:=rfl;have f:(eQ (kw j) l r).r=r:=rfl;have g:(eQ (kw j) l r).cond=j.on:=rfl;refine⟨_,by
  unfold lc;rw[d,e,f,g,n];simp only[cF,o,k,m,h];simp;rfl,rfl⟩
theorem KI:∀(a b M:List Int),jw a b=some M→M.length=a.length
 |[],_,M,h=>by simp[jw]at h;subst h;rfl
 |_::_,[],M,h=>by simp[jw]at h
 |k::a,o::b,M,h=>by
  by_cases c:o≠0∧o≠(if k=0 then o else k)
  ·rw[jw,if_pos c]at h;cases h
  rw[jw,if_neg c]at h;obtain⟨m,e,d⟩:=aT.1 h;rw[←d,bw,KI a b m e,bw]
theorem aby{K L M:List Int}(c:K.length=L.length)(h:jw K L=some M)(n:K.length≤16):Bi px K L M:=by
 refine⟨zN.1,zN.2,.inr rfl,by simp[ir,px,dA],?_,by rw[KI _ _ _ h];exact n⟩;intro ks l r a b o g k m i j;have d:(eQ px l r).op=7:=rfl;have e:(eQ px l r).l=l:=rfl;have f:(eQ px l r).r=r:=rfl;refine⟨_,by
  unfold lc;rw[d,e,f,k];simp only[cF,m,i,j,h,c];simp;rfl,rfl⟩
structure WU (ks:List Int):Prop where
 pos:0<ks.length
 le:ks.length≤4
 kd:∀k∈ks,1≤k∧k≤3
abbrev JP(c:List cK)(t:Int):cJ:=eQ (kj t ((c[t.toNat]?.map cK.ac).getD [])) (-1) (-1)
theorem Pb{c:List cK}{t:Int}(q:0≤t)(x:t<c.length)(y:t<4)(j:WU ((c[t.toNat]?.map cK.ac).getD [])):jF c t=some [JP c t]∧TR [JP c t] ((c[t.toNat]?.map cK.ac).getD []):=by
 unfold JP jF;rw[if_pos ⟨q,x⟩];generalize (c[t.toNat]?.map cK.ac).getD []=ks at *;have o:=j.le;have f:=j.pos;have e:=HR t (ks:=ks) (by omega);have v:mQ (eQ (kj t ks) (-1) (-1)):=we e.1 _ _;have a:ks.any (fun k=>decide (k<1) ||decide (3<k))=false:=by
  rw[cS];intro k l;have:=j.kd k l;simp;omega
 have p:Hn (eQ (kj t ks) (-1) (-1))=true:=by
  unfold Hn;have h:(eQ (kj t ks) (-1) (-1)).ac=ks:=rfl;have w:(eQ (kj t ks) (-1) (-1)).tab=t:=rfl;rw[h,w,a];simp[q,y,f,o]
 have g:oO 0 (eQ (kj t ks) (-1) (-1)) [] []=some (⟨false,ks⟩,0):=by
  have u:fI (eQ (kj t ks) (-1) (-1)) ([]:List (iG Int)).length []=(0,true):=rfl;have i:ir (kj t ks)=true:=by simp[ir,kj,dA]
  have:=Cg (N:=0) (n:=eQ (kj t ks) (-1) (-1)) (ks:=[]) (fs:=[]) (r:=⟨false,ks⟩) (by rw[zL,i];rfl) (by rw[u]) (by
   unfold lc;have h:(eQ (kj t ks) (-1) (-1)).op=1:=rfl;rw[h,p];rfl) (by simp;omega)
  rw[this,u];rfl
 have z:dt (iz 0) [eQ (kj t ks) (-1) (-1)] 0 ([],[])=.inl ([⟨false,ks⟩],[0]):=by
  simp only[dt,iz,g];rfl
 have b:=Ae (t:=[]) (m:=eQ (kj t ks) (-1) (-1)) (s:=([],[])) (r:=⟨false,ks⟩) (by simp) rfl (by rw[Gx (M:=0) (by show (1:Int)≠8;omega)];exact g) rfl;refine⟨?_,⟨?_,?_,?_,by simp,by simp,⟨([⟨false,ks⟩],[0]),z,rfl,rfl,rfl,⟨false,ks⟩,rfl,rfl⟩⟩⟩
 ·unfold iA;simp only[dt];rw[C6 e.1];rw[show ([]:List cJ)++[eQ (kj t ks) (-1) (-1)]=[eQ (kj t ks) (-1) (-1)] from rfl]at b ⊢;rw[b];rfl
 ·intro n d;rw[aP.1 d];exact v
 ·intro n d;rw[aP.1 d];exact⟨v.fit,e.2.keys,e.2.ah,e.2.items⟩
 intro n d;rw[aP.1 d];show (1:Int)≠8;omega
theorem XO{c:List cK}{a:List Int}{d:List JX}(i:Jg c a d)(l:∀t∈a,WU (Af c t))(J:c.length≤4)(I:a.length≤3):∀(m k:Nat) (t:List cJ),k+m=a.length→1≤k→TR t (yq c (a.take k))→t.length=2*k-1→(yq c (a.take k)).length≤4*k →
  ∃s,((d.drop (k-1)).zip (a.drop k)).foldl (fun o p=>lf (kw p.1) o (jF c p.2)) (some t)=some s∧TR s (yq c a)∧s.length=2*a.length-1:=by
 intro m;induction m with
 |zero=>
  intro k t q y h u _;have q:k=a.length:=by omega
  subst q;rw[dw]at h;exact⟨t,by simp,h,u⟩
 |succ m B=>
  intro k t q y h u z;have b:k<a.length:=by omega
  have w:=i.len;have g:k-1<d.length:=by omega
  have hd:a.drop k=a[k]::a.drop (k+1):=dl b;have n:d.drop (k-1)=d[k-1]::d.drop k:=by
   have:=dl g;rw[show k-1+1=k by omega]at this;exact this
  rw[hd,n,fS,dZ];obtain⟨C,D⟩:=i.rng _ (aJ b);have e:=l _ (aJ b);obtain⟨E,F⟩:=Pb (c:=c) (t:=a[k]) C D (by omega) e;obtain⟨L,x⟩:=i.on (k-1) d[k-1] (au g);have f:yq c (a.take (k+1))=yq c (a.take k)++Af c a[k]:=by
   show List.flatMap (Af c) (a.take (k+1))=List.flatMap (Af c) (a.take k)++Af c a[k];rw[dr b,mb,gc,List.flatMap_nil,dK]
  rw[show k-1+2=k+1 by omega,f]at x;have A:((c[a[k].toNat]?.map cK.ac).getD []).length≤4:=e.le;have K:1000≤uX:=by decide
  obtain⟨G,H⟩:=D0 h F (adX (j:=d[k-1]) x (by omega) (by omega)) (by simp;omega);simp only;rw[E,G];have r:(t++[JP c a[k]].map (sX t.length)++[eQ (kw d[k-1]) ((t.length:Int)-1) ((t.length:Int)+([JP c a[k]]:List cJ).length-1)]).length=2*(k+1)-1:=by simp;omega
  have:=B (k+1) _ (by omega) (by omega) (by rw[f];exact H) r (by rw[f,cn];have v:=e.le;omega);rw[show k+1-1=k by omega]at this;exact this
theorem Wx{c:List cK}{S:fA}(j:BS S)(b:S.cat=c)(e:∀t∈S.tables,WU (Af c t))(u:c.length≤4):∃t,pY c (pP S)=some t∧TR t S.ac∧t.length≤5:=by
 have i:=j.js;rw[b]at i;have q:=i.len;have w:=j.jl;have p:=j.kd;rw[b]at p;have k:(pP S).tables=S.tables:=rfl;have m:(pP S).joins=S.joins:=rfl;unfold pY;rw[k,m,if_neg (by omega)];have d:0<S.tables.length:=by omega
 have v:S.tables=S.tables[0]::S.tables.drop 1:=by
  have:=dl d;simpa using this
 obtain⟨x,y⟩:=i.rng _ (aJ d);have g:=e _ (aJ d);obtain⟨z,A⟩:=Pb (c:=c) (t:=S.tables[0]) x y (by omega) g;have n:S.tables.headD 0=S.tables[0]:=by
  have:∀(l:List Int) (h:0<l.length),l.headD 0=l[0]:=fun l h=>by cases l with
   |nil=>simp at h
   |cons a r=>rfl
  exact this _ d
 have o:S.tables.tail=S.tables.drop 1:=by simp
 rw[n,o,z];have f:yq c (S.tables.take 1)=Af c S.tables[0]:=by
  show List.flatMap (Af c) (S.tables.take 1)=_;rw[show (1:Nat)=0+1 from rfl,dr d,mb,gc,List.flatMap_nil,dK];simp
 obtain⟨B,s,C,D⟩:=XO i e u (by omega) (S.tables.length-1) 1 [JP c S.tables[0]] (by omega) (by omega) (by rw[f];exact A) (by simp) (by rw[f];have:=g.le;omega);refine⟨B,?_,by rw[p];exact C,by omega⟩;rw[show (1:Nat)-1=0 from rfl,nq]at s;exact s
theorem Zp{S:fA}{t:List cJ}{K:List Int}(h:TR t K)(m:t.length≤20)(f:K.length≤16)(a:Ef S.whr K):∃d,zp (pP S) (some t)=some d∧TR d K∧d.length≤t.length+1:=by
 have g:(pP S).whr=S.whr.getD []:=rfl;have l:1000≤uX:=by decide
 unfold zp;rw[g];by_cases b:S.whr.getD []=[]
 ·rw[if_pos b];exact⟨t,rfl,h,by omega⟩
 rw[if_neg b];rcases a with a|⟨es,a,k,c⟩
 ·rw[a]at b;exact absurd rfl b
 rw[a];obtain⟨i,j⟩:=ua h (aaq (e:=es) c (by omega) f) (by omega);exact⟨_,i,j,by simp⟩
def ug(S:fA):List Int:=if S.grouped then (if S.keys.length+S.ah.length=0 then S.groups++[2] else S.groups) else S.ac
theorem P0(S:fA):(pP S).ah=S.ah.map kM.x:=rfl
theorem Rx{S:fA}{t:List cJ}{K:List Int}(h:TR t K)(k:t.length≤25)(c:K.length≤16)(d:S.having.getD []≠[]→jq (S.having.getD []) K=true∧(S.having.getD []).length≤1000):∃b,(if S.having.getD []=[] then (some t) else ed (rB (S.having.getD [])) (some t))=some b∧TR b K∧b.length≤t.length+1:=by
 have j:1000≤uX:=by decide
 by_cases a:S.having.getD []=[]
 ·rw[if_pos a];exact⟨t,rfl,h,by omega⟩
 rw[if_neg a];obtain⟨i,l⟩:=d a;obtain⟨f,g⟩:=ua h (aaq (e:=S.having.getD []) i (by omega) c) (by omega);exact⟨_,f,g,by simp⟩
theorem Y0{S:fA}(e:BS S)(a:S.grouped=false)(t:List cJ):rS (pP S) (some t)=some t:=by
 have b:(pP S).grouped=S.grouped:=rfl;have c:(pP S).keys=S.keys:=rfl;have d:(pP S).having=S.having.getD []:=rfl;obtain⟨f,g,n3,n4⟩:=e.nog a;unfold rS;rw[b,a,c,d,P0,f,g,n3];simp
theorem Xe{S:fA}(F:BS S)(q:S.grouped=true){t:List cJ}(h:TR t S.ac)(T:t.length≤20):∃E,rS (pP S) (some t)=some E∧TR E (ug S)∧E.length≤t.length+2∧(ug S).length≤16:=by
 have B:(pP S).grouped=S.grouped:=rfl;have j:(pP S).keys=S.keys:=rfl;have C:(pP S).having=S.having.getD []:=rfl;have R:1000≤uX:=by decide
 have b:=F.gk;have A:∀x∈[(2:Int)],k03 x:=fun x n=>by rw[aP.1 n];exact⟨by decide,by decide⟩
 have f:ug S=if S.keys.length+S.ah.length=0 then S.groups++[2] else S.groups:=by unfold ug;rw[if_pos q]
 have G:S.groups.length≤15:=by
  have P:=b.kl;have Q:=b.al;rw[b.gr];simp;omega
 have i:(ug S).length≤16:=by
  rw[f];split
  ·simp;omega
  omega
 have l:∃y,ed (jn S.keys (jN (pP S))) (some t)=some y∧TR y (ug S)∧y.length=t.length+1:=by
  have u:vh S.keys S.ac=true:=by
   unfold vh;have L:(S.keys.any fun c=>decide (c<0) ||decide ((S.ac.length:Int)≤c))=false:=by
    rw[cS];intro k H;have:=b.kr k H;simp;omega
   rw[L];rfl
  by_cases z:S.keys.length+S.ah.length=0
  ·have e:S.keys=[]:=db.1 (by omega);have p:S.ah=[]:=db.1 (by omega);have r:S.groups=[]:=by rw[b.gr,e,p];rfl
   have a:jN (pP S)=[⟨1,false,[]⟩]:=by
    unfold jN;rw[j,P0,e,p];rfl
   have m:=Xt (k:=S.keys) (g:=jN (pP S)) (K:=S.ac) b.kl (by rw[a];simp) (by rw[a];simp) u (by rw[a];rfl) (by rw[a];simp) (by rw[a];simp);obtain⟨w,o⟩:=ua h m (by omega);refine⟨_,w,?_,by simp⟩;rw[f,if_pos z,r];rw[a,e]at o;rw[a,e];exact o
  have a:jN (pP S)=S.ah.map kM.x:=by
   unfold jN;rw[j,P0,df,if_neg z]
  have m:=Xt (k:=S.keys) (g:=jN (pP S)) (K:=S.ac) b.kl (by rw[a];simpa using b.al) (by rw[a];simp;omega) u (by
   rw[a,bd];intro x n;obtain⟨g,d,rfl⟩:=bM.1 n;exact b.ag g d) (by
   rw[a];intro x n;obtain⟨g,d,rfl⟩:=bM.1 n;have:=b.ae g d;show g.es.length≤uX;omega) (by
   rw[a];intro x n;obtain⟨g,d,rfl⟩:=bM.1 n;rfl)
  obtain⟨w,o⟩:=ua h m (by omega);refine⟨_,w,?_,by simp⟩;rw[f,if_neg z,b.gr];rw[a,bU]at o;rw[a];exact o
 obtain⟨y,w,o,V⟩:=l;have J:S.having.getD []≠[]→jq (S.having.getD []) (ug S)=true∧(S.having.getD []).length≤1000:=fun s=>by
  rcases F.having with D|⟨es,D,I,v⟩
  ·rw[D]at s;exact absurd rfl s
  rw[D];refine⟨?_,I⟩;rw[f];split
  ·exact Qb v A
  exact v
 obtain⟨M,N,O,U⟩:=Rx o (by omega) i J;refine⟨M,?_,O,by omega,i⟩;unfold rS;rw[B,q,j,C,if_pos rfl,w];exact N
theorem On{c:List cK}{S:fA}(d:BS S)(f:S.cat=c)(k:∀t∈S.tables,WU (Af c t))(U:c.length≤4)(V:CtOk c)(i:S.fr.star=((S.fr.items.getD []).length==0)):∃t,nD c (pP S)=some t∧TR t (rI S)∧t.length≤10:=by
 obtain⟨I,_,_,z⟩:=d.lens (by rw[f];exact V);have hm:1000≤uX:=by decide
 have v:∀x∈[(2:Int)],k03 x:=fun x C=>by rw[aP.1 C];exact⟨by decide,by decide⟩
 obtain⟨t1,L,M,Y⟩:=Wx d f k U;obtain⟨q,N,D,Z⟩:=Zp (S:=S) M (by omega) (by omega) d.whr;have m:∃j,rS (pP S) (some q)=some j∧TR j (ug S)∧j.length≤q.length+2:=by
  cases hgr:S.grouped with
  |false=>
   refine⟨q,Y0 d hgr q,?_,by omega⟩;unfold ug;rw[hgr];exact D
  |true=>
   obtain⟨j,s,u,E,_⟩:=Xe d hgr D (by omega);exact⟨j,s,u,E⟩
 obtain⟨j,s,u,E⟩:=m;have h:∀it∈S.items,eG it (ug S)=eG it (mB S):=fun it hit=>by
  have:=(d.items it hit).2;unfold ug mB at *;cases hgr:S.grouped with
  |false=>simp
  |true=>
   rw[hgr]at this;simp only[cw]at this ⊢;split
   ·exact D7 this v
   rfl
 have o:1≤S.items.length:=by
  rw[d.il];cases hs:S.fr.star with
  |false=>
   rw[hs]at i;simp only[bq,cH];cases hl:S.fr.items.getD [] with
   |nil=>rw[hl]at i;simp at i
   |cons a r=>simp
  |true=>
   simp only[cw];have H:=d.kd;rw[f]at H;have J:=d.js.len;have G:0<S.tables.length:=by omega
   have B:=k _ (aJ G);rw[H];have W:=B.pos;have n:∃x,x∈yq c S.tables:=by
    obtain⟨y,X⟩:=List.exists_mem_of_length_pos W;exact⟨y,lj.2 ⟨_,aJ G,X⟩⟩
   obtain⟨x,C⟩:=n;exact List.length_pos_of_mem C
 have g:S.items.length≤16:=by
  rw[d.il];have:=S.fr.hi;split<;>omega
 have b:(pP S).items=S.items.map fun it=>(⟨false,it⟩:yV):=rfl
 have p:=adQ (es:=(pP S).items) (K:=ug S) (by rw[b];simpa using o) (by rw[b];simpa using g) (by
  rw[b,bd];intro e l;obtain⟨it,hit,rfl⟩:=bM.1 l;have R:=h it hit;have T:=(d.items it hit).2;show ((eG it (ug S)).2==0)=true;rw[R,T];rfl) (by
  rw[b];intro e l;obtain⟨it,hit,rfl⟩:=bM.1 l;have:=z it hit;show it.length≤uX;omega) (by
  rw[b];intro e l;obtain⟨it,hit,rfl⟩:=bM.1 l;rfl)
 have A:((pP S).items.map fun e=>(eG e.l (ug S)).1)=rI S:=by
  rw[b,bU];exact aU fun it hit=>by
   show (eG it (ug S)).1=(eG it (mB S)).1;rw[h it hit]
 rw[A]at p;obtain⟨O,F⟩:=ua u p (by omega);have w:(pP S).distinct=S.distinct:=rfl;unfold nD A4;rw[L,N,s,w,O];cases hd:S.distinct with
 |false=>exact⟨_,rfl,F,by simp;omega⟩
 |true=>
  obtain⟨P,Q⟩:=ua F (aju (by simpa using g)) (by simp;omega);exact⟨_,P,Q,by simp;omega⟩
theorem wi:∀(a b M:List Int),lT a b=some M→a.length=b.length∧M.length=a.length
 |[],[],M,h=>by simp[lT]at h;subst h;exact⟨rfl,rfl⟩
 |[],_::_,M,h=>by simp[lT]at h
 |_::_,[],M,h=>by simp[lT]at h
 |k::a,o::b,M,h=>by
  simp only[lT]at h;by_cases f:k=0
  ·rw[if_pos f]at h;obtain⟨m,c,rfl⟩:=aT.1 h;obtain⟨d,e⟩:=wi a b m c;exact⟨by simp[d],by simp[e]⟩
  rw[if_neg f]at h;by_cases g:o≠0∧o≠k
  ·rw[if_pos g]at h;cases h
  rw[if_neg g]at h;obtain⟨m,c,rfl⟩:=aT.1 h;obtain⟨d,e⟩:=wi a b m c;exact⟨by simp[d],by simp[e]⟩
theorem Br(l:List fA):l.foldl (fun o T=>o.bind fun K=>lT K (rI T)) none=none:=by
 induction l with
 |nil=>rfl
 |cons a r b=>exact b
theorem NL{c:List cK}:∀(l:List fA) (k:Nat) (t:List cJ) (K M:List Int),(∀S∈l,∃u,nD c (pP S)=some u∧TR u (rI S)∧u.length≤10)→1≤k→TR t K→K.length≤16→t.length+11*l.length≤50→l.foldl (fun o T=>o.bind fun K=>lT K (rI T)) (some K)=some M →
  ∃f,dt (sV c) (l.map pP) k (some t)=.inl (some f)∧TR f M∧f.length≤t.length+11*l.length
 |[],k,t,K,M,_,_,e,_,_,a=>by
  simp at a;subst a;exact⟨t,rfl,e,by simp⟩
 |S::l,k,t,K,M,b,y,e,j,m,a=>by
  obtain⟨u,n,p,z⟩:=b S (by simp);rw[dZ,cF]at a;cases hu:lT K (rI S) with
  |none=>rw[hu,Br]at a;cases a
  |some h=>
   rw[hu]at a;obtain⟨i,x⟩:=wi _ _ _ hu;have g:jw K (rI S)=some h:=by rw[←HT _ _ i];exact hu
   simp only[bw]at m;obtain⟨q,r⟩:=D0 e p (aby i g j) (by omega);have d:(t++u.map (sX t.length)++[eQ px ((t.length:Int)-1) ((t.length:Int)+u.length-1)]).length=t.length+u.length+1:=by simp;omega
   obtain⟨f,s,v,w⟩:=NL l (k+1) _ h M (fun T e=>b T (by simp[e])) (by omega) r (by omega) (by rw[d];omega) a;refine⟨f,?_,v,by rw[d]at w;simp only[bw];omega⟩;rw[aV];simp only[dt,sV,n];rw[if_neg (by omega),q];exact s
theorem Wd{c:List cK}{l:List fA}{M:List Int}(a:∀S∈l,∃u,nD c (pP S)=some u∧TR u (rI S)∧u.length≤10)(b:∀S∈l,(rI S).length≤16)(e:l.length≤3)(d:kdU l=some M):∃t,rk c (l.map pP)=some t∧TR t M∧t.length≤43:=by
 cases l with
 |nil=>cases d
 |cons S r=>
  obtain⟨u,h,i,m⟩:=a S (by simp);simp only[bw]at e;obtain⟨g,j,k,n⟩:=NL r 1 u (rI S) M (fun T f=>a T (by simp[f])) (by omega) i (b S (by simp)) (by omega) d;refine⟨g,?_,k,by omega⟩;unfold rk;rw[aV];simp only[dt,sV,h];rw[if_pos trivial,j]
theorem YK{t:List cJ}{K:List Int}(h:TR t K)(G:t.length<60)(F:K.length≤16){a:List (Int×Bool)}{lim:Int}(I:∀o∈a,0≤o.1∧o.1<K.length)(w:a.length≤3)(d:Mw lim=true) :
  ∃s:List (iG Int)×List Nat,ed (jx a lim) (some t)=some (t++[eQ (jx a lim) ((t.length:Int)-1) (-1)])∧lookF (t++[eQ (jx a lim) ((t.length:Int)-1) (-1)])=some s∧∃r,s.1[t.length]?=some r∧r.l=K:=by
 obtain⟨s,B,l,C,D,r,E,v⟩:=h.look;have M:=h.pos;have i:((t.length:Int)-1).toNat=t.length-1:=by omega
 have x:=Mq (o:=a) lim (by omega);have b:(eQ (jx a lim) ((t.length:Int)-1) (-1)).op=8:=rfl;have e:Js (eQ (jx a lim) ((t.length:Int)-1) (-1)) r.l=true:=by
  unfold Js;have p:(eQ (jx a lim) ((t.length:Int)-1) (-1)).ords=a:=rfl;have u:(eQ (jx a lim) ((t.length:Int)-1) (-1)).limit=lim:=rfl;rw[p,u,v];have L:(a.any fun o=>decide (o.1<0) ||decide ((K.length:Int)≤o.1))=false:=by
   rw[cS];intro o H;have:=I o H;simp;omega
  rw[L];unfold Mw Wp at d;simp at d;simp[w];omega
 have f:lc (t.length+1) s.1 (eQ (jx a lim) ((t.length:Int)-1) (-1))=some r:=by
  have A:(eQ (jx a lim) ((t.length:Int)-1) (-1)).l=(t.length:Int)-1:=rfl;unfold lc;rw[b,A,i,E];simp[e,l]
 have g:fI (eQ (jx a lim) ((t.length:Int)-1) (-1)) t.length s.2=(0,true):=by
  unfold fI;have k:iq 8=1:=rfl;rw[b,if_neg (by rw[k];omega),if_pos k];have p:(eQ (jx a lim) ((t.length:Int)-1) (-1)).l=(t.length:Int)-1:=rfl;have u:(eQ (jx a lim) ((t.length:Int)-1) (-1)).r=-1:=rfl;rw[p,u,if_neg (by omega),D];rfl
 have c:ir (jx a lim)=true:=by simp[ir,jx,dA]
 have y:oO (t.length+1) (eQ (jx a lim) ((t.length:Int)-1) (-1)) s.1 s.2=some (r,0):=by
  have:=Cg (N:=t.length+1) (n:=eQ (jx a lim) ((t.length:Int)-1) (-1)) (ks:=s.1) (fs:=s.2) (r:=r) (by rw[b,zL,c];rfl) (by rw[l,g]) f (by rw[v];exact F);rw[this,l,g];rfl
 have j:=Ae (m:=eQ (jx a lim) ((t.length:Int)-1) (-1)) G (by rw[Hp t 0 _ h.nosort];exact B) y C;obtain⟨q,J⟩:=h.lookF;refine⟨_,?_,j,r,by simp[l],v⟩;unfold ed iA;simp only[cF,dt,pc,J,kg,cw,bX,bE];rw[show (((0:Nat):Int))=((0:Nat):Int) from rfl,C9 h.own 0,Gw];have z:((0:Nat):Int)+(t.length:Int)-1=(t.length:Int)-1:=by omega
 rw[z,C6 x.1,j];rfl
theorem aen{w:List cJ}{s:List (iG Int)×List Nat}(b:lookF w=some s){r:iG Int}(a:s.1[w.length-1]?=some r):ND (some w)=r.l:=by
 unfold ND ldK;simp[b,a]
theorem UZ{l:List fA}{M:List Int}(h:kdU l=some M)(a:∀S∈l,(rI S).length≤16):M.length≤16:=by
 cases l with
 |nil=>cases h
 |cons S r=>
  have d:=a S (by simp);have key:∀(r:List fA) (K M:List Int),K.length≤16→r.foldl (fun o T=>o.bind fun K=>lT K (rI T)) (some K)=some M→M.length≤16:=by
   intro r;induction r with
   |nil=>intro K M b h;simp at h;subst h;exact b
   |cons T r e=>
    intro K M b h;rw[dZ,cF]at h;cases hu:lT K (rI T) with
    |none=>rw[hu,Br]at h;cases h
    |some c=>
     rw[hu]at h;have:=(wi _ _ _ hu).2;exact e c M (by omega) h
  exact key r _ M d h
theorem VJ{c:List cK}{q:tX}{b:Dj}{L:List fA}(a:Mu c q b L)(m:CtOk c)(p:c.length≤4)(i:∀S∈L,∀t∈S.tables,WU (Af c t)):∃t,TR t b.ac∧t.length≤43∧rk c b.selects=some t∧Bd c b=some (t++[eQ (jx b.order b.limit) ((t.length:Int)-1) (-1)]):=by
 have d:∀S∈L,(rI S).length≤16:=fun S g=>by
  obtain⟨f,h,k⟩:=a.good S g;obtain⟨k1,_,_,_⟩:=f.lens (by rw[h];exact m);have:=S.fr.hi;have u:(rI S).length=S.items.length:=by simp
  rw[u,f.il];split<;>omega
 obtain⟨t,n,o,z⟩:=Wd (c:=c) (l:=L) (M:=b.ac) (fun S g=>by
  obtain⟨f,h,k⟩:=a.good S g;exact On f h (i S g) p m k.star) d a.l3 a.kd
 have e:=UZ a.kd d;obtain⟨s,v,w,r,x,y⟩:=YK o (by omega) e a.od a.ol a.lim;refine⟨t,o,z,by rw[a.sels];exact n,?_⟩;have j:=aen w (r:=r) (by simpa using x);have A:=a.l1;have B:=a.l3;unfold Bd;rw[a.sels,df,if_neg (by omega),n,v,j,y];simp[a.nm]
theorem Ms{t:cK}(h:EL t=true):1≤t.af.length∧t.af.length≤4∧∀x∈t.af,1≤x.kind∧x.kind≤3:=by
 unfold EL at h;simp only[ax,bZ,bd]at h;obtain⟨⟨⟨⟨⟨_,a⟩,b⟩,_⟩,c⟩,_⟩:=h;refine⟨a,b,fun x d=>?_⟩;have:=c x d;unfold AL at this;simp only[dL,aX]at this;omega
theorem UX{c:List cK}(h:Rg c=true):CtK c∧c.length≤4∧∀t:Int,0≤t→t<c.length→WU (Af c t):=by
 unfold Rg at h;simp only[ax,bZ,bd]at h;obtain⟨⟨g,b⟩,_⟩:=h;refine⟨⟨⟨by omega,fun tb a=>(Ms (b tb a)).2.1⟩,fun tb a x e=>(Ms (b tb a)).2.2 x e⟩,g,fun t j l=>?_⟩;have f:t.toNat < c.length:=by omega
 have d:Af c t=c[t.toNat].af.map fD.kind:=by
  simp[Af,au f,cK.ac]
 obtain⟨k1,k2,k3⟩:=Ms (b _ (aJ f));rw[d];refine⟨by simp;omega,by simpa using k2,fun k i=>?_⟩;obtain⟨x,e,rfl⟩:=bM.1 i;exact k3 x e
theorem Wy{c:List cK}(h:Rg c=true){q:tX}{b:Dj}{L:List fA}(a:Mu c q b L):∃t,TR t b.ac∧t.length≤43∧rk c b.selects=some t∧Bd c b=some (t++[eQ (jx b.order b.limit) ((t.length:Int)-1) (-1)]):=by
 obtain⟨g,i,j⟩:=UX h;refine VJ a g.toCtOk i fun S k t l=>?_;obtain⟨e,f,_⟩:=a.good S k;obtain⟨m,d⟩:=e.js.rng t l;rw[f]at d;exact j t m d
theorem aiB{S:fA}(c:BS S)(m:CtOk S.cat):Ox (pP S):=by
 obtain⟨k1,k2,k3,k4⟩:=c.lens m;have n:1000≤uX:=by decide
 have s:=c.jl;have l:=c.js.len;have q:=c.gk.al;have r:=c.gk.kl;have b:∀(o:Option (List EN)) (K:List Int),Ef o K→(o.getD []).length≤uX:=fun o K p=>by
  rcases p with rfl|⟨es,rfl,t,_⟩
  ·simp
  show es.length≤uX;omega
 refine⟨by show S.tables.length≤8000;omega,by show S.joins.length≤8000;omega,fun j k=>?_,b _ _ c.whr,b _ _ c.having,by show S.keys.length≤8000;omega,by show (S.ah.map kM.x).length≤8000;simp;omega,by show (S.items.map fun it=>(⟨false,it⟩:yV)).length≤8000;simp;omega,fun g h=>?_,fun e f=>?_,fun g h=>?_,fun e f=>?_⟩
 ·obtain⟨i,hi,rfl⟩:=cM.1 k;have:=(c.js.on i _ (au hi)).1;exact bH this n
 ·obtain⟨a,d,rfl⟩:=bM.1 h;have:=c.gk.ae a d;show a.es.length≤uX;omega
 ·obtain⟨a,d,rfl⟩:=bM.1 f;have:=k4 a d;show a.length≤uX;omega
 ·obtain⟨a,d,rfl⟩:=bM.1 h;rfl
 obtain⟨a,d,rfl⟩:=bM.1 f;rfl
def aqA(t:List cJ):List Int:=(t.filter fun n=>n.op==1).map cJ.tab
def CQ(w:List cJ)(a:Nat)(x:List cJ):Prop:=∃(pre rest:List cJ) (s0:List (iG Int)×List Nat),w=pre++x.map (sX a)++rest∧pre.length=a∧(∀n∈pre,n.op≠8)∧dt (iz 0) pre 0 ([],[])=.inl s0∧s0.1.length=a∧s0.2.length=a
theorem CQ.app{w x:List cJ}{a:Nat}(h:CQ w a x)(r:List cJ):CQ (w++r) a x:=by
 obtain⟨c,b,f,d,e⟩:=h;exact⟨c,b++r,f,by rw[d];simp,e⟩
theorem Ht(N:Nat):∀(u:List cJ) (i:Nat) (s s':List (iG Int)×List Nat),dt (iz N) u i s=.inl s'→∃r,s'.2=s.2++r
 |[],_,s,s',h=>by simp only[dt]at h;cases h;exact⟨[],by simp⟩
 |n::u,i,s,s',h=>by
  cases hq:oO N n s.1 s.2 with
  |none=>simp only[dt,iz,hq]at h;cases h
  |some q=>
   simp only[dt,iz,hq]at h;obtain⟨r,a⟩:=Ht N u _ _ _ h;exact⟨q.2::r,by rw[a];simp⟩
theorem Wk{n:cJ}(h:mQ n)(a:Nat):gJ (-(a:Int)) (sX a n)=n:=by
 obtain⟨b,c,d,e,f,g⟩:=Re h;cases n;simp_all[gJ,sX];constructor<;>split<;>(try split)<;>omega
theorem Iz{w x:List cJ}{a:Nat}{K:List Int}{s:List (iG Int)×List Nat}(j:TR x K)(C:CQ w a x)(d:lookF w=some s):s.2[a+x.length-1]?=some a∧uL w a x.length=x∧a+x.length≤w.length:=by
 obtain⟨c,h,l,e,m,y,z,A,o⟩:=C;obtain⟨q,u,E,v,i,_⟩:=j.look;have p:=j.pos;have f:=UD (N:=w.length) A o x 0 [] [] q rfl rfl j.nosort u;simp only[ew,dK,bm]at f;refine⟨?_,?_,by rw[e];simp;omega⟩
 ·unfold lookF at d;split at d
  ·cases d
  split at d
  ·rename_i F k;split at d
   ·cases d;rw[e]at k;rw[←e]at k;have b:dt (iz w.length) (c++(x.map (sX a)++h)) 0 ([],[])=.inl s:=by rw[←List.append_assoc,←e];exact k
    rw[tT,Hp c 0 _ y,z]at b;simp only[cE]at b;rw[tT,m]at b;have g:dt (iz w.length) (x.map (sX a)) a l=.inl (l.1++q.1,l.2++q.2.map (·+a)):=f;rw[g]at b;simp only at b;obtain⟨r,D⟩:=Ht _ _ _ _ _ b;rw[D];simp only[dy];rw[bC (by omega),o,aQ (by simp[v];omega)];rw[show a+x.length-1-a=x.length-1 by omega,dP];rw[aS]at i;have t:x.length-1<q.2.length:=by omega
    rw[au t]at i ⊢;simp at i ⊢;exact i
   cases d
  cases d
 unfold uL;rw[e,dy,←m,p6];rw[kE (by simp),ay (by simp),bU];have:∀n∈x,((gJ (-(c.length:Int)))∘sX c.length) n=id n:=fun n B=>Wk (j.own n B) c.length;rw[aU this,yA]
def Ch(c:List cK)(w:List cJ)(e:Nat):List fA→Nat→Prop
 |[],a=>a=e
 |S::l,a=>∃u,nD c (pP S)=some u∧TR u (rI S)∧u.length≤10∧CQ w a u∧(∃n,w[a+u.length]?=some n∧n.op=7)∧Ch c w e l (a+u.length+1)
theorem Ch.app{c:List cK}{w:List cJ}{e:Nat}(r:List cJ):∀{l:List fA} {a:Nat},Ch c w e l a→Ch c (w++r) e l a
 |[],_,h=>h
 |S::l,a,h=>by
  obtain⟨u,d,f,g,i,⟨n,b,j⟩,k⟩:=h;exact⟨u,d,f,g,i.app r,⟨n,by rw[aQ (ak.1 b).1];exact b,j⟩,k.app r⟩
theorem J8{c:List cK}:∀(l:List fA) (k:Nat) (t:List cJ) (K M:List Int),(∀S∈l,∃u,nD c (pP S)=some u∧TR u (rI S)∧u.length≤10)→1≤k→TR t K→K.length≤16→t.length+11*l.length≤50→l.foldl (fun o T=>o.bind fun K=>lT K (rI T)) (some K)=some M →
  ∃f,dt (sV c) (l.map pP) k (some t)=.inl (some f)∧(∃r,f=t++r)∧Ch c f f.length l t.length
 |[],k,t,K,M,_,_,e,_,_,d=>⟨t,rfl,⟨[],by simp⟩,rfl⟩
 |S::l,k,t,K,M,b,E,e,w,x,d=>by
  obtain⟨u,m,n,z⟩:=b S (by simp);rw[dZ,cF]at d;cases hu:lT K (rI S) with
  |none=>rw[hu,Br]at d;cases d
  |some i=>
   rw[hu]at d;obtain⟨j,D⟩:=wi _ _ _ hu;have g:jw K (rI S)=some i:=by rw[←HT _ _ j];exact hu
   simp only[bw]at x;obtain⟨A,B⟩:=D0 e n (aby j g w) (by omega);have a:(t++u.map (sX t.length)++[eQ px ((t.length:Int)-1) ((t.length:Int)+u.length-1)]).length=t.length+u.length+1:=by simp;omega
   obtain⟨f,C,⟨r,h⟩,p⟩:=J8 l (k+1) _ i M (fun T e=>b T (by simp[e])) (by omega) B (by omega) (by rw[a];omega) d;rw[a]at p;obtain⟨y,q,s,v,_⟩:=e.look;refine⟨f,?_,⟨u.map (sX t.length)++[eQ px ((t.length:Int)-1) ((t.length:Int)+u.length-1)]++r,by rw[h];simp⟩,u,m,n,z,⟨t,[eQ px ((t.length:Int)-1) ((t.length:Int)+u.length-1)]++r,y,by rw[h];simp,rfl,e.nosort,q,s,v⟩,⟨eQ px ((t.length:Int)-1) ((t.length:Int)+u.length-1),?_,rfl⟩,p⟩
   ·rw[aV];simp only[dt,sV,m];rw[if_neg (by omega),A];exact C
   rw[h,aQ (by rw[a];omega),bC (by simp)];simp
theorem WM{c:List cK}{S:fA}{l:List fA}{M:List Int}{t:List cJ}(a:∀T∈S::l,∃u,nD c (pP T)=some u∧TR u (rI T)∧u.length≤10)(b:∀T∈S::l,(rI T).length≤16)(g:(S::l).length≤3)(i:kdU (S::l)=some M)(d:rk c ((S::l).map pP)=some t) :
  ∃u,nD c (pP S)=some u∧TR u (rI S)∧u.length≤10∧CQ t 0 u∧Ch c t t.length l u.length:=by
 obtain⟨u,e,f,m⟩:=a S (by simp);simp only[bw]at g;obtain⟨k,o,⟨r,p⟩,q⟩:=J8 l 1 u (rI S) M (fun T j=>a T (by simp[j])) (by omega) f (b S (by simp)) (by omega) i;have:rk c ((S::l).map pP)=some k:=by
  unfold rk;rw[aV];simp only[dt,sV,e];rw[if_pos trivial,o]
 rw[this]at d;cases d;refine⟨u,e,f,m,⟨[],r,([],[]),?_,rfl,fun n h=>(by cases h),rfl,rfl,rfl⟩,q⟩;rw[bX,Gw];exact p
end Go.AM
namespace Go.AM
open P
set_option maxHeartbeats 64000000
set_option maxRecDepth 40000
attribute [local simp] aG bj
theorem W7{e:Type}{enc:e→aq}[Nc enc 12 true][Ft enc]{b:Bool}{l:List e}{k:Nat}(f:l.length≤bD)
  (h:∀y∈l,∀σ,cD code k [enc y,enc y] σ=some (aC true,σ)):bB I.qgq [.aa b (l.map enc),.aa b (l.map enc),.fn k [] []]=some (aC true):=by
 rw[aR aly rfl];have loop:=cY (base:=0) (clr:=[3,4,5,6,11,12]) (b:=GS)
  (fun a=>⟨[.aa b (l.map enc),.aa b (l.map enc),.fn k [] [],am,am,am,am,aC false,.aa b (l.map enc),ap l.length,ap a,am,am],[]⟩) l.length
  (.ext 0,⟨[.aa b (l.map enc),.aa b (l.map enc),.fn k [] [],am,am,am,am,aC false,.aa b (l.map enc),ap l.length,ap l.length,aC false,am],[]⟩)
  (fun a c=>by
   have i:l[a]?=some l[a]:=au c;have d:∀h:a < l.length,l[a]'h=l[a]'c:=fun _=>rfl;have g:=h l[a] (aJ c);generalize l[a]=y at *;have n3:aM (enc y)=12∧isAgg (enc y)=true:=⟨Nc.nc y,Nc.ag y⟩;have j:∀base σ m,fz true false base σ (m+3) (enc y)=enc y:=fun base σ m=>Ft.ft true false base σ m y rfl;have n:∀base σ m,fz false true base σ (m+3) (enc y)=enc y:=fun base σ m=>Ft.ft false true base σ m y rfl;simp[GS,c,i,d,n3,j,n,g,cU c f,bN])
  (by simp[GS])
 simp only[aY]at loop;simp[auV,agf,loop]
theorem ad4{e:Type}{enc:e→aq}[Nc enc 2 true][Ft enc]{b:Bool}{l:List e}{k:Nat}(f:l.length≤bD)
  (h:∀y∈l,∀σ,cD code k [enc y,enc y] σ=some (aC true,σ)):bB I.qgo [.aa b (l.map enc),.aa b (l.map enc),.fn k [] []]=some (aC true):=by
 rw[aR aoi rfl];have loop:=cY (base:=0) (clr:=[3,4,5,6,11,12]) (b:=GD)
  (fun a=>⟨[.aa b (l.map enc),.aa b (l.map enc),.fn k [] [],am,am,am,am,aC false,.aa b (l.map enc),ap l.length,ap a,am,am],[]⟩) l.length
  (.ext 0,⟨[.aa b (l.map enc),.aa b (l.map enc),.fn k [] [],am,am,am,am,aC false,.aa b (l.map enc),ap l.length,ap l.length,aC false,am],[]⟩)
  (fun a c=>by
   have i:l[a]?=some l[a]:=au c;have d:∀h:a < l.length,l[a]'h=l[a]'c:=fun _=>rfl;have g:=h l[a] (aJ c);generalize l[a]=y at *;have n3:aM (enc y)=2∧isAgg (enc y)=true:=⟨Nc.nc y,Nc.ag y⟩;have j:∀base σ m,fz true false base σ (m+3) (enc y)=enc y:=fun base σ m=>Ft.ft true false base σ m y rfl;have n:∀base σ m,fz false true base σ (m+3) (enc y)=enc y:=fun base σ m=>Ft.ft false true base σ m y rfl;simp[GD,c,i,d,n3,j,n,g,cU c f,bN])
  (by simp[GD])
 simp only[aY]at loop;simp[au6,afU,loop]
theorem ZO{e:Type}{enc:e→aq}[Nc enc 1 true][Ft enc]{b:Bool}{l:List e}{k:Nat}(f:l.length≤bD)
  (h:∀y∈l,∀σ,cD code k [enc y,enc y] σ=some (aC true,σ)):bB I.qgp [.aa b (l.map enc),.aa b (l.map enc),.fn k [] []]=some (aC true):=by
 rw[aR amX rfl];have loop:=cY (base:=0) (clr:=[3,4,5,6,11,12]) (b:=GW)
  (fun a=>⟨[.aa b (l.map enc),.aa b (l.map enc),.fn k [] [],am,am,am,am,aC false,.aa b (l.map enc),ap l.length,ap a,am,am],[]⟩) l.length
  (.ext 0,⟨[.aa b (l.map enc),.aa b (l.map enc),.fn k [] [],am,am,am,am,aC false,.aa b (l.map enc),ap l.length,ap l.length,aC false,am],[]⟩)
  (fun a c=>by
   have i:l[a]?=some l[a]:=au c;have d:∀h:a < l.length,l[a]'h=l[a]'c:=fun _=>rfl;have g:=h l[a] (aJ c);generalize l[a]=y at *;have n3:aM (enc y)=1∧isAgg (enc y)=true:=⟨Nc.nc y,Nc.ag y⟩;have j:∀base σ m,fz true false base σ (m+3) (enc y)=enc y:=fun base σ m=>Ft.ft true false base σ m y rfl;have n:∀base σ m,fz false true base σ (m+3) (enc y)=enc y:=fun base σ m=>Ft.ft false true base σ m y rfl;simp[GW,c,i,d,n3,j,n,g,cU c f,bN])
  (by simp[GW])
 simp only[aY]at loop;simp[atY,ahu,loop]
theorem Rq(f i:Bool)(a:List (Int×Bool))(n:a.length≤8000):bB I.qgs [.aa f (a.map gT),.aa i (a.map gT)]=some (aC true):=by
 rw[aR amf rfl];have l:a.length≤bD:=by unfold bD;omega
 have loop:=cY (base:=0) (clr:=[2,3,7,8]) (b:=F7)
  (fun k=>⟨[.aa f (a.map gT),.aa i (a.map gT),am,am,aC false,ap a.length,ap k,am,am],[]⟩) a.length
  (.ext 0,⟨[.aa f (a.map gT),.aa i (a.map gT),am,am,aC false,ap a.length,ap a.length,aC false,am],[]⟩)
  (fun k e=>by
   have m:a[k]?=some a[k]:=au e;have j:∀h:k<a.length,a[k]'h=a[k]'e:=fun _=>rfl;generalize a[k]=g at *;obtain⟨c,d⟩:=g;simp[F7,e,m,j,gT,eqa,eR,sR,lR,neg,cU e l,bN])
  (by simp[F7])
 simp only[aY]at loop;simp[auE,agH,loop]
theorem abC(g:kU)(a:g.arg.length≤uX):bB I.qec [va g,va g]=some (aC true):=by
 rw[aR amv rfl];have h:=CI false false g.arg g.arg (bH a (by decide));simp at h;simp[atw,ag9,va,h]
structure Sh8 (n:cJ):Prop where
 ac:n.ac.length≤8000
 cond:n.cond.length≤uX
 keys:n.keys.length≤8000
 ah:n.ah.length≤8000
 args:∀g∈n.ah,g.arg.length≤uX
 items:n.items.length≤8000
 exprs:∀e∈n.items,e.l.length≤uX
 ords:n.ords.length≤8000
theorem acl(n:cJ)(h:Sh8 n):bB I.qeb [tu n,tu n]=some (aC true):=by
 rw[aR amy rfl];have a:8000≤bD:=by unfold bD;omega
 have k1:=BK false false n.ac n.ac h.ac;have k2:=BK false false n.keys n.keys h.keys;have k3:=Rq false false n.ords h.ords;have k4:=CI false false n.cond n.cond (bH h.cond (by decide));have k5:=ad4 (enc:=va) (b:=false) (l:=n.ah) (k:=I.qec) (bH h.ah a) (fun g d σ=>by
  have:=abC g (h.args g d);simp[va]at this ⊢;simp[this])
 have k6:=ZO (enc:=xE) (b:=false) (l:=n.items) (k:=I.qbu) (bH h.items a) (fun e c σ=>by
  have:=CI false false e.l e.l (bH (h.exprs e c) (by decide));simp[xE]at this ⊢;simp[this])
 have f:tu n=aH [ap n.op,ap n.l,ap n.r,ap n.tab,.aa false (n.ac.map (.int .i64)),aC n.left,.aa false (n.cond.map EN.a),.aa false (n.keys.map (.int .i64)),.aa false (n.ah.map va),.aa false (n.items.map xE),.aa false (n.ords.map gT),ap n.limit]:=rfl;rw[f];simp at k1 k2 k4;simp[atF,afH,k1,k2,k3,k4,k5,k6]
theorem aer(a:List cJ)(e:∀n∈a,Sh8 n∧n.a=tu n)(h:a.length≤8000):bB I.qdc [aH [.aa false (a.map cJ.a)],aH [.aa false (a.map cJ.a)]]=some (aC true):=by
 rw[aR am1 rfl];have g:a.length≤bD:=by unfold bD;omega
 have k:=W7 (enc:=tu) (b:=false) (l:=a) (k:=I.qeb) g (fun n c σ=>by
  have:=acl n (e n c).1;have d:tu n=aH (ZQ n):=rfl;have f:=LO n;rw[d]at this ⊢;simp[this,f])
 have d:a.map cJ.a=a.map tu:=aU fun n c=>(e n c).2;rw[d];simp[atJ,ag1,k]
end Go.AM
namespace Go.AM
open P
set_option maxHeartbeats 64000000
set_option maxRecDepth 40000
theorem w9{a:Type}{l:List a}{n:Nat}(h:n<l.length)(b:n≠0):l.take n≠[]:=List.ne_nil_of_length_pos (by simp;omega)
theorem ajp{g:Type}{enc:g→aq}[Nc enc 3 true](b:Bool)(l:List g)(n:Nat)(o:n≠0)(w:n≤1000)(σ:aw) :
  ∃ep,cD code I.qau [.aa b (l.map enc),ap (n:Int)] σ=some (.sl σ.length ep 0 (l.take n).length,σ++[aB 3 ep ((l.take n).map enc)]):=by
 rw[cz amK rfl];have c:∀(k:List g),∀a∈k.map enc,aM a=3:=fun k a v=>by
  obtain⟨y,_,rfl⟩:=bM.1 v;exact Nc.nc y
 have f:∀x:g,aM (enc x)=3:=fun x=>Nc.nc x;have d:¬((n:Int)<0):=by omega
 by_cases h:n<l.length
 ·have hi:((n:Int)<l.length):=by omega
  have s:min n l.length=n:=by omega
  have t:l.take n≠[]:=w9 h o;have u:n≤l.length:=by omega
  have j:=c l;have p:=c (l.take n);have m:n≤bD:=by unfold bD;omega
  have i:l≠[]:=by intro e;simp[e]at h
  refine⟨1,?_⟩;simp only[jH]at p;simp[asr,Vm,hi,f,d,append,o,s,t,u,m,i,if_pos j,if_pos p]
 have hi:¬((n:Int)<l.length):=by omega
 have r:l.take n=l:=ay (by omega);have j:=c l;rw[r];by_cases q:l=[]
 ·subst q;refine⟨0,?_⟩;simp[asr,Vm,append,f,d]
 have m:l.length≤bD:=by unfold bD;omega
 refine⟨1,?_⟩;simp[asr,Vm,hi,f,d,append,q,if_pos j,m]
theorem ahA{q:Type}{enc:q→aq}[Nc enc 1 false][Fx enc](b:Bool)(l:List q)(n:Nat)(z:n≠0)(G:n≤1000) :
  bB I.qav [.aa b (l.map enc),ap (n:Int)]=some (.aa false ((l.take n).map enc)):=by
 rw[aR amY rfl];have o:∀(k:List q),∀a∈k.map enc,aM a=1:=fun k a d=>by
  obtain⟨y,_,rfl⟩:=bM.1 d;exact Nc.nc y
 have s:∀(k:List q) fl top base σ m,∀a∈k.map enc,fz fl top base σ (m+3) a=a:=fun k fl top base σ m a d=>by
  obtain⟨y,_,rfl⟩:=bM.1 d;exact Fx.fx fl top base σ m y
 have j:=fun (k:List q) (σ:aw) (ep:Nat) (h:σ[0]?=some (aB 1 ep (k.map enc)))=>ro (f:=enc) (m:=1) k 0 ep σ h;have g:∀x:q,aM (enc x)=1:=fun x=>Nc.nc x;have p:¬((n:Int)<0):=by omega
 by_cases h:n<l.length
 ·have hi:((n:Int)<l.length):=by omega
  have D:min n l.length=n:=by omega
  have E:l.take n≠[]:=w9 h z;have F:n≤l.length:=by omega
  have v:=o l;have A:=o (l.take n);have w:n≤bD:=by unfold bD;omega
  have t:l≠[]:=by intro e;simp[e]at h
  have c:=j (l.take n) [aB 1 1 ((l.take n).map enc)] 1 rfl;have i:=s (l.take n);have r:((l.take n).map enc).take n=(l.take n).map enc:=ay (by simp;omega);rw[show (l.take n).length=n by simp;omega]at c;simp only[jH]at A c i r;have u:∀top base σ m,List.map (fz false top base σ (m+3)) (List.take n (List.map enc l))=List.take n (List.map enc l):=fun top base σ m=>by
   conv=>rhs;rw[←List.map_id (List.take n (List.map enc l))]
   exact aU fun a d=>i false top base σ m a d
  simp[asn,Th,hi,g,p,append,z,D,E,F,w,t,if_pos v,if_pos A,c,r,u];exact fun a d=>by rw[i _ _ _ _ 16 a d]
 have hi:¬((n:Int)<l.length):=by omega
 have C:l.take n=l:=ay (by omega);have v:=o l;rw[C];by_cases B:l=[]
 ·subst B;have c:=j [] [aB 1 0 []] 0 rfl;simp at c;simp[asn,Th,append,g,p,c]
 have w:l.length≤bD:=by unfold bD;omega
 have c:=j l [aB 1 1 (l.map enc)] 1 rfl;simp[asn,Th,hi,g,p,append,B,if_pos v,w,c];exact fun a d=>by rw[s l _ _ _ _ 16 (enc a) (ma d),g]
theorem ahD{q:Type}{enc:q→aq}[Nc enc 2 true][Fx enc](b:Bool)(l:List q)(n:Nat)(z:n≠0)(G:n≤1000) :
  bB I.qat [.aa b (l.map enc),ap (n:Int)]=some (.aa false ((l.take n).map enc)):=by
 rw[aR aoE rfl];have o:∀(k:List q),∀a∈k.map enc,aM a=2:=fun k a d=>by
  obtain⟨y,_,rfl⟩:=bM.1 d;exact Nc.nc y
 have s:∀(k:List q) fl top base σ m,∀a∈k.map enc,fz fl top base σ (m+3) a=a:=fun k fl top base σ m a d=>by
  obtain⟨y,_,rfl⟩:=bM.1 d;exact Fx.fx fl top base σ m y
 have j:=fun (k:List q) (σ:aw) (ep:Nat) (h:σ[0]?=some (aB 2 ep (k.map enc)))=>ro (f:=enc) (m:=2) k 0 ep σ h;have g:∀x:q,aM (enc x)=2:=fun x=>Nc.nc x;have p:¬((n:Int)<0):=by omega
 by_cases h:n<l.length
 ·have hi:((n:Int)<l.length):=by omega
  have D:min n l.length=n:=by omega
  have E:l.take n≠[]:=w9 h z;have F:n≤l.length:=by omega
  have v:=o l;have A:=o (l.take n);have w:n≤bD:=by unfold bD;omega
  have t:l≠[]:=by intro e;simp[e]at h
  have c:=j (l.take n) [aB 2 1 ((l.take n).map enc)] 1 rfl;have i:=s (l.take n);have r:((l.take n).map enc).take n=(l.take n).map enc:=ay (by simp;omega);rw[show (l.take n).length=n by simp;omega]at c;simp only[jH]at A c i r;have u:∀top base σ m,List.map (fz false top base σ (m+3)) (List.take n (List.map enc l))=List.take n (List.map enc l):=fun top base σ m=>by
   conv=>rhs;rw[←List.map_id (List.take n (List.map enc l))]
   exact aU fun a d=>i false top base σ m a d
  simp[ast,U6,hi,g,p,append,z,D,E,F,w,t,if_pos v,if_pos A,c,r,u];exact fun a d=>by rw[i _ _ _ _ 16 a d]
 have hi:¬((n:Int)<l.length):=by omega
 have C:l.take n=l:=ay (by omega);have v:=o l;rw[C];by_cases B:l=[]
 ·subst B;have c:=j [] [aB 2 0 []] 0 rfl;simp at c;simp[ast,U6,append,g,p,c]
 have w:l.length≤bD:=by unfold bD;omega
 have c:=j l [aB 2 1 (l.map enc)] 1 rfl;simp[ast,U6,hi,g,p,append,B,if_pos v,w,c];exact fun a d=>by rw[s l _ _ _ _ 16 (enc a) (ma d),g]
end Go.AM
namespace Go.AM
open P
set_option maxHeartbeats 64000000
set_option maxRecDepth 40000
attribute [local simp] aG bj
section
def WZ{α:Type}(f:α→α)(l:List α)(i:Nat):List α:=(l.take i).map f++l.drop i
section
variable {α:Type} (f:α→α)
theorem XB(l:List α):WZ f l 0=l:=by simp[WZ]
theorem acz(l:List α):WZ f l l.length=l.map f:=by simp[WZ]
theorem adz{l:List α}{i:Nat}{y:α}(enc:α→aq)(h:l[i]?=some y):((WZ f l i).map enc)[i]?=some (enc y):=by
 obtain⟨a,b⟩:=ak.1 h;unfold WZ;rw[dg,bC (by simp;omega)];simp[show i-min i l.length=0 by omega,a,b]
theorem ael{l:List α}{i:Nat}{y:α}(enc:α→aq)(h:l[i]?=some y):((WZ f l i).map enc).set i (enc (f y))=(WZ f l (i+1)).map enc:=by
 obtain⟨a,b⟩:=ak.1 h;have c:l.drop i=y::l.drop (i+1):=by rw[←b];exact dl a
 have d:l.take (i+1)=l.take i++[y]:=by rw[←b];exact dr a
 unfold WZ;rw[c,d];simp only[dg,aV,bm];rw[fp _ _ (by simp;omega)];simp[show i-min i l.length=0 by omega]
end
end
structure iI where
 name:List UInt8
 bc:Bool
 af:List fD
 bk:Bool
 keys:List Int
def iI.a(t:iI):aq:=aH [aO t.name,.aa t.bc (t.af.map fD.a),.aa t.bk (t.keys.map (.int .i64))]
instance:Nc iI.a 3 true:=⟨fun _=>rfl,fun _=>rfl⟩
instance:Ft iI.a:=⟨fun fl top base σ n y h=>by cases fl<;>cases top<;>simp_all[iI.a]⟩
def NC(t:iI):iI:=⟨t.name,false,t.af.take 5,false,t.keys.take 5⟩
def smF(t:iI):cK:=⟨t.name,t.af.take 5,t.keys.take 5⟩
theorem ahv(t:iI):(NC t).a=(smF t).a:=rfl
def BG(c:List iI):List cK:=(c.take 5).map smF
abbrev Wm(A:aq)(ep n:Nat)(M:List aq):aw:=[aB 1 0 [A],aB 1 0 [aH [.ai]],aB 3 ep M,aB 1 0 [aH [.sl 2 ep 0 n]]]
theorem Q4(d:Bool)(c:List iI)(ep:Nat)(L:List iI)(r:L.length≤8000) :
  bT code 4 [4,5,9] Cc ⟨[aH [.aa d (c.map iI.a)],aI 0 0 0 0,aI 1 0 0 0,aI 3 0 0 0,am,am,.sl 2 ep 0 L.length,ap L.length,ap 0,am],Wm (aH [.aa d (c.map iI.a)]) ep L.length (L.map iI.a)⟩ =
   some (.ext 0,⟨[aH [.aa d (c.map iI.a)],aI 0 0 0 0,aI 1 0 0 0,aI 3 0 0 0,am,am,.sl 2 ep 0 L.length,ap L.length,ap L.length,aC false],Wm (aH [.aa d (c.map iI.a)]) ep L.length ((L.map NC).map iI.a)⟩):=by
 have q:L.length≤bD:=by unfold bD;omega
 have j:=gL (base:=4) (clr:=[4,5,9]) (b:=Cc) L (fun i (_:Unit)=>⟨[aH [.aa d (c.map iI.a)],aI 0 0 0 0,aI 1 0 0 0,aI 3 0 0 0,am,am,.sl 2 ep 0 L.length,ap L.length,ap i,am],Wm (aH [.aa d (c.map iI.a)]) ep L.length ((WZ NC L i).map iI.a)⟩)
  (fun _ _=>True) (fun _ _=>()) (fun _=>(.ext 0,⟨[aH [.aa d (c.map iI.a)],aI 0 0 0 0,aI 1 0 0 0,aI 3 0 0 0,am,am,.sl 2 ep 0 L.length,ap L.length,ap L.length,aC false],Wm (aH [.aa d (c.map iI.a)]) ep L.length ((L.map NC).map iI.a)⟩))
  (fun i y _ hi o _=>by
   have p:((i:Int)<(L.length:Int)):=by omega
   have h:=adz NC iI.a o;have n:=ael NC iI.a o;obtain⟨k,h⟩:=ak.1 h;have e:=ahD (enc:=fD.a) y.bc y.af 5 (by decide) (by decide);have f:=ahA (enc:=.int .i64) y.bk y.keys 5 (by decide) (by decide);refine⟨?_,trivial⟩;have g:i<L.length:=hi;have a:∀x,List.map (cq 4 x) (List.map iI.a (WZ NC L (i+1)))=List.map iI.a (WZ NC L (i+1)):=fun x=>by simp
   rw[←n]at a;rw[←n];have m:y.a=aH [aO y.name,.aa y.bc (y.af.map fD.a),.aa y.bk (y.keys.map (.int .i64))]:=rfl;have l:(NC y).a=aH [aO y.name,.aa false ((y.af.take 5).map fD.a),.aa false ((y.keys.take 5).map (.int .i64))]:=rfl;rw[l]at a ⊢;rw[m]at h;generalize (WZ NC L i).map iI.a=M at *;simp only[Wm];simp at e f a;simp[Cc,p,h,k,g,e,f,cU hi q,bN,bA,a])
  (fun _ _=>by simp[Cc,acz]) () trivial
 have j:=j.1;rw[XB]at j;simpa using j
theorem Tp(a:Bool)(c:List iI):bB I.qay [aH [.aa a (c.map iI.a)]]=some (mC (BG c)):=by
 obtain⟨ep,b⟩:=ajp (enc:=iI.a) a c 5 (by decide) (by decide) [aB 1 0 [aH [.aa a (c.map iI.a)]],aB 1 0 [aH [.ai]]];have h:=Q4 a c ep (c.take 5) (by simp;omega);have k:mC (BG c)=aH [.aa false (((c.take 5).map NC).map iI.a)]:=by
  have:((c.take 5).map NC).map iI.a=((c.take 5).map smF).map cK.a:=by
   rw[bU,bU];exact aU fun s _=>ahv s
  rw[this];rfl
 have f:∀top base σ m,List.map (fz false top base σ (m+3)) (((c.take 5).map NC).map iI.a)=((c.take 5).map NC).map iI.a:=fun top base σ m=>by
  rw[bU,bU,bU];exact aU fun s _=>by
   show fz false top base σ (m+3) (NC s).a=(NC s).a;rw[ahv];exact Fx.fx false top base σ m _
 have i:∀(g:iI) (fl top:Bool) (base:Nat) (σ:aw) (m:Nat),aM (fz fl top base σ (m+1) (iI.a g))=aM (iI.a g):=fun g fl top base σ m=>by simp[iI.a]
 have d:((c.take 5).map NC).length=(c.take 5).length:=by simp
 rw[k,aR alb rfl];simp only[Wm,aY]at h;generalize (c.take 5).map NC=e at *;have j:List.take (c.take 5).length (e.map iI.a)=e.map iI.a:=by rw[←d];exact Ni e iI.a
 simp[-List.length_take]at b;simp only[jH]at h;generalize (c.take 5).length=l at *;cases a<;>simp[auS,afL,b,h,f,d,j,i,-List.length_take]

theorem ai1(g:Bool)(d:List cJ)(M:∀n∈d,uw n)(K:∀n∈d,nE n)(s:List (iG Int)×List Nat)(T:lookF d=some s)(p:Nat)(U:p<d.length)(f:Nat)(w:s.2[p]?=some f)(R:f≤p)
  (q:∀n∈d,n.l<100∧n.r<100) :
  bB I.qdb [aH [.aa g (d.map cJ.a)],ap p]=some (fb [aH [.aa false ((uL d f (p+1-f)).map cJ.a)],ap 0]):=by
 have h:=GO 2 [aB 1 0 [aH [.aa g (d.map cJ.a)]],aB 1 0 [aH [.ai]]] (.inr ⟨rfl,_,_,rfl⟩) (fun x u base σ m=>by
  simp at u;rcases u with u|u<;>rw[u]<;>simp) g d M
 rw[T]at h;obtain⟨⟨h0,h1,e1,e2⟩,h⟩:=h;obtain⟨ks,fs⟩:=s;simp only at *;rw[aiO K];have Z:=pT (n:=-(f:Int)) (by omega) (by omega);have l:=(ak.1 w).1;have o:∀h:p<fs.length,fs[p]'h=f:=fun h=>(ak.1 w).2;have F:¬((p:Int)<0):=by omega
 have G:¬((d.length:Int)≤(p:Int)):=by omega
 have H:((p:Int)<(d.length:Int)):=by omega
 have loop:=cY (base:=15) (clr:=[11]) (b:=Gk)
  (fun k=>⟨[aH [.aa g (d.map cJ.a)],ap p,aI 0 0 0 0,aI 1 0 0 0,ap 0,aI 6 0 0 0,aC true,aI 13 0 0 0,ap ((f:Int)+(k:Int)),aC false,aC false,am],
   stE 2 [aB 1 0 [aH [.aa g (d.map cJ.a)]],aB 1 0 [aH [.ai]]] g d (ks,fs) true++[aB 1 0 [aH [.sl 14 k 0 k]],aB 12 k ((uL d f k).map tu)]⟩) (p+1-f)
  (.ext 1,⟨[aH [.aa g (d.map cJ.a)],ap p,aI 0 0 0 0,aI 1 0 0 0,ap 0,aI 6 0 0 0,aC true,aI 13 0 0 0,ap ((p:Int)+1),aC false,aC false,aC false],
   stE 2 [aB 1 0 [aH [.aa g (d.map cJ.a)]],aB 1 0 [aH [.ai]]] g d (ks,fs) true++[aB 1 0 [aH [.sl 14 (p+1-f) 0 (p+1-f)]],aB 12 (p+1-f) ((uL d f (p+1-f)).map tu)]⟩)
  (fun k hk=>by
   have L:((f:Int)+(k:Int)≤(p:Int)):=by omega
   have hi:f+k<d.length:=by omega
   have N:d[f+k]?=some d[f+k]:=au hi;have B:∀h:f+k<d.length,d[f+k]'h=d[f+k]'hi:=fun _=>rfl;have e:=aJ hi;have i:=Ja d[f+k] (K _ e) (M _ e) (-(f:Int)) (fun h=>by have:=q _ e;omega) (fun h=>by have:=q _ e;omega);rw[Gz (K _ e)]at i;have y:=WK N;have t:(uL d f k).length=k:=Is (by omega);generalize d[f+k]=n at *;rw[y];have n3:aM n.a=12∧isAgg n.a=true:=⟨rfl,rfl⟩;have Y:∀base σ m,fz true false base σ (m+3) n.a=n.a:=fun base σ m=>Ft.ft true false base σ m n rfl;have D:k+1≤bD:=by unfold bD;omega
   have V:(0:Int)≤(f:Int)+(k:Int):=by omega
   have W:((f:Int)+(k:Int)).toNat=f+k:=by omega
   have X:((f:Int)+(k:Int)<(d.length:Int)):=by omega
   have w2:IntKind.i64.wrap ((f:Int)+(k:Int)+1)=(f:Int)+((k:Int)+1):=by rw[pT (by omega) (by omega)];omega
   have j:List.take k ((uL d f k).map tu)=(uL d f k).map tu:=ay (by simp[t]);have E:=fun base σ h=>UT 6 base σ h;generalize gJ (-(f:Int)) n=c at *;have v:tu c=aH (ZQ c):=rfl;have O:(ZQ c).length=12:=rfl;have P:=LO c;rw[v]at i;simp[Gk,L,V,W,X,N,B,hi,Y,n3,w,o,l,Z,w2,i,append,D,j,t,v,O,P,bN,bA,E])
  (by
   have y:(uL d f (p+1-f)).length=p+1-f:=Is (by omega);have L:¬((f:Int)+((p+1-f:Nat):Int)≤(p:Int)):=by omega
   have Q:(f:Int)+((p+1-f:Nat):Int)=(p:Int)+1:=by omega
   rw[Q];have r:¬((p:Int)+1≤(p:Int)):=by omega
   simp[Gk,r])
 have y:(uL d f (p+1-f)).length=p+1-f:=Is (by omega);have j:List.take (p+1-f) ((uL d f (p+1-f)).map tu)=(uL d f (p+1-f)).map tu:=ay (by simp[y]);have z:(uL d f 0).map tu=[]:=by simp[uL]
 have A:∀σ m,∀a:cJ,aM (fz false false 0 σ (m+3) (tu a))=aM (tu a):=fun σ m a=>by rw[Fx.fx (f:=tu) false false 0 σ m a]
 have C:(f:Int)+((0:Nat):Int)=(f:Int):=by omega
 simp[z,C]at loop;simp at h;generalize uL d f (p+1-f)=S at *;have J:p+1≤S.length+f:=by omega
 rw[aR aml rfl];simp[auC,ahd,h,loop,F,G,H,U,o,l,w,j,J];exact fun a _=>A _ 14 a
theorem Xi{c:List cK}(a:bB I.qbb [mC c]=some (ap 210))(q:tX):bB I.qn [mC c,q.a]=some (fb [aH [.aa false [],.aa false [],.aa false [],.aa false [],ap 0],ap 0,ap 210]):=by
 rw[aR Yu rfl];have b:q.a=aH [.aa false (q.sels.map mL.a),.aa false ((q.keys.getD []).map BZ.a),ap q.limit]:=rfl;rw[b];simp[arY,WY,a]
structure Uh (c:List cK) (q:tX) (b:Dj) (L:List fA) (t:List cJ):Prop where
 bg:Mu c q b L
 cat:xT c
 good:Rg c=true
 tr:TR t b.ac
 tl:t.length≤43
 un:rk c b.selects=some t
 low:Bd c b=some (t++[eQ (jx b.order b.limit) ((t.length:Int)-1) (-1)])
 ok:adH b
 sel:∀S∈L,∃u,nD c (pP S)=some u∧TR u (rI S)∧u.length≤10
 h16:∀S∈L,(rI S).length≤16
theorem adA(c:List cK)(o:c.length≤8000)(l:∀t∈c,TA t)(q:tX):(∃a e:Int,e≠0∧bB I.qn [mC c,q.a]=some (fb [aH [.aa false [],.aa false [],.aa false [],.aa false [],ap 0],ap a,ap e])) ∨
  ∃b L t,bB I.qn [mC c,q.a]=some (fb [b.a,ap 0,ap 0])∧Uh c q b L t:=by
 have d:=So c o l;cases hr:Rg c with
 |false=>
  rw[hr]at d;exact .inl ⟨0,210,by decide,Xi d q⟩
 |true=>
  rw[hr]at d;simp only[cw]at d;obtain⟨k1,k2,k3⟩:=UX hr;obtain⟨v,r,z⟩:=ahN k1 d q;rcases z with⟨a,e,A,rfl⟩|⟨b,L,rfl,f⟩
  ·exact .inl ⟨a,e,A,r⟩
  obtain⟨t,D,E,F,G⟩:=Wy hr f;have h:∀tb∈c,tb.af.length≤8000:=fun t p=>(l t p).af;have m:∀S∈L,∃u,nD c (pP S)=some u∧TR u (rI S)∧u.length≤10:=fun S k=>by
   obtain⟨g,i,n⟩:=f.good S k;exact On g i (fun t p=>by
    obtain⟨C,y⟩:=g.js.rng t p;rw[i]at y;exact k3 t C y) k2 k1.toCtOk n.star
  have j:∀S∈L,(rI S).length≤16:=fun S k=>by
   obtain⟨g,i,n⟩:=f.good S k;obtain⟨m1,_,_,_⟩:=g.lens (by rw[i];exact k1.toCtOk);have:=S.fr.hi;have B:(rI S).length=S.items.length:=by simp
   rw[B,g.il];split<;>omega
  have w:=UZ f.kd j;refine .inr ⟨b,L,t,r,f,⟨d,h⟩,hr,D,E,F,G,⟨fun s x=>?_,?_,?_,?_,?_⟩,m,j⟩
  ·rw[f.sels]at x;obtain⟨S,k,rfl⟩:=bM.1 x;obtain⟨g,i,n⟩:=f.good S k;exact aiB g (by rw[i];exact k1.toCtOk)
  ·have:=f.l3;rw[f.sels,df];omega
  ·have:=f.nm;omega
  ·omega
  have:=f.ol;omega
abbrev FK(b:Dj)(t:List cJ):cJ:=eQ (jx b.order b.limit) ((t.length:Int)-1) (-1)
theorem YN(b:Dj)(t:List cJ)(c:b.order.length≤8000):mQ (FK b t)∧NS (FK b t):=by
 have h:=Mq b.limit c;have a:=we h.1 ((t.length:Int)-1) (-1);exact⟨a,⟨a.fit,h.2.keys,h.2.ah,h.2.items⟩⟩
structure Xw (w:List cJ):Prop where
 own:∀n∈w,mQ n
 ns:∀n∈w,NS n
 look:(lookF w).isSome
theorem akr{c:List cK}{q:tX}{b:Dj}{L:List fA}{t:List cJ}(h:Uh c q b L t):Xw (t++[FK b t])∧ND (some (t++[FK b t]))=b.ac:=by
 have f:=YN b t h.ok.ol;have a:=h.low;unfold Bd at a;split at a
 ·cases a
 split at a
 ·rename_i e;rw[a]at e;refine⟨⟨fun n d=>?_,fun n d=>?_,Hi a⟩,e.2.2⟩
  ·rcases ba.1 d with d|d
   ·exact h.tr.own n d
   rw[aP.1 d];exact f.1
  rcases ba.1 d with d|d
  ·exact h.tr.ns n d
  rw[aP.1 d];exact f.2
 cases a

theorem WS(c:List iI):(BG c).length≤8000∧∀t∈BG c,TA t:=by
 refine⟨by simp[BG];omega,fun t b=>?_⟩;simp only[BG,bM]at b;obtain⟨a,_,rfl⟩:=b;exact⟨by simp[smF];omega,by simp[smF];omega⟩
end Go.AM
namespace Go.AM
open P
set_option maxHeartbeats 64000000
set_option maxRecDepth 40000
theorem V2{t:List cJ}{K:List Int}(h:TR t K):bB I.qdc [aH [.aa false (t.map cJ.a)],aH [.aa false (t.map cJ.a)]]=some (aC true):=by
 obtain⟨s,e⟩:=h.lookF;have d:=h.le;refine aer t (fun n b=>?_) (by omega);have c:=(wQ e).2.2.2 n b;have a:=h.ns n b;exact⟨⟨c.ac,a.fit.cond,a.keys,a.ah,a.fit.args,a.items,a.fit.exprs,c.ords⟩,(h.own n b).z⟩
theorem RJ{w x:List cJ}{a:Nat}{K:List Int}(b:Xw w)(g:TR x K)(l:CQ w a x)(k:w.length≤8000)(p:Nat)(d:p=a+x.length-1):bB I.qdb [aH [.aa false (w.map cJ.a)],ap (p:Int)]=some (fb [aH [.aa false (x.map cJ.a)],ap 0]):=by
 obtain⟨s,f⟩:=cN.1 b.look;obtain⟨h,i,m⟩:=Iz g l f;have e:=g.pos;have j:Lw ⟨false,w⟩:=⟨b.own,b.ns,k⟩;subst d;have:=ai1 false w (fun n c=>(b.own n c).fit) (fun n c=>(b.own n c).fl) s f (a+x.length-1) (by omega) a h (by omega) (j.ok.lr b.look);rw[show a+x.length-1+1-a=x.length by omega,i]at this;exact this
end Go.AM
namespace Go.AM
open P
set_option maxHeartbeats 64000000
set_option maxRecDepth 40000
attribute [local simp] aG bj

abbrev Fh(X:aq)(text:List UInt8)(b:Dj)(a k:Nat)(z:aq):List aq:=
 [X,aO text,aI 0 0 0 0,am,aI 1 0 0 0,aI 2 0 0 0,ap 0,aI 3 0 0 0,aI 4 0 0 0,ap a,am,am,am,am,am,aC false,aC false,aC false,aC false,.aa false (b.selects.map sO.a),ap b.selects.length,ap k,z,am,am,am,am]
abbrev OE(X C Q B:aq)(w:List cJ):aw:=[aB 1 0 [X],aB 1 0 [C],aB 3 0 [Q],aB 5 0 [B],aB 1 0 [aH [.aa false (w.map cJ.a)]]]
def PtI(c:List cK)(w:List cJ)(e:Nat)(L:List fA)(k a:Nat):Prop:=
 if k=0 then a=0∧∃S l u,L=S::l∧nD c (pP S)=some u∧TR u (rI S)∧u.length≤10∧CQ w 0 u∧Ch c w e l u.length else Ch c w e (L.drop k) a
def PtG(c:List cK)(k:Nat)(S:fA)(a:Nat):Nat⊕Unit:=.inl (a+((nD c (pP S)).getD []).length+if k=0 then 0 else 1)
theorem ad6{c:List cK}{w:List cJ}{e:Nat}{L:List fA}{k a:Nat}{S:fA}(o:L[k]?=some S)(h:PtI c w e L k a):∃u,nD c (pP S)=some u∧TR u (rI S)∧u.length≤10∧CQ w a u∧(k≠0→∃n,w[a+u.length]?=some n∧n.op=7)∧PtI c w e L (k+1) (a+u.length+if k=0 then 0 else 1):=by
 have p:∀b,Ch c w e (L.drop (k+1)) b→PtI c w e L (k+1) b:=fun b q=>by
  unfold PtI;rw[if_neg (show ¬(k+1=0) by omega)];exact q
 unfold PtI at h;by_cases d:k=0
 ·subst d;rw[if_pos rfl]at h;obtain⟨rfl,T,l,u,rfl,f,g,i,j,m⟩:=h;simp at o;subst o;exact⟨u,f,g,i,j,fun h=>absurd rfl h,p _ (by simpa using m)⟩
 rw[if_neg d]at h;have hd:L.drop k=S::L.drop (k+1):=by
  obtain⟨t,s⟩:=ak.1 o;rw[dl t,s]
 rw[hd]at h;obtain⟨u,f,g,i,j,m,r⟩:=h;exact⟨u,f,g,i,j,fun _=>m,p _ (by rw[if_neg d];exact r)⟩
theorem acK(X C Q:aq)(V:aM X=1)(T:aM C=1)(U:aM Q=3)(R:∀base σ m,fz false true base σ (m+3) X=X)(O:∀base σ m,fz false true base σ (m+3) C=C)(P:∀base σ m,fz false true base σ (m+3) Q=Q)
  (text:List UInt8) (c:List cK) (B:C=mC c) (t:xT c) (b:Dj) (L:List fA) (q:b.selects=L.map pP) (J:∀s∈b.selects,Ox s) (hn:L.length≤8000) (h1:1≤L.length) (w:List cJ) (hw:Xw w) (M:w.length≤8000) (e:Nat) (o:PtI c w e L 0 0) :
  bT code 5 [3,10,11,12,13,14,22,23,24,25,26] zR ⟨Fh X text b 0 0 am,OE X C Q b.a w⟩ =
   some (.ext 0,⟨Fh X text b e b.selects.length (aC false),OE X C Q b.a w⟩):=by
 have Z:L.length≤bD:=by unfold bD;omega
 have K:b.selects.length=L.length:=by rw[q,df]
 have r:b.a=aH [.aa false (b.selects.map sO.a),.aa false (b.names.map aO),.aa false (b.ac.map (.int .i64)),.aa false (b.order.map gT),ap b.limit]:=rfl;have key:=iL (base:=5) (clr:=[3,10,11,12,13,14,22,23,24,25,26]) (b:=zR) L
  (fun k a=>⟨Fh X text b a k am,OE X C Q b.a w⟩) (PtI c w e L) (PtG c)
  (fun a=>(.ext 0,⟨Fh X text b a b.selects.length (aC false),OE X C Q b.a w⟩)) (fun _ _=>False)
  (fun k S a W hy p=>by
   obtain⟨u,u1,z,u3,u4,u5,u6⟩:=ad6 hy p;have i:b.selects[k]?=some (pP S):=by rw[q,dP,hy];rfl
   have x:k<b.selects.length:=by omega
   have v:∀h:k<b.selects.length,b.selects[k]'h=pP S:=fun h=>(ak.1 i).2;have d:=abL c t (pP S) (J _ (aN i));rw[u1]at d;obtain⟨s,hs⟩:=cN.1 hw.look;have Y:=(Iz z u4 hs).2.2;have ab:=z.pos;have f:=RJ hw z u4 M (a+u.length-1) rfl;have g:=V2 z;unfold PtG;rw[u1,cT];refine⟨?_,u6⟩;have l:(pP S).a=aH (pP S).c:=rfl;have y:(pP S).c.length=9:=rfl;have N:∀fl top base σ m,fz fl top base σ (m+3) (pP S).a=(pP S).a:=fun fl top base σ m=>Fx.fx fl top base σ m (pP S);rw[l]at d N;generalize (pP S).c=sc at *;have w1:IntKind.i64.wrap ((a:Int)+(u.length:Int))=((a+u.length:Nat):Int):=by rw[pT (by omega) (by omega)];omega
   have w2:IntKind.i64.wrap (((a+u.length:Nat):Int)-1)=((a+u.length-1:Nat):Int):=by rw[pT (by omega) (by omega)];omega
   have w3:IntKind.i64.wrap (((a+u.length:Nat):Int)+1)=((a+u.length+1:Nat):Int):=by rw[pT (by omega) (by omega)];omega
   have i1:¬((w.length:Int)<((a+u.length:Nat):Int)):=by omega
   unfold Lb at d;simp only[cT]at d;simp at d;subst B;by_cases o:k=0
   ·subst o;rw[if_pos rfl,ew];have w4:IntKind.i64.wrap 1=1:=rfl;generalize a+u.length=a1 at *;simp[zR,Fh,OE,x,i,v,l,y,N,d,f,g,w1,w2,w4,i1,V,T,U,r,R,O,P,cU W Z,bN,bA,cq,dF]
   obtain⟨n,j,F⟩:=u5 o;have G:a+u.length<w.length:=(ak.1 j).1;have H:∀h:a+u.length<w.length,w[a+u.length]'h=n:=fun h=>(ak.1 j).2;have i2:¬((w.length:Int)≤((a+u.length:Nat):Int)):=by omega
   have E:0<k:=by omega
   have I:n.a=aH [ap n.op,ap n.l,ap n.r,ap n.tab,.aa n.bk (n.ac.map (.int .i64)),aC n.left,.aa n.bc (n.cond.map EN.a),.aa n.by' (n.keys.map (.int .i64)),.aa n.bg (n.ah.map kU.a),.aa n.bi (n.items.map yV.a),.aa n.bo (n.ords.map gT),ap n.limit]:=rfl;rw[if_neg o];generalize a+u.length=a1 at *;simp[zR,Fh,OE,x,i,v,l,y,N,d,f,g,w1,w2,w3,i1,i2,j,F,G,H,I,E,o,V,T,U,r,R,O,P,cU W Z,bN,bA,cq,dF])
  (fun a p=>by
   rw[←K];simp[zR,Fh,OE]) 0 o
 have hf:∀(m:List fA) k a,∃A,dt (PtG c) m k a=.inl A:=by
  intro m;induction m with
  |nil=>intro k a;exact⟨a,rfl⟩
  |cons S m ih=>intro k a;simp only[dt,PtG];exact ih _ _
 obtain⟨A,D⟩:=hf L 0 0;rw[D]at key;obtain⟨p,hr⟩:=key;unfold PtI at p;rw[if_neg (by omega),oZ]at p;have:A=e:=p;subst this;exact hr
end Go.AM
