/- Part of the proof. -/
import Derived.Test.YtmpmbfpkpannjaaGreatDoorBm22
set_option linter.unusedVariables false
set_option linter.unusedSimpArgs false
set_option linter.unusedSectionVars false
namespace Go.AM
open P
set_option maxHeartbeats 64000000
set_option maxRecDepth 40000
attribute [local simp] aG bj
abbrev OS:aq:=aH [.ai,.ai,.ai,.ai,ap 0]
def zv(r:Option (Ex×St)):Prop:=∃(a e:Int) (env:List aq) (τ:aw),r=some (.ret,⟨env,τ⟩)∧e≠0∧env[4]?=some (aI 2 0 0 0)∧env[5]?=some (ap a)∧env[6]?=some (ap e)∧τ[2]?=some (aB 5 0 [OS])
theorem aiF(σ:aw)(n:Nat)(c:List cN)(x:mC):ey σ n (scZ c x):=by
 refine⟨⟨fun e a=>(by cases a),fun s=>.inl rfl⟩,⟨fun e a=>(by cases a),fun s=>.inl rfl,fun s s' id e b o o' k d h=>(by cases h)⟩,⟨fun e a=>(by cases a),fun t s=>.inl rfl⟩⟩
theorem ZP{c:List cN}{q:sY}{τ:aw}(H:CtK c)(A:τ[2]?=some (aB 5 0 [OS]))(k:Nat)(x:mC)(K:v7 x) :
  zv (run code u7 ⟨xL c q k (ap k) (aI τ.length 0 0 0) (aI (τ.length+4) 0 0 0) am am (aC true) am am am,τ++[Obj.arr 9 0 [x.a],.map [],.map [],.map [],aB 25 0 [aH [.aa false (c.map cN.a),aC x.distinct,aC x.star,.aa false ((x.items.getD []).map pM.a),aO x.table,aO x.as',.aa false (x.joins.map oW.a),gK (x.whr.getD []),gK (x.having.getD []),.aa false ((x.group.getD []).map uO.a),.ai,.ai,.ai,.ai,aC false,aC false,.ai,.ai,.ai,.mp (τ.length+1),.mp (τ.length+2),.mp (τ.length+3),.ai,.ai,ap 0]]]⟩) ∨
  ∃(b:aw) (S:fG),run code u7 ⟨xL c q k (ap k) (aI τ.length 0 0 0) (aI (τ.length+4) 0 0 0) am am (aC true) am am am,τ++[Obj.arr 9 0 [x.a],.map [],.map [],.map [],aB 25 0 [aH [.aa false (c.map cN.a),aC x.distinct,aC x.star,.aa false ((x.items.getD []).map pM.a),aO x.table,aO x.as',.aa false (x.joins.map oW.a),gK (x.whr.getD []),gK (x.having.getD []),.aa false ((x.group.getD []).map uO.a),.ai,.ai,.ai,.ai,aC false,aC false,.ai,.ai,.ai,.mp (τ.length+1),.mp (τ.length+2),.mp (τ.length+3),.ai,.ai,ap 0]]]⟩=some (.nrm,⟨xL c q k (ap k) (aI τ.length 0 0 0) (aI (τ.length+4) 0 0 0) (ap 0) am (aC true) (aC false) am am,b⟩)∧SA b (τ.length+1) S∧AZ S∧S.cat=c∧S.fr=x∧(∀i o,i<τ.length→τ[i]?=some o→b[i]?=some o):=by
 have w:SA (τ++[Obj.arr 9 0 [x.a]]++BT (τ.length+1) (scZ c x)) (τ.length+1) (scZ c x):=⟨τ++[Obj.arr 9 0 [x.a]],[],by simp,by simp⟩;obtain⟨h,b,S,g,u,I,G⟩:=VF w (aiF _ _ _ _) H K
 have d:∀i o,i<τ.length→τ[i]?=some o→b[i]?=some o:=fun i o hi J=>I.kl i o (by omega) (by
  rw[dv,aU hi];exact J)
 have s:=(ak.1 A).1;have j:=d 2 _ s A;have F:u7=.seq (.lift 12 10 1 (.lift 12 11 2 (.lift 12 16 1 (.lift 12 17 2 (.lift 12 18 1 (.lift 12 22 1 (.lift 12 23 1 (.reg [i (.call 141 [(e 12)] false)] [(13,l 0)])))))))) (.seq (.reg [i (.bin .neq (e 13) (v (ap 0)))] [(24,l 0)]) (.cond (e 24) (.seq (.regd [i (.build [.ai,.ai,.ai,.ai,ap 0] []),i (.bin .mul (v (ap 10)) (e 10)),i (.nilck (e 12)),i (.fld 24 (l 2)),i (.load false 1 (l 3)),i (.bin .add (l 1) (l 4)),i (.store 5 (e 4) (l 0))] [(5,l 5),(6,e 13)] [(2,7),(3,7),(4,7)]) .ret) .skip)):=rfl;rw[F,fy,acG k x (fun m=>run code (.reg [i (.call 141 [(e 12)] false)] [(13,l 0)]) ⟨xL c q k (ap k) (aI τ.length 0 0 0) (aI (τ.length+4) 0 0 0) am am (aC true) am am am,m⟩) _ (fun m=>rfl)];generalize τ++[Obj.arr 9 0 [x.a]]++BT (τ.length+1) (scZ c x)=n at *;have qc:run code (.reg [i (.call 141 [(e 12)] false)] [(13,l 0)]) ⟨xL c q k (ap k) (aI τ.length 0 0 0) (aI (τ.length+4) 0 0 0) am am (aC true) am am am,n⟩=some (.nrm,⟨xL c q k (ap k) (aI τ.length 0 0 0) (aI (τ.length+4) 0 0 0) (ap h) am (aC true) am am am,b⟩):=by
  have f:cC code 141 [aI (τ.length+4) 0 0 0] n=some (ap h,b):=g;simp[f]
 rw[qc,bW];have B:=u.len;have r:b[τ.length+4]?=some (aB 25 0 [aH (iE (τ.length+1) S)]):=by simpa using u.at3 []
 by_cases p:h=0
 ·right;obtain⟨k1,k2,k3⟩:=G p;subst p;exact⟨b,S,by simp,u,k1,k2,k3,d⟩
 left;have y:2<b.length:=(ak.1 j).1;have z:(b.set 2 (aB 5 0 [OS]))[τ.length+4]?=some (aB 25 0 [aH (iE (τ.length+1) S)]):=by rw[aD (by omega)];exact r
 have t:∃(a:Int) (env:List aq),run code (.seq (.reg [i (.bin .neq (e 13) (v (ap 0)))] [(24,l 0)]) (.cond (e 24) (.seq (.regd [i (.build [.ai,.ai,.ai,.ai,ap 0] []),i (.bin .mul (v (ap 10)) (e 10)),i (.nilck (e 12)),i (.fld 24 (l 2)),i (.load false 1 (l 3)),i (.bin .add (l 1) (l 4)),i (.store 5 (e 4) (l 0))] [(5,l 5),(6,e 13)] [(2,7),(3,7),(4,7)]) .ret) .skip)) ⟨xL c q k (ap k) (aI τ.length 0 0 0) (aI (τ.length+4) 0 0 0) (ap h) am (aC true) am am am,b⟩=some (.ret,⟨env,b.set 2 (aB 5 0 [OS])⟩)∧env[4]?=some (aI 2 0 0 0)∧env[5]?=some (ap a)∧env[6]?=some (ap h):=by
  simp only[iE]at r z;exact⟨_,_,by simp[p,r,j,z];rfl,rfl,rfl,rfl⟩
 obtain⟨a,env,t,C,D,E⟩:=t;exact⟨a,h,env,_,t,p,C,D,E,by rw[aV y]⟩
abbrev vh(S:fG):List Int:=S.items.map fun it=>(eF it (mF S)).1
abbrev bO(k:Nat)(nm kd:aq)(lim:Int):Obj:=aB 5 0 [aH [kq 4 k,nm,kd,.ai,ap lim]]
theorem AZ.lens{S:fG}(h:AZ S)(a:CtOk S.cat):S.ac.length≤12∧(mF S).length≤8000∧S.items.length≤100∧(∀it∈S.items,it.length≤1000):=by
 have e:=B3 a S.tables h.js.rng;have f:=h.js.len;have g:=h.jl;have b:S.ac.length≤12:=by rw[h.kd];omega
 have i:S.groups.length≤15:=by
  have c:=h.gk.kl;have d:=h.gk.al;rw[h.gk.gr];simp;omega
 have hi:=S.fr.hi;refine⟨b,by unfold mF;split<;>omega,?_,fun it hit=>(h.items it hit).1⟩;rw[h.il];split<;>omega
theorem alp{c:List cN}{q:sY}{τ:aw}{n:Nat}{S:fG}(G:CtK c)(h:SA τ n S)(s:AZ S)(k:S.cat=c)(M:v7 S.fr)(u t:aq)(D:aM u=1∧isAgg u=false)(z:aM t=1∧isAgg t=false)(F:τ[3]?=some (bO 0 u t q.limit))(p r:aq) :
  ∃(a:aw) (g d:Nat) (e:List (List UInt8)),run code ni ⟨xL c q 0 (ap 0) p (aI (n+3) 0 0 0) (ap 0) am r (aC false) am am,τ⟩=some (.nrm,⟨xL c q 0 (ap 0) p (aI (n+3) 0 0 0) (ap 0) (kq d (vh S).length) r (aC false) (aC true) am,a⟩) ∧
   a[3]?=some (bO 0 (kq g e.length) (kq d (vh S).length) q.limit)∧a[g]?=some (D6 e)∧a[d]?=some (aB 1 (vh S).length (eA (vh S)))∧e.length=(vh S).length∧τ.length≤d∧d<g∧g<a.length∧(∀i o,i≠3→τ[i]?=some o→a[i]?=some o):=by
 obtain⟨k1,k2,k3,k4⟩:=s.lens (by rw[k];exact G.toCtOk);have x:=yD h k2 k3 k4;have K:3<τ.length:=(ak.1 F).1;have l:(vh S).length=S.items.length:=by simp
 have E:SA (τ++(aB 1 S.items.length (eA (vh S))::ikB S.items)) n S:=h.app _;obtain⟨e,X,f,C⟩:=RT E (by rw[k];exact G.toCtOk) s.js s.jl M;have B:e.length=(vh S).length:=by
  rw[C,l,s.il,s.kd]
 have I:∀T,(τ++T)[3]?=some (bO 0 u t q.limit):=fv F;rw[l];generalize J:eA (vh S)=H at *;generalize v:τ++(Obj.arr 1 S.items.length H::ikB S.items)=τ1 at *;have w:τ1[3]?=some (bO 0 u t q.limit):=by rw[←v];exact I _
 have j:=fv w;have A:τ.length<τ1.length:=by rw[←v];simp
 have y:τ1[τ.length]?=some (aB 1 S.items.length H):=by rw[←v];simp
 have b:∀o,((τ1++(D6 e::X)).set 3 o)[3]?=some o:=fun o=>by rw[aV (by simp;omega)]
 refine⟨(τ1++(D6 e::X)).set 3 (bO 0 (kq τ1.length e.length) (kq τ.length S.items.length) q.limit),τ1.length,τ.length,e,?_,b _,?_,?_,by rw[B,l],aF _,A,by simp,?_⟩
 ·have m:∀o o',((τ1++(D6 e::X)).set 3 o).set 3 o'=(τ1++(D6 e::X)).set 3 o':=fun o o'=>ew ..;simp only[bO]at j b;simp[ni,x,f,j,b,m,D,z]
 ·rw[aD (by omega)];simp
 ·rw[aD (by omega)];exact fv y _
 intro i o hi L;rw[aD (by omega)];refine fv ?_ _;rw[←v];exact fv L _
theorem alu{c:List cN}{q:sY}{τ:aw}{n:Nat}{S:fG}(M:CtK c)(h:SA τ n S)(L:AZ S)(m:S.cat=c)(k:Nat)(P:k≠0)(T:aq)(b:Nat)(K:List Int)(J:K.length≤100)(H:τ[2]?=some (aB 5 0 [OS]))(I:τ[3]?=some (bO k T (kq b K.length) q.limit))(s:τ[b]?=some (aB 1 K.length (eA K)))(N:5≤b)(e f:aq) :
  zv (run code ni ⟨xL c q k (ap k) e (aI (n+3) 0 0 0) (ap 0) am f (aC false) am am,τ⟩) ∨
  ∃(g:aw) (cs:List Int) (B:aq),run code ni ⟨xL c q k (ap k) e (aI (n+3) 0 0 0) (ap 0) am f (aC false) am am,τ⟩=some (.nrm,⟨xL c q k (ap k) e (aI (n+3) 0 0 0) (ap 0) B f (aC false) (aC false) (aC false),g⟩) ∧
   mE K (vh S)=some cs∧cs.length=K.length∧K.length=(vh S).length∧g[b]?=some (aB 1 K.length (eA cs))∧τ.length≤g.length∧(∀i o,i≠b→τ[i]?=some o→g[i]?=some o):=by
 obtain⟨k1,k2,k3,k4⟩:=L.lens (by rw[m];exact M.toCtOk);have p:=yD h k2 k3 k4;have x:(vh S).length=S.items.length:=by simp
 have O:=(ak.1 s).1;have j:¬(k:Int)=0:=by omega
 have r:((k:Int)==0)=false:=by simpa using j
 generalize u:τ++(Obj.arr 1 S.items.length (eA (vh S))::ikB S.items)=τ1 at *;have d:∀i o,τ[i]?=some o→τ1[i]?=some o:=fun i o y=>by rw[←u];exact fv y _
 have v:τ1[τ.length]?=some (aB 1 S.items.length (eA (vh S))):=by rw[←u];simp
 have Q:τ.length<τ1.length:=by rw[←u];simp
 obtain⟨ok,cs,l,w,z⟩:=Qg K (vh S) (d _ _ s) v (by omega) J;rw[x]at l;have t:=d _ _ I;have C:=d _ _ H;have R:=(ak.1 C).1;cases ok with
 |true=>
  right;obtain⟨U,V⟩:=z rfl;refine⟨τ1.set b (aB 1 K.length (eA cs)),cs,kq τ.length S.items.length,?_,V,w,U,by rw[aV (by omega)],by simp;omega,fun i o hi y=>by rw[aD (by omega)];exact d _ _ y⟩;simp only[bO]at t;simp[ni,p,j,r,t,l]
 |false=>
  left;have D:(τ1.set b (aB 1 K.length (eA cs)))[2]?=some (aB 5 0 [OS]):=by rw[aD (by omega)];exact C
  have A:∃(a:Int) (env:List aq),run code ni ⟨xL c q k (ap k) e (aI (n+3) 0 0 0) (ap 0) am f (aC false) am am,τ⟩=some (.ret,⟨env,(τ1.set b (aB 1 K.length (eA cs))).set 2 (aB 5 0 [OS])⟩)∧env[4]?=some (aI 2 0 0 0)∧env[5]?=some (ap a)∧env[6]?=some (ap 229):=by
   simp only[bO]at t;exact⟨_,_,by simp[ni,p,j,r,t,l,D];rfl,rfl,rfl,rfl⟩
  obtain⟨a,env,A,E,F,G⟩:=A;exact⟨a,229,env,_,A,by omega,E,F,G,by rw[aV (by simpa using R)]⟩
abbrev xH(n:Nat)(S:fG):aq:=aH [kq (n+4) S.tables.length,kq (n+5) S.joins.length,sv (S.whr.map (·.map EN.a)),sv (S.having.map (·.map EN.a)),aC S.grouped,aC S.distinct,kq (n+6) S.keys.length,kq (n+7) S.ah.length,kq (n+8) S.items.length]
theorem Ol{c:List cN}{q:sY}{τ:aw}{n:Nat}{S:fG}(r:τ[n+3]?=some (aB 25 0 [aH (iE n S)]))(k:Nat)(v:k≤10)(p o:aq)(vs:List aq)(u:vs.length=k)(i:τ[3]?=some (bO k p o q.limit))(t:τ[4]?=some (aB 9 k vs))(a b d e f g h:aq) :
  run code vv ⟨xL c q k (ap k) a (aI (n+3) 0 0 0) b d e f g h,τ⟩=some (.nrm,⟨xL c q k (ap k) a (aI (n+3) 0 0 0) b d e f g h,(τ.set 4 (aB 9 (k+1) (vs++[xH n S]))).set 3 (bO (k+1) p o q.limit)⟩):=by
 have s:(τ.set 4 (aB 9 (k+1) (vs++[xH n S])))[3]?=some (bO k p o q.limit):=by rw[aD (by omega)];exact i
 have m:List.take k vs=vs:=ay (by omega);have j:k+1≤bC:=by unfold bC;omega
 have l:k≤vs.length:=by omega
 simp only[iE,bO,xH]at r i s ⊢;simp[vv,r,i,t,s,append,m,j,l]
structure LA (τ:aw) (n:Nat) (S:fG):Prop where
 b4:τ[n+4]?=some (aB 1 S.tables.length (eA S.tables))
 b5:τ[n+5]?=some (aB 2 S.joins.length (S.joins.map JX.a))
 b6:τ[n+6]?=some (aB 1 S.keys.length (eA S.keys))
 b7:τ[n+7]?=some (aB 2 S.ah.length (S.ah.map kH.a))
 b8:τ[n+8]?=some (aB 1 S.items.length (S.items.map jh))
theorem SA.la{τ:aw}{n:Nat}{S:fG}(h:SA τ n S):LA τ n S:=by
 obtain⟨P,J,rfl,rfl⟩:=h;constructor<;>simp
theorem LA.keep{τ b:aw}{n:Nat}{S:fG}(h:LA τ n S)(a:∀i o,n≤i→i<n+11→τ[i]?=some o→b[i]?=some o):LA b n S:=
 ⟨a _ _ (by omega) (by omega) h.b4,a _ _ (by omega) (by omega) h.b5,a _ _ (by omega) (by omega) h.b6,a _ _ (by omega) (by omega) h.b7,a _ _ (by omega) (by omega) h.b8⟩
def kdU:List fG→Option (List Int)
 |[]=>none
 |S::r=>r.foldl (fun o T=>o.bind fun K=>mE K (vh T)) (some (vh S))
theorem aad{l:List fG}(a:l≠[])(T:fG):kdU (l++[T])=(kdU l).bind fun K=>mE K (vh T):=by
 cases l with
 |nil=>exact absurd rfl a
 |cons S r=>simp[kdU,List.foldl_append]
structure BSt (c:List cN) (q:sY) (τ:aw) (L:List (Nat×fG)) (nm kd:aq):Prop where
 b0:τ[0]?=some (aB 1 0 [nB c])
 b1:τ[1]?=some (aB 3 0 [q.a])
 b2:τ[2]?=some (aB 5 0 [OS])
 b3:τ[3]?=some (bO L.length nm kd q.limit)
 b4:τ[4]?=some (aB 9 L.length (L.map fun p=>xH p.1 p.2))
 la:∀p∈L,LA τ p.1 p.2∧AZ p.2∧p.2.cat=c∧5≤p.1∧p.1+11≤τ.length
 fr:L.map (fun p=>p.2.fr)=q.sels.take L.length
def NmK(τ:aw)(L:List (Nat×fG))(nm kd:aq):Prop:=(L=[]∧nm=.ai∧kd=.ai)∨(L≠[]∧∃(idn idk:Nat) (ns:List (List UInt8)) (K:List Int),nm=kq idn ns.length∧τ[idn]?=some (D6 ns)∧kd=kq idk K.length∧τ[idk]?=some (aB 1 K.length (eA K))∧ns.length=K.length∧idn≠idk∧5≤idn∧5≤idk∧(∀p∈L,p.1+11≤idk∨idk<p.1)∧kdU (L.map fun p=>p.2)=some K∧K.length≤100)
noncomputable abbrev Vj(c:List cN)(q:sY)(k base:Nat)(τ:aw):Option (Ex×St):=bU code base [9999,5,6,10,11,12,13,14,23,24,25,26] yF ⟨xL c q k am am am am am am am am am,τ⟩
theorem aiK(c:List cN)(q:sY)(k base:Nat)(b:k<q.sels.length)(τ:aw):Vj c q k base τ=dg base [9999,5,6,10,11,12,13,14,23,24,25,26] yF (tu (.reg [i (.bin .add (e 22) (v (ap 1)))] [(22,l 0)]) (rH 1 (run code (.seq Aj (.seq zS (.seq u7 (.seq ni vv)))) ⟨xL c q k am am am am am (aC true) am am am,τ⟩))):=by
 have a:(k:Int)<(q.sels.length:Int):=by omega
 unfold Vj;rw[aZ];have d:run code (.reg [i (.bin .lss (e 22) (e 21))] [(23,l 0)]) ⟨xL c q k am am am am am am am am am,τ⟩=some (.nrm,⟨xL c q k am am am am am (aC true) am am am,τ⟩):=by
  simp[a,b]
 have f:run code (.cond (e 23) .skip (.exit 0)) ⟨xL c q k am am am am am (aC true) am am am,τ⟩=some (.nrm,⟨xL c q k am am am am am (aC true) am am am,τ⟩):=by
  simp
 conv=>lhs;rw[show run code yF=run code (.seq (.reg [i (.bin .lss (e 22) (e 21))] [(23,l 0)]) (.seq (.cond (e 23) .skip (.exit 0)) (.seq (.blk 1 (.seq Aj (.seq zS (.seq u7 (.seq ni vv))))) (.reg [i (.bin .add (e 22) (v (ap 1)))] [(22,l 0)])))) by rw[←ap6]]
 rw[fy,d,bW,fy,f,bW,fy,aeD]
theorem Y5{base:Nat}{r:Option (Ex×St)}(b:az)(h:zv r):zv (dg base [9999,5,6,10,11,12,13,14,23,24,25,26] yF (tu b (rH 1 r))):=by
 obtain⟨a,e,env,τ,rfl,c,d,f,g,i⟩:=h;exact⟨a,e,env,τ,rfl,c,d,f,g,i⟩
theorem UM{r:Option (Ex×St)}(b:az)(h:zv r):zv (tu b r):=by
 obtain⟨a,e,env,τ,rfl,c,d,f,g,i⟩:=h;exact⟨a,e,env,τ,rfl,c,d,f,g,i⟩
theorem Xo{c:List cN}{q:sY}{τ τ1:aw}{L:List (Nat×fG)}{D C nm' kd':aq}{n:Nat}{S:fG}{x:mC}(h:BSt c q τ L D C)(bad:Nat)(f:∀i o,i<τ.length→i≠3→i≠bad→τ[i]?=some o→τ1[i]?=some o)(B:5≤bad)(j:∀p∈L,p.1+11≤bad∨bad<p.1)(z:τ1[3]?=some (bO L.length nm' kd' q.limit))(la:LA τ1 n S)(A:AZ S)(k:S.cat=c)(I:n=τ.length+1)(s:n+11≤τ1.length)(m:S.fr=x)(t:q.sels[L.length]?=some x)(F:5≤τ.length) :
  BSt c q ((τ1.set 4 (aB 9 (L.length+1) ((L.map fun p=>xH p.1 p.2)++[xH n S]))).set 3 (bO (L.length+1) nm' kd' q.limit)) (L++[(n,S)]) nm' kd':=by
 have J:3<τ1.length:=(ak.1 z).1;have e:∀i o,i<τ.length→i≠3→i≠4→i≠bad→τ[i]?=some o→((τ1.set 4 (aB 9 (L.length+1) ((L.map fun p=>xH p.1 p.2)++[xH n S]))).set 3 (bO (L.length+1) nm' kd' q.limit))[i]?=some o:=fun i o hi a b d l=>by
  rw[aD (by omega),aD (by omega)];exact f i o hi a d l
 refine⟨e 0 _ (by omega) (by omega) (by omega) (by omega) h.b0,e 1 _ (by omega) (by omega) (by omega) (by omega) h.b1,e 2 _ (by omega) (by omega) (by omega) (by omega) h.b2,?_,?_,?_,?_⟩
 ·rw[aV (by simp;omega)];simp
 ·rw[aD (by omega),aV (by omega)];simp
 ·intro p g;rcases aY.1 g with g|g
  ·obtain⟨u,v,w,y,E⟩:=h.la p g;have G:=j p g;refine⟨u.keep fun i o hi r l=>e i o (by omega) (by omega) (by omega) (by omega) l,v,w,y,by simp;omega⟩
  rw[aP.1 g];refine⟨la.keep fun i o hi r l=>?_,A,k,by show 5≤n;omega,by simp;omega⟩;rw[aD (by omega),aD (by omega)];exact l
 have H:=(ak.1 t).1;rw[df,h.fr,cn,bB,bD,eY,t];simp[m]
theorem YC(c:List cN)(q:sY)(k base:Nat)(r:k≤10)(a b d f g h j m n:aq)(τ:aw):dg base [9999,5,6,10,11,12,13,14,23,24,25,26] yF (tu (.reg [i (.bin .add (e 22) (v (ap 1)))] [(22,l 0)]) (rH 1 (some (.nrm,⟨xL c q k a b d f g h j m n,τ⟩))))=Vj c q (k+1) base τ:=by
 have p:IntKind.i64.wrap ((k:Int)+1)=(k:Int)+1:=qL (by omega) (by omega);have o:((k+1:Nat):Int)=(k:Int)+1:=by omega
 unfold Vj;simp only[xL,o];simp[p,fg]
theorem ZN{c:List cN}{q:sY}{τ:aw}{L:List (Nat×fG)}{nm Z:aq}(D:CtK c)(g:BSt c q τ L nm Z)(hN:NmK τ L nm Z)(x:mC)(E:q.sels[L.length]?=some x)(Y:v7 x)(base:Nat) :
  zv (Vj c q L.length base τ)∨∃(f:aw) (n:Nat) (S:fG) (nm' kd':aq),Vj c q L.length base τ=Vj c q (L.length+1) base f∧BSt c q f (L++[(n,S)]) nm' kd'∧NmK f (L++[(n,S)]) nm' kd':=by
 have hl:=(ak.1 E).1;have ab:=q.h3;have l4:4<τ.length:=(ak.1 g.b4).1;rw[aiK c q L.length base hl τ];obtain⟨ad,q1,rfl⟩:=XN g.b0 L.length x E;rw[q1,fy];rcases ZP (q:=q) D g.b2 L.length x Y with J|⟨f,S,q2,v,y,e,t,a⟩
 ·exact .inl (Y5 _ (UM _ J))
 rw[q2,bW,fy];have W:=v.len;have T:f[τ.length+1+3]?=some (aB 25 0 [aH (iE (τ.length+1) S)]):=by simpa using v.at3 []
 rcases hN with⟨rfl,rfl,rfl⟩|⟨A,d,b,l,K,rfl,n1,rfl,n2,n3,n4,n5,O,n7,n8,s⟩
 ·right;obtain⟨τ1,d,b,l,G,B,H,V,I,d6,r,d8,C⟩:=alp (q:=q) D v y e (by rw[t];exact Y) .ai .ai ⟨rfl,rfl⟩ ⟨rfl,rfl⟩ (a 3 _ (by omega) g.b3) (aI τ.length 0 0 0) (aC true);have m:run code ni ⟨xL c q ([]:List (Nat×fG)).length (ap (([]:List (Nat×fG)).length:Nat)) (aI τ.length 0 0 0) (aI (τ.length+4) 0 0 0) (ap 0) am (aC true) (aC false) am am,f⟩=_:=G;rw[m,bW];have F:τ1[4]?=some (aB 9 0 []):=C 4 _ (by omega) (a 4 _ (by omega) g.b4);have P:=Ol (c:=c) (q:=q) (τ:=τ1) (n:=τ.length+1) (S:=S) (C _ _ (by omega) T) 0 (by omega) (kq d l.length) (kq b (vh S).length) [] rfl B F (aI τ.length 0 0 0) (ap 0) (kq b (vh S).length) (aC true) (aC false) (aC true) am;have Q:run code vv ⟨xL c q 0 (ap 0) (aI τ.length 0 0 0) (aI (τ.length+1+3) 0 0 0) (ap 0) (kq b (vh S).length) (aC true) (aC false) (aC true) am,τ1⟩=_:=P;rw[Q];have j:=Xo (τ1:=τ1) (n:=τ.length+1) (S:=S) (nm':=kq d l.length) (kd':=kq b (vh S).length) g (τ.length+100) (fun i o hi w _ u=>C i o w (a i o hi u)) (by omega) (fun p k=>by cases k) B (v.la.keep fun i o hi M u=>C i o (by omega) u) y e rfl (by omega) t E (by omega)
  refine⟨_,τ.length+1,S,_,_,YC c q 0 base (by omega) _ _ _ _ _ _ _ _ _ _,j,.inr ⟨by simp,d,b,l,vh S,rfl,?_,rfl,?_,I,by omega,by omega,by omega,?_,rfl,by
   have:=(y.lens (by rw[e];exact D.toCtOk)).2.2.1;simpa using this⟩⟩
  ·rw[aD (by omega),aD (by omega)];exact H
  ·rw[aD (by omega),aD (by omega)];exact V
  intro p k;have:p=(τ.length+1,S):=by simpa using k
  rw[this];left;show τ.length+1+11≤b;omega
 have X:0<L.length:=eV.2 A;have N:=(ak.1 n2).1;rcases alu (q:=q) D v y e L.length (by omega) (kq d l.length) b K s (a 2 _ (by omega) g.b2) (a 3 _ (by omega) g.b3) (a b _ N n2) O (aI τ.length 0 0 0) (aC true) with J|⟨τ1,cs,R,G,B,H,V,I,d6,r⟩
 ·exact .inl (Y5 _ (UM _ J))
 right;have m:run code ni ⟨xL c q L.length (ap L.length) (aI τ.length 0 0 0) (aI (τ.length+4) 0 0 0) (ap 0) am (aC true) (aC false) am am,f⟩=_:=G;rw[m,bW];have F:τ1[4]?=some (aB 9 L.length (L.map fun p=>xH p.1 p.2)):=r 4 _ (by omega) (a 4 _ (by omega) g.b4);have U:τ1[3]?=some (bO L.length (kq d l.length) (kq b K.length) q.limit):=r 3 _ (by omega) (a 3 _ (by omega) g.b3);have P:=Ol (c:=c) (q:=q) (τ:=τ1) (n:=τ.length+1) (S:=S) (r _ _ (by omega) T) L.length (by omega) (kq d l.length) (kq b K.length) (L.map fun p=>xH p.1 p.2) (by simp) U F (aI τ.length 0 0 0) (ap 0) R (aC true) (aC false) (aC false) (aC false);rw[P];have j:=Xo (τ1:=τ1) (n:=τ.length+1) (S:=S) (nm':=kq d l.length) (kd':=kq b K.length) g b (fun i o hi w hb u=>r i o hb (a i o hi u)) O n7 U (v.la.keep fun i o hi M u=>r i o (by omega) u) y e rfl (by omega) t E (by omega);have h:cs.length=K.length:=H;refine⟨_,τ.length+1,S,_,_,YC c q L.length base (by omega) _ _ _ _ _ _ _ _ _ _,j,.inr ⟨by simp,d,b,l,cs,rfl,?_,by rw[h],?_,by rw[n3,h],n4,n5,O,?_,?_,by omega⟩⟩
 ·have z:=(ak.1 n1).1;rw[aD (by omega),aD (by omega)];exact r _ _ n4 (a _ _ z n1)
 ·rw[aD (by omega),aD (by omega),h];exact I
 ·intro p k;rcases aY.1 k with k|k
  ·exact n7 p k
  rw[aP.1 k];right;show b<τ.length+1;omega
 rw[df];show kdU (L.map (fun p=>p.2)++[S])=some cs;rw[aad (by simpa using A),n8];exact B
theorem adw{c:List cN}{q:sY}(r:CtK c)(s:∀x∈q.sels,v7 x)(base:Nat):∀(m:Nat) (τ:aw) (L:List (Nat×fG)) (d b:aq),L.length+m=q.sels.length→BSt c q τ L d b→NmK τ L d b →
  zv (Vj c q L.length base τ)∨∃(a:aw) (f:List (Nat×fG)) (nm' kd':aq),Vj c q L.length base τ=some (.ext 0,⟨xL c q q.sels.length am am am am am (aC false) am am am,a⟩)∧BSt c q a f nm' kd'∧NmK a f nm' kd'∧f.length=q.sels.length:=by
 intro m;induction m with
 |zero=>
  intro τ L d b e g h;right;have e:L.length=q.sels.length:=by omega
  refine⟨τ,L,d,b,?_,g,h,e⟩;rw[e];unfold Vj;rw[aZ];simp[yF]
 |succ m u=>
  intro τ L d b e g h;have t:=au (show L.length<q.sels.length by omega);rcases ZN r g h _ t (s _ (aJ _)) base with p|⟨τ1,n,S,k,j,v,l,o⟩
  ·exact .inl p
  have i:(L++[(n,S)]).length=L.length+1:=by simp
  have:=u τ1 (L++[(n,S)]) k j (by omega) l o;rw[i]at this;rw[v];exact this
abbrev kyE(c:List cN)(q:sY)(k:Nat)(e15 e16 e17 e30 e31:aq):List aq:=[nB c,q.a,aI 0 0 0 0,aI 1 0 0 0,aI 2 0 0 0,am,am,ap 0,ap 0,aI 3 0 0 0,am,am,am,am,am,e15,e16,e17,aC false,aC false,.aa false (q.sels.map mC.a),ap q.sels.length,ap q.sels.length,aC false,am,am,am,.aa false ((q.keys.getD []).map BU.a),ap (q.keys.getD []).length,ap k,e30,e31]
noncomputable abbrev kyR(c:List cN)(q:sY)(k base:Nat)(τ:aw):Option (Ex×St):=bU code base [9999,5,6,15,16,17,30,31] Dy ⟨kyE c q k am am am am am,τ⟩
abbrev bP(N:Nat)(nm kd:aq)(ido k:Nat)(lim:Int):Obj:=aB 5 0 [aH [kq 4 N,nm,kd,kq ido k,ap lim]]
theorem X5{c:List cN}{q:sY}{τ:aw}(k:Nat)(t:k<(q.keys.getD []).length)(N e a:Nat)(f:List (List UInt8))(n:aq)(Q:τ[e]?=some (D6 f))(w:f.length≤8000)(F:τ[2]?=some (aB 5 0 [OS]))(G:τ[3]?=some (bP N (kq e f.length) n a k q.limit))(os:List (Int×Bool))(z:os.length=k)(H:τ[a]?=some (aB 2 k (os.map im)))(O:5≤a)(base:Nat) :
  zv (kyR c q k base τ)∨∃(g:aw) (x:Int) (d:Bool),kyR c q k base τ=kyR c q (k+1) base g∧0≤x∧x<f.length∧g[3]?=some (bP N (kq e f.length) n a (k+1) q.limit)∧g[a]?=some (aB 2 (k+1) ((os++[(x,d)]).map im))∧(∀i o,i≠3→i≠a→τ[i]?=some o→g[i]?=some o):=by
 have P:=q.hk;have m:(k:Int)<((q.keys.getD []).length:Int):=by omega
 have V:IntKind.i64.wrap ((k:Int)+1)=(k:Int)+1:=qL (by omega) (by omega);have L:((k+1:Nat):Int)=(k:Int)+1:=by omega
 obtain⟨y,D⟩:∃y,(q.keys.getD [])[k]?=some y:=⟨(q.keys.getD [])[k],au t⟩;have l:∀h:k<(q.keys.getD []).length,(q.keys.getD [])[k]'h=y:=fun h=>(ak.1 D).2;have j:y.a=aH [aO y.name,ap y.number,aC y.desc]:=rfl;obtain⟨x,r,b,C⟩:=amG y true f w;rw[j]at b;have n3:=fv G;have p:=fv Q;have T:=fv F;have U:=fv H;have Z:3<τ.length:=(ak.1 G).1;have Y:2<τ.length:=(ak.1 F).1;have lo:a<τ.length:=(ak.1 H).1;have S:List.take f.length (f.map aq.str)=f.map aq.str:=ay (by simp);unfold kyR;by_cases s:r=0
 ·right;subst s;obtain⟨W,X⟩:=C rfl;have E:((τ++[Obj.arr 3 0 [aH [aO y.name,ap y.number,aC y.desc]]]).set a (aB 2 (k+1) (os.map im++[aH [ap x,aC y.desc]])))[3]?=some (bP N (kq e f.length) n a k q.limit):=by rw[aD (by omega)];exact n3 _
  have B:List.take k (os.map im)=os.map im:=ay (by simp;omega);have u:k+1≤bC:=by unfold bC;omega
  have v:k≤os.length:=by omega
  refine⟨((τ++[Obj.arr 3 0 [aH [aO y.name,ap y.number,aC y.desc]]]).set a (aB 2 (k+1) (os.map im++[aH [ap x,aC y.desc]]))).set 3 (bP N (kq e f.length) n a (k+1) q.limit),x,y.desc,?_,W,X,by rw[aV (by simp;omega)],?_,fun i o M R hi=>?_⟩
  ·rw[aZ];simp only[kyE,bP,L,D6]at n3 E p ⊢;simp[Dy,m,t,D,l,j,n3,p,U,E,b,append,B,u,v,z,V,fg]
  ·rw[aD (by omega),aV (by simp;omega)];simp[im]
  rw[aD (by omega),aD (by omega)];exact fv hi _
 left;have A:∃(env:List aq),bU code base [9999,5,6,15,16,17,30,31] Dy ⟨kyE c q k am am am am am,τ⟩=some (.ret,⟨env,(τ++[Obj.arr 3 0 [aH [aO y.name,ap y.number,aC y.desc]]]).set 2 (aB 5 0 [OS])⟩)∧env[4]?=some (aI 2 0 0 0)∧env[5]?=some (ap 90)∧env[6]?=some (ap r):=by
  rw[aZ];simp only[kyE,bP,D6]at n3 p ⊢;exact⟨_,by simp[Dy,m,t,D,l,j,n3,p,T,b,s];rfl,rfl,rfl,rfl⟩
 obtain⟨env,A,I,J,K⟩:=A;exact⟨90,r,env,_,A,s,I,J,K,by rw[aV (by simp;omega)]⟩
theorem adp{c:List cN}{q:sY}(N g e:Nat)(r:List (List UInt8))(C:aq)(A:r.length≤8000)(v:5≤e)(z:g≠e)(G:5≤g)(base:Nat):∀(m k:Nat) (τ:aw) (os:List (Int×Bool)),k+m=(q.keys.getD []).length→os.length=k→(∀o∈os,0≤o.1∧o.1<r.length)→τ[g]?=some (D6 r)→τ[2]?=some (aB 5 0 [OS])→τ[3]?=some (bP N (kq g r.length) C e k q.limit)→τ[e]?=some (aB 2 k (os.map im)) →
  zv (kyR c q k base τ)∨∃(n:aw) (f:List (Int×Bool)),kyR c q k base τ=some (.ext 2,⟨kyE c q (q.keys.getD []).length am am am (aC false) am,n⟩)∧f.length=(q.keys.getD []).length∧(∀o∈f,0≤o.1∧o.1<r.length)∧n[3]?=some (bP N (kq g r.length) C e f.length q.limit)∧n[e]?=some (aB 2 f.length (f.map im))∧(∀i o,i≠3→i≠e→τ[i]?=some o→n[i]?=some o):=by
 intro m;induction m with
 |zero=>
  intro k τ os w l p y s t B;have w:k=(q.keys.getD []).length:=by omega
  right;refine⟨τ,os,?_,by omega,p,by rw[l];exact t,by rw[l];exact B,fun i o _ _ h=>h⟩;rw[w];unfold kyR;rw[aZ];simp[Dy]
 |succ m H=>
  intro k τ os w l p y s t B;rcases X5 (c:=c) k (by omega) N g e r C y A s t os l B v base with u|⟨τ1,x,d,D,I,J,E,F,keep⟩
  ·exact .inl u
  rcases H (k+1) τ1 (os++[(x,d)]) (by omega) (by simp[l]) (fun o j=>by
   rcases aY.1 j with j|j
   ·exact p o j
   rw[aP.1 j];exact⟨I,J⟩) (keep _ _ (by omega) z y) (keep _ _ (by omega) (by omega) s) E F with u|⟨τ2,f,q2,l2,r2,b3,bo,keep2⟩
  ·left;rw[D];exact u
  exact .inr ⟨τ2,f,D.trans q2,l2,r2,b3,bo,fun i o a b h=>keep2 i o a b (keep i o a b h)⟩
theorem v7.of{s:mC}(h:I7 s=true):v7 s:=by
 unfold I7 at h;simp only[ax]at h;obtain⟨⟨⟨⟨⟨⟨f,_⟩,g⟩,i⟩,_⟩,j⟩,k⟩:=h;have a:∀c:List eP,c.length≤1300→xZ c=true→c=[]∨ml c:=fun c l b=>by
  unfold xZ at b;simp only[dK,aX,da]at b;rcases b with b|b
  ·exact .inl b
  obtain⟨e,_,_,h⟩:=U4 c l;exact .inr (h b)
 refine⟨by simpa using f,fun x d=>?_,fun x d=>?_,a _ s.hw j,a _ s.hh k⟩
 ·have:=ba.1 g x d;unfold yH at this;simp only[ax]at this;obtain⟨e,_,_,h⟩:=U4 x.ns x.h;exact h this.1
 have:=ba.1 i x d;unfold AK at this;simp only[ax]at this;obtain⟨e,_,_,h⟩:=U4 x.on x.h;exact h this.1
def vY(S:fG):tH:=⟨S.tables,S.joins,S.whr.getD [],S.having.getD [],S.grouped,S.distinct,S.keys,S.ah.map kH.x,S.items.map fun it=>⟨false,it⟩⟩
theorem kH.fz0(g:kH)(base:Nat)(σ:aw)(m:Nat):fz false false base σ (m+4) g.a=vw g.x:=by
 obtain⟨t,o⟩:=g;cases o<;>simp[kH.a,kH.x,kH.es,vw,sv]
theorem ahF{τ:aw}{n:Nat}{S:fG}(h:LA τ n S)(m:Nat):fz false false 0 τ (m+10) (xH n S)=(vY S).a:=by
 obtain⟨c,d,e,f,i⟩:=h;have k:(vY S).a=aH [.aa false (S.tables.map (.int .i64)),.aa false (S.joins.map JX.a),.aa false ((S.whr.getD []).map EN.a),.aa false ((S.having.getD []).map EN.a),aC S.grouped,aC S.distinct,.aa false (S.keys.map (.int .i64)),.aa false ((S.ah.map kH.x).map vw),.aa false ((S.items.map fun it=>(⟨false,it⟩:Al)).map xM)]:=rfl;rw[k];have s:List.take S.tables.length (eA S.tables)=eA S.tables:=ay (by simp);have t:List.take S.joins.length (S.joins.map JX.a)=S.joins.map JX.a:=ay (by simp);have u:List.take S.keys.length (eA S.keys)=eA S.keys:=ay (by simp);have v:List.take S.ah.length (S.ah.map kH.a)=S.ah.map kH.a:=ay (by simp);have w:List.take S.items.length (S.items.map jh)=S.items.map jh:=ay (by simp);have l:∀(j:JX) m,fz false false 0 τ (m+3) j.a=j.a:=fun j m=>Fx.fx false false 0 τ m j;have p:∀(g:kH) m,fz false false 0 τ (m+4) g.a=vw g.x:=fun g m=>g.fz0 0 τ m;have r:∀g:kH,aM (vw g.x)=2:=fun _=>rfl;have b:∀g:kH,aM g.a=2:=fun _=>rfl;have q:∀j:JX,aM j.a=2:=fun _=>rfl;have a:∀(o:Option (List EN)) m,fz false false 0 τ (m+3) (sv (o.map (·.map EN.a)))=.aa false ((o.getD []).map EN.a):=fun o m=>by cases o<;>simp[sv]
 simp[xH,c,d,e,f,i,s,t,u,v,w,l,p,r,b,q,a,xM,nJ]
structure I5 (c:List cN) (q:sY) (b:BV) (L:List fG):Prop where
 sels:b.selects=L.map vY
 good:∀S∈L,AZ S∧S.cat=c∧v7 S.fr
 l1:1≤L.length
 l3:L.length≤3
 kd:kdU L=some b.ac
 nm:b.names.length=b.ac.length
 od:∀o∈b.order,0≤o.1∧o.1<b.ac.length
 ol:b.order.length≤3
 lim:FM b.limit=true
def LN(c:List cN)(q:sY)(v:aq):Prop:=(∃a e:Int,e≠0∧v=fb [aH [.aa false [],.aa false [],.aa false [],.aa false [],ap 0],ap a,ap e])∨∃(b:BV) (L:List fG),v=fb [b.a,ap 0,ap 0]∧I5 c q b L
abbrev st0(c:List cN)(q:sY):aw:=[aB 1 0 [nB c],aB 3 0 [q.a],aB 5 0 [OS],bO 0 .ai .ai q.limit,aB 9 0 []]
theorem apx(c:List cN)(q:sY):BSt c q (st0 c q) [] .ai .ai:=⟨rfl,rfl,rfl,rfl,rfl,fun p a=>(by cases a),rfl⟩
theorem acx{c:List cN}{q:sY}(d:bw I.qbb [nB c]=some (ap 0))(m:Rk q=true)(r:Option (Ex×St))
  (f:Vj c q 0 5 (st0 c q)=r) (n:zv r):∃v,bw I.qn [nB c,q.a]=some v∧LN c q v:=by
 obtain⟨a,e,env,τ,rfl,l,i,j,k,h⟩:=n;have b:=GZ q;rw[m]at b;simp only[cz]at b;have g:q.a=aH [.aa false (q.sels.map mC.a),.aa false ((q.keys.getD []).map BU.a),ap q.limit]:=rfl;refine⟨_,?_,.inl ⟨a,e,l,rfl⟩⟩;rw[aS Xe rfl];unfold Vj at f;simp only[xL,st0,bO,OS,kq,bd]at f h;rw[g]at f b ⊢;simp[arL,WK,d,b,f,i,j,k,h]
theorem acs{c:List cN}{q:sY}(z:bw I.qbb [nB c]=some (ap 0))(Q:Rk q=true){τ:aw}{L:List (Nat×fG)}{nm kd:aq}
  (C:Vj c q 0 5 (st0 c q)=some (.ext 0,⟨xL c q q.sels.length am am am am am (aC false) am am am,τ⟩)) (y:BSt c q τ L nm kd) (hN:NmK τ L nm kd) (hL:L.length=q.sels.length) (ht:∀x∈q.sels,v7 x):∃v,bw I.qn [nB c,q.a]=some v∧LN c q v:=by
 have k:=GZ q;rw[Q]at k;simp only[cz]at k;have H:q.a=aH [.aa false (q.sels.map mC.a),.aa false ((q.keys.getD []).map BU.a),ap q.limit]:=rfl;have ae:=q.h1;have af:=q.h3;rcases hN with⟨rfl,_⟩|⟨ad,f,d,n,K,rfl,W,rfl,n2,n3,n4,n5,n6,n7,n8,n9⟩
 ·simp at hL;omega
 have O:=y.b3;have l3:=(ak.1 O).1;have ln:=(ak.1 W).1;have lk:=(ak.1 n2).1;have l4:=(ak.1 y.b4).1;have l:∀i o,i≠3→τ[i]?=some o→(τ.set 3 (bP L.length (kq f n.length) (kq d K.length) τ.length 0 q.limit)++[Obj.arr 2 0 []])[i]?=some o:=fun i o hi u=>fv (by rw[aD (by omega)];exact u) _;have k3:(τ.set 3 (bP L.length (kq f n.length) (kq d K.length) τ.length 0 q.limit)++[Obj.arr 2 0 []])[3]?=some (bP L.length (kq f n.length) (kq d K.length) τ.length 0 q.limit):=fv (by rw[aV l3]) _;have ko:(τ.set 3 (bP L.length (kq f n.length) (kq d K.length) τ.length 0 q.limit)++[Obj.arr 2 0 []])[τ.length]?=some (aB 2 0 (([]:List (Int×Bool)).map im)):=by
  rw[bE (by simp)];simp
 have w:=adp (c:=c) (q:=q) L.length f τ.length n (kq d K.length) (by omega) (by omega) (by omega) n5 (τ.length+1) (q.keys.getD []).length 0 _ [] (by omega) rfl (fun o u=>by cases u) (l _ _ (by omega) W) (l _ _ (by omega) y.b2) k3 ko;generalize M:τ.set 3 (bP L.length (kq f n.length) (kq d K.length) τ.length 0 q.limit)++[Obj.arr 2 0 []]=N at *;have r:τ.set 3 (aB 5 0 [aH [kq 4 L.length,kq f n.length,kq d K.length,.sl τ.length 0 0 0,ap q.limit]])++[Obj.arr 2 0 []]=N:=M;have k1:=l 1 _ (by omega) y.b1;have B:N.length=τ.length+1:=by rw[←M];simp
 unfold Vj at C;simp only[xL,st0,bO,OS,kq,bd]at C;unfold kyR at w;simp only[kyE,bd]at w;simp only[bO,kq]at O;simp only[kq]at r;rcases w with⟨a,e,env,t,J,he,e4,e5,e6,h2⟩|⟨t,os,J,ol,X,c3,co,keep⟩
 ·refine⟨_,?_,.inl ⟨a,e,he,rfl⟩⟩;rw[aS Xe rfl];rw[H]at C k J k1 ⊢;simp only[OS]at h2;simp[arL,WK,z,k,C,O,r,B,k1,J,e4,e5,e6,h2]
 have g:∀i o,i≠3→i≠τ.length→τ[i]?=some o→t[i]?=some o:=fun i o a b u=>keep i o a b (l i o a u);have R:t[2]?=some (aB 5 0 [OS]):=g 2 _ (by omega) (by omega) y.b2;have l2:=(ak.1 R).1;generalize P:t.set 2 (aB 5 0 [aH [kq 4 L.length,kq f n.length,kq d K.length,kq τ.length os.length,ap q.limit]])=s at *;have j:∀i o,i≠2→t[i]?=some o→s[i]?=some o:=fun i o a u=>by rw[←P,aD (by omega)];exact u
 have Z:s[2]?=some (aB 5 0 [aH [kq 4 L.length,kq f n.length,kq d K.length,kq τ.length os.length,ap q.limit]]):=by rw[←P,aV l2]
 have f4:=j 4 _ (by omega) (g 4 _ (by omega) (by omega) y.b4);have fn:=j f _ (by omega) (g f _ (by omega) (by omega) W);have fk:=j d _ (by omega) (g d _ (by omega) (by omega) n2);have fo:=j τ.length _ (by omega) co;have F:∀p∈L,fz false false 0 s 17 (xH p.1 p.2)=(vY p.2).a:=fun p A=>by
  obtain⟨a1,_,_,a4,a5⟩:=y.la p A;exact ahF (a1.keep fun i o hi ab u=>j i o (by omega) (g i o (by omega) (by omega) u)) 7
 refine⟨_,?_,.inr ⟨⟨L.map fun p=>vY p.2,n,K,os,q.limit⟩,L.map fun p=>p.2,rfl,⟨by simp,?_,by simp;omega,by simp;omega,n8,n3,fun o u=>by have:=X o u;rw[←n3];exact this,(show os.length≤3 by have:=q.hk;omega),?_⟩⟩⟩
 ·rw[aS Xe rfl];have D:t[3]?=some (aB 5 0 [aH [kq 4 L.length,kq f n.length,kq d K.length,kq τ.length os.length,ap q.limit]]):=c3;have t4:List.take L.length (L.map fun p=>xH p.1 p.2)=L.map fun p=>xH p.1 p.2:=ay (by simp);have tn:List.take n.length (n.map aq.str)=n.map aq.str:=ay (by simp);have tk:List.take K.length (eA K)=eA K:=ay (by simp);have Y:List.take os.length (os.map im)=os.map im:=ay (by simp);have m4:(L.map fun p=>xH p.1 p.2).map (fz false false 0 s 17)=L.map fun p=>(vY p.2).a:=by
   rw[bT];exact aT fun p A=>F p A
  have V:(⟨L.map fun p=>vY p.2,n,K,os,q.limit⟩:BV).a=aH [.aa false ((L.map fun p=>vY p.2).map tH.a),.aa false (n.map aO),.aa false (K.map (.int .i64)),.aa false (os.map im),ap q.limit]:=rfl;have T:∀(o:Int×Bool) m,fz false false 0 s (m+3) (im o)=im o:=fun o m=>by simp[im]
  have no:∀o:Int×Bool,aM (im o)=2:=fun _=>rfl;have nb:∀S:fG,aM (vY S).a=9:=fun _=>rfl;have U:∀a∈L.map (fun p=>xH p.1 p.2),aM (fz false false 0 s 17 a)=aM a:=fun a ha=>by
   obtain⟨p,A,rfl⟩:=bM.1 ha;rw[F p A];rfl
  have G:L.length≤(L.map fun p=>xH p.1 p.2).length:=by simp
  generalize (L.map fun p=>xH p.1 p.2)=ov at *;have E:=eq_true U;rw[H]at C k J k1 ⊢;simp only[kq,OS]at D R P Z ⊢;simp[arL,WK,z,k,C,O,r,B,k1,J,D,R,P,Z,f4,fn,fk,fo,t4,tn,tk,Y,G,m4,E,T,no,V];intro a x h;rcases h with⟨_,rfl⟩|⟨_,rfl⟩<;>simp[im]
 ·intro S hS;obtain⟨p,A,rfl⟩:=bM.1 hS;obtain⟨_,a2,a3,_,_⟩:=y.la p A;refine⟨a2,a3,ht _ ?_⟩;have:p.2.fr∈L.map (fun p=>p.2.fr):=bM.2 ⟨p,A,rfl⟩;rw[y.fr]at this;exact cJ this
 unfold Rk at Q;simp only[ax]at Q;exact Q.1.1
theorem aiW{c:List cN}(k:CtK c)(b:bw I.qbb [nB c]=some (ap 0))(q:sY):∃v,bw I.qn [nB c,q.a]=some v∧LN c q v:=by
 cases hq:Rk q with
 |false=>
  have a:=GZ q;rw[hq]at a;simp only[bq,cH]at a;have e:q.a=aH [.aa false (q.sels.map mC.a),.aa false ((q.keys.getD []).map BU.a),ap q.limit]:=rfl;refine⟨_,?_,.inl ⟨0,180,by omega,rfl⟩⟩;rw[aS Xe rfl];rw[e]at a ⊢;simp[arL,WK,b,a]
 |true=>
  have d:∀x∈q.sels,v7 x:=fun x l=>by
   unfold Rk at hq;simp only[ax]at hq;exact v7.of (ba.1 hq.2 x l)
  rcases adw k d 5 q.sels.length (st0 c q) [] .ai .ai (by simp) (apx c q) (.inl ⟨rfl,rfl,rfl⟩) with j|⟨τ,L,n,m,f,g,i,h⟩
  ·exact acx b hq _ rfl j
  exact acs b hq f g i h d
end Go.AM
namespace Go.AM
open P
set_option maxHeartbeats 64000000
set_option maxRecDepth 40000
def tN(k:Nat)(n:cL):cL:={ n with l:=if 0≤n.l then n.l+k else n.l,r:=if 0≤n.r then n.r+k else n.r }
theorem Qz{n:cL}(h:mS n):n.bk=false∧n.bc=false∧n.by'=false∧n.bg=false∧n.bi=false∧n.bo=false:=by
 have:=h.z;simp[cL.a,tI]at this;exact⟨this.1,this.2.1,this.2.2.1,this.2.2.2.1.1,this.2.2.2.2.1.1,this.2.2.2.2.2⟩
theorem Nn{n:cL}(h:mS n)(k:Nat):gH k n=tN k n:=by
 obtain⟨a,b,c,d,e,f⟩:=Qz h;cases n;simp_all[gH,tN]
theorem FT{N M:Nat}{n:cL}(a:n.op≠8)(ks:List (iB Int))(fs:List Nat):oK N n ks fs=oK M n ks fs:=by
 unfold oK kS;simp[a]
theorem Xb(k:Nat)(n:cL):ig (tN k n)=ig n:=by unfold ig tN;rfl
theorem tt{fs0 fs:List Nat}{k j:Nat}(a:fs0.length=k)(b:j<fs.length):(fs0++fs.map (·+k)).getD (k+j) 0=fs.getD j 0+k:=by
 subst a;rw[aQ,bE (by omega),aQ];simp[b]
theorem Zf{k:Nat}{n:cL}{i:Nat}{fs0 fs:List Nat}(f:fs0.length=k)(x:fs.length=i)(u:ip n.op=2→n.l.toNat < i)(h:(fH n i fs).2=true) :
  fH (tN k n) (k+i) (fs0++fs.map (·+k))=((fH n i fs).1+k,true):=by
 unfold fH at h ⊢;have m:(tN k n).op=n.op:=rfl;rw[m];split at h
 ·rename_i c;rw[if_pos c,if_pos c];simp at h;obtain⟨a,b⟩:=h;simp[tN,a,b];omega
 rename_i c;rw[if_neg c,if_neg c];split at h
 ·rename_i d;rw[if_pos d,if_pos d];split at h
  ·cases h
  rename_i g;have l:n.l=(i:Int)-1:=by omega
  have e:n.r=-1:=by omega
  have hi:i≠0:=by omega
  have p:(tN k n).l=((k+i:Nat):Int)-1:=by simp[tN];rw[if_pos (by omega)];omega
  have r:(tN k n).r=-1:=by simp[tN,e]
  rw[if_neg g,if_neg (by omega)];have:=tt (fs0:=fs0) (fs:=fs) (k:=k) (j:=i-1) f (by omega);rw[show k+i-1=k+(i-1) by omega,this];simp
 rename_i d;rw[if_neg d,if_neg d];split at h
 ·cases h
 rename_i g;have o:ip n.op=2:=by rcases sX n.op with h|h|h<;>simp_all
 have v:=u o;have hi:i≠0:=by omega
 have e:n.r=(i:Int)-1:=by omega
 have l:n.l=((fs.getD (i-1) 0:Nat):Int)-1:=by omega
 have w:0≤n.l:=by omega
 have q:=tt (fs0:=fs0) (fs:=fs) (k:=k) (j:=i-1) f (by omega);have p:(tN k n).l=n.l+k:=by simp[tN];omega
 have r:(tN k n).r=((k+i:Nat):Int)-1:=by simp[tN];rw[if_pos (by omega)];omega
 rw[if_neg g,if_neg (by rw[show k+i-1=k+(i-1) by omega,q];omega)];have s:=tt (fs0:=fs0) (fs:=fs) (k:=k) (j:=n.l.toNat) f (by omega);have t:(tN k n).l.toNat=k+n.l.toNat:=by rw[p];omega
 rw[t,s];simp
theorem Ek{a ks:List (iB Int)}{k:Nat}(b:a.length=k){x:Int}(c:0≤x):(a++ks)[(x+k).toNat]?=ks[x.toNat]?:=by
 subst b;rw[bE (by omega)];congr 1;omega
theorem aiA{N k:Nat}{n:cL}{d ks:List (iB Int)}(h:d.length=k)(m:n.op≠8)(i:n.op≠1→0≤n.l)(f:n.op=2∨n.op=7→0≤n.r):kS N (d++ks) (tN k n)=kS 0 ks n:=by
 unfold kS;have j:(tN k n).op=n.op:=rfl;rw[j];by_cases c:n.op=1
 ·rw[if_pos c,if_pos c];rfl
 rw[if_neg c,if_neg c];have i:=i c;have l:(tN k n).l=n.l+k:=by simp[tN];omega
 rw[l,Ek h i];cases ks[n.l.toNat]? with
 |none=>rfl
 |some a=>
  simp only[cG];by_cases b:n.op=2
  ·have g:(tN k n).r=n.r+k:=by have:=f (.inl b);simp[tN];omega
   rw[if_pos b,if_pos b,g,Ek h (f (.inl b))];rfl
  rw[if_neg b,if_neg b];by_cases e:n.op=7
  ·have g:(tN k n).r=n.r+k:=by have:=f (.inr e);simp[tN];omega
   simp only[e];rw[g,Ek h (f (.inr e))];rfl
  simp only[e,cH,m];rfl
theorem tK{b σ ρ:Type}(g:Nat→b→σ→σ⊕ρ)(l m:List b):∀k s,dA g (l++m) k s=match dA g l k s with
  |.inl s'=>dA g m (k+l.length) s'
  |.inr r=>.inr r:=by
 induction l with
 |nil=>intro k s;rfl
 |cons a l c=>
  intro k s;simp only[bY,dA];cases g k a s with
  |inr r=>rfl
  |inl s'=>
   simp only;rw[c];simp only[bB];rw[show k+1+l.length=k+(l.length+1) by omega]
theorem Xh{n:cL}{i:Nat}{fs:List Nat}(h:(fH n i fs).2=true):(ip n.op=1→0≤n.l)∧(ip n.op=2→0≤n.l∧0≤n.r):=by
 unfold fH at h;split at h
 ·rename_i a;exact⟨fun h=>by omega,fun h=>by omega⟩
 split at h
 ·rename_i b;split at h
  ·cases h
  exact⟨fun _=>by omega,fun h=>by omega⟩
 split at h
 ·cases h
 exact⟨fun h=>by omega,fun _=>by omega⟩
theorem acr{N:Nat}{n:cL}{ks:List (iB Int)}{fs:List Nat}{r:iB Int}{f:Nat}(h:oK N n ks fs=some (r,f)) :
  (decide (1≤n.op)&&decide (n.op≤8)&&ig n)=true∧(fH n ks.length fs).2=true∧kS N ks n=some r∧r.l.length≤16∧f=(fH n ks.length fs).1.toNat:=by
 unfold oK at h;split at h
 ·cases h
 rename_i a;split at h
 ·cases h
 rename_i c b;split at h
 ·cases h
 cases h;simp only[kM,not_or,Bool.not_eq_false]at a;exact⟨by simp[a.1.1.1,a.1.1.2,a.1.2],a.2,b,by omega,rfl⟩
theorem Da{N:Nat}{n:cL}{ks:List (iB Int)}{fs:List Nat}{r:iB Int}(a:(decide (1≤n.op)&&decide (n.op≤8)&&ig n)=true)(b:(fH n ks.length fs).2=true)(c:kS N ks n=some r)(d:r.l.length≤16) :
  oK N n ks fs=some (r,(fH n ks.length fs).1.toNat):=by
 unfold oK;rw[a,b,c];simp only[jD,Bool.true_eq_false,cH];rw[if_neg (by omega)]
theorem acQ{N k i:Nat}{n:cL}{b ks:List (iB Int)}{fs0 fs:List Nat}{r:iB Int}{f:Nat}(u:b.length=k)(x:fs0.length=k)(hi:ks.length=i)(z:fs.length=i)(y:n.op≠8)(h:oK 0 n ks fs=some (r,f))(C:0≤(fH n i fs).1) :
  oK N (tN k n) (b++ks) (fs0++fs.map (·+k))=some (r,f+k):=by
 obtain⟨v,m,j,w,t⟩:=acr h;rw[hi]at m t;have d:=Xh m;have B:n.op=1∨ip n.op=1∨ip n.op=2:=by
  by_cases e:n.op=1
  ·exact .inl e
  rcases sX n.op with h|h|h
  ·unfold ip at h;rw[if_neg e]at h;split at h<;>omega
  ·exact .inr (.inl h)
  exact .inr (.inr h)
 have p:n.op≠1→0≤n.l:=fun e=>by
  rcases B with h|h|h
  ·exact absurd h e
  ·exact d.1 h
  exact (d.2 h).1
 have s:n.op=2∨n.op=7→ip n.op=2:=fun h=>by unfold ip;rcases h with h|h<;>simp[h]
 have l:=aiA (N:=N) u y p (fun h=>(d.2 (s h)).2) (ks:=ks);rw[j]at l;have q:ip n.op=2→n.l.toNat < i:=fun o=>by
  have A:n.op=2∨n.op=7:=by
   unfold ip at o;split at o
   ·omega
   split at o
   ·assumption
   omega
  have e:n.op≠1:=by omega
  unfold kS at j;rw[if_neg e]at j;obtain⟨a,l,_⟩:=aL.1 j;have:=(ak.1 l).1;omega
 have g:=Zf (fs0:=fs0) x z q m;have c:(b++ks).length=k+i:=by simp[u,hi]
 have:=Da (N:=N) (n:=tN k n) (ks:=b++ks) (fs:=fs0++fs.map (·+k)) (r:=r) (by rw[Xb];exact v) (by rw[c,g]) l w;rw[c,g]at this;rw[this];congr 2;rw[t];simp only;omega
theorem VH{n:cL}{i:Nat}{fs:List Nat}:0≤(fH n i fs).1:=by
 unfold fH
 repeat' split
 all_goals simp
theorem SQ{N k:Nat}{b:List (iB Int)}{fs0:List Nat}(g:b.length=k)(e:fs0.length=k):∀(u:List cL) (i:Nat) (ks:List (iB Int)) (fs:List Nat) (s:List (iB Int)×List Nat),ks.length=i→fs.length=i→(∀n∈u,n.op≠8) →
  dA (iu 0) u i (ks,fs)=.inl s→dA (iu N) (u.map (tN k)) (k+i) (b++ks,fs0++fs.map (·+k))=.inl (b++s.1,fs0++s.2.map (·+k)):=by
 intro u;induction u with
 |nil=>
  intro i ks fs s _ _ _ h;simp only[dA]at h;cases h;rfl
 |cons n u m=>
  intro i ks fs s hi d c h;simp only[dA,iu]at h;cases hs:oK 0 n ks fs with
  |none=>rw[hs]at h;cases h
  |some q=>
   obtain⟨r,f⟩:=q;rw[hs]at h;simp only at h;have j:=acQ (N:=N) g e hi d (c n (by simp)) hs VH;have a:=m (i+1) (ks++[r]) (fs++[f]) s (by simp[hi]) (by simp[d]) (fun n l=>c n (by simp[l])) h;simp only[aW,dA,iu];rw[j];simp only;rw[show k+(i+1)=k+i+1 by omega]at a;simp only[df,aW,bm]at a;rw[dv,dv];exact a
theorem HA{N:Nat}:∀(u:List cL) (i:Nat) (s:List (iB Int)×List Nat),(∀n∈u,n.op≠8)→dA (iu N) u i s=dA (iu 0) u i s:=by
 intro u;induction u with
 |nil=>intro i s _;rfl
 |cons n u c=>
  intro i s h;have a:iu N i n s=iu 0 i n s:=by unfold iu;rw[FT (N:=N) (M:=0) (h n (by simp))]
  simp only[dA];rw[a];cases iu 0 i n s with
  |inr _=>rfl
  |inl s'=>exact c _ _ fun n b=>h n (by simp[b])
structure TR (t:List cL) (K:List Int):Prop where
 own:∀n∈t,mS n
 ns:∀n∈t,NS n
 nosort:∀n∈t,n.op≠8
 pos:0<t.length
 le:t.length≤60
 look:∃s:List (iB Int)×List Nat,dA (iu 0) t 0 ([],[])=.inl s∧s.1.length=t.length∧s.2.length=t.length∧s.2.getD (t.length-1) 0=0∧∃r,s.1[t.length-1]?=some r∧r.l=K
theorem TR.lookF{t:List cL}{K:List Int}(h:TR t K):∃s,lookF t=some s:=by
 obtain⟨s,a,_,_,b,_⟩:=h.look;refine⟨s,?_⟩;unfold Go.AM.lookF;rw[if_neg (by have:=h.pos;have:=h.le;omega),HA t 0 _ h.nosort,a];simp only;rw[if_pos b]
theorem ae2(n:cL):tN 0 n=n:=by
 cases n;simp[tN]
theorem B4{t:List cL}(h:∀n∈t,mS n)(k:Nat):t.map (gH k)=t.map (tN k):=aT fun n a=>Nn (h n a) k
theorem Gh(t:List cL):t.map (tN 0)=t:=by
 have:∀n∈t,tN 0 n=id n:=fun n _=>ae2 n;rw[aT this,zq]
theorem wD{n:cL}(h:mS n)(l r:Int):mS (eZ n l r):=by
 have b:=Qz h;obtain⟨c,d,e,f,g,i⟩:=b;have a:=tR (n:=eZ n l r) ⟨h.fl.ag,h.fl.ex⟩ ⟨h.fit.ac,h.fit.cond,h.fit.keys,h.fit.ah,h.fit.args,h.fit.items,h.fit.exprs,h.fit.ords⟩ 0;have:gH 0 (eZ n l r)=eZ n l r:=by
  cases n;simp_all[gH,eZ]
 rw[this]at a;exact a
theorem B8{n:cL}(h:mS n)(l r:Int):gH 0 (eZ n l r)=eZ n l r:=by
 have:=Nn (wD h l r) 0;rw[ae2]at this;exact this
theorem zY{t:List cL}{m:cL}{s:List (iB Int)×List Nat}{r:iB Int}(d:t.length<60)(h:dA (iu (t.length+1)) t 0 ([],[])=.inl s)(c:oK (t.length+1) m s.1 s.2=some (r,0))(b:s.2.length=t.length) :
  lookF (t++[m])=some (s.1++[r],s.2++[0]):=by
 unfold lookF;rw[if_neg (by simp;omega)];have a:(t++[m]).length=t.length+1:=by simp
 rw[a,tK,h];simp only[dA,iu,c];have:(s.2++[0]).getD (t.length+1-1) 0=0:=by
  rw[aQ];simp[b]
 simp only[this,cz]
structure Un (n:cL) (K K':List Int):Prop where
 own:mS n
 ns:NS n
 op:n.op=3∨n.op=4∨n.op=5∨n.op=6
 blank:ig n=true
 asks:∀ks:List (iB Int),∀l a,0≤l→ks[l.toNat]?=some a→a.l=K→∃r,kS 0 ks (eZ n l (-1))=some r∧r.l=K'
 le:K'.length≤16
theorem zN(n:cL)(l r:Int):ig (eZ n l r)=ig n:=by unfold ig eZ;rfl
theorem tP{t:List cL}{K u:List Int}(h:TR t K){n:cL}(c:Un n K u)(F:t.length<60):dY n (some t)=some (t++[eZ n ((t.length:Int)-1) (-1)])∧TR (t++[eZ n ((t.length:Int)-1) (-1)]) u:=by
 obtain⟨s,w,k,l,C,r,D,E⟩:=h.look;have H:=h.pos;have e:((t.length:Int)-1).toNat=t.length-1:=by omega
 obtain⟨j,B,v⟩:=c.asks s.1 ((t.length:Int)-1) r (by omega) (by rw[e];exact D) E;have f:=c.op;have b:(eZ n ((t.length:Int)-1) (-1)).op=n.op:=rfl;have x:(eZ n ((t.length:Int)-1) (-1)).op≠8:=by rw[b];omega
 have p:ip n.op=1:=by unfold ip;rcases f with h|h|h|h<;>simp[h]
 have d:fH (eZ n ((t.length:Int)-1) (-1)) t.length s.2=(0,true):=by
  unfold fH;rw[b,if_neg (by omega),if_pos p];have y:(eZ n ((t.length:Int)-1) (-1)).l=(t.length:Int)-1:=rfl;have z:(eZ n ((t.length:Int)-1) (-1)).r=-1:=rfl;rw[y,z,if_neg (by omega),C];rfl
 have g:oK 0 (eZ n ((t.length:Int)-1) (-1)) s.1 s.2=some (j,0):=by
  have:=Da (N:=0) (n:=eZ n ((t.length:Int)-1) (-1)) (ks:=s.1) (fs:=s.2) (r:=j) (by rw[b,zN,c.blank];rcases f with h|h|h|h<;>simp[h]) (by rw[k,d]) B (by rw[v];exact c.le);rw[this,k,d];rfl
 have i:oK (t.length+1) (eZ n ((t.length:Int)-1) (-1)) s.1 s.2=some (j,0):=by rw[FT (M:=0) x];exact g
 have o:=zY (m:=eZ n ((t.length:Int)-1) (-1)) F (by rw[HA t 0 _ h.nosort];exact w) i l;obtain⟨q,G⟩:=h.lookF;refine⟨?_,?_⟩
 ·unfold dY iw;simp only[cG,dA,oZ,G,ka,cz,bX,bD];rw[show (((0:Nat):Int))=((0:Nat):Int) from rfl,B4 h.own 0,Gh];have A:((0:Nat):Int)+(t.length:Int)-1=(t.length:Int)-1:=by omega
  rw[A,B8 c.own,o];rfl
 refine⟨?_,?_,?_,by simp,by simp;omega,?_⟩
 ·intro m a;rcases aY.1 a with a|a
  ·exact h.own m a
  rw[aP.1 a];exact wD c.own _ _
 ·intro m a;rcases aY.1 a with a|a
  ·exact h.ns m a
  rw[aP.1 a];exact⟨(wD c.own _ _).fit,c.ns.keys,c.ns.ah,c.ns.items⟩
 ·intro m a;rcases aY.1 a with a|a
  ·exact h.nosort m a
  rw[aP.1 a];exact x
 refine⟨(s.1++[j],s.2++[0]),?_,by simp[k],by simp[l],?_,j,?_,v⟩
 ·rw[tK,w];simp only[dA,iu,g]
 ·rw[aQ];simp[l]
 simp[k]
structure Bi (n:cL) (K L K':List Int):Prop where
 own:mS n
 ns:NS n
 op:n.op=2∨n.op=7
 blank:ig n=true
 asks:∀ks:List (iB Int),∀l r a b,0≤l→0≤r→ks[l.toNat]?=some a→ks[r.toNat]?=some b→a.l=K→b.l=L→∃q,kS 0 ks (eZ n l r)=some q∧q.l=K'
 le:K'.length≤16
theorem Ku{t u:List cL}{K L R:List Int}(h:TR t K)(c:TR u L){n:cL}(g:Bi n K L R)(hl:t.length+u.length<60) :
  kX n (some t) (some u)=some (t++u.map (tN t.length)++[eZ n ((t.length:Int)-1) ((t.length:Int)+u.length-1)])∧TR (t++u.map (tN t.length)++[eZ n ((t.length:Int)-1) ((t.length:Int)+u.length-1)]) R:=by
 obtain⟨s,h1,E,F,h4,U,h5,h6⟩:=h.look;obtain⟨w,g1,g2,g3,g4,V,g5,g6⟩:=c.look;have hp:=h.pos;have ad:=c.pos;have A:=SQ (N:=0) E F u 0 [] [] w rfl rfl c.nosort g1;simp only[eJ,dJ,bm]at A;have e:dA (iu 0) (t++u.map (tN t.length)) 0 ([],[])=.inl (s.1++w.1,s.2++w.2.map (·+t.length)):=by
  rw[tK,h1];simp only[cD];exact A
 have b:(t++u.map (tN t.length)).length=t.length+u.length:=by simp
 have f:(s.1++w.1).length=t.length+u.length:=by simp[E,g2]
 have l:(s.2++w.2.map (·+t.length)).length=t.length+u.length:=by simp[F,g3]
 have G:(s.1++w.1)[((t.length:Int)-1).toNat]?=some U:=by
  rw[show ((t.length:Int)-1).toNat=t.length-1 by omega,aU (by omega)];exact h5
 have H:(s.1++w.1)[((t.length:Int)+u.length-1).toNat]?=some V:=by
  rw[show ((t.length:Int)+u.length-1).toNat=t.length+(u.length-1) by omega,bE (by omega),E,show t.length+(u.length-1)-t.length=u.length-1 by omega];exact g5
 obtain⟨D,X,S⟩:=g.asks (s.1++w.1) ((t.length:Int)-1) ((t.length:Int)+u.length-1) U V (by omega) (by omega) G H h6 g6;generalize o:eZ n ((t.length:Int)-1) ((t.length:Int)+u.length-1)=m at *;have i:m.op=n.op:=by rw[←o];rfl
 have O:m.l=(t.length:Int)-1:=by rw[←o];rfl
 have P:m.r=(t.length:Int)+u.length-1:=by rw[←o];rfl
 have J:ig m=true:=by rw[←o,zN];exact g.blank
 have z:mS m:=by rw[←o];exact wD g.own _ _
 have T:m.op≠8:=by rw[i];have:=g.op;omega
 have ab:ip m.op=2:=by rw[i];unfold ip;rcases g.op with h|h<;>simp[h]
 have v:fH m (t.length+u.length) (s.2++w.2.map (·+t.length))=(0,true):=by
  unfold fH;have Y:(s.2++w.2.map (·+t.length)).getD (t.length+u.length-1) 0=t.length:=by
   have:=tt (fs0:=s.2) (fs:=w.2) (k:=t.length) (j:=u.length-1) F (by omega);rw[show t.length+u.length-1=t.length+(u.length-1) by omega,this,g4];omega
  have Z:(s.2++w.2.map (·+t.length)).getD (t.length-1) 0=0:=by
   rw[aQ,aU (by omega),←List.getD_eq_getElem?_getD];exact h4
  rw[if_neg (by omega),if_neg (by omega),O,P,Y,if_neg (by omega)];rw[show ((t.length:Int)-1).toNat=t.length-1 by omega,Z];rfl
 have C:oK 0 m (s.1++w.1) (s.2++w.2.map (·+t.length))=some (D,0):=by
  have:=Da (N:=0) (n:=m) (ks:=s.1++w.1) (fs:=s.2++w.2.map (·+t.length)) (r:=D) (by rw[J,i];rcases g.op with h|h<;>simp[h]) (by rw[f,v]) X (by rw[S];exact g.le);rw[this,f,v];rfl
 have B:∀x∈t++u.map (tN t.length),x.op≠8:=by
  intro x a;rcases aY.1 a with a|a
  ·exact h.nosort x a
  obtain⟨y,d,rfl⟩:=bM.1 a;exact c.nosort y d
 have I:=zY (t:=t++u.map (tN t.length)) (m:=m) (s:=(s.1++w.1,s.2++w.2.map (·+t.length))) (r:=D) (by rw[b];exact hl) (by rw[HA _ 0 _ B];exact e) (by rw[FT (M:=0) T];exact C) (by rw[b];exact l);obtain⟨q,hq⟩:=h.lookF;obtain⟨q2,Q⟩:=c.lookF;have p:∀y∈u,mS (tN t.length y)∧NS (tN t.length y):=fun y d=>by
  have:=tR (c.own y d).fl (c.own y d).fit t.length;rw[Nn (c.own y d)]at this;exact⟨this,⟨this.fit,(c.ns y d).keys,(c.ns y d).ah,(c.ns y d).items⟩⟩
 refine⟨?_,?_⟩
 ·unfold kX iw;have W:((0:Nat):Int)+(t.length:Int)-1=(t.length:Int)-1:=by omega
  simp only[cG,dA,oZ,hq,Q,ka,cz,bX,bD,W];rw[B4 h.own 0,Gh,B4 c.own];simp only[cD,Nat.one_ne_zero,cH];rw[B8 g.own,o,I];rfl
 refine⟨?_,?_,?_,by simp;omega,by simp;omega,?_⟩
 ·intro x a;rcases aY.1 a with a|a
  ·rcases aY.1 a with a|a
   ·exact h.own x a
   obtain⟨y,d,rfl⟩:=bM.1 a;exact (p y d).1
  rw[aP.1 a];exact z
 ·intro x a;rcases aY.1 a with a|a
  ·rcases aY.1 a with a|a
   ·exact h.ns x a
   obtain⟨y,d,rfl⟩:=bM.1 a;exact (p y d).2
  rw[aP.1 a];exact⟨z.fit,by rw[←o];exact g.ns.keys,by rw[←o];exact g.ns.ah,by rw[←o];exact g.ns.items⟩
 ·intro x a;rcases aY.1 a with a|a
  ·exact B x a
  rw[aP.1 a];exact T
 refine⟨(s.1++w.1++[D],s.2++w.2.map (·+t.length)++[0]),?_,by rw[cn,f,cn,b];rfl,by rw[cn,l,cn,b];rfl,?_,D,?_,S⟩
 ·rw[tK,e];simp only[dA,iu,C]
 ·rw[aQ,bE (by rw[l,cn,b];simp)];rw[cn,b,l];simp
 rw[bE (by rw[f,cn,b];simp),cn,b,f];simp
theorem YY{e:List EN}{K:List Int}(h:jt e K=true)(j:e.length≤uP)(i:K.length≤16):Un (rk e) K K:=by
 have c:=Dc j;refine⟨c.1,c.2,.inl rfl,by simp[ig,rk,dz],?_,i⟩;intro ks l a k g b;refine⟨a,?_,b⟩;have:(eZ (rk e) l (-1)).op=3:=rfl;have d:(eZ (rk e) l (-1)).l=l:=rfl;have f:(eZ (rk e) l (-1)).cond=e:=rfl;unfold kS;rw[this,d,f,g];simp only[cG,b,h];simp
theorem YN{k:List Int}{g:List lf}{K:List Int}(r:k.length≤3)(q:g.length≤12)(b:0<k.length+g.length)(e:vA k K=true)(c:g.all (fun x=>(CR K x).1)=true)(d:∀x∈g,x.arg.length≤uP)(p:∀x∈g,x.b=false) :
  Un (jk k g) K (k.map (fun x=>K.getD x.toNat 0)++g.map (uT K)):=by
 have f:=Ms (ks:=k) (gs:=g) (by omega) (by omega) d p;refine⟨f.1,f.2,.inr (.inl rfl),by simp[ig,jk,dz],?_,by simp;omega⟩;intro ks l a s o n;have h:(eZ (jk k g) l (-1)).op=4:=rfl;have i:(eZ (jk k g) l (-1)).l=l:=rfl;have j:(eZ (jk k g) l (-1)).keys=k:=rfl;have m:(eZ (jk k g) l (-1)).ah=g:=rfl;refine⟨_,by
  unfold kS vz Eh;rw[h,i,j,m,o];simp only[cG,n,e,c,r,q,b,decide_true,lQ];simp;rfl,rfl⟩
theorem aep{es:List Al}{K:List Int}(h:1≤es.length)(b:es.length≤16)(m:es.all (fun e=>(eF e.l K).2==0)=true)(n:∀e∈es,e.l.length≤uP)(k:∀e∈es,e.b=false) :
  Un (mz es) K (es.map fun e=>(eF e.l K).1):=by
 have c:=Ik (es:=es) (by omega) n k;refine⟨c.1,c.2,.inr (.inr (.inl rfl)),by simp[ig,mz,dz],?_,by simpa using b⟩;intro ks l a o j i;have d:(eZ (mz es) l (-1)).op=5:=rfl;have f:(eZ (mz es) l (-1)).l=l:=rfl;have g:(eZ (mz es) l (-1)).items=es:=rfl;refine⟨_,by
  unfold kS;rw[d,f,g,j];simp only[cG,i,m,h,b,decide_true,lQ];simp;rfl,rfl⟩
theorem ai5{K:List Int}(f:K.length≤16):Un vS K K:=by
 refine⟨Aq.1,Aq.2,.inr (.inr (.inr rfl)),by simp[ig,vS,dz],?_,f⟩;intro ks l a g e d;refine⟨a,?_,d⟩;have b:(eZ vS l (-1)).op=6:=rfl;have c:(eZ vS l (-1)).l=l:=rfl;unfold kS;rw[b,c,e];simp
theorem adc{j:JX}{K L:List Int}(h:jt j.on (K++L)=true)(q:j.on.length≤uP)(p:K.length+L.length≤16):Bi (kf j) K L (K++L):=by
 have c:=G3 q;refine⟨c.1,c.2,.inl rfl,by simp[ig,kf,dz],?_,by simpa using p⟩;intro ks l r a b s i n o k m;have d:(eZ (kf j) l r).op=2:=rfl;have e:(eZ (kf j) l r).l=l:=rfl;have f:(eZ (kf j) l r).r=r:=rfl;have g:(eZ (kf j) l r).cond=j.on:=rfl;refine⟨_,by
  unfold kS;rw[d,e,f,g,n];simp only[cG,o,k,m,h];simp;rfl,rfl⟩
theorem KG:∀(a b M:List Int),jH a b=some M→M.length=a.length
 |[],_,M,h=>by simp[jH]at h;subst h;rfl
 |_::_,[],M,h=>by simp[jH]at h
 |k::a,o::b,M,h=>by
  by_cases c:o≠0∧o≠(if k=0 then o else k)
  ·rw[jH,if_pos c]at h;cases h
  rw[jH,if_neg c]at h;obtain⟨m,e,d⟩:=aR.1 h;rw[←d,bB,KG a b m e,bB]
theorem ajm{K L M:List Int}(c:K.length=L.length)(h:jH K L=some M)(n:K.length≤16):Bi rt K L M:=by
 refine⟨zI.1,zI.2,.inr rfl,by simp[ig,rt,dz],?_,by rw[KG _ _ _ h];exact n⟩;intro ks l r a b o g k m i j;have d:(eZ rt l r).op=7:=rfl;have e:(eZ rt l r).l=l:=rfl;have f:(eZ rt l r).r=r:=rfl;refine⟨_,by
  unfold kS;rw[d,e,f,k];simp only[cG,m,i,j,h,c];simp;rfl,rfl⟩
structure Wo (ks:List Int):Prop where
 pos:0<ks.length
 le:ks.length≤4
 kd:∀k∈ks,1≤k∧k≤3
abbrev Kp(c:List cN)(t:Int):cL:=eZ (kg t ((c[t.toNat]?.map cN.ac).getD [])) (-1) (-1)
theorem OZ{c:List cN}{t:Int}(q:0≤t)(x:t<c.length)(y:t<4)(j:Wo ((c[t.toNat]?.map cN.ac).getD [])):jz c t=some [Kp c t]∧TR [Kp c t] ((c[t.toNat]?.map cN.ac).getD []):=by
 unfold Kp jz;rw[if_pos ⟨q,x⟩];generalize (c[t.toNat]?.map cN.ac).getD []=ks at *;have o:=j.le;have f:=j.pos;have e:=Iq t (ks:=ks) (by omega);have v:mS (eZ (kg t ks) (-1) (-1)):=wD e.1 _ _;have a:ks.any (fun k=>decide (k<1) ||decide (3<k))=false:=by
  rw[cR];intro k l;have:=j.kd k l;simp;omega
 have p:Ia (eZ (kg t ks) (-1) (-1))=true:=by
  unfold Ia;have h:(eZ (kg t ks) (-1) (-1)).ac=ks:=rfl;have w:(eZ (kg t ks) (-1) (-1)).tab=t:=rfl;rw[h,w,a];simp[q,y,f,o]
 have g:oK 0 (eZ (kg t ks) (-1) (-1)) [] []=some (⟨false,ks⟩,0):=by
  have u:fH (eZ (kg t ks) (-1) (-1)) ([]:List (iB Int)).length []=(0,true):=rfl;have i:ig (kg t ks)=true:=by simp[ig,kg,dz]
  have:=Da (N:=0) (n:=eZ (kg t ks) (-1) (-1)) (ks:=[]) (fs:=[]) (r:=⟨false,ks⟩) (by rw[zN,i];rfl) (by rw[u]) (by
   unfold kS;have h:(eZ (kg t ks) (-1) (-1)).op=1:=rfl;rw[h,p];rfl) (by simp;omega)
  rw[this,u];rfl
 have z:dA (iu 0) [eZ (kg t ks) (-1) (-1)] 0 ([],[])=.inl ([⟨false,ks⟩],[0]):=by
  simp only[dA,iu,g];rfl
 have b:=zY (t:=[]) (m:=eZ (kg t ks) (-1) (-1)) (s:=([],[])) (r:=⟨false,ks⟩) (by simp) rfl (by rw[FT (M:=0) (by show (1:Int)≠8;omega)];exact g) rfl;refine⟨?_,⟨?_,?_,?_,by simp,by simp,⟨([⟨false,ks⟩],[0]),z,rfl,rfl,rfl,⟨false,ks⟩,rfl,rfl⟩⟩⟩
 ·unfold iw;simp only[dA];rw[B8 e.1];rw[show ([]:List cL)++[eZ (kg t ks) (-1) (-1)]=[eZ (kg t ks) (-1) (-1)] from rfl]at b ⊢;rw[b];rfl
 ·intro n d;rw[aP.1 d];exact v
 ·intro n d;rw[aP.1 d];exact⟨v.fit,e.2.keys,e.2.ah,e.2.items⟩
 intro n d;rw[aP.1 d];show (1:Int)≠8;omega
theorem XK{c:List cN}{a:List Int}{d:List JX}(i:GP c a d)(l:∀t∈a,Wo (Ab c t))(J:c.length≤4)(I:a.length≤3):∀(m k:Nat) (t:List cL),k+m=a.length→1≤k→TR t (yb c (a.take k))→t.length=2*k-1→(yb c (a.take k)).length≤4*k →
  ∃s,((d.drop (k-1)).zip (a.drop k)).foldl (fun o p=>kX (kf p.1) o (jz c p.2)) (some t)=some s∧TR s (yb c a)∧s.length=2*a.length-1:=by
 intro m;induction m with
 |zero=>
  intro k t q y h u _;have q:k=a.length:=by omega
  subst q;rw[du]at h;exact⟨t,by simp,h,u⟩
 |succ m B=>
  intro k t q y h u z;have b:k<a.length:=by omega
  have w:=i.len;have g:k-1<d.length:=by omega
  have hd:a.drop k=a[k]::a.drop (k+1):=dx b;have n:d.drop (k-1)=d[k-1]::d.drop k:=by
   have:=dx g;rw[show k-1+1=k by omega]at this;exact this
  rw[hd,n,fS,eu];obtain⟨C,D⟩:=i.rng _ (aJ b);have e:=l _ (aJ b);obtain⟨E,F⟩:=OZ (c:=c) (t:=a[k]) C D (by omega) e;obtain⟨L,x⟩:=i.on (k-1) d[k-1] (au g);have f:yb c (a.take (k+1))=yb c (a.take k)++Ab c a[k]:=by
   show List.flatMap (Ab c) (a.take (k+1))=List.flatMap (Ab c) (a.take k)++Ab c a[k];rw[dq b,mh,fX,List.flatMap_nil,dJ]
  rw[show k-1+2=k+1 by omega,f]at x;have A:((c[a[k].toNat]?.map cN.ac).getD []).length≤4:=e.le;have K:1000≤uP:=by decide
  obtain⟨G,H⟩:=Ku h F (adc (j:=d[k-1]) x (by omega) (by omega)) (by simp;omega);simp only;rw[E,G];have r:(t++[Kp c a[k]].map (tN t.length)++[eZ (kf d[k-1]) ((t.length:Int)-1) ((t.length:Int)+([Kp c a[k]]:List cL).length-1)]).length=2*(k+1)-1:=by simp;omega
  have:=B (k+1) _ (by omega) (by omega) (by rw[f];exact H) r (by rw[f,cn];have v:=e.le;omega);rw[show k+1-1=k by omega]at this;exact this
theorem WI{c:List cN}{S:fG}(j:AZ S)(b:S.cat=c)(e:∀t∈S.tables,Wo (Ab c t))(u:c.length≤4):∃t,pR c (vY S)=some t∧TR t S.ac∧t.length≤5:=by
 have i:=j.js;rw[b]at i;have q:=i.len;have w:=j.jl;have p:=j.kd;rw[b]at p;have k:(vY S).tables=S.tables:=rfl;have m:(vY S).joins=S.joins:=rfl;unfold pR;rw[k,m,if_neg (by omega)];have d:0<S.tables.length:=by omega
 have v:S.tables=S.tables[0]::S.tables.drop 1:=by
  have:=dx d;simpa using this
 obtain⟨x,y⟩:=i.rng _ (aJ d);have g:=e _ (aJ d);obtain⟨z,A⟩:=OZ (c:=c) (t:=S.tables[0]) x y (by omega) g;have n:S.tables.headD 0=S.tables[0]:=by
  have:∀(l:List Int) (h:0<l.length),l.headD 0=l[0]:=fun l h=>by cases l with
   |nil=>simp at h
   |cons a r=>rfl
  exact this _ d
 have o:S.tables.tail=S.tables.drop 1:=by simp
 rw[n,o,z];have f:yb c (S.tables.take 1)=Ab c S.tables[0]:=by
  show List.flatMap (Ab c) (S.tables.take 1)=_;rw[show (1:Nat)=0+1 from rfl,dq d,mh,fX,List.flatMap_nil,dJ];simp
 obtain⟨B,s,C,D⟩:=XK i e u (by omega) (S.tables.length-1) 1 [Kp c S.tables[0]] (by omega) (by omega) (by rw[f];exact A) (by simp) (by rw[f];have:=g.le;omega);refine⟨B,?_,by rw[p];exact C,by omega⟩;rw[show (1:Nat)-1=0 from rfl,mV]at s;exact s
theorem abs{S:fG}{t:List cL}{K:List Int}(h:TR t K)(m:t.length≤20)(f:K.length≤16)(a:ED S.whr K):∃d,yE (vY S) (some t)=some d∧TR d K∧d.length≤t.length+1:=by
 have g:(vY S).whr=S.whr.getD []:=rfl;have l:1000≤uP:=by decide
 unfold yE;rw[g];by_cases b:S.whr.getD []=[]
 ·rw[if_pos b];exact⟨t,rfl,h,by omega⟩
 rw[if_neg b];rcases a with a|⟨es,a,k,c⟩
 ·rw[a]at b;exact absurd rfl b
 rw[a];obtain⟨i,j⟩:=tP h (YY (e:=es) c (by omega) f) (by omega);exact⟨_,i,j,by simp⟩
def ui(S:fG):List Int:=if S.grouped then (if S.keys.length+S.ah.length=0 then S.groups++[2] else S.groups) else S.ac
theorem QF(S:fG):(vY S).ah=S.ah.map kH.x:=rfl
theorem So{S:fG}{t:List cL}{K:List Int}(h:TR t K)(k:t.length≤25)(c:K.length≤16)(d:S.having.getD []≠[]→jt (S.having.getD []) K=true∧(S.having.getD []).length≤1000):∃b,(if S.having.getD []=[] then (some t) else dY (rk (S.having.getD [])) (some t))=some b∧TR b K∧b.length≤t.length+1:=by
 have j:1000≤uP:=by decide
 by_cases a:S.having.getD []=[]
 ·rw[if_pos a];exact⟨t,rfl,h,by omega⟩
 rw[if_neg a];obtain⟨i,l⟩:=d a;obtain⟨f,g⟩:=tP h (YY (e:=S.having.getD []) i (by omega) c) (by omega);exact⟨_,f,g,by simp⟩
theorem ZB{S:fG}(e:AZ S)(a:S.grouped=false)(t:List cL):rY (vY S) (some t)=some t:=by
 have b:(vY S).grouped=S.grouped:=rfl;have c:(vY S).keys=S.keys:=rfl;have d:(vY S).having=S.having.getD []:=rfl;obtain⟨f,g,n3,n4⟩:=e.nog a;unfold rY;rw[b,a,c,d,QF,f,g,n3];simp
theorem ZL{S:fG}(F:AZ S)(q:S.grouped=true){t:List cL}(h:TR t S.ac)(T:t.length≤20):∃E,rY (vY S) (some t)=some E∧TR E (ui S)∧E.length≤t.length+2∧(ui S).length≤16:=by
 have B:(vY S).grouped=S.grouped:=rfl;have j:(vY S).keys=S.keys:=rfl;have C:(vY S).having=S.having.getD []:=rfl;have R:1000≤uP:=by decide
 have b:=F.gk;have A:∀x∈[(2:Int)],k03 x:=fun x n=>by rw[aP.1 n];exact⟨by decide,by decide⟩
 have f:ui S=if S.keys.length+S.ah.length=0 then S.groups++[2] else S.groups:=by unfold ui;rw[if_pos q]
 have G:S.groups.length≤15:=by
  have P:=b.kl;have Q:=b.al;rw[b.gr];simp;omega
 have i:(ui S).length≤16:=by
  rw[f];split
  ·simp;omega
  omega
 have l:∃y,dY (jk S.keys (jQ (vY S))) (some t)=some y∧TR y (ui S)∧y.length=t.length+1:=by
  have u:vA S.keys S.ac=true:=by
   unfold vA;have L:(S.keys.any fun c=>decide (c<0) ||decide ((S.ac.length:Int)≤c))=false:=by
    rw[cR];intro k H;have:=b.kr k H;simp;omega
   rw[L];rfl
  by_cases z:S.keys.length+S.ah.length=0
  ·have e:S.keys=[]:=da.1 (by omega);have p:S.ah=[]:=da.1 (by omega);have r:S.groups=[]:=by rw[b.gr,e,p];rfl
   have a:jQ (vY S)=[⟨1,false,[]⟩]:=by
    unfold jQ;rw[j,QF,e,p];rfl
   have m:=YN (k:=S.keys) (g:=jQ (vY S)) (K:=S.ac) b.kl (by rw[a];simp) (by rw[a];simp) u (by rw[a];rfl) (by rw[a];simp) (by rw[a];simp);obtain⟨w,o⟩:=tP h m (by omega);refine⟨_,w,?_,by simp⟩;rw[f,if_pos z,r];rw[a,e]at o;rw[a,e];exact o
  have a:jQ (vY S)=S.ah.map kH.x:=by
   unfold jQ;rw[j,QF,dm,if_neg z]
  have m:=YN (k:=S.keys) (g:=jQ (vY S)) (K:=S.ac) b.kl (by rw[a];simpa using b.al) (by rw[a];simp;omega) u (by
   rw[a,ba];intro x n;obtain⟨g,d,rfl⟩:=bM.1 n;exact b.ag g d) (by
   rw[a];intro x n;obtain⟨g,d,rfl⟩:=bM.1 n;have:=b.ae g d;show g.es.length≤uP;omega) (by
   rw[a];intro x n;obtain⟨g,d,rfl⟩:=bM.1 n;rfl)
  obtain⟨w,o⟩:=tP h m (by omega);refine⟨_,w,?_,by simp⟩;rw[f,if_neg z,b.gr];rw[a,bT]at o;rw[a];exact o
 obtain⟨y,w,o,V⟩:=l;have J:S.having.getD []≠[]→jt (S.having.getD []) (ui S)=true∧(S.having.getD []).length≤1000:=fun s=>by
  rcases F.having with D|⟨es,D,I,v⟩
  ·rw[D]at s;exact absurd rfl s
  rw[D];refine⟨?_,I⟩;rw[f];split
  ·exact Q1 v A
  exact v
 obtain⟨M,N,O,U⟩:=So o (by omega) i J;refine⟨M,?_,O,by omega,i⟩;unfold rY;rw[B,q,j,C,if_pos rfl,w];exact N
theorem O5{c:List cN}{S:fG}(d:AZ S)(f:S.cat=c)(k:∀t∈S.tables,Wo (Ab c t))(U:c.length≤4)(V:CtOk c)(i:S.fr.star=((S.fr.items.getD []).length==0)):∃t,sK c (vY S)=some t∧TR t (vh S)∧t.length≤10:=by
 obtain⟨I,_,_,z⟩:=d.lens (by rw[f];exact V);have hm:1000≤uP:=by decide
 have v:∀x∈[(2:Int)],k03 x:=fun x C=>by rw[aP.1 C];exact⟨by decide,by decide⟩
 obtain⟨t1,L,M,Y⟩:=WI d f k U;obtain⟨q,N,D,Z⟩:=abs (S:=S) M (by omega) (by omega) d.whr;have m:∃j,rY (vY S) (some q)=some j∧TR j (ui S)∧j.length≤q.length+2:=by
  cases hgr:S.grouped with
  |false=>
   refine⟨q,ZB d hgr q,?_,by omega⟩;unfold ui;rw[hgr];exact D
  |true=>
   obtain⟨j,s,u,E,_⟩:=ZL d hgr D (by omega);exact⟨j,s,u,E⟩
 obtain⟨j,s,u,E⟩:=m;have h:∀it∈S.items,eF it (ui S)=eF it (mF S):=fun it hit=>by
  have:=(d.items it hit).2;unfold ui mF at *;cases hgr:S.grouped with
  |false=>simp
  |true=>
   rw[hgr]at this;simp only[cz]at this ⊢;split
   ·exact Dr this v
   rfl
 have o:1≤S.items.length:=by
  rw[d.il];cases hs:S.fr.star with
  |false=>
   rw[hs]at i;simp only[bq,cH];cases hl:S.fr.items.getD [] with
   |nil=>rw[hl]at i;simp at i
   |cons a r=>simp
  |true=>
   simp only[cz];have H:=d.kd;rw[f]at H;have J:=d.js.len;have G:0<S.tables.length:=by omega
   have B:=k _ (aJ G);rw[H];have W:=B.pos;have n:∃x,x∈yb c S.tables:=by
    obtain⟨y,X⟩:=List.exists_mem_of_length_pos W;exact⟨y,lh.2 ⟨_,aJ G,X⟩⟩
   obtain⟨x,C⟩:=n;exact List.length_pos_of_mem C
 have g:S.items.length≤16:=by
  rw[d.il];have:=S.fr.hi;split<;>omega
 have b:(vY S).items=S.items.map fun it=>(⟨false,it⟩:Al):=rfl
 have p:=aep (es:=(vY S).items) (K:=ui S) (by rw[b];simpa using o) (by rw[b];simpa using g) (by
  rw[b,ba];intro e l;obtain⟨it,hit,rfl⟩:=bM.1 l;have R:=h it hit;have T:=(d.items it hit).2;show ((eF it (ui S)).2==0)=true;rw[R,T];rfl) (by
  rw[b];intro e l;obtain⟨it,hit,rfl⟩:=bM.1 l;have:=z it hit;show it.length≤uP;omega) (by
  rw[b];intro e l;obtain⟨it,hit,rfl⟩:=bM.1 l;rfl)
 have A:((vY S).items.map fun e=>(eF e.l (ui S)).1)=vh S:=by
  rw[b,bT];exact aT fun it hit=>by
   show (eF it (ui S)).1=(eF it (mF S)).1;rw[h it hit]
 rw[A]at p;obtain⟨O,F⟩:=tP u p (by omega);have w:(vY S).distinct=S.distinct:=rfl;unfold sK AH;rw[L,N,s,w,O];cases hd:S.distinct with
 |false=>exact⟨_,rfl,F,by simp;omega⟩
 |true=>
  obtain⟨P,Q⟩:=tP F (ai5 (by simpa using g)) (by simp;omega);exact⟨_,P,Q,by simp;omega⟩
theorem Ac:∀(a b M:List Int),mE a b=some M→a.length=b.length∧M.length=a.length
 |[],[],M,h=>by simp[mE]at h;subst h;exact⟨rfl,rfl⟩
 |[],_::_,M,h=>by simp[mE]at h
 |_::_,[],M,h=>by simp[mE]at h
 |k::a,o::b,M,h=>by
  simp only[mE]at h;by_cases f:k=0
  ·rw[if_pos f]at h;obtain⟨m,c,rfl⟩:=aR.1 h;obtain⟨d,e⟩:=Ac a b m c;exact⟨by simp[d],by simp[e]⟩
  rw[if_neg f]at h;by_cases g:o≠0∧o≠k
  ·rw[if_pos g]at h;cases h
  rw[if_neg g]at h;obtain⟨m,c,rfl⟩:=aR.1 h;obtain⟨d,e⟩:=Ac a b m c;exact⟨by simp[d],by simp[e]⟩
theorem G7(l:List fG):l.foldl (fun o T=>o.bind fun K=>mE K (vh T)) none=none:=by
 induction l with
 |nil=>rfl
 |cons a r b=>exact b
theorem OY{c:List cN}:∀(l:List fG) (k:Nat) (t:List cL) (K M:List Int),(∀S∈l,∃u,sK c (vY S)=some u∧TR u (vh S)∧u.length≤10)→1≤k→TR t K→K.length≤16→t.length+11*l.length≤50→l.foldl (fun o T=>o.bind fun K=>mE K (vh T)) (some K)=some M →
  ∃f,dA (wr c) (l.map vY) k (some t)=.inl (some f)∧TR f M∧f.length≤t.length+11*l.length
 |[],k,t,K,M,_,_,e,_,_,a=>by
  simp at a;subst a;exact⟨t,rfl,e,by simp⟩
 |S::l,k,t,K,M,b,y,e,j,m,a=>by
  obtain⟨u,n,p,z⟩:=b S (by simp);rw[eu,cG]at a;cases hu:mE K (vh S) with
  |none=>rw[hu,G7]at a;cases a
  |some h=>
   rw[hu]at a;obtain⟨i,x⟩:=Ac _ _ _ hu;have g:jH K (vh S)=some h:=by rw[←Pn _ _ i];exact hu
   simp only[bB]at m;obtain⟨q,r⟩:=Ku e p (ajm i g j) (by omega);have d:(t++u.map (tN t.length)++[eZ rt ((t.length:Int)-1) ((t.length:Int)+u.length-1)]).length=t.length+u.length+1:=by simp;omega
   obtain⟨f,s,v,w⟩:=OY l (k+1) _ h M (fun T e=>b T (by simp[e])) (by omega) r (by omega) (by rw[d];omega) a;refine⟨f,?_,v,by rw[d]at w;simp only[bB];omega⟩;rw[aW];simp only[dA,wr,n];rw[if_neg (by omega),q];exact s
theorem WT{c:List cN}{l:List fG}{M:List Int}(a:∀S∈l,∃u,sK c (vY S)=some u∧TR u (vh S)∧u.length≤10)(b:∀S∈l,(vh S).length≤16)(e:l.length≤3)(d:kdU l=some M):∃t,uk c (l.map vY)=some t∧TR t M∧t.length≤43:=by
 cases l with
 |nil=>cases d
 |cons S r=>
  obtain⟨u,h,i,m⟩:=a S (by simp);simp only[bB]at e;obtain⟨g,j,k,n⟩:=OY r 1 u (vh S) M (fun T f=>a T (by simp[f])) (by omega) i (b S (by simp)) (by omega) d;refine⟨g,?_,k,by omega⟩;unfold uk;rw[aW];simp only[dA,wr,h];rw[if_pos trivial,j]
theorem Yt{t:List cL}{K:List Int}(h:TR t K)(G:t.length<60)(F:K.length≤16){a:List (Int×Bool)}{lim:Int}(I:∀o∈a,0≤o.1∧o.1<K.length)(w:a.length≤3)(d:FM lim=true) :
  ∃s:List (iB Int)×List Nat,dY (jm a lim) (some t)=some (t++[eZ (jm a lim) ((t.length:Int)-1) (-1)])∧lookF (t++[eZ (jm a lim) ((t.length:Int)-1) (-1)])=some s∧∃r,s.1[t.length]?=some r∧r.l=K:=by
 obtain⟨s,B,l,C,D,r,E,v⟩:=h.look;have M:=h.pos;have i:((t.length:Int)-1).toNat=t.length-1:=by omega
 have x:=Np (o:=a) lim (by omega);have b:(eZ (jm a lim) ((t.length:Int)-1) (-1)).op=8:=rfl;have e:Jf (eZ (jm a lim) ((t.length:Int)-1) (-1)) r.l=true:=by
  unfold Jf;have p:(eZ (jm a lim) ((t.length:Int)-1) (-1)).ords=a:=rfl;have u:(eZ (jm a lim) ((t.length:Int)-1) (-1)).limit=lim:=rfl;rw[p,u,v];have L:(a.any fun o=>decide (o.1<0) ||decide ((K.length:Int)≤o.1))=false:=by
   rw[cR];intro o H;have:=I o H;simp;omega
  rw[L];unfold FM Ry at d;simp at d;simp[w];omega
 have f:kS (t.length+1) s.1 (eZ (jm a lim) ((t.length:Int)-1) (-1))=some r:=by
  have A:(eZ (jm a lim) ((t.length:Int)-1) (-1)).l=(t.length:Int)-1:=rfl;unfold kS;rw[b,A,i,E];simp[e,l]
 have g:fH (eZ (jm a lim) ((t.length:Int)-1) (-1)) t.length s.2=(0,true):=by
  unfold fH;have k:ip 8=1:=rfl;rw[b,if_neg (by rw[k];omega),if_pos k];have p:(eZ (jm a lim) ((t.length:Int)-1) (-1)).l=(t.length:Int)-1:=rfl;have u:(eZ (jm a lim) ((t.length:Int)-1) (-1)).r=-1:=rfl;rw[p,u,if_neg (by omega),D];rfl
 have c:ig (jm a lim)=true:=by simp[ig,jm,dz]
 have y:oK (t.length+1) (eZ (jm a lim) ((t.length:Int)-1) (-1)) s.1 s.2=some (r,0):=by
  have:=Da (N:=t.length+1) (n:=eZ (jm a lim) ((t.length:Int)-1) (-1)) (ks:=s.1) (fs:=s.2) (r:=r) (by rw[b,zN,c];rfl) (by rw[l,g]) f (by rw[v];exact F);rw[this,l,g];rfl
 have j:=zY (m:=eZ (jm a lim) ((t.length:Int)-1) (-1)) G (by rw[HA t 0 _ h.nosort];exact B) y C;obtain⟨q,J⟩:=h.lookF;refine⟨_,?_,j,r,by simp[l],v⟩;unfold dY iw;simp only[cG,dA,oZ,J,ka,cz,bX,bD];rw[show (((0:Nat):Int))=((0:Nat):Int) from rfl,B4 h.own 0,Gh];have z:((0:Nat):Int)+(t.length:Int)-1=(t.length:Int)-1:=by omega
 rw[z,B8 x.1,j];rfl
theorem adV{w:List cL}{s:List (iB Int)×List Nat}(b:lookF w=some s){r:iB Int}(a:s.1[w.length-1]?=some r):Ny (some w)=r.l:=by
 unfold Ny ldK;simp[b,a]
theorem TJ{l:List fG}{M:List Int}(h:kdU l=some M)(a:∀S∈l,(vh S).length≤16):M.length≤16:=by
 cases l with
 |nil=>cases h
 |cons S r=>
  have d:=a S (by simp);have key:∀(r:List fG) (K M:List Int),K.length≤16→r.foldl (fun o T=>o.bind fun K=>mE K (vh T)) (some K)=some M→M.length≤16:=by
   intro r;induction r with
   |nil=>intro K M b h;simp at h;subst h;exact b
   |cons T r e=>
    intro K M b h;rw[eu,cG]at h;cases hu:mE K (vh T) with
    |none=>rw[hu,G7]at h;cases h
    |some c=>
     rw[hu]at h;have:=(Ac _ _ _ hu).2;exact e c M (by omega) h
  exact key r _ M d h
theorem Vy{c:List cN}{q:sY}{b:BV}{L:List fG}(a:I5 c q b L)(m:CtOk c)(p:c.length≤4)(i:∀S∈L,∀t∈S.tables,Wo (Ab c t)):∃t,TR t b.ac∧t.length≤43∧uk c b.selects=some t∧BL c b=some (t++[eZ (jm b.order b.limit) ((t.length:Int)-1) (-1)]):=by
 have d:∀S∈L,(vh S).length≤16:=fun S g=>by
  obtain⟨f,h,k⟩:=a.good S g;obtain⟨k1,_,_,_⟩:=f.lens (by rw[h];exact m);have:=S.fr.hi;have u:(vh S).length=S.items.length:=by simp
  rw[u,f.il];split<;>omega
 obtain⟨t,n,o,z⟩:=WT (c:=c) (l:=L) (M:=b.ac) (fun S g=>by
  obtain⟨f,h,k⟩:=a.good S g;exact O5 f h (i S g) p m k.star) d a.l3 a.kd
 have e:=TJ a.kd d;obtain⟨s,v,w,r,x,y⟩:=Yt o (by omega) e a.od a.ol a.lim;refine⟨t,o,z,by rw[a.sels];exact n,?_⟩;have j:=adV w (r:=r) (by simpa using x);have A:=a.l1;have B:=a.l3;unfold BL;rw[a.sels,dm,if_neg (by omega),n,v,j,y];simp[a.nm]
theorem Ns{t:cN}(h:DX t=true):1≤t.af.length∧t.af.length≤4∧∀x∈t.af,1≤x.kind∧x.kind≤3:=by
 unfold DX at h;simp only[ax,cd,ba]at h;obtain⟨⟨⟨⟨⟨_,a⟩,b⟩,_⟩,c⟩,_⟩:=h;refine⟨a,b,fun x d=>?_⟩;have:=c x d;unfold AP at this;simp only[dK,aX]at this;omega
theorem TK{c:List cN}(h:Ss c=true):CtK c∧c.length≤4∧∀t:Int,0≤t→t<c.length→Wo (Ab c t):=by
 unfold Ss at h;simp only[ax,cd,ba]at h;obtain⟨⟨g,b⟩,_⟩:=h;refine⟨⟨⟨by omega,fun tb a=>(Ns (b tb a)).2.1⟩,fun tb a x e=>(Ns (b tb a)).2.2 x e⟩,g,fun t j l=>?_⟩;have f:t.toNat < c.length:=by omega
 have d:Ab c t=c[t.toNat].af.map fE.kind:=by
  simp[Ab,au f,cN.ac]
 obtain⟨k1,k2,k3⟩:=Ns (b _ (aJ f));rw[d];refine⟨by simp;omega,by simpa using k2,fun k i=>?_⟩;obtain⟨x,e,rfl⟩:=bM.1 i;exact k3 x e
theorem KF{c:List cN}(h:Ss c=true){q:sY}{b:BV}{L:List fG}(a:I5 c q b L):∃t,TR t b.ac∧t.length≤43∧uk c b.selects=some t∧BL c b=some (t++[eZ (jm b.order b.limit) ((t.length:Int)-1) (-1)]):=by
 obtain⟨g,i,j⟩:=TK h;refine Vy a g.toCtOk i fun S k t l=>?_;obtain⟨e,f,_⟩:=a.good S k;obtain⟨m,d⟩:=e.js.rng t l;rw[f]at d;exact j t m d
theorem ajk{S:fG}(c:AZ S)(m:CtOk S.cat):Qa (vY S):=by
 obtain⟨k1,k2,k3,k4⟩:=c.lens m;have n:1000≤uP:=by decide
 have s:=c.jl;have l:=c.js.len;have q:=c.gk.al;have r:=c.gk.kl;have b:∀(o:Option (List EN)) (K:List Int),ED o K→(o.getD []).length≤uP:=fun o K p=>by
  rcases p with rfl|⟨es,rfl,t,_⟩
  ·simp
  show es.length≤uP;omega
 refine⟨by show S.tables.length≤8000;omega,by show S.joins.length≤8000;omega,fun j k=>?_,b _ _ c.whr,b _ _ c.having,by show S.keys.length≤8000;omega,by show (S.ah.map kH.x).length≤8000;simp;omega,by show (S.items.map fun it=>(⟨false,it⟩:Al)).length≤8000;simp;omega,fun g h=>?_,fun e f=>?_,fun g h=>?_,fun e f=>?_⟩
 ·obtain⟨i,hi,rfl⟩:=cK.1 k;have:=(c.js.on i _ (au hi)).1;exact bH this n
 ·obtain⟨a,d,rfl⟩:=bM.1 h;have:=c.gk.ae a d;show a.es.length≤uP;omega
 ·obtain⟨a,d,rfl⟩:=bM.1 f;have:=k4 a d;show a.length≤uP;omega
 ·obtain⟨a,d,rfl⟩:=bM.1 h;rfl
 obtain⟨a,d,rfl⟩:=bM.1 f;rfl
def aqE(t:List cL):List Int:=(t.filter fun n=>n.op==1).map cL.tab
def HT(w:List cL)(a:Nat)(x:List cL):Prop:=∃(pre rest:List cL) (s0:List (iB Int)×List Nat),w=pre++x.map (tN a)++rest∧pre.length=a∧(∀n∈pre,n.op≠8)∧dA (iu 0) pre 0 ([],[])=.inl s0∧s0.1.length=a∧s0.2.length=a
theorem HT.app{w x:List cL}{a:Nat}(h:HT w a x)(r:List cL):HT (w++r) a x:=by
 obtain⟨c,b,f,d,e⟩:=h;exact⟨c,b++r,f,by rw[d];simp,e⟩
theorem Ib(N:Nat):∀(u:List cL) (i:Nat) (s s':List (iB Int)×List Nat),dA (iu N) u i s=.inl s'→∃r,s'.2=s.2++r
 |[],_,s,s',h=>by simp only[dA]at h;cases h;exact⟨[],by simp⟩
 |n::u,i,s,s',h=>by
  cases hq:oK N n s.1 s.2 with
  |none=>simp only[dA,iu,hq]at h;cases h
  |some q=>
   simp only[dA,iu,hq]at h;obtain⟨r,a⟩:=Ib N u _ _ _ h;exact⟨q.2::r,by rw[a];simp⟩
theorem VA{n:cL}(h:mS n)(a:Nat):gH (-(a:Int)) (tN a n)=n:=by
 obtain⟨b,c,d,e,f,g⟩:=Qz h;cases n;simp_all[gH,tN];constructor<;>split<;>(try split)<;>omega
theorem Sa{w x:List cL}{a:Nat}{K:List Int}{s:List (iB Int)×List Nat}(j:TR x K)(C:HT w a x)(d:lookF w=some s):s.2[a+x.length-1]?=some a∧uy w a x.length=x∧a+x.length≤w.length:=by
 obtain⟨c,h,l,e,m,y,z,A,o⟩:=C;obtain⟨q,u,E,v,i,_⟩:=j.look;have p:=j.pos;have f:=SQ (N:=w.length) A o x 0 [] [] q rfl rfl j.nosort u;simp only[eJ,dJ,bm]at f;refine⟨?_,?_,by rw[e];simp;omega⟩
 ·unfold lookF at d;split at d
  ·cases d
  split at d
  ·rename_i F k;split at d
   ·cases d;rw[e]at k;rw[←e]at k;have b:dA (iu w.length) (c++(x.map (tN a)++h)) 0 ([],[])=.inl s:=by rw[←List.append_assoc,←e];exact k
    rw[tK,HA c 0 _ y,z]at b;simp only[cD]at b;rw[tK,m]at b;have g:dA (iu w.length) (x.map (tN a)) a l=.inl (l.1++q.1,l.2++q.2.map (·+a)):=f;rw[g]at b;simp only at b;obtain⟨r,D⟩:=Ib _ _ _ _ _ b;rw[D];simp only[dv];rw[bE (by omega),o,aU (by simp[v];omega)];rw[show a+x.length-1-a=x.length-1 by omega,ed];rw[aQ]at i;have t:x.length-1<q.2.length:=by omega
    rw[au t]at i ⊢;simp at i ⊢;exact i
   cases d
  cases d
 unfold uy;rw[e,dv,←m,p8];rw[kB (by simp),ay (by simp),bT];have:∀n∈x,((gH (-(c.length:Int)))∘tN c.length) n=id n:=fun n B=>VA (j.own n B) c.length;rw[aT this,zq]
def Ch(c:List cN)(w:List cL)(e:Nat):List fG→Nat→Prop
 |[],a=>a=e
 |S::l,a=>∃u,sK c (vY S)=some u∧TR u (vh S)∧u.length≤10∧HT w a u∧(∃n,w[a+u.length]?=some n∧n.op=7)∧Ch c w e l (a+u.length+1)
theorem Ch.app{c:List cN}{w:List cL}{e:Nat}(r:List cL):∀{l:List fG} {a:Nat},Ch c w e l a→Ch c (w++r) e l a
 |[],_,h=>h
 |S::l,a,h=>by
  obtain⟨u,d,f,g,i,⟨n,b,j⟩,k⟩:=h;exact⟨u,d,f,g,i.app r,⟨n,by rw[aU (ak.1 b).1];exact b,j⟩,k.app r⟩
end Go.AM
namespace Go.AM
open P
set_option maxHeartbeats 64000000
set_option maxRecDepth 40000
attribute [local simp] aG bj
theorem Wi{e:Type}{enc:e→aq}[Nc enc 12 true][Ft enc]{b:Bool}{l:List e}{k:Nat}(f:l.length≤bC)
  (h:∀y∈l,∀σ,cC code k [enc y,enc y] σ=some (aC true,σ)):bw I.qgq [.aa b (l.map enc),.aa b (l.map enc),.fn k [] []]=some (aC true):=by
 rw[aS amR rfl];have loop:=cX (base:=0) (clr:=[3,4,5,6,11,12]) (b:=Gt)
  (fun a=>⟨[.aa b (l.map enc),.aa b (l.map enc),.fn k [] [],am,am,am,am,aC false,.aa b (l.map enc),ap l.length,ap a,am,am],[]⟩) l.length
  (.ext 0,⟨[.aa b (l.map enc),.aa b (l.map enc),.fn k [] [],am,am,am,am,aC false,.aa b (l.map enc),ap l.length,ap l.length,aC false,am],[]⟩)
  (fun a c=>by
   have i:l[a]?=some l[a]:=au c;have d:∀h:a < l.length,l[a]'h=l[a]'c:=fun _=>rfl;have g:=h l[a] (aJ c);generalize l[a]=y at *;have n3:aM (enc y)=12∧isAgg (enc y)=true:=⟨Nc.nc y,Nc.ag y⟩;have j:∀base σ m,fz true false base σ (m+3) (enc y)=enc y:=fun base σ m=>Ft.ft true false base σ m y rfl;have n:∀base σ m,fz false true base σ (m+3) (enc y)=enc y:=fun base σ m=>Ft.ft false true base σ m y rfl;simp[Gt,c,i,d,n3,j,n,g,cW c f,bR])
  (by simp[Gt])
 simp only[bd]at loop;simp[atv,agv,loop]
theorem acf{e:Type}{enc:e→aq}[Nc enc 2 true][Ft enc]{b:Bool}{l:List e}{k:Nat}(f:l.length≤bC)
  (h:∀y∈l,∀σ,cC code k [enc y,enc y] σ=some (aC true,σ)):bw I.qgo [.aa b (l.map enc),.aa b (l.map enc),.fn k [] []]=some (aC true):=by
 rw[aS am7 rfl];have loop:=cX (base:=0) (clr:=[3,4,5,6,11,12]) (b:=Gr)
  (fun a=>⟨[.aa b (l.map enc),.aa b (l.map enc),.fn k [] [],am,am,am,am,aC false,.aa b (l.map enc),ap l.length,ap a,am,am],[]⟩) l.length
  (.ext 0,⟨[.aa b (l.map enc),.aa b (l.map enc),.fn k [] [],am,am,am,am,aC false,.aa b (l.map enc),ap l.length,ap l.length,aC false,am],[]⟩)
  (fun a c=>by
   have i:l[a]?=some l[a]:=au c;have d:∀h:a < l.length,l[a]'h=l[a]'c:=fun _=>rfl;have g:=h l[a] (aJ c);generalize l[a]=y at *;have n3:aM (enc y)=2∧isAgg (enc y)=true:=⟨Nc.nc y,Nc.ag y⟩;have j:∀base σ m,fz true false base σ (m+3) (enc y)=enc y:=fun base σ m=>Ft.ft true false base σ m y rfl;have n:∀base σ m,fz false true base σ (m+3) (enc y)=enc y:=fun base σ m=>Ft.ft false true base σ m y rfl;simp[Gr,c,i,d,n3,j,n,g,cW c f,bR])
  (by simp[Gr])
 simp only[bd]at loop;simp[atU,af2,loop]
theorem ZK{e:Type}{enc:e→aq}[Nc enc 1 true][Ft enc]{b:Bool}{l:List e}{k:Nat}(f:l.length≤bC)
  (h:∀y∈l,∀σ,cC code k [enc y,enc y] σ=some (aC true,σ)):bw I.qgp [.aa b (l.map enc),.aa b (l.map enc),.fn k [] []]=some (aC true):=by
 rw[aS ani rfl];have loop:=cX (base:=0) (clr:=[3,4,5,6,11,12]) (b:=Gj)
  (fun a=>⟨[.aa b (l.map enc),.aa b (l.map enc),.fn k [] [],am,am,am,am,aC false,.aa b (l.map enc),ap l.length,ap a,am,am],[]⟩) l.length
  (.ext 0,⟨[.aa b (l.map enc),.aa b (l.map enc),.fn k [] [],am,am,am,am,aC false,.aa b (l.map enc),ap l.length,ap l.length,aC false,am],[]⟩)
  (fun a c=>by
   have i:l[a]?=some l[a]:=au c;have d:∀h:a < l.length,l[a]'h=l[a]'c:=fun _=>rfl;have g:=h l[a] (aJ c);generalize l[a]=y at *;have n3:aM (enc y)=1∧isAgg (enc y)=true:=⟨Nc.nc y,Nc.ag y⟩;have j:∀base σ m,fz true false base σ (m+3) (enc y)=enc y:=fun base σ m=>Ft.ft true false base σ m y rfl;have n:∀base σ m,fz false true base σ (m+3) (enc y)=enc y:=fun base σ m=>Ft.ft false true base σ m y rfl;simp[Gj,c,i,d,n3,j,n,g,cW c f,bR])
  (by simp[Gj])
 simp only[bd]at loop;simp[atk,afF,loop]
theorem SC(f i:Bool)(a:List (Int×Bool))(n:a.length≤8000):bw I.qgs [.aa f (a.map im),.aa i (a.map im)]=some (aC true):=by
 rw[aS amN rfl];have l:a.length≤bC:=by unfold bC;omega
 have loop:=cX (base:=0) (clr:=[2,3,7,8]) (b:=FY)
  (fun k=>⟨[.aa f (a.map im),.aa i (a.map im),am,am,aC false,ap a.length,ap k,am,am],[]⟩) a.length
  (.ext 0,⟨[.aa f (a.map im),.aa i (a.map im),am,am,aC false,ap a.length,ap a.length,aC false,am],[]⟩)
  (fun k e=>by
   have m:a[k]?=some a[k]:=au e;have j:∀h:k<a.length,a[k]'h=a[k]'e:=fun _=>rfl;generalize a[k]=g at *;obtain⟨c,d⟩:=g;simp[FY,e,m,j,im,eqa,eQ,sI,lA,neg,cW e l,bR])
  (by simp[FY])
 simp only[bd]at loop;simp[aum,af8,loop]
theorem Yl(g:lf)(a:g.arg.length≤uP):bw I.qec [vw g,vw g]=some (aC true):=by
 rw[aS akI rfl];have h:=C5 false false g.arg g.arg (bH a (by decide));simp at h;simp[auN,af5,vw,h]
structure Sh8 (n:cL):Prop where
 ac:n.ac.length≤8000
 cond:n.cond.length≤uP
 keys:n.keys.length≤8000
 ah:n.ah.length≤8000
 args:∀g∈n.ah,g.arg.length≤uP
 items:n.items.length≤8000
 exprs:∀e∈n.items,e.l.length≤uP
 ords:n.ords.length≤8000
theorem ab6(n:cL)(h:Sh8 n):bw I.qeb [tI n,tI n]=some (aC true):=by
 rw[aS al7 rfl];have a:8000≤bC:=by unfold bC;omega
 have k1:=Bu false false n.ac n.ac h.ac;have k2:=Bu false false n.keys n.keys h.keys;have k3:=SC false false n.ords h.ords;have k4:=C5 false false n.cond n.cond (bH h.cond (by decide));have k5:=acf (enc:=vw) (b:=false) (l:=n.ah) (k:=I.qec) (bH h.ah a) (fun g d σ=>by
  have:=Yl g (h.args g d);simp[vw]at this ⊢;simp[this])
 have k6:=ZK (enc:=xM) (b:=false) (l:=n.items) (k:=I.qbu) (bH h.items a) (fun e c σ=>by
  have:=C5 false false e.l e.l (bH (h.exprs e c) (by decide));simp[xM]at this ⊢;simp[this])
 have f:tI n=aH [ap n.op,ap n.l,ap n.r,ap n.tab,.aa false (n.ac.map (.int .i64)),aC n.left,.aa false (n.cond.map EN.a),.aa false (n.keys.map (.int .i64)),.aa false (n.ah.map vw),.aa false (n.items.map xM),.aa false (n.ords.map im),ap n.limit]:=rfl;rw[f];simp at k1 k2 k4;simp[auy,afo,k1,k2,k3,k4,k5,k6]
theorem acp(a:List cL)(e:∀n∈a,Sh8 n∧n.a=tI n)(h:a.length≤8000):bw I.qdc [aH [.aa false (a.map cL.a)],aH [.aa false (a.map cL.a)]]=some (aC true):=by
 rw[aS ali rfl];have g:a.length≤bC:=by unfold bC;omega
 have k:=Wi (enc:=tI) (b:=false) (l:=a) (k:=I.qeb) g (fun n c σ=>by
  have:=ab6 n (e n c).1;have d:tI n=aH (lnC n):=rfl;have f:=Nt n;rw[d]at this ⊢;simp[this,f])
 have d:a.map cL.a=a.map tI:=aT fun n c=>(e n c).2;rw[d];simp[aur,aeu,k]
end Go.AM
namespace Go.AM
open P
set_option maxHeartbeats 64000000
set_option maxRecDepth 40000
theorem wL{a:Type}{l:List a}{n:Nat}(h:n<l.length)(b:n≠0):l.take n≠[]:=List.ne_nil_of_length_pos (by simp;omega)
theorem ahm{g:Type}{enc:g→aq}[Nc enc 3 true](b:Bool)(l:List g)(n:Nat)(o:n≠0)(w:n≤1000)(σ:aw) :
  ∃ep,cC code I.qau [.aa b (l.map enc),ap (n:Int)] σ=some (.sl σ.length ep 0 (l.take n).length,σ++[aB 3 ep ((l.take n).map enc)]):=by
 rw[cw ala rfl];have c:∀(k:List g),∀a∈k.map enc,aM a=3:=fun k a v=>by
  obtain⟨y,_,rfl⟩:=bM.1 v;exact Nc.nc y
 have f:∀x:g,aM (enc x)=3:=fun x=>Nc.nc x;have d:¬((n:Int)<0):=by omega
 by_cases h:n<l.length
 ·have hi:((n:Int)<l.length):=by omega
  have s:min n l.length=n:=by omega
  have t:l.take n≠[]:=wL h o;have u:n≤l.length:=by omega
  have j:=c l;have p:=c (l.take n);have m:n≤bC:=by unfold bC;omega
  have i:l≠[]:=by intro e;simp[e]at h
  refine⟨1,?_⟩;simp only[jF]at p;simp[asa,U3,hi,f,d,append,o,s,t,u,m,i,if_pos j,if_pos p]
 have hi:¬((n:Int)<l.length):=by omega
 have r:l.take n=l:=ay (by omega);have j:=c l;rw[r];by_cases q:l=[]
 ·subst q;refine⟨0,?_⟩;simp[asa,U3,append,f,d]
 have m:l.length≤bC:=by unfold bC;omega
 refine⟨1,?_⟩;simp[asa,U3,hi,f,d,append,q,if_pos j,m]
theorem aiY{q:Type}{enc:q→aq}[Nc enc 1 false][Fx enc](b:Bool)(l:List q)(n:Nat)(z:n≠0)(G:n≤1000) :
  bw I.qav [.aa b (l.map enc),ap (n:Int)]=some (.aa false ((l.take n).map enc)):=by
 rw[aS alV rfl];have o:∀(k:List q),∀a∈k.map enc,aM a=1:=fun k a d=>by
  obtain⟨y,_,rfl⟩:=bM.1 d;exact Nc.nc y
 have s:∀(k:List q) fl top base σ m,∀a∈k.map enc,fz fl top base σ (m+3) a=a:=fun k fl top base σ m a d=>by
  obtain⟨y,_,rfl⟩:=bM.1 d;exact Fx.fx fl top base σ m y
 have j:=fun (k:List q) (σ:aw) (ep:Nat) (h:σ[0]?=some (aB 1 ep (k.map enc)))=>rz (f:=enc) (m:=1) k 0 ep σ h;have g:∀x:q,aM (enc x)=1:=fun x=>Nc.nc x;have p:¬((n:Int)<0):=by omega
 by_cases h:n<l.length
 ·have hi:((n:Int)<l.length):=by omega
  have D:min n l.length=n:=by omega
  have E:l.take n≠[]:=wL h z;have F:n≤l.length:=by omega
  have v:=o l;have A:=o (l.take n);have w:n≤bC:=by unfold bC;omega
  have t:l≠[]:=by intro e;simp[e]at h
  have c:=j (l.take n) [aB 1 1 ((l.take n).map enc)] 1 rfl;have i:=s (l.take n);have r:((l.take n).map enc).take n=(l.take n).map enc:=ay (by simp;omega);rw[show (l.take n).length=n by simp;omega]at c;simp only[jF]at A c i r;have u:∀top base σ m,List.map (fz false top base σ (m+3)) (List.take n (List.map enc l))=List.take n (List.map enc l):=fun top base σ m=>by
   conv=>rhs;rw[←List.map_id (List.take n (List.map enc l))]
   exact aT fun a d=>i false top base σ m a d
  simp[asc,SX,hi,g,p,append,z,D,E,F,w,t,if_pos v,if_pos A,c,r,u];exact fun a d=>by rw[i _ _ _ _ 16 a d]
 have hi:¬((n:Int)<l.length):=by omega
 have C:l.take n=l:=ay (by omega);have v:=o l;rw[C];by_cases B:l=[]
 ·subst B;have c:=j [] [aB 1 0 []] 0 rfl;simp at c;simp[asc,SX,append,g,p,c]
 have w:l.length≤bC:=by unfold bC;omega
 have c:=j l [aB 1 1 (l.map enc)] 1 rfl;simp[asc,SX,hi,g,p,append,B,if_pos v,w,c];exact fun a d=>by rw[s l _ _ _ _ 16 (enc a) (mg d),g]
theorem ahz{q:Type}{enc:q→aq}[Nc enc 2 true][Fx enc](b:Bool)(l:List q)(n:Nat)(z:n≠0)(G:n≤1000) :
  bw I.qat [.aa b (l.map enc),ap (n:Int)]=some (.aa false ((l.take n).map enc)):=by
 rw[aS amc rfl];have o:∀(k:List q),∀a∈k.map enc,aM a=2:=fun k a d=>by
  obtain⟨y,_,rfl⟩:=bM.1 d;exact Nc.nc y
 have s:∀(k:List q) fl top base σ m,∀a∈k.map enc,fz fl top base σ (m+3) a=a:=fun k fl top base σ m a d=>by
  obtain⟨y,_,rfl⟩:=bM.1 d;exact Fx.fx fl top base σ m y
 have j:=fun (k:List q) (σ:aw) (ep:Nat) (h:σ[0]?=some (aB 2 ep (k.map enc)))=>rz (f:=enc) (m:=2) k 0 ep σ h;have g:∀x:q,aM (enc x)=2:=fun x=>Nc.nc x;have p:¬((n:Int)<0):=by omega
 by_cases h:n<l.length
 ·have hi:((n:Int)<l.length):=by omega
  have D:min n l.length=n:=by omega
  have E:l.take n≠[]:=wL h z;have F:n≤l.length:=by omega
  have v:=o l;have A:=o (l.take n);have w:n≤bC:=by unfold bC;omega
  have t:l≠[]:=by intro e;simp[e]at h
  have c:=j (l.take n) [aB 2 1 ((l.take n).map enc)] 1 rfl;have i:=s (l.take n);have r:((l.take n).map enc).take n=(l.take n).map enc:=ay (by simp;omega);rw[show (l.take n).length=n by simp;omega]at c;simp only[jF]at A c i r;have u:∀top base σ m,List.map (fz false top base σ (m+3)) (List.take n (List.map enc l))=List.take n (List.map enc l):=fun top base σ m=>by
   conv=>rhs;rw[←List.map_id (List.take n (List.map enc l))]
   exact aT fun a d=>i false top base σ m a d
  simp[asi,S8,hi,g,p,append,z,D,E,F,w,t,if_pos v,if_pos A,c,r,u];exact fun a d=>by rw[i _ _ _ _ 16 a d]
 have hi:¬((n:Int)<l.length):=by omega
 have C:l.take n=l:=ay (by omega);have v:=o l;rw[C];by_cases B:l=[]
 ·subst B;have c:=j [] [aB 2 0 []] 0 rfl;simp at c;simp[asi,S8,append,g,p,c]
 have w:l.length≤bC:=by unfold bC;omega
 have c:=j l [aB 2 1 (l.map enc)] 1 rfl;simp[asi,S8,hi,g,p,append,B,if_pos v,w,c];exact fun a d=>by rw[s l _ _ _ _ 16 (enc a) (mg d),g]
end Go.AM
namespace Go.AM
open P
set_option maxHeartbeats 64000000
set_option maxRecDepth 40000
attribute [local simp] aG bj
section
def WB{α:Type}(f:α→α)(l:List α)(i:Nat):List α:=(l.take i).map f++l.drop i
section
variable {α:Type} (f:α→α)
theorem Z7(l:List α):WB f l 0=l:=by simp[WB]
theorem acB(l:List α):WB f l l.length=l.map f:=by simp[WB]
theorem aed{l:List α}{i:Nat}{y:α}(enc:α→aq)(h:l[i]?=some y):((WB f l i).map enc)[i]?=some (enc y):=by
 obtain⟨a,b⟩:=ak.1 h;unfold WB;rw[df,bE (by simp;omega)];simp[show i-min i l.length=0 by omega,a,b]
theorem adW{l:List α}{i:Nat}{y:α}(enc:α→aq)(h:l[i]?=some y):((WB f l i).map enc).set i (enc (f y))=(WB f l (i+1)).map enc:=by
 obtain⟨a,b⟩:=ak.1 h;have c:l.drop i=y::l.drop (i+1):=by rw[←b];exact dx a
 have d:l.take (i+1)=l.take i++[y]:=by rw[←b];exact dq a
 unfold WB;rw[c,d];simp only[df,aW,bm];rw[fq _ _ (by simp;omega)];simp[show i-min i l.length=0 by omega]
end
end
structure iH where
 name:List UInt8
 bc:Bool
 af:List fE
 bk:Bool
 keys:List Int
def iH.a(t:iH):aq:=aH [aO t.name,.aa t.bc (t.af.map fE.a),.aa t.bk (t.keys.map (.int .i64))]
instance:Nc iH.a 3 true:=⟨fun _=>rfl,fun _=>rfl⟩
instance:Ft iH.a:=⟨fun fl top base σ n y h=>by cases fl<;>cases top<;>simp_all[iH.a]⟩
def Nx(t:iH):iH:=⟨t.name,false,t.af.take 5,false,t.keys.take 5⟩
def smF(t:iH):cN:=⟨t.name,t.af.take 5,t.keys.take 5⟩
theorem agH(t:iH):(Nx t).a=(smF t).a:=rfl
def Bv(c:List iH):List cN:=(c.take 5).map smF
abbrev VZ(A:aq)(ep n:Nat)(M:List aq):aw:=[aB 1 0 [A],aB 1 0 [aH [.ai]],aB 3 ep M,aB 1 0 [aH [.sl 2 ep 0 n]]]
theorem Qx(d:Bool)(c:List iH)(ep:Nat)(L:List iH)(r:L.length≤8000) :
  bU code 4 [4,5,9] CN ⟨[aH [.aa d (c.map iH.a)],aI 0 0 0 0,aI 1 0 0 0,aI 3 0 0 0,am,am,.sl 2 ep 0 L.length,ap L.length,ap 0,am],VZ (aH [.aa d (c.map iH.a)]) ep L.length (L.map iH.a)⟩ =
   some (.ext 0,⟨[aH [.aa d (c.map iH.a)],aI 0 0 0 0,aI 1 0 0 0,aI 3 0 0 0,am,am,.sl 2 ep 0 L.length,ap L.length,ap L.length,aC false],VZ (aH [.aa d (c.map iH.a)]) ep L.length ((L.map Nx).map iH.a)⟩):=by
 have q:L.length≤bC:=by unfold bC;omega
 have j:=gB (base:=4) (clr:=[4,5,9]) (b:=CN) L (fun i (_:Unit)=>⟨[aH [.aa d (c.map iH.a)],aI 0 0 0 0,aI 1 0 0 0,aI 3 0 0 0,am,am,.sl 2 ep 0 L.length,ap L.length,ap i,am],VZ (aH [.aa d (c.map iH.a)]) ep L.length ((WB Nx L i).map iH.a)⟩)
  (fun _ _=>True) (fun _ _=>()) (fun _=>(.ext 0,⟨[aH [.aa d (c.map iH.a)],aI 0 0 0 0,aI 1 0 0 0,aI 3 0 0 0,am,am,.sl 2 ep 0 L.length,ap L.length,ap L.length,aC false],VZ (aH [.aa d (c.map iH.a)]) ep L.length ((L.map Nx).map iH.a)⟩))
  (fun i y _ hi o _=>by
   have p:((i:Int)<(L.length:Int)):=by omega
   have h:=aed Nx iH.a o;have n:=adW Nx iH.a o;obtain⟨k,h⟩:=ak.1 h;have e:=ahz (enc:=fE.a) y.bc y.af 5 (by decide) (by decide);have f:=aiY (enc:=.int .i64) y.bk y.keys 5 (by decide) (by decide);refine⟨?_,trivial⟩;have g:i<L.length:=hi;have a:∀x,List.map (cr 4 x) (List.map iH.a (WB Nx L (i+1)))=List.map iH.a (WB Nx L (i+1)):=fun x=>by simp
   rw[←n]at a;rw[←n];have m:y.a=aH [aO y.name,.aa y.bc (y.af.map fE.a),.aa y.bk (y.keys.map (.int .i64))]:=rfl;have l:(Nx y).a=aH [aO y.name,.aa false ((y.af.take 5).map fE.a),.aa false ((y.keys.take 5).map (.int .i64))]:=rfl;rw[l]at a ⊢;rw[m]at h;generalize (WB Nx L i).map iH.a=M at *;simp only[VZ];simp at e f a;simp[CN,p,h,k,g,e,f,cW hi q,bR,bA,a])
  (fun _ _=>by simp[CN,acB]) () trivial
 have j:=j.1;rw[Z7]at j;simpa using j
theorem Uh(a:Bool)(c:List iH):bw I.qay [aH [.aa a (c.map iH.a)]]=some (nB (Bv c)):=by
 obtain⟨ep,b⟩:=ahm (enc:=iH.a) a c 5 (by decide) (by decide) [aB 1 0 [aH [.aa a (c.map iH.a)]],aB 1 0 [aH [.ai]]];have h:=Qx a c ep (c.take 5) (by simp;omega);have k:nB (Bv c)=aH [.aa false (((c.take 5).map Nx).map iH.a)]:=by
  have:((c.take 5).map Nx).map iH.a=((c.take 5).map smF).map cN.a:=by
   rw[bT,bT];exact aT fun s _=>agH s
  rw[this];rfl
 have f:∀top base σ m,List.map (fz false top base σ (m+3)) (((c.take 5).map Nx).map iH.a)=((c.take 5).map Nx).map iH.a:=fun top base σ m=>by
  rw[bT,bT,bT];exact aT fun s _=>by
   show fz false top base σ (m+3) (Nx s).a=(Nx s).a;rw[agH];exact Fx.fx false top base σ m _
 have i:∀(g:iH) (fl top:Bool) (base:Nat) (σ:aw) (m:Nat),aM (fz fl top base σ (m+1) (iH.a g))=aM (iH.a g):=fun g fl top base σ m=>by simp[iH.a]
 have d:((c.take 5).map Nx).length=(c.take 5).length:=by simp
 rw[k,aS anf rfl];simp only[VZ,bd]at h;generalize (c.take 5).map Nx=e at *;have j:List.take (c.take 5).length (e.map iH.a)=e.map iH.a:=by rw[←d];exact Mh e iH.a
 simp[-List.length_take]at b;simp only[jF]at h;generalize (c.take 5).length=l at *;cases a<;>simp[auR,ag2,b,h,f,d,j,i,-List.length_take]

theorem aje(g:Bool)(d:List cL)(M:∀n∈d,ub n)(K:∀n∈d,nz n)(s:List (iB Int)×List Nat)(T:lookF d=some s)(p:Nat)(U:p<d.length)(f:Nat)(w:s.2[p]?=some f)(R:f≤p)
  (q:∀n∈d,n.l<100∧n.r<100) :
  bw I.qdb [aH [.aa g (d.map cL.a)],ap p]=some (fb [aH [.aa false ((uy d f (p+1-f)).map cL.a)],ap 0]):=by
 have h:=GK 2 [aB 1 0 [aH [.aa g (d.map cL.a)]],aB 1 0 [aH [.ai]]] (.inr ⟨rfl,_,_,rfl⟩) (fun x u base σ m=>by
  simp at u;rcases u with u|u<;>rw[u]<;>simp) g d M
 rw[T]at h;obtain⟨⟨h0,h1,e1,e2⟩,h⟩:=h;obtain⟨ks,fs⟩:=s;simp only at *;rw[aih K];have Z:=qL (n:=-(f:Int)) (by omega) (by omega);have l:=(ak.1 w).1;have o:∀h:p<fs.length,fs[p]'h=f:=fun h=>(ak.1 w).2;have F:¬((p:Int)<0):=by omega
 have G:¬((d.length:Int)≤(p:Int)):=by omega
 have H:((p:Int)<(d.length:Int)):=by omega
 have loop:=cX (base:=15) (clr:=[11]) (b:=F2)
  (fun k=>⟨[aH [.aa g (d.map cL.a)],ap p,aI 0 0 0 0,aI 1 0 0 0,ap 0,aI 6 0 0 0,aC true,aI 13 0 0 0,ap ((f:Int)+(k:Int)),aC false,aC false,am],
   stE 2 [aB 1 0 [aH [.aa g (d.map cL.a)]],aB 1 0 [aH [.ai]]] g d (ks,fs) true++[aB 1 0 [aH [.sl 14 k 0 k]],aB 12 k ((uy d f k).map tI)]⟩) (p+1-f)
  (.ext 1,⟨[aH [.aa g (d.map cL.a)],ap p,aI 0 0 0 0,aI 1 0 0 0,ap 0,aI 6 0 0 0,aC true,aI 13 0 0 0,ap ((p:Int)+1),aC false,aC false,aC false],
   stE 2 [aB 1 0 [aH [.aa g (d.map cL.a)]],aB 1 0 [aH [.ai]]] g d (ks,fs) true++[aB 1 0 [aH [.sl 14 (p+1-f) 0 (p+1-f)]],aB 12 (p+1-f) ((uy d f (p+1-f)).map tI)]⟩)
  (fun k hk=>by
   have L:((f:Int)+(k:Int)≤(p:Int)):=by omega
   have hi:f+k<d.length:=by omega
   have N:d[f+k]?=some d[f+k]:=au hi;have B:∀h:f+k<d.length,d[f+k]'h=d[f+k]'hi:=fun _=>rfl;have e:=aJ hi;have i:=HM d[f+k] (K _ e) (M _ e) (-(f:Int)) (fun h=>by have:=q _ e;omega) (fun h=>by have:=q _ e;omega);rw[F4 (K _ e)]at i;have y:=VN N;have t:(uy d f k).length=k:=HC (by omega);generalize d[f+k]=n at *;rw[y];have n3:aM n.a=12∧isAgg n.a=true:=⟨rfl,rfl⟩;have Y:∀base σ m,fz true false base σ (m+3) n.a=n.a:=fun base σ m=>Ft.ft true false base σ m n rfl;have D:k+1≤bC:=by unfold bC;omega
   have V:(0:Int)≤(f:Int)+(k:Int):=by omega
   have W:((f:Int)+(k:Int)).toNat=f+k:=by omega
   have X:((f:Int)+(k:Int)<(d.length:Int)):=by omega
   have w2:IntKind.i64.wrap ((f:Int)+(k:Int)+1)=(f:Int)+((k:Int)+1):=by rw[qL (by omega) (by omega)];omega
   have j:List.take k ((uy d f k).map tI)=(uy d f k).map tI:=ay (by simp[t]);have E:=fun base σ h=>UT 6 base σ h;generalize gH (-(f:Int)) n=c at *;have v:tI c=aH (lnC c):=rfl;have O:(lnC c).length=12:=rfl;have P:=Nt c;rw[v]at i;simp[F2,L,V,W,X,N,B,hi,Y,n3,w,o,l,Z,w2,i,append,D,j,t,v,O,P,bR,bA,E])
  (by
   have y:(uy d f (p+1-f)).length=p+1-f:=HC (by omega);have L:¬((f:Int)+((p+1-f:Nat):Int)≤(p:Int)):=by omega
   have Q:(f:Int)+((p+1-f:Nat):Int)=(p:Int)+1:=by omega
   rw[Q];have r:¬((p:Int)+1≤(p:Int)):=by omega
   simp[F2,r])
 have y:(uy d f (p+1-f)).length=p+1-f:=HC (by omega);have j:List.take (p+1-f) ((uy d f (p+1-f)).map tI)=(uy d f (p+1-f)).map tI:=ay (by simp[y]);have z:(uy d f 0).map tI=[]:=by simp[uy]
 have A:∀σ m,∀a:cL,aM (fz false false 0 σ (m+3) (tI a))=aM (tI a):=fun σ m a=>by rw[Fx.fx (f:=tI) false false 0 σ m a]
 have C:(f:Int)+((0:Nat):Int)=(f:Int):=by omega
 simp[z,C]at loop;simp at h;generalize uy d f (p+1-f)=S at *;have J:p+1≤S.length+f:=by omega
 rw[aS amB rfl];simp[auL,afk,h,loop,F,G,H,U,o,l,w,j,J];exact fun a _=>A _ 14 a
theorem aaQ{c:List cN}(a:bw I.qbb [nB c]=some (ap 210))(q:sY):bw I.qn [nB c,q.a]=some (fb [aH [.aa false [],.aa false [],.aa false [],.aa false [],ap 0],ap 0,ap 210]):=by
 rw[aS Xe rfl];have b:q.a=aH [.aa false (q.sels.map mC.a),.aa false ((q.keys.getD []).map BU.a),ap q.limit]:=rfl;rw[b];simp[arL,WK,a]
structure FX (c:List cN) (q:sY) (b:BV) (L:List fG) (t:List cL):Prop where
 bg:I5 c q b L
 cat:AC c
 good:Ss c=true
 tr:TR t b.ac
 tl:t.length≤43
 un:uk c b.selects=some t
 low:BL c b=some (t++[eZ (jm b.order b.limit) ((t.length:Int)-1) (-1)])
 ok:acC b
 sel:∀S∈L,∃u,sK c (vY S)=some u∧TR u (vh S)∧u.length≤10
 h16:∀S∈L,(vh S).length≤16
theorem adB(c:List cN)(o:c.length≤8000)(l:∀t∈c,Th t)(q:sY):(∃a e:Int,e≠0∧bw I.qn [nB c,q.a]=some (fb [aH [.aa false [],.aa false [],.aa false [],.aa false [],ap 0],ap a,ap e])) ∨
  ∃b L t,bw I.qn [nB c,q.a]=some (fb [b.a,ap 0,ap 0])∧FX c q b L t:=by
 have d:=Qh c o l;cases hr:Ss c with
 |false=>
  rw[hr]at d;exact .inl ⟨0,210,by decide,aaQ d q⟩
 |true=>
  rw[hr]at d;simp only[cz]at d;obtain⟨k1,k2,k3⟩:=TK hr;obtain⟨v,r,z⟩:=aiW k1 d q;rcases z with⟨a,e,A,rfl⟩|⟨b,L,rfl,f⟩
  ·exact .inl ⟨a,e,A,r⟩
  obtain⟨t,D,E,F,G⟩:=KF hr f;have h:∀tb∈c,tb.af.length≤8000:=fun t p=>(l t p).af;have m:∀S∈L,∃u,sK c (vY S)=some u∧TR u (vh S)∧u.length≤10:=fun S k=>by
   obtain⟨g,i,n⟩:=f.good S k;exact O5 g i (fun t p=>by
    obtain⟨C,y⟩:=g.js.rng t p;rw[i]at y;exact k3 t C y) k2 k1.toCtOk n.star
  have j:∀S∈L,(vh S).length≤16:=fun S k=>by
   obtain⟨g,i,n⟩:=f.good S k;obtain⟨m1,_,_,_⟩:=g.lens (by rw[i];exact k1.toCtOk);have:=S.fr.hi;have B:(vh S).length=S.items.length:=by simp
   rw[B,g.il];split<;>omega
  have w:=TJ f.kd j;refine .inr ⟨b,L,t,r,f,⟨d,h⟩,hr,D,E,F,G,⟨fun s x=>?_,?_,?_,?_,?_⟩,m,j⟩
  ·rw[f.sels]at x;obtain⟨S,k,rfl⟩:=bM.1 x;obtain⟨g,i,n⟩:=f.good S k;exact ajk g (by rw[i];exact k1.toCtOk)
  ·have:=f.l3;rw[f.sels,dm];omega
  ·have:=f.nm;omega
  ·omega
  have:=f.ol;omega
abbrev we(b:BV)(t:List cL):cL:=eZ (jm b.order b.limit) ((t.length:Int)-1) (-1)
theorem W6(b:BV)(t:List cL)(c:b.order.length≤8000):mS (we b t)∧NS (we b t):=by
 have h:=Np b.limit c;have a:=wD h.1 ((t.length:Int)-1) (-1);exact⟨a,⟨a.fit,h.2.keys,h.2.ah,h.2.items⟩⟩
structure agk (w:List cL):Prop where
 own:∀n∈w,mS n
 ns:∀n∈w,NS n
 look:(lookF w).isSome
theorem aeV{c:List cN}{q:sY}{b:BV}{L:List fG}{t:List cL}(h:FX c q b L t):agk (t++[we b t])∧Ny (some (t++[we b t]))=b.ac:=by
 have f:=W6 b t h.ok.ol;have a:=h.low;unfold BL at a;split at a
 ·cases a
 split at a
 ·rename_i e;rw[a]at e;refine⟨⟨fun n d=>?_,fun n d=>?_,Jg a⟩,e.2.2⟩
  ·rcases aY.1 d with d|d
   ·exact h.tr.own n d
   rw[aP.1 d];exact f.1
  rcases aY.1 d with d|d
  ·exact h.tr.ns n d
  rw[aP.1 d];exact f.2
 cases a

theorem Wu(c:List iH):(Bv c).length≤8000∧∀t∈Bv c,Th t:=by
 refine⟨by simp[Bv];omega,fun t b=>?_⟩;simp only[Bv,bM]at b;obtain⟨a,_,rfl⟩:=b;exact⟨by simp[smF];omega,by simp[smF];omega⟩
end Go.AM
namespace Go.AM
open P
set_option maxHeartbeats 64000000
set_option maxRecDepth 40000
theorem WX{t:List cL}{K:List Int}(h:TR t K):bw I.qdc [aH [.aa false (t.map cL.a)],aH [.aa false (t.map cL.a)]]=some (aC true):=by
 obtain⟨s,e⟩:=h.lookF;have d:=h.le;refine acp t (fun n b=>?_) (by omega);have c:=(wY e).2.2.2 n b;have a:=h.ns n b;exact⟨⟨c.ac,a.fit.cond,a.keys,a.ah,a.fit.args,a.items,a.fit.exprs,c.ords⟩,(h.own n b).z⟩
theorem Ie{w x:List cL}{a:Nat}{K:List Int}(b:agk w)(g:TR x K)(l:HT w a x)(k:w.length≤8000)(p:Nat)(d:p=a+x.length-1):bw I.qdb [aH [.aa false (w.map cL.a)],ap (p:Int)]=some (fb [aH [.aa false (x.map cL.a)],ap 0]):=by
 obtain⟨s,f⟩:=cS.1 b.look;obtain⟨h,i,m⟩:=Sa g l f;have e:=g.pos;have j:LQ ⟨false,w⟩:=⟨b.own,b.ns,k⟩;subst d;have:=aje false w (fun n c=>(b.own n c).fit) (fun n c=>(b.own n c).fl) s f (a+x.length-1) (by omega) a h (by omega) (j.ok.lr b.look);rw[show a+x.length-1+1-a=x.length by omega,i]at this;exact this
def xQ(b:BV)(l:Int):BV:=⟨b.selects,b.names,b.ac,[],l⟩
theorem Wn{c:List cN}{q:sY}{b:BV}{L:List fG}{t:List cL}(h:FX c q b L t){l:Int}(g:FM l=true):FX c q (xQ b l) L t:=by
 have a:I5 c q (xQ b l) L:=⟨h.bg.sels,h.bg.good,h.bg.l1,h.bg.l3,h.bg.kd,h.bg.nm,fun o i=>(by cases i),by simp[xQ],g⟩;obtain⟨d,j,k,f,m⟩:=KF h.good a;have:d=t:=by
  have e:uk c b.selects=some d:=f;rw[h.un]at e;exact (dN e).symm
 subst this;exact⟨a,h.cat,h.good,j,k,f,m,⟨h.ok.sel,h.ok.sl,h.ok.nl,h.ok.kl,by simp[xQ]⟩,h.sel,h.h16⟩
theorem IF{t:List cL}{K:List Int}(h:TR t K)(r:cL):HT (t++[r]) 0 t:=by
 refine⟨[],[r],([],[]),?_,rfl,fun n h=>(by cases h),rfl,rfl,rfl⟩;rw[bX,Gh]
end Go.AM
namespace Go.AM
open P
set_option maxHeartbeats 64000000
set_option maxRecDepth 40000
attribute [local simp] aG bj
theorem G9(P:bw I.qaz []=some (aC true))(S:Bool)(c:List iH)(text:List UInt8)(lim:Int):bw I.qar [aH [.aa S (c.map iH.a)],aO text,ap lim]=some (aC true):=by
 rw[aS agQ rfl];have n:=Uh S c;have o:=Uh true c;obtain⟨F,G⟩:=Wu c;generalize Bv c=s at *;obtain⟨m,j,ab,k⟩:∃m:Nat,(if (600:Int)<(text.length:Int) then (600:Int) else (text.length:Int))=(m:Int)∧m≤600∧m≤text.length:=by
  by_cases h:(600:Int)<(text.length:Int)
  ·exact⟨600,by rw[if_pos h];rfl,by omega,by omega⟩
  exact⟨text.length,by rw[if_neg h],by omega,by omega⟩
 obtain⟨v,w,ha⟩:=acq (text.take m) (by simp;omega);rcases ha with⟨a,e,H,rfl⟩|⟨q,rfl⟩
 ·simp[ar6,To,P,n,o,j,k,w,H]
 have x:q.a=aH [.aa false (q.sels.map mC.a),.aa false ((q.keys.getD []).map BU.a),ap q.limit]:=rfl;rcases adB s F G q with⟨a,e,H,r⟩|⟨b,L,t,r,g⟩
 ·rw[x]at w r;simp[ar6,To,P,n,o,j,k,w,r,H]
 obtain⟨l,J,K⟩:∃l:Int,(if lim < -1 then (-1:Int) else lim).tmod 2147483647=l∧FM l=true:=by
  refine⟨_,rfl,?_⟩;unfold FM Ry;by_cases h:lim < -1
  ·rw[if_pos h];rfl
  rw[if_neg h];by_cases Y:lim=-1
  ·subst Y;rfl
  have Z:0≤lim.tmod 2147483647:=Int.tmod_nonneg _ (by omega);have h2:lim.tmod 2147483647<2147483647:=Int.tmod_lt_of_pos _ (by omega);simp[Z];omega
 have i:=Wn g K;have y:=(aeV g).1;have z:=(aeV i).1;have ad:=g.tl;have T:=g.tr.pos;have f:bw I.qef [nB s,b.a]=some (Pc 240 (some (t++[we b t]))):=by
  rw[←g.low];exact UY s g.cat b g.ok
 have d:bw I.qef [nB s,(xQ b l).a]=some (Pc 240 (some (t++[we (xQ b l) t]))):=by
  rw[←i.low];exact UY s i.cat _ i.ok
 have M:=Ie y g.tr (IF g.tr _) (by simp;omega) (t.length-1) (by omega);have N:=Ie z g.tr (IF g.tr _) (by simp;omega) (t.length-1) (by omega);have p:=WX g.tr;have B:(t++[we b t]).length=t.length+1:=by simp
 have C:(t++[we (xQ b l) t]).length=t.length+1:=by simp
 have D:(t++[we (xQ b l) t])[t.length]?=some (we (xQ b l) t):=by simp
 have O:(we (xQ b l) t).a=aH [ap 8,ap ((t.length:Int)-1),ap (-1),ap 0,.aa false [],aC false,.aa false [],.aa false [],.aa false [],.aa false [],.aa false [],ap l]:=rfl;have E:b.a=aH [.aa false (b.selects.map tH.a),.aa false (b.names.map aO),.aa false (b.ac.map (.int .i64)),.aa false (b.order.map im),ap b.limit]:=rfl;have u:(xQ b l).a=aH [.aa false (b.selects.map tH.a),.aa false (b.names.map aO),.aa false (b.ac.map (.int .i64)),.aa false [],ap l]:=rfl;clear y z g i;generalize we b t=r1 at *;generalize t++[r1]=w1 at *;generalize we (xQ b l) t=U at *;generalize t++[U]=R at *;have V:IntKind.i64.wrap (((t.length:Int)+1)-2)=((t.length-1:Nat):Int):=by rw[qL (by omega) (by omega)];omega
 have W:IntKind.i64.wrap (t.length:Int)=(t.length:Int):=qL (by omega) (by omega);have X:¬((t.length:Int)+1<2):=by omega
 have Q:t.length<R.length:=by omega
 have A:∀h:t.length<R.length,R[t.length]'h=U:=fun h=>(ak.1 D).2;rw[x]at w r;rw[E]at r f;rw[u]at d;unfold Pc at f d;simp only[de]at f d;simp at f d;simp[ar6,To,P,n,o,j,k,w,r,f,d,J,M,N,p,V,W,X,B,C,D,Q,A,O]


end Go.AM
namespace Go.AM
theorem mA.sl_inv{a:Bool}{cs:List Sh}{x:aq}(h:mA (.sl a cs) x):∃xs,x=.aa true xs∧xs.length≤maxLen∧(∀x∈xs,isAgg x=a∧(cellsOf x).length=cs.length∧aM x=cs.length) ∧
  ∀x∈xs,∀i (h:i<cs.length) (e:i<(cellsOf x).length),mA cs[i] (cellsOf x)[i]:=by
 cases h with
 |sl b c d=>exact⟨_,rfl,b,c,d⟩
theorem aar{b:Type}(f:b→aq):∀{l:List aq},(∀x∈l,∃a,x=f a)→∃m:List b,l=m.map f
 |[],_=>⟨[],rfl⟩
 |x::l,h=>by
  obtain⟨a,rfl⟩:=h x (dF ..);obtain⟨m,rfl⟩:=aar f fun y c=>h y (bZ _ c);exact⟨a::m,rfl⟩
theorem O7{cs:List Sh}{x:aq}(h:isAgg x=true∧(cellsOf x).length=cs.length∧aM x=cs.length)(b:∀i (h:i<cs.length) (b:i<(cellsOf x).length),mA cs[i] (cellsOf x)[i]) :
  ∃a,x=.agg a∧a.length=cs.length∧∀i (h:i<cs.length) (b:i<a.length),mA cs[i] a[i]:=by
 cases x with
 |agg a=>exact⟨a,rfl,h.2.1,b⟩
 |_=>cases h.1
theorem abJ{s:Sh}{x:aq}(h:isAgg x=false∧(cellsOf x).length=[s].length∧aM x=[s].length)(a:∀i (h:i < [s].length) (a:i<(cellsOf x).length),mA [s][i] (cellsOf x)[i]):mA s x:=by
 have b:cellsOf x=[x]:=by
  cases x with
  |agg c=>cases h.1
  |_=>rfl
 have:=a 0 (by simp) (by rw[b];simp);simpa only [b,cU] using this
end Go.AM
