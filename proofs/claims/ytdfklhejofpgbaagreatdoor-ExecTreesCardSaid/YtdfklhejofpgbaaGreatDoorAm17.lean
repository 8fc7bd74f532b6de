/- Part of the proof. -/
import Derived.Test.YtdfklhejofpgbaaGreatDoorAm16
set_option linter.unusedVariables false
set_option linter.unusedSimpArgs false
namespace Go.AM
open P
set_option maxHeartbeats 64000000
set_option maxRecDepth 40000
attribute [local simp] aW bK
def Ah(n:bL)(eP:Nat→cC→aQ→bW×Int)(_:Nat)(g:b8×aQ)(O:aQ):aQ⊕Unit:=
 match aV (ph eP g.2) n.ai 0 g.1 with
 |.inl vals=>.inl (O++[vals])
 |.inr _=>.inr ()
abbrev yH(b:Bool)(rs:aQ)(n:bL)(one:Bool)(DO:ap):ap:=.yld 9 199 (zH b rs n one DO)
theorem ad8(b:Bool)(rs:aQ)(n:bL)(one:Bool)(DO:ap)(eP:Nat→cC→aQ→bW×Int)(G:List (b8×aQ))(hD:∀g∈G,Zz n DO eP g.2)(hn:n.ai.length≤8000)(hk:∀g∈G,g.1.length≤8000)(hG:G.length≤8000)(hG0:G≠[]) :
  (∃O,aV (Ah n eP) G 0 []=.inl O∧∃ep,cq code 10 [5,10,11] nK ⟨[yH b rs n one DO,.ptr 6 0 0 0,.ptr 7 0 0 0,.ptr 8 0 0 0,.aa false (G.map eS),.any,.bool false,.aa false (G.map eS),ar G.length,ar 0,.any,.any],kx b rs n one DO .aj (ar 0) 0 [] (.pend false none) []⟩ =
    some (.ext 0,⟨[yH b rs n one DO,.ptr 6 0 0 0,.ptr 7 0 0 0,.ptr 8 0 0 0,.aa false (G.map eS),.any,.bool false,.aa false (G.map eS),ar G.length,ar G.length,.bool false,.any],kx b rs n one DO .aj (ar 0) ep (O.map aD) (.pend false none) []⟩)) ∨
  (aV (Ah n eP) G 0 []=.inr ()∧∃env ep C τ,cq code 10 [5,10,11] nK ⟨[yH b rs n one DO,.ptr 6 0 0 0,.ptr 7 0 0 0,.ptr 8 0 0 0,.aa false (G.map eS),.any,.bool false,.aa false (G.map eS),ar G.length,ar 0,.any,.any],kx b rs n one DO .aj (ar 0) 0 [] (.pend false none) []⟩ =
    some (.ret,⟨env,kx b rs n one DO .aj (ar 140) ep C (.pend false (some .ret)) τ⟩)):=by
 have hm:G.length≤most:=by unfold most;omega
 obtain⟨g0,hg0⟩:∃g0,g0∈G:=d8 G hG0;have hz:=(hD g0 hg0).fz;have hnc:=(hD g0 hg0).nc;have hnz:∀base σ m,fz false true base σ (m+3) n.a=n.a:=fun base σ m=>Ft.ft false true base σ m n rfl;have key:=cT (base:=10) (clr:=[5,10,11]) (b:=nK) G
  (fun k (O:aQ)=>⟨[yH b rs n one DO,.ptr 6 0 0 0,.ptr 7 0 0 0,.ptr 8 0 0 0,.aa false (G.map eS),.any,.bool false,.aa false (G.map eS),ar G.length,ar k,.any,.any],kx b rs n one DO .aj (ar 0) k (O.map aD) (.pend false none) []⟩)
  (fun k O=>O.length=k) (Ah n eP)
  (fun O=>(.ext 0,⟨[yH b rs n one DO,.ptr 6 0 0 0,.ptr 7 0 0 0,.ptr 8 0 0 0,.aa false (G.map eS),.any,.bool false,.aa false (G.map eS),ar G.length,ar G.length,.bool false,.any],kx b rs n one DO .aj (ar 0) G.length (O.map aD) (.pend false none) []⟩))
  (fun (_:Unit) o=>∃env ep C τ,o=(.ret,⟨env,kx b rs n one DO .aj (ar 140) ep C (.pend false (some .ret)) τ⟩))
  (fun k g O hk' hy hO=>by
   have ak:((k:Int)<(G.length:Int)):=by omega
   have hgm:=aw hy;have hR:=ZW b rs n one DO eP g (hD g hgm) k O hn (hk g hgm) (by omega);unfold Ah;rcases hR with⟨vals,hf,ep2,h⟩|⟨hf,τ,h⟩
   ·rw[hf];refine⟨?_,by simp[hO]⟩;have htk:(vals.map bW.a).take vals.length=vals.map bW.a:=av (by simp);simp only[zH,jZ,kx,eS,cf,bV,bj,bu,bS,cM,b9]at h;simp[nK,yH,jZ,kx,ak,hy,eS,h,jc,aE,aH,tw,hz,hnz,aX hk' hm];rfl
   rw[hf];simp only[zH,jZ,kx,eS,cf,cM,b9]at h;exact⟨_,by simp[nK,yH,jZ,kx,ak,hy,eS,h,jc];rfl,_,k,O.map aD,τ,by simp only[kx,cf];rfl⟩)
  (fun O _=>by simp[nK]) [] rfl
 simp only[bh,show ((0:Nat):Int)=0 from rfl]at key;cases hf:aV (Ah n eP) G 0 [] with
 |inl O=>
  rw[hf]at key;exact .inl ⟨O,rfl,G.length,key.2⟩
 |inr u=>
  rw[hf]at key;obtain⟨o,h1,env,ep,C,τ,rfl⟩:=key;exact .inr ⟨rfl,env,ep,C,τ,h1⟩
theorem mP(b:Bool)(rs:aQ)(hn:rs.length≤8000)(hr:∀r∈rs,lc r=true):aK I.qcy [.aa b (rs.map aD)]=some (.tup [.aa false ((dL ez rs).map aD),ar 0]):=by
 rw[aA aik rfl];have h:=fun b=>MO b rs hn hr;have hl:¬((8000:Int)<rs.length):=by omega
 simp[arN,abX,h,hl]
def vT(n:bL)(eP:Nat→cC→aQ→bW×Int)(rs:aQ):aQ×Int:=
 match aV (Ah n eP) (ey n.keys rs) 0 [] with
 |.inl O=>(dL ez O,0)
 |.inr _=>([],140)
theorem vg(x y z:ap)(hx:aC x=1∧isAgg x=false)(hy:aC y=1∧isAgg y=false)(hz:aC z=1∧isAgg z=false)(σ:ay) :
  cA code I.qch [x,y,z] σ=some (.fn 280 [] [.ptr σ.length 0 0 0,.ptr (σ.length+1) 0 0 0,.ptr (σ.length+2) 0 0 0],σ++[.arr 1 0 [x],.arr 1 0 [y],.arr 1 0 [z]]):=by
 rw[bp ajS rfl];simp[arF,aay,hx,hy,hz]
theorem GD{n:bL}{eP:Nat→cC→aQ→bW×Int}:∀{l:List (b8×aQ)} {k:Nat} {O O':aQ},aV (Ah n eP) l k O=.inl O'→O'.length=O.length+l.length
 |[],k,O,O',h=>by cases h;simp
 |g::l,k,O,O',h=>by
  simp only[aV]at h;unfold Ah at h;cases hf:aV (ph eP g.2) n.ai 0 g.1 with
  |inl vals=>
   rw[hf]at h;have:=GD (l:=l) h;simp at this ⊢;omega
  |inr u=>rw[hf]at h;cases h
theorem Tr(b:Bool)(rs:aQ)(n:bL)(one:Bool)(DO:ap)(eP:Nat→cC→aQ→bW×Int)(hrs:rs.length≤8000)(hr:∀r∈rs,lc r=true)(hh:∀r∈rs,EK r n.keys=true)(hc:n.keys.length≤16)(h0:∀c∈n.keys,0≤c)
  (hG0:ey n.keys rs≠[]) (hk:∀g∈ey n.keys rs,g.1.length≤8000) (hD:∀g∈ey n.keys rs,Zz n DO eP g.2) (hDs:fz true false 0 [] 20 DO=DO) (hn:n.ai.length≤8000)
  (hO:∀O,aV (Ah n eP) (ey n.keys rs) 0 []=.inl O→∀r∈O,lc r=true) :
  aK I.qcg [.aa b (rs.map aD),n.a,.bool one,DO]=some (.tup [.aa false ((vT n eP rs).1.map aD),ar (vT n eP rs).2]):=by
 rw[aA Ux rfl];have hGl:=vW n.keys rs;have hgr:=fun b=>zm b n.by' rs n.keys hrs hr hh hc h0
 have hL:=ad8 b rs n one DO eP (ey n.keys rs) hD hn hk (by omega) hG0;obtain⟨g0,hg0⟩:∃g0,g0∈ey n.keys rs:=d8 _ hG0;have hz:=(hD g0 hg0).fz;have hnc:=(hD g0 hg0).nc;have hnz:∀m,fz true false 0 [] (m+3) n.a=n.a:=fun m=>Ft.ft true false 0 [] m n rfl;have hkey:(cellsOf n.a)[7]?=some (.aa n.by' (kR n.keys)):=rfl;have hnn:aC n.a=12∧isAgg n.a=true:=⟨rfl,rfl⟩;have hcall:=fun σ=>vg (.aa b (rs.map aD)) (.aa n.by' (kR n.keys)) (.bool one) ⟨rfl,rfl⟩ ⟨rfl,rfl⟩ ⟨rfl,rfl⟩ σ;unfold vT;have hl0:(((ey n.keys rs).length:Int)==0)=false:=by
  have:(ey n.keys rs).length≠0:=fun h=>hG0 (bl h);rw[gm];omega
 rcases hL with⟨O,hf,ep,h⟩|⟨hf,env,ep,C,τ,h⟩
 ·rw[hf];have hOl:O.length≤8000:=by
   have:=GD hf;simp at this;omega
  have hs:=fun b=>mP b O hOl (hO O hf);have hit:cA code 280 [yH b rs n one DO,.ptr 6 0 0 0,.ptr 7 0 0 0,.ptr 8 0 0 0] (kx b rs n one DO .aj (ar 0) 0 [] (.pend false none) []) =
    some (.tup [],kx b rs n one DO .aj (ar 0) ep (O.map aD) (.pend false none) []):=by
   rw[bp Ky rfl];simp only[yH,kx,bu,cf]at h;simp[aoo,Ez,hgr,hl0,h,yH,kx]
  simp only[yH,zH,jZ,kx,bu,cf]at hit;simp[aoB,Hw,hnz,hDs,hnc,hkey,hnn,hcall,hit,hs,jC]
 rw[hf];have hit:cA code 280 [yH b rs n one DO,.ptr 6 0 0 0,.ptr 7 0 0 0,.ptr 8 0 0 0] (kx b rs n one DO .aj (ar 0) 0 [] (.pend false none) []) =
   some (.tup [],kx b rs n one DO .aj (ar 140) ep C (.pend false (some .ret)) τ):=by
  rw[bp Ky rfl];simp only[yH,kx,bu,cf]at h;simp[aoo,Ez,hgr,hl0,h,yH,kx]
 simp only[yH,zH,jZ,kx,bu]at hit;simp[aoB,Hw,hnz,hDs,hnc,hkey,hnn,hcall,hit,jC]
noncomputable def F8(e:List EN)(_:Nat)(r:b8)(acc:aQ):aQ⊕Unit:=if (dM e r).2=0 then .inl (if Ku (dM e r).1=true then acc++[r] else acc) else .inr ()
noncomputable def wN(e:List EN)(rs:aQ):aQ×Int:=match aV (F8 e) rs 0 [] with
 |.inl out=>(out,0)
 |.inr _=>([],140)
abbrev eX(c0 c1 c2 c3 c4 c5 c6:ap)(ba:Bool)(all:List ap):ap:=.agg [c0,c1,c2,c3,c4,c5,c6,.aa ba all]
theorem Wj(t:Bool)(c0 c1 c2 c3 c4 c5 c6:ap)(ba:Bool)(all:List ap)(hz:∀fl top base σ m,(fl ||top)=true→fz fl top base σ (m+4) (.cptr t (eX c0 c1 c2 c3 c4 c5 c6 ba all) 0)=.cptr t (eX c0 c1 c2 c3 c4 c5 c6 ba all) 0)
  (n:bL) (p:Nat) (hp:n.l=(p:Int)) (b:Bool) (rs:aQ) (ha:all[p]?=some (.aa b (rs.map aD))) (hn:rs.length≤8000) (hc:n.cond.length≤most) (hr:vb rs) (hE:tc n.cond) :
  aK I.qcp [.cptr t (eX c0 c1 c2 c3 c4 c5 c6 ba all) 0,n.a]=some (.tup [.aa false ((wN n.cond rs).1.map aD),ar (wN n.cond rs).2]):=by
 rw[aA aaQ rfl];have hm:rs.length≤most:=by unfold most;omega
 have hpl:=(al.1 ha).1;have hag:∀hh:p<all.length,all[p]'hh=.aa b (rs.map aD):=fun hh=>(al.1 ha).2;have hpi:((p:Int)<(all.length:Int)):=by omega
 have hz1:∀base σ m,fz true false base σ (m+4) (.cptr t (eX c0 c1 c2 c3 c4 c5 c6 ba all) 0)=.cptr t (eX c0 c1 c2 c3 c4 c5 c6 ba all) 0:=fun base σ m=>hz true false base σ m rfl;have hz2:∀base σ m,fz false true base σ (m+4) (.cptr t (eX c0 c1 c2 c3 c4 c5 c6 ba all) 0)=.cptr t (eX c0 c1 c2 c3 c4 c5 c6 ba all) 0:=fun base σ m=>hz false true base σ m rfl;have n1:∀base σ m,fz true false base σ (m+3) n.a=n.a:=fun base σ m=>Ft.ft true false base σ m n rfl;have n2:∀base σ m,fz false true base σ (m+3) n.a=n.a:=fun base σ m=>Ft.ft false true base σ m n rfl;have n3:aC n.a=12∧isAgg n.a=true:=⟨rfl,rfl⟩;have k1:(cellsOf n.a)[1]?=some (ar n.l):=rfl;have k6:List.take 1 (List.drop 6 (cellsOf n.a))=[.aa n.bc (n.cond.map EN.a)]:=rfl;have k6m:∀σ,List.take 1 (List.drop 6 (List.map (fz true false 0 σ 19) (cellsOf n.a)))=[.aa n.bc (n.cond.map EN.a)]:=fun σ=>by
  rw[←List.map_drop,←List.map_take,k6];simp
 have h:=cT (base:=2) (clr:=[3,4,6,7,8,12,13,14]) (b:=wt) rs
  (fun k (acc:aQ)=>⟨[.cptr t (eX c0 c1 c2 c3 c4 c5 c6 ba all) 0,n.a,.ptr 0 0 0 0,.any,.any,.sl 1 acc.length 0 acc.length,.any,.any,.any,.aa b (rs.map aD),ar rs.length,ar k,.any,.any,.any],[.arr 12 0 [n.a],.arr 1 acc.length (acc.map aD)]⟩)
  (fun k acc=>acc.length≤k) (F8 n.cond)
  (fun acc=>(.ext 0,⟨[.cptr t (eX c0 c1 c2 c3 c4 c5 c6 ba all) 0,n.a,.ptr 0 0 0 0,.any,.any,.sl 1 acc.length 0 acc.length,.any,.any,.any,.aa b (rs.map aD),ar rs.length,ar rs.length,.bool false,.any,.any],[.arr 12 0 [n.a],.arr 1 acc.length (acc.map aD)]⟩))
  (fun (_:Unit) o=>∃s,o=(.ret,s)∧dO .pure [.env 3,.env 4] (some (.ret,s))=some (.tup [.aa false [],ar 140]))
  (fun k r acc hk hy hs=>by
   have ak:((k:Int)<(rs.length:Int)):=by omega
   have hH:=fun c=>Qy c n.cond r hc (hr r (aw hy)) hE;have hrx:aD r=.aa false (r.map bW.a):=rfl;have h1:acc.length+1≤most:=by omega
   simp only[hrx]at hH;unfold F8;generalize dM n.cond r=q at *;obtain⟨v,no⟩:=q;simp only at *;by_cases c:no=0
   ·rw[if_pos c];subst c;cases ht:Ku v with
    |false=>
     rw[ht]at hH;refine⟨?_,by simp;omega⟩;simp[wt,ak,hy,n2,n3,k6,k6m,hz2,hH,hrx,aX hk hm,aE,aH]
    |true=>
     rw[ht]at hH;refine⟨?_,by simp;omega⟩;simp[wt,ak,hy,n2,n3,k6,k6m,hz2,hH,hrx,append,h1,aX hk hm,aE,aH]
   rw[if_neg c];rw[bE c]at hH;exact⟨_,by simp[wt,ak,hy,n2,n3,k6,k6m,hz2,hH,hrx];rfl,_,rfl,by simp⟩)
  (fun acc _=>by simp[wt]) [] (aM _)
 unfold wN;cases hf:aV (F8 n.cond) rs 0 [] with
 |inl out=>
  rw[hf]at h;have h:=h.2;have htk:List.take out.length (out.map aD)=out.map aD:=av (by simp);simp only[eX]at *;simp at h;simp[apS,W8,n1,n3,k1,hz1,hp,ha,hag,hpl,hpi,h,htk]
 |inr u=>
  rw[hf]at h;obtain⟨o,h1,s,rfl,h2⟩:=h;simp only[eX]at *;simp at h1;simp[apS,W8,n1,n3,k1,hz1,hp,ha,hag,hpl,hpi,h1,-dV];exact h2
noncomputable def Tn(r:b8)(_:Nat)(x:jM)(vals:b8):b8⊕Unit:=if (dM x.l r).2=0 then .inl (vals++[(dM x.l r).1]) else .inr ()
noncomputable def X8(items:List jM)(_:Nat)(r:b8)(acc:aQ):aQ⊕Unit:=match aV (Tn r) items 0 [] with
 |.inl vals=>.inl (acc++[vals])
 |.inr _=>.inr ()
noncomputable def s8(items:List jM)(rs:aQ):aQ×Int:=match aV (X8 items) rs 0 [] with
 |.inl out=>(dL ez out,0)
 |.inr _=>([],140)
abbrev Mt(F:ap)(n:bL)(m:Nat)(e6 e7:ap)(b:Bool)(rs:aQ)(k:Nat)(e14 e15 e16 e17 e18:ap):List ap:=
 [F,n.a,.ptr 0 0 0 0,.any,.any,.sl 1 m 0 m,e6,e7,.any,.any,.any,.aa b (rs.map aD),ar rs.length,ar k,e14,e15,e16,e17,e18,.any]
theorem K6(F:ap)(hz:∀base σ m,fz false true base σ (m+4) F=F)(n:bL)(b:Bool)(rs:aQ)(k m:Nat)(O:aQ)(r:b8)(hr:Ng r)(hi:n.items.length≤8000)(ha:∀x∈n.items,x.l.length≤most∧tc x.l) :
  (∃vals,aV (Tn r) n.items 0 []=.inl vals∧vals.length=n.items.length∧cq code 3 [3,4,8,9,10,18,19] tX ⟨Mt F n m (aD r) (.sl 2 0 0 0) b rs k (.bool true) (.aa n.bi (n.items.map jM.a)) (ar n.items.length) (ar 0) .any,[.arr 12 0 [n.a],.arr 1 m (O.map aD),.arr 4 0 []]⟩ =
    some (.ext 2,⟨Mt F n m (aD r) (.sl 2 vals.length 0 vals.length) b rs k (.bool true) (.aa n.bi (n.items.map jM.a)) (ar n.items.length) (ar n.items.length) (.bool false),[.arr 12 0 [n.a],.arr 1 m (O.map aD),.arr 4 vals.length (vals.map bW.a)]⟩)) ∨
  (aV (Tn r) n.items 0 []=.inr ()∧∃s,cq code 3 [3,4,8,9,10,18,19] tX ⟨Mt F n m (aD r) (.sl 2 0 0 0) b rs k (.bool true) (.aa n.bi (n.items.map jM.a)) (ar n.items.length) (ar 0) .any,[.arr 12 0 [n.a],.arr 1 m (O.map aD),.arr 4 0 []]⟩=some (.ret,s) ∧
    dO .pure [.env 3,.env 4] (some (.ret,s))=some (.tup [.aa false [],ar 140])):=by
 have hm:n.items.length≤most:=by unfold most;omega
 have n2:∀base σ m,fz false true base σ (m+3) n.a=n.a:=fun base σ m=>Ft.ft false true base σ m n rfl;have h:=cT (base:=3) (clr:=[3,4,8,9,10,18,19]) (b:=tX) n.items
  (fun j (vals:b8)=>⟨Mt F n m (aD r) (.sl 2 vals.length 0 vals.length) b rs k (.bool true) (.aa n.bi (n.items.map jM.a)) (ar n.items.length) (ar j) .any,[.arr 12 0 [n.a],.arr 1 m (O.map aD),.arr 4 vals.length (vals.map bW.a)]⟩)
  (fun j vals=>vals.length=j) (Tn r)
  (fun vals=>(.ext 2,⟨Mt F n m (aD r) (.sl 2 vals.length 0 vals.length) b rs k (.bool true) (.aa n.bi (n.items.map jM.a)) (ar n.items.length) (ar n.items.length) (.bool false),[.arr 12 0 [n.a],.arr 1 m (O.map aD),.arr 4 vals.length (vals.map bW.a)]⟩))
  (fun (_:Unit) o=>∃s,o=(.ret,s)∧dO .pure [.env 3,.env 4] (some (.ret,s))=some (.tup [.aa false [],ar 140]))
  (fun j x vals hj hx hs=>by
   have ak:((j:Int)<(n.items.length:Int)):=by omega
   obtain⟨a1,a2⟩:=ha x (aw hx);have hV:=fun c=>Dz c x.l false r a1 hr a2;have hrx:aD r=.aa false (r.map bW.a):=rfl;have hxa:x.a=.agg [.aa x.b (x.l.map EN.a)]:=rfl;have h1:vals.length+1≤most:=by unfold most;omega
   unfold Tn;generalize dM x.l r=p at *;obtain⟨v,no⟩:=p;simp only[bW.a]at hV ⊢;by_cases c:no=0
   ·rw[if_pos c];subst c;refine⟨?_,by simp[hs]⟩;simp[tX,Mt,ak,hx,hrx,hxa,hV,n2,hz,append,h1,aX hj hm,aE,aH,ec,iB,bW.a]
   rw[if_neg c];exact⟨_,by simp[tX,Mt,ak,hx,hrx,hxa,hV,eo c];rfl,_,rfl,by simp⟩)
  (fun vals _=>by simp[tX,Mt]) [] rfl
 cases hf:aV (Tn r) n.items 0 [] with
 |inl vals=>
  rw[hf]at h;exact .inl ⟨vals,rfl,h.1,h.2⟩
 |inr u=>
  rw[hf]at h;obtain⟨o,h1,s,rfl,h2⟩:=h;exact .inr ⟨rfl,s,h1,h2⟩
theorem RV(items:List jM):∀{l:aQ} {k:Nat} {O O':aQ},aV (X8 items) l k O=.inl O'→O'.length=O.length+l.length
 |[],k,O,O',h=>by cases h;simp
 |r::l,k,O,O',h=>by
  simp only[aV]at h;unfold X8 at h;cases hf:aV (Tn r) items 0 [] with
  |inl vals=>
   rw[hf]at h;have:=RV items (l:=l) h;simp at this ⊢;omega
  |inr u=>rw[hf]at h;cases h
theorem SF(t:Bool)(c0 c1 c2 c3 c4 c5 c6:ap)(ba:Bool)(all:List ap)(hz:∀fl top base σ m,(fl ||top)=true→fz fl top base σ (m+4) (.cptr t (eX c0 c1 c2 c3 c4 c5 c6 ba all) 0)=.cptr t (eX c0 c1 c2 c3 c4 c5 c6 ba all) 0)
  (n:bL) (p:Nat) (hp:n.l=(p:Int)) (b:Bool) (rs:aQ) (ha:all[p]?=some (.aa b (rs.map aD))) (hn:rs.length≤8000) (hi:n.items.length≤8000) (hx:∀x∈n.items,x.l.length≤most∧tc x.l) (hr:vb rs)
  (hO:∀out,aV (X8 n.items) rs 0 []=.inl out→∀r∈out,lc r=true) :
  aK I.qcv [.cptr t (eX c0 c1 c2 c3 c4 c5 c6 ba all) 0,n.a]=some (.tup [.aa false ((s8 n.items rs).1.map aD),ar (s8 n.items rs).2]):=by
 rw[aA aaL rfl];have hm:rs.length≤most:=by unfold most;omega
 have hpl:=(al.1 ha).1;have hag:∀hh:p<all.length,all[p]'hh=.aa b (rs.map aD):=fun hh=>(al.1 ha).2;have hpi:((p:Int)<(all.length:Int)):=by omega
 generalize hF:ap.cptr t (eX c0 c1 c2 c3 c4 c5 c6 ba all) 0=F at *;have hz1:∀base σ m,fz true false base σ (m+4) F=F:=fun base σ m=>hz true false base σ m rfl;have hz2:∀base σ m,fz false true base σ (m+4) F=F:=fun base σ m=>hz false true base σ m rfl;have n1:∀base σ m,fz true false base σ (m+3) n.a=n.a:=fun base σ m=>Ft.ft true false base σ m n rfl;have n2:∀base σ m,fz false true base σ (m+3) n.a=n.a:=fun base σ m=>Ft.ft false true base σ m n rfl;have n3:aC n.a=12∧isAgg n.a=true:=⟨rfl,rfl⟩;have k1:(cellsOf n.a)[1]?=some (ar n.l):=rfl;have k9:(cellsOf n.a)[9]?=some (.aa n.bi (n.items.map jM.a)):=rfl;have h:=cT (base:=2) (clr:=[3,4,6,7,8,9,10,14,15,16,17,18,19]) (b:=Aa) rs
  (fun k (acc:aQ)=>⟨Mt F n acc.length .any .any b rs k .any .any .any .any .any,[.arr 12 0 [n.a],.arr 1 acc.length (acc.map aD)]⟩)
  (fun k acc=>acc.length=k) (X8 n.items)
  (fun acc=>(.ext 0,⟨Mt F n acc.length .any .any b rs rs.length (.bool false) .any .any .any .any,[.arr 12 0 [n.a],.arr 1 acc.length (acc.map aD)]⟩))
  (fun (_:Unit) o=>∃s,o=(.ret,s)∧dO .pure [.env 3,.env 4] (some (.ret,s))=some (.tup [.aa false [],ar 140]))
  (fun k r acc hk hy hs=>by
   have ak:((k:Int)<(rs.length:Int)):=by omega
   have h1:acc.length+1≤most:=by omega
   have hR:=K6 F hz2 n b rs k acc.length acc r (hr r (aw hy)) hi hx;have hrx:aD r=.aa false (r.map bW.a):=rfl;unfold X8;rcases hR with⟨vals,hf,hl,hI⟩|⟨hf,s,hI,h2⟩
   ·rw[hf];refine⟨?_,by simp[hs]⟩;have htk:(vals.map bW.a).take vals.length=vals.map bW.a:=av (by simp);simp only[Mt,hrx]at hI
    try simp at hI
    simp[Aa,Mt,ak,hy,hrx,n2,k9,hz2,hI,htk,append,h1,aX hk hm,aE,aH,ec,iB,aD]
   rw[hf];simp only[Mt,hrx]at hI
   try simp at hI
   exact⟨_,by simp[Aa,Mt,ak,hy,hrx,n2,k9,hz2,hI],s,rfl,h2⟩)
  (fun acc _=>by simp[Aa,Mt]) [] rfl
 unfold s8;cases hf:aV (X8 n.items) rs 0 [] with
 |inl out=>
  rw[hf]at h;have h:=h.2;have hlen:=RV n.items hf;have hS:=fun b=>mP b out (by simp at hlen;omega) (hO out hf);simp only[Mt]at h;simp at h;subst hF;simp only[eX]at *;simp[apy,Xv,n1,n3,k1,hz1,hp,ha,hag,hpl,hpi,h,hS]
 |inr u=>
  rw[hf]at h;obtain⟨o,h1,s,rfl,h2⟩:=h;simp only[Mt]at h1;simp at h1;subst hF;simp only[eX]at *;simp[apy,Xv,n1,n3,k1,hz1,hp,ha,hag,hpl,hpi,h1,-dV];exact h2
section
section
variable (t:Bool) (c0 c1 c2 c3 c4 c5 c6:ap) (ba:Bool) (all:List ap) (hz:∀fl top base σ m,(fl ||top)=true→fz fl top base σ (m+4) (.cptr t (eX c0 c1 c2 c3 c4 c5 c6 ba all) 0)=.cptr t (eX c0 c1 c2 c3 c4 c5 c6 ba all) 0)
  (n:bL) (p:Nat) (hp:n.l=(p:Int)) (b:Bool) (l:List ap) (ha:all[p]?=some (.aa b l)) (out:aQ) (e:Int)
include hz hp ha
theorem Zp(h:∀b,aK I.qaz [.aa b l,.aa n.bo (n.ords.map jl),ar n.limit]=some (.tup [.aa false (out.map aD),ar e])) :
  aK I.qcw [.cptr t (eX c0 c1 c2 c3 c4 c5 c6 ba all) 0,n.a]=some (.tup [.aa false (out.map aD),ar e]):=by
 rw[aA ab7 rfl];have hpl:=(al.1 ha).1;have hag:∀hh:p<all.length,all[p]'hh=.aa b l:=fun hh=>(al.1 ha).2;have hpi:((p:Int)<(all.length:Int)):=by omega
 have hz1:∀base σ m,fz true false base σ (m+4) (.cptr t (eX c0 c1 c2 c3 c4 c5 c6 ba all) 0)=.cptr t (eX c0 c1 c2 c3 c4 c5 c6 ba all) 0:=fun base σ m=>hz true false base σ m rfl;have n1:∀base σ m,fz true false base σ (m+3) n.a=n.a:=fun base σ m=>Ft.ft true false base σ m n rfl;have n3:aC n.a=12∧isAgg n.a=true:=⟨rfl,rfl⟩;have k1:(cellsOf n.a)[1]?=some (ar n.l):=rfl;have k10:(cellsOf n.a)[10]?=some (.aa n.bo (n.ords.map jl)):=rfl;have k11:(cellsOf n.a)[11]?=some (ar n.limit):=rfl;simp only[eX]at *;simp[arP,adE,n1,n3,k1,k10,k11,hz1,hp,ha,hag,hpl,hpi,h]
end
end
theorem Yo(t:Bool)(c0 c1 c2 c3 c4 c5 c6:ap)(ba:Bool)(all:List ap)(hz:∀fl top base σ m,(fl ||top)=true→fz fl top base σ (m+4) (.cptr t (eX c0 c1 c2 c3 c4 c5 c6 ba all) 0)=.cptr t (eX c0 c1 c2 c3 c4 c5 c6 ba all) 0)
  (n:bL) (p q:Nat) (hp:n.l=(p:Int)) (hq:n.r=(q:Int)) (b b':Bool) (rs rs':aQ) (ha:all[p]?=some (.aa b (rs.map aD))) (hb:all[q]?=some (.aa b' (rs'.map aD))) (hn:rs.length+rs'.length≤8000) (hr:∀r∈rs++rs',lc r=true) :
  aK I.qcx [.cptr t (eX c0 c1 c2 c3 c4 c5 c6 ba all) 0,n.a]=some (.tup [.aa false ((dL ez (rs++rs')).map aD),ar 0]):=by
 rw[aA abK rfl];have hpl:=(al.1 ha).1;have hag:∀hh:p<all.length,all[p]'hh=.aa b (rs.map aD):=fun hh=>(al.1 ha).2;have hpi:((p:Int)<(all.length:Int)):=by omega
 have hql:=(al.1 hb).1;have hbg:∀hh:q<all.length,all[q]'hh=.aa b' (rs'.map aD):=fun hh=>(al.1 hb).2;have hqi:((q:Int)<(all.length:Int)):=by omega
 have hz1:∀base σ m,fz true false base σ (m+4) (.cptr t (eX c0 c1 c2 c3 c4 c5 c6 ba all) 0)=.cptr t (eX c0 c1 c2 c3 c4 c5 c6 ba all) 0:=fun base σ m=>hz true false base σ m rfl;have n1:∀base σ m,fz true false base σ (m+3) n.a=n.a:=fun base σ m=>Ft.ft true false base σ m n rfl;have n3:aC n.a=12∧isAgg n.a=true:=⟨rfl,rfl⟩;have k1:(cellsOf n.a)[1]?=some (ar n.l):=rfl;have k2:(cellsOf n.a)[2]?=some (ar n.r):=rfl;have hm:rs.length+rs'.length≤most:=by unfold most;omega
 have hC:∀B x y,aK I.qha [.aa B [.aa x (rs.map aD),.aa y (rs'.map aD)]]=some (.aa false (rs.map aD++rs'.map aD)):=fun B x y=>by
  have:=nE (enc:=aD) B [⟨x,rs⟩,⟨y,rs'⟩] (by simpa using hm) (by unfold most;simp);simpa [dI.c] using this
 have hS:∀B,aK I.qcy [.aa B (rs.map aD++rs'.map aD)]=some (.tup [.aa false ((dL ez (rs++rs')).map aD),ar 0]):=fun B=>by
  have:=mP B (rs++rs') (by simpa using hn) hr;simpa using this
 clear hr hn hm;simp only[eX]at *;simp[aqi,aby,n1,n3,k1,k2,hz1,hp,hq,ha,hag,hpl,hpi,hb,hbg,hql,hqi,hC,hS]
structure Ew (bt:Bool) (tabs:List ap) (bi:Bool) (ins:List ap) (n:bL) (b:Bool) (rs:aQ):Prop where
 at':∃i:Nat,n.tab=(i:Int)∧(if n.op=9 then ins else tabs)[i]?=some (.aa b (rs.map aD))
 fits:Nr n.af rs=true
 short:∀r∈rs,r.length≤most
theorem U5(t:Bool)(c0 c1 c2 c3:ap)(bt:Bool)(tabs:List ap)(bi:Bool)(ins:List ap)(c6 c7:ap)
  (n:bL) (b:Bool) (rs:aQ) (h:Ew bt tabs bi ins n b rs) (σ:ay) :
  cA code I.qct [.cptr t (.agg [c0,c1,c2,c3,.aa bt tabs,.aa bi ins,c6,c7]) 0,n.a] σ=some (.tup [.aa b (rs.map aD),.bool true],σ++[.arr 12 0 [n.a]]):=by
 rw[bp adh rfl];obtain⟨⟨i,hi,ha⟩,hf,hs⟩:=h;have n3:aC n.a=12∧isAgg n.a=true:=⟨rfl,rfl⟩;have k0:(cellsOf n.a)[0]?=some (ar n.op):=rfl;have k3:(cellsOf n.a)[3]?=some (ar n.tab):=rfl;have k4:(cellsOf n.a)[4]?=some (.aa n.bk (n.af.map (.int .i64))):=rfl;have hF:∀b bk,aK I.qcd [.aa b (rs.map aD),.aa bk (n.af.map (.int .i64))]=some (.bool true):=fun b bk=>by rw[GW b bk rs n.af hs,hf]
 by_cases c:n.op=9
 ·rw[if_pos c]at ha;have hpl:=(al.1 ha).1;have hag:∀hh:i<ins.length,ins[i]'hh=.aa b (rs.map aD):=fun hh=>(al.1 ha).2;have ak:¬((ins.length:Int)≤(i:Int)):=by omega
  have hlt':((i:Int)<(ins.length:Int)):=by omega
  simp[aoC,LK,n3,k0,k3,k4,c,hi,ha,hag,hpl,ak,hlt',hF]
 rw[if_neg c]at ha;have hpl:=(al.1 ha).1;have hag:∀hh:i<tabs.length,tabs[i]'hh=.aa b (rs.map aD):=fun hh=>(al.1 ha).2;have ak:¬((tabs.length:Int)≤(i:Int)):=by omega
 have hlt':((i:Int)<(tabs.length:Int)):=by omega
 simp[aoC,LK,n3,k0,k3,k4,c,hi,ha,hag,hpl,ak,hlt',hF]
theorem ZK(t:Bool)(c0 c1 c2 c3:ap)(bt:Bool)(tabs:List ap)(bi:Bool)(ins:List ap)(c6 c7:ap)(hz:∀fl top base σ m,(fl ||top)=true→fz fl top base σ (m+4) (.cptr t (.agg [c0,c1,c2,c3,.aa bt tabs,.aa bi ins,c6,c7]) 0)=.cptr t (.agg [c0,c1,c2,c3,.aa bt tabs,.aa bi ins,c6,c7]) 0)
  (n:bL) (b:Bool) (rs:aQ) (h:Ew bt tabs bi ins n b rs) (hr:∀r∈rs,lc r=true) :
  aK I.qcq [.cptr t (.agg [c0,c1,c2,c3,.aa bt tabs,.aa bi ins,c6,c7]) 0,n.a]=some (.tup [.aa false ((dL ez rs).map aD),ar 0]):=by
 rw[aA ac3 rfl];have hn:rs.length≤8000:=by
  have:=h.fits;simp[Nr]at this;exact this.1
 have hH:=U5 t c0 c1 c2 c3 bt tabs bi ins c6 c7 n b rs h;have hS:=fun b=>mP b rs hn hr;have hz1:∀base σ m,fz true false base σ (m+4) (.cptr t (.agg [c0,c1,c2,c3,.aa bt tabs,.aa bi ins,c6,c7]) 0)=.cptr t (.agg [c0,c1,c2,c3,.aa bt tabs,.aa bi ins,c6,c7]) 0:=fun base σ m=>hz true false base σ m rfl;have n1:∀base σ m,fz true false base σ (m+3) n.a=n.a:=fun base σ m=>Ft.ft true false base σ m n rfl;have n3:aC n.a=12∧isAgg n.a=true:=⟨rfl,rfl⟩;have hP:cA code 36=cA code I.qct:=rfl;simp[aqJ,aaD,n1,n3,hz1,hH,hS]
theorem BY(ah:List Int):ey ah []=[]:=bl (by have:=vW ah [];simpa using this)
theorem I7(b:Bool)(n:bL)(one:Bool)(DO:ap)(hno:(decide (n.keys=[])&&one)=false)(hc:n.keys.length≤16)(h0:∀c∈n.keys,0≤c)
  (hz:∀base σ m,fz false true base σ (m+3) DO=DO) (hnc:aC DO=1∧isAgg DO=false) (hDs:fz true false 0 [] 20 DO=DO) :
  aK I.qcg [.aa b [],n.a,.bool one,DO]=some (.tup [.aa false [],ar 0]):=by
 rw[aA Ux rfl];have hgr:∀b,_:=fun b=>zm b n.by' [] n.keys (by simp) (by simp) (by simp) hc h0
 rw[BY]at hgr;simp only[bh]at hgr;have hnz:∀m,fz true false 0 [] (m+3) n.a=n.a:=fun m=>Ft.ft true false 0 [] m n rfl;have hkey:(cellsOf n.a)[7]?=some (.aa n.by' (kR n.keys)):=rfl;have hnn:aC n.a=12∧isAgg n.a=true:=⟨rfl,rfl⟩;have hcall:=fun σ=>vg (.aa b ([]:List ap)) (.aa n.by' (kR n.keys)) (.bool one) ⟨rfl,rfl⟩ ⟨rfl,rfl⟩ ⟨rfl,rfl⟩ σ;have hs:∀b,aK I.qcy [.aa b []]=some (.tup [.aa false [],ar 0]):=fun b=>mP b [] (by simp) (by simp);have hit:cA code 280 [yH b [] n one DO,.ptr 6 0 0 0,.ptr 7 0 0 0,.ptr 8 0 0 0] (kx b [] n one DO .aj (ar 0) 0 [] (.pend false none) []) =
   some (.tup [],kx b [] n one DO .aj (ar 0) 0 [] (.pend false none) []):=by
  rw[bp Ky rfl];by_cases c:n.keys=[]
  ·have ho:one=false:=by simpa [c] using hno
   subst ho
   have hg2:∀b,aK I.qfv [.aa b [],.aa n.by' []]=some (.tup [.aa false [],ar 0]):=fun b=>by
    have:=hgr b;rw[c]at this;exact this
   simp[aoo,Ez,nK,hg2,hgr,c,yH,kx,dq]
  have hkl:((n.keys.length:Int)==0)=false:=by
   have:n.keys.length≠0:=fun h=>c (bl h);rw[gm];omega
  simp[aoo,Ez,nK,hgr,c,hkl,yH,kx,dq]
 simp only[yH,zH,jZ,kx,bu,bh]at hit;simp[aoB,Hw,hnz,hDs,hnc,hkey,hnn,hcall,hit,hs,jC]
abbrev lG:ap:=.agg [.aj,.aj]
structure DoN (n:bL) (DO:ap) (eP:Nat→cC→aQ→bW×Int):Prop where
 fz:∀base σ m,fz false true base σ (m+5) DO=DO
 nc:aC DO=1∧isAgg DO=false
 go:∀(i:Nat) a σ,n.ai[i]?=some a→dS code DO [ar i,a.a,.aj] σ=some (.tup [(eP i a []).1.a,ar (eP i a []).2],σ)
theorem afd(b:Bool)(rs:aQ)(n:bL)(one:Bool)(DO:ap)(eP:Nat→cC→aQ→bW×Int)(hD:DoN n DO eP)(ep:Nat)(O:aQ)(hn:n.ai.length≤8000)(e11 e12 e13 e14 e21:ap) :
  (∃vals,aV (ph eP []) n.ai 0 []=.inl vals∧∃ep2 e11' e12' e13' e14' e19 e20 e21',cq code 13 [20] lL ⟨jZ b rs n one DO (.ptr 11 0 0 0) (.sl 12 0 0 0) e11 e12 e13 e14 (lG) (.aa n.bg (n.ai.map cC.a)) (ar n.ai.length) (ar 0) .any e21,kx b rs n one DO .aj (ar 0) ep (O.map aD) (.pend true none) [.arr 2 0 [lG],.arr 2 0 [lG],.arr 4 0 (([]:b8).map bW.a)]⟩ =
    some (.ext 2,⟨jZ b rs n one DO (.ptr 11 0 0 0) (.sl 12 ep2 0 vals.length) e11' e12' e13' e14' (lG) (.aa n.bg (n.ai.map cC.a)) (ar n.ai.length) e19 e20 e21',kx b rs n one DO .aj (ar 0) ep (O.map aD) (.pend true none) [.arr 2 0 [lG],.arr 2 0 [lG],.arr 4 ep2 (vals.map bW.a)]⟩)) ∨
  (aV (ph eP []) n.ai 0 []=.inr ()∧∃env τ,cq code 13 [20] lL ⟨jZ b rs n one DO (.ptr 11 0 0 0) (.sl 12 0 0 0) e11 e12 e13 e14 (lG) (.aa n.bg (n.ai.map cC.a)) (ar n.ai.length) (ar 0) .any e21,kx b rs n one DO .aj (ar 0) ep (O.map aD) (.pend true none) [.arr 2 0 [lG],.arr 2 0 [lG],.arr 4 0 (([]:b8).map bW.a)]⟩=some (.ret,⟨env,kx b rs n one DO .aj (ar 140) ep (O.map aD) (.pend true none) τ⟩)):=by
 have hm:n.ai.length≤most:=by unfold most;omega
 have key:=uf (base:=13) (clr:=[20]) (b:=lL) n.ai
  (fun k (vals:b8) t=>vals.length=0+k∧∃ep2 e11 e12 e13 e14 e21,t=⟨jZ b rs n one DO (.ptr 11 0 0 0) (.sl 12 ep2 0 vals.length) e11 e12 e13 e14 (lG) (.aa n.bg (n.ai.map cC.a)) (ar n.ai.length) (ar k) .any e21,kx b rs n one DO .aj (ar 0) ep (O.map aD) (.pend true none) [.arr 2 0 [lG],.arr 2 0 [lG],.arr 4 ep2 (vals.map bW.a)]⟩)
  (ph eP [])
  (fun vals o=>∃ep2 e11 e12 e13 e14 e19 e20 e21,o=(.ext 2,⟨jZ b rs n one DO (.ptr 11 0 0 0) (.sl 12 ep2 0 vals.length) e11 e12 e13 e14 (lG) (.aa n.bg (n.ai.map cC.a)) (ar n.ai.length) e19 e20 e21,kx b rs n one DO .aj (ar 0) ep (O.map aD) (.pend true none) [.arr 2 0 [lG],.arr 2 0 [lG],.arr 4 ep2 (vals.map bW.a)]⟩))
  (fun _ o=>∃env τ,o=(.ret,⟨env,kx b rs n one DO .aj (ar 140) ep (O.map aD) (.pend true none) τ⟩))
  (fun k a vals t hk' hy ht=>by
   obtain⟨hl,ep2,e11,e12,e13,e14,e21,rfl⟩:=ht;have ak:((k:Int)<(n.ai.length:Int)):=by omega
   have hgo:=fun σ=>hD.go k a σ hy;have hz:=hD.fz;have hnc:=hD.nc;have hnz:∀base σ m,fz false true base σ (m+3) n.a=n.a:=fun base σ m=>Ft.ft false true base σ m n rfl;have hl1:vals.length+1≤most:=by unfold most;omega
   unfold ph;by_cases h0:(eP k a []).2=0
   ·rw[if_pos h0];simp only;rw[h0]at hgo;generalize (eP k a []).1=v at *;simp only[bW.a,cC.a]at hgo;refine⟨⟨jZ b rs n one DO (.ptr 11 0 0 0) (.sl 12 (ep2+1) 0 (vals++[v]).length) (ar k) (ec 13 (kx b rs n one DO .aj (ar 0) ep (O.map aD) (.pend true none) [.arr 2 0 [lG],.arr 2 0 [lG],.arr 4 (ep2+1) ((vals++[v]).map bW.a),.arr 2 0 [a.a],.arr 4 0 [v.a]]) (.ptr 13 0 0 0)) (ec 13 (kx b rs n one DO .aj (ar 0) ep (O.map aD) (.pend true none) [.arr 2 0 [lG],.arr 2 0 [lG],.arr 4 (ep2+1) ((vals++[v]).map bW.a),.arr 2 0 [a.a],.arr 4 0 [v.a]]) (.ptr 14 0 0 0)) (ar 0) (lG) (.aa n.bg (n.ai.map cC.a)) (ar n.ai.length) (ar (k+1:Nat)) .any (.bool false),kx b rs n one DO .aj (ar 0) ep (O.map aD) (.pend true none) [.arr 2 0 [lG],.arr 2 0 [lG],.arr 4 (ep2+1) ((vals++[v]).map bW.a)]⟩,?_,by simp[hl],ep2+1,_,_,_,_,_,rfl⟩;simp[lL,jZ,kx,ak,hy,lG,cC.a,hgo,hz,hnc,hnz,append,hl1,aX hk' hm,aE,aH,bW.a]
   ·rw[if_neg h0];simp only;generalize eP k a []=q at *;obtain⟨v,no⟩:=q;simp only at h0 hgo;simp only[bW.a,cC.a]at hgo;exact⟨_,by simp[lL,jZ,kx,ak,hy,lG,cC.a,hgo,eo h0,hnc,bW.a];and_intros<;>rfl,_,_,rfl⟩) (fun vals t ht=>by
   obtain⟨hl,ep2,e11,e12,e13,e14,e21,rfl⟩:=ht;exact⟨_,by simp[lL,jZ,kx];and_intros<;>rfl,ep2,e11,e12,e13,e14,_,_,e21,rfl⟩) [] _ ⟨rfl,0,e11,e12,e13,e14,e21,rfl⟩
 cases hf:aV (ph eP []) n.ai 0 [] with
 |inl vals=>
  rw[hf]at key;obtain⟨o,h1,ep2,f11,f12,f13,f14,f19,f20,f21,rfl⟩:=key;exact .inl ⟨vals,rfl,ep2,f11,f12,f13,f14,f19,f20,f21,h1⟩
 |inr u=>
  rw[hf]at key;obtain⟨o,h1,env,τ,rfl⟩:=key;exact .inr ⟨rfl,env,τ,h1⟩
theorem Y7(b:Bool)(rs:aQ)(n:bL)(one:Bool)(DO:ap)(eP:Nat→cC→aQ→bW×Int)(hD:DoN n DO eP)(ep:Nat)(O:aQ)(hn:n.ai.length≤8000)(hO:O.length≤8000) :
  (∃vals,aV (ph eP []) n.ai 0 []=.inl vals∧∃ep2,cA code 199 (.frs 9 []::(zH b rs n one DO++[lG])) (kx b rs n one DO .aj (ar 0) ep (O.map aD) (.pend false none) [.arr 2 0 [lG]]) =
    some (.bool true,kx b rs n one DO .aj (ar 0) (ep+1) (O.map aD++[.sl 12 ep2 0 vals.length]) (.pend false none) [.arr 2 0 [lG],.arr 2 0 [lG],.arr 4 ep2 (vals.map bW.a)])) ∨
  (aV (ph eP []) n.ai 0 []=.inr ()∧∃τ,cA code 199 (.frs 9 []::(zH b rs n one DO++[lG])) (kx b rs n one DO .aj (ar 0) ep (O.map aD) (.pend false none) [.arr 2 0 [lG]]) =
    some (.bool false,kx b rs n one DO .aj (ar 140) ep (O.map aD) (.pend false (some .ret)) τ)):=by
 rw[mW fg (g:=gD) rfl];have hcl:∀σ,cA code 114 [.aj] σ=some (.frs 4 [],σ):=fun σ=>by
  have:=gZ (enc:=bW.a) false [] (by unfold most;simp);have h2:cA code I.qgu [.aa false []] σ=some (.frs 4 [],σ):=by
   rw[jj uM rfl];simp only[bh]at this;rw[this];rfl
  rw[eB fg uM]at h2;show cA code I.qgu [.aj] σ=_;rw[eB fg uM];exact h2
 have hag:(cellsOf n.a)[8]?=some (.aa n.bg (n.ai.map cC.a)):=rfl;have hnc:aC n.a=12∧isAgg n.a=true:=⟨rfl,rfl⟩;have hm:O.length+1≤most:=by unfold most;omega
 rcases afd b rs n one DO eP hD ep O hn .any .any .any .any .any with⟨vals,hf,ep2,f11,f12,f13,f14,f19,f20,f21,h⟩|⟨hf,env,τ,h⟩
 ·refine .inl ⟨vals,hf,ep2,?_⟩;simp only[jZ,kx,cf,bh,lG]at h;simp[gD,jm,jN,jQ,gU,eR,kx,jZ,hcl,hag,hnc,append,hm,lG,h]
 refine .inr ⟨hf,?_⟩;simp only[jZ,kx,cf,bh,lG]at h;exact⟨_,by simp[gD,jm,jN,jQ,gU,eR,kx,jZ,hcl,hag,hnc,append,hm,lG,h];rfl⟩
def vP(n:bL)(eP:Nat→cC→aQ→bW×Int):aQ×Int:=
 match aV (ph eP []) n.ai 0 [] with
 |.inl vals=>(dL ez [vals],0)
 |.inr _=>([],140)
theorem Li(b:Bool)(n:bL)(DO:ap)(eP:Nat→cC→aQ→bW×Int)(c:n.keys=[])(hD:DoN n DO eP)(hDs:fz true false 0 [] 20 DO=DO)(hn:n.ai.length≤8000)
  (hO:∀vals,aV (ph eP []) n.ai 0 []=.inl vals→lc vals=true) :
  aK I.qcg [.aa b [],n.a,.bool true,DO]=some (.tup [.aa false ((vP n eP).1.map aD),ar (vP n eP).2]):=by
 rw[aA Ux rfl];have hz:=hD.fz;have hnc:=hD.nc
 have hgr:∀b,aK I.qfv [.aa b [],.aa n.by' []]=some (.tup [.aa false [],ar 0]):=fun b=>by
  have:=zm b n.by' [] n.keys (by simp) (by simp) (by simp) (by rw[c];simp) (by rw[c];simp)
  rw[BY,c]at this;exact this
 have hnz:∀m,fz true false 0 [] (m+3) n.a=n.a:=fun m=>Ft.ft true false 0 [] m n rfl;have hnz2:∀base σ m,fz false true base σ (m+3) n.a=n.a:=fun base σ m=>Ft.ft false true base σ m n rfl
 have hkey:(cellsOf n.a)[7]?=some (.aa n.by' []):=by
  have:(cellsOf n.a)[7]?=some (.aa n.by' (kR n.keys)):=rfl;rw[c]at this;exact this
 have hnn:aC n.a=12∧isAgg n.a=true:=⟨rfl,rfl⟩;have hcall:=fun σ=>vg (.aa b ([]:List ap)) (.aa n.by' []) (.bool true) ⟨rfl,rfl⟩ ⟨rfl,rfl⟩ ⟨rfl,rfl⟩ σ;have hR:=Y7 b [] n true DO eP hD 0 [] hn (by simp);unfold vP;rcases hR with⟨vals,hf,ep2,h⟩|⟨hf,τ,h⟩
 ·rw[hf];have hs:∀b,aK I.qcy [.aa b [aD vals]]=some (.tup [.aa false ((dL ez [vals]).map aD),ar 0]):=fun b=>mP b [vals] (by simp) (by simpa using hO vals hf);have htk:(vals.map bW.a).take vals.length=vals.map bW.a:=av (by simp);have hit:cA code 280 [yH b [] n true DO,.ptr 6 0 0 0,.ptr 7 0 0 0,.ptr 8 0 0 0] (kx b [] n true DO .aj (ar 0) 0 [] (.pend false none) []) =
    some (.tup [],kx b [] n true DO .aj (ar 0) 1 [aD vals] (.pend false none) []):=by
   rw[bp Ky rfl];simp only[zH,jZ,kx,c,kR,bh,bu,cM,b9]at h;simp[aoo,Ez,nK,hgr,c,yH,jZ,kx,kR,dq,h,jc,aE,aH,tw,hz,hnz2,show IntKind.i64.wrap 1=1 from by decide,aD]
  simp only[yH,zH,jZ,kx,c,kR,bu,bh]at hit;simp[aoB,Hw,hnz,hDs,hnc,hkey,hnn,hcall,hit,hs,jC]
 rw[hf];have hit:∃ep C τ',cA code 280 [yH b [] n true DO,.ptr 6 0 0 0,.ptr 7 0 0 0,.ptr 8 0 0 0] (kx b [] n true DO .aj (ar 0) 0 [] (.pend false none) []) =
   some (.tup [],kx b [] n true DO .aj (ar 140) ep C (.pend false (some .ret)) τ'):=by
  rw[bp Ky rfl];simp only[zH,jZ,kx,c,kR,bh,bu,cM,b9]at h;exact⟨0,[],τ,by simp[aoo,Ez,nK,hgr,c,yH,jZ,kx,kR,dq,h,jc]⟩
 obtain⟨ep,C,τ',hit⟩:=hit;simp only[yH,zH,jZ,kx,c,kR,bu,bh]at hit;simp[aoB,Hw,hnz,hDs,hnc,hkey,hnn,hcall,hit,jC]
def pK(k:Nat)(r:b8):Bool:=decide (k<r.length)&&(r.getD k cu).k != 0
def afm(rs:aQ)(k:Nat):Int:=if rs.any (pK k) then ((rs.getD (rs.findIdx (pK k)) []).getD k cu).k else 0
def NX(rs:aQ):List Int:=(List.range (rs.headD []).length).map (afm rs)
def Sj(af:List Int):bL:=⟨9,-1,-1,0,true,af,false,false,[],false,[],false,[],false,[],false,[],0⟩
def BK(n:bL):bL:={ n with l:=0,r:=-1 }
def kOk:List (List Int)⊕Nat→Bool
 |.inl _=>true
 |.inr _=>false
theorem GG(ah:List Int):∀(n:Nat) (S:aQ) (g:b8×aQ),g∈ru ah n S→(∀r∈g.2,r∈S)∧g.2.length≤S.length∧∃a∈S,g.1=lA a ah
 |0,_,_,h=>by cases h
 |n+1,[],_,h=>by cases h
 |n+1,a::t,g,h=>by
  simp only[ru,dz]at h;rcases h with rfl|h
  ·refine⟨fun r hr=>?_,?_,a,by simp,rfl⟩
   ·rcases dz.1 hr with rfl|hr
    ·simp
    exact aO _ ((fI (l:=t) (eJ ah a)).subset hr)
   have:=(fI (l:=t) (eJ ah a)).length_le;simp only[bj];omega
  obtain⟨h1,h2,b,h3,h4⟩:=GG ah n _ g h;have hs:=(List.dropWhile_suffix (l:=t) (eJ ah a));exact⟨fun r hr=>aO _ (hs.subset (h1 r hr)),by have:=hs.length_le;simp only[bj];omega,b,aO _ (hs.subset h3),h4⟩
theorem lk{ah:List Int}{rs:aQ}{g:b8×aQ}(h:g∈ey ah rs):(∀r∈g.2,r∈rs)∧g.2.length≤rs.length∧∃a∈rs,g.1=lA a ah:=by
 obtain⟨h1,h2,a,h3,h4⟩:=GG ah _ _ g h;have hp:=kA (c:=sg ah) rs;exact⟨fun r hr=>hp.mem_iff.1 (h1 r hr),by rw[gj]at h2;exact h2,a,hp.mem_iff.1 h3,h4⟩
theorem F0{ah:List Int}{rs:aQ}(h:rs≠[]):ey ah rs≠[]:=by
 intro e;unfold ey at e;have hl:=gj (sg ah) rs;have h0:rs.length≠0:=fun h'=>h (bl h');obtain⟨n,hn⟩:∃n,rs.length=n+1:=⟨rs.length-1,by omega⟩;rw[hn]at e;cases hS:dL (sg ah) rs with
 |nil=>rw[hS]at hl;simp at hl;omega
 |cons a t=>rw[hS]at e;simp[ru]at e
def agF(n:bL):Prop:=∀a∈n.ai,a.arg.length≤most∧tc a.arg
theorem XH(i:Int)(a:cC)(b:Bool)(rs:aQ)(hn:rs.length≤8000)(ha:a.arg.length≤most)(hr:vb rs)(hE:tc a.arg) :
  aK I.qcs [ar i,a.a,.aa b (rs.map aD)]=some (.tup [(sI a.tag a.arg rs).1.a,ar (sI a.tag a.arg rs).2]):=by
 rw[aA agV rfl];have h:=fun b=>Ly a b rs hn ha hr hE;have haz:∀fl top σ,(fl ||top)=true→fz fl top 0 σ 20 a.a=a.a:=fun fl top σ h=>Ft.ft fl top 0 σ 17 a h;have hnc:aC a.a=2∧isAgg a.a=true:=⟨rfl,rfl⟩;generalize sI a.tag a.arg rs=q at *;obtain⟨v,no⟩:=q;simp only[bW.a]at h ⊢;simp[ap5,adv,haz,hnc,h]
noncomputable def A9(n:bL)(rs:aQ):aQ×Int:=
 if rs=[] then (if n.keys=[] then vP n (fun _ a rows=>sI a.tag a.arg rows) else ([],0)) else vT n (fun _ a rows=>sI a.tag a.arg rows) rs
theorem Vl(n:bL)(b:Bool)(rs:aQ)(hrs:rs.length≤8000)(hr:∀r∈rs,lc r=true)(hg:vb rs)(hh:∀r∈rs,EK r n.keys=true)(hc:n.keys.length≤16)(h0:∀c∈n.keys,0≤c)(hn:n.ai.length≤8000)(ha:agF n)
  (hO:∀O,aV (Ah n fun _ a rows=>sI a.tag a.arg rows) (ey n.keys rs) 0 []=.inl O→∀r∈O,lc r=true) (hO':∀vals,aV (ph (fun _ a rows=>sI a.tag a.arg rows) []) n.ai 0 []=.inl vals→lc vals=true) :
  aK I.qcg [.aa b (rs.map aD),n.a,.bool true,.fn 195 [] []]=some (.tup [.aa false ((A9 n rs).1.map aD),ar (A9 n rs).2]):=by
 have hDo:∀(rows:aQ),rows.length≤8000→vb rows→∀(i:Nat) a σ,n.ai[i]?=some a→∀x,fS σ x=.aa false (rows.map aD)∨fS σ x=.aa true (rows.map aD)→dS code (.fn 195 [] []) [ar i,a.a,x] σ=some (.tup [(sI a.tag a.arg rows).1.a,ar (sI a.tag a.arg rows).2],σ):=fun rows h1 h2 i a σ hi x hx=>by
  obtain⟨h5,h6⟩:=ha a (aw hi);have:=fun b=>XH i a b rows h1 h5 h2 h6;have haz:∀fl top σ,(fl ||top)=true→fz fl top 0 σ 20 a.a=a.a:=fun fl top σ h=>Ft.ft fl top 0 σ 17 a h;rcases hx with hx|hx
  ·have hx:fz true false 0 σ 20 x=.aa false (rows.map aD):=hx;simp[haz,this,hx]
  have hx:fz true false 0 σ 20 x=.aa true (rows.map aD):=hx;simp[haz,this,hx]
 unfold A9;by_cases c1:rs=[]
 ·subst c1;rw[if_pos rfl];by_cases c2:n.keys=[]
  ·rw[if_pos c2];exact Li b n (.fn 195 [] []) _ c2 ⟨fun base σ m=>by simp,⟨rfl,rfl⟩,fun i a σ hi=>hDo [] (by simp) (by intro r hr;cases hr) i a σ hi .aj (.inl (by simp))⟩ (by simp) hn hO'
  rw[if_neg c2];exact I7 b n true (.fn 195 [] []) (by simp[c2]) hc h0 (fun base σ m=>by simp) ⟨rfl,rfl⟩ (by simp)
 rw[if_neg c1];exact Tr b rs n true (.fn 195 [] []) _ hrs hr hh hc h0 (F0 c1) (fun g hg'=>by
   obtain⟨_,_,a,_,h4⟩:=lk hg';rw[h4,wk];omega)
  (fun g hg'=>⟨fun base σ m=>by simp,⟨rfl,rfl⟩,fun i a σ hi=>by
   obtain⟨h1,h2,_⟩:=lk hg';exact hDo g.2 (by omega) (fun r hr'=>hg r (h1 r hr')) i a σ hi _ (.inl (by simp))⟩) (by simp) hn hO
section
section
variable (t:Bool) (c0 c1 c2 c3 c4 c5 c6:ap) (ba:Bool) (all:List ap) (hz:∀fl top base σ m,(fl ||top)=true→fz fl top base σ (m+4) (.cptr t (eX c0 c1 c2 c3 c4 c5 c6 ba all) 0)=.cptr t (eX c0 c1 c2 c3 c4 c5 c6 ba all) 0)
  (n:bL) (p:Nat) (hp:n.l=(p:Int)) (b:Bool) (l:List ap) (ha:all[p]?=some (.aa b l)) (out:aQ) (e:Int)
include hz hp ha
theorem Xz(h:∀b,aK I.qcg [.aa b l,n.a,.bool true,.fn 195 [] []]=some (.tup [.aa false (out.map aD),ar e])) :
  aK I.qcr [.cptr t (eX c0 c1 c2 c3 c4 c5 c6 ba all) 0,n.a]=some (.tup [.aa false (out.map aD),ar e]):=by
 rw[aA adl rfl];have hpl:=(al.1 ha).1;have hag:∀hh:p<all.length,all[p]'hh=.aa b l:=fun hh=>(al.1 ha).2;have hpi:((p:Int)<(all.length:Int)):=by omega
 have hz1:∀base σ m,fz true false base σ (m+4) (.cptr t (eX c0 c1 c2 c3 c4 c5 c6 ba all) 0)=.cptr t (eX c0 c1 c2 c3 c4 c5 c6 ba all) 0:=fun base σ m=>hz true false base σ m rfl;have n1:∀base σ m,fz true false base σ (m+3) n.a=n.a:=fun base σ m=>Ft.ft true false base σ m n rfl;have n3:aC n.a=12∧isAgg n.a=true:=⟨rfl,rfl⟩;have k1:(cellsOf n.a)[1]?=some (ar n.l):=rfl;simp only[eX]at *;simp[aqH,aaJ,n1,n3,k1,hz1,hp,ha,hag,hpl,hpi,h]
theorem KL(h:∀b,aK I.qfu [.aa b l]=some (.tup [.aa false (out.map aD),ar e])) :
  aK I.qco [.cptr t (eX c0 c1 c2 c3 c4 c5 c6 ba all) 0,n.a]=some (.tup [.aa false (out.map aD),ar e]):=by
 rw[aA aaz rfl];have hpl:=(al.1 ha).1;have hag:∀hh:p<all.length,all[p]'hh=.aa b l:=fun hh=>(al.1 ha).2;have hpi:((p:Int)<(all.length:Int)):=by omega
 have hz1:∀base σ m,fz true false base σ (m+4) (.cptr t (eX c0 c1 c2 c3 c4 c5 c6 ba all) 0)=.cptr t (eX c0 c1 c2 c3 c4 c5 c6 ba all) 0:=fun base σ m=>hz true false base σ m rfl;have n1:∀base σ m,fz true false base σ (m+3) n.a=n.a:=fun base σ m=>Ft.ft true false base σ m n rfl;have n3:aC n.a=12∧isAgg n.a=true:=⟨rfl,rfl⟩;have k1:(cellsOf n.a)[1]?=some (ar n.l):=rfl;simp only[eX]at *;simp[apY,acl,n1,n3,k1,hz1,hp,ha,hag,hpl,hpi,h]
end
end
abbrev nm(l:aQ):List ap:=l.map aD
theorem og{l:aQ}{k:Nat}(h:k<l.length):(nm l)[k]?=some (aD l[k]):=by simp[nm,h]
theorem R2{a b:b8}(h:a.length≤most)(e:a=b):aK I.qgd [aD a,aD b]=some (.bool true):=by
 have:=Kn false false a b h;rw[fD e]at this;exact this
theorem R6{a b:b8}(h:a.length≤most)(e:a≠b):aK I.qgd [aD a,aD b]=some (.bool false):=by
 have:=Kn false false a b h;rw[eH e]at this;exact this
def dQ(l:aQ):aQ:=l.foldl (fun acc x=>if acc.getLast?=some x then acc else acc++[x]) []
theorem mi(l:aQ)(x:b8):dQ (l++[x])=if (dQ l).getLast?=some x then dQ l else dQ l++[x]:=by
 unfold dQ;simp[List.foldl_append]
theorem xa(l:aQ):(dQ l).getLast?=l.getLast?:=by
 refine p6 (p:=fun l=>(dQ l).getLast?=l.getLast?) l rfl fun l x ih=>?_;rw[mi];split
 ·rename_i h;rw[h];simp
 simp
theorem Iu(l:aQ)(x:b8):x∈dQ l↔x∈l:=by
 refine p6 (p:=fun l=>x∈dQ l↔x∈l) l (by simp[dQ]) fun l y ih=>?_;rw[mi];split
 ·rename_i h;rw[ih];constructor
  ·intro h';simp[h']
  intro h';rcases bT.1 h' with h'|h'
  ·exact h'
  simp at h';subst h';rw[xa]at h;exact jV h
 simp[ih]
theorem BV(l:aQ):(dQ l).length≤l.length:=by
 refine p6 (p:=fun l=>(dQ l).length≤l.length) l (aM _) fun l y ih=>?_;rw[mi];split<;>simp<;>omega
theorem sh{l:aQ}{j:Nat}(hj:j<l.length)(h0:0<j):dQ (l.take (j+1))=if l[j-1]=l[j] then dQ (l.take j) else dQ (l.take j)++[l[j]]:=by
 rw[cw hj,mi,xa];have:(l.take j).getLast?=some l[j-1]:=by
  rw[d7];simp[df];have:min j l.length=j:=by omega
  rw[this];simp[show j-1<j by omega,show j-1<l.length by omega]
 rw[this];simp
def kG(l:aQ)(k0:Nat):Nat→aQ×Nat
 |0=>(l,k0)
 |m+1=>let p:=kG l k0 m
  if l.getD (k0+m+1) []=l.getD (k0+m) [] then p else (p.1.set p.2 (l.getD (k0+m+1) []),p.2+1)
theorem yE{l:aQ}{k0:Nat}(h0:0<k0)(hk:k0<l.length)(hd:l[k0-1]=l[k0])(hp:dQ (l.take k0)=l.take k0):∀m,k0+m<l.length →
  (kG l k0 m).1.length=l.length∧(kG l k0 m).2≤k0+m∧(kG l k0 m).1.take (kG l k0 m).2=dQ (l.take (k0+m+1))∧(kG l k0 m).1.drop (k0+m)=l.drop (k0+m)
 |0,_=>by
  have:=sh (l:=l) hk h0;rw[if_pos hd,hp]at this;simp[kG,this]
 |m+1,hm=>by
  obtain⟨i1,i2,i3,i4⟩:=yE h0 hk hd hp m (by omega);have g1:l.getD (k0+m+1) []=l[k0+m+1]:=by simp[au,show k0+m+1<l.length by omega]
  have g2:l.getD (k0+m) []=l[k0+m]:=by simp[au,show k0+m<l.length by omega]
  have hc:=sh (l:=l) (j:=k0+m+1) (by omega) (by omega);have e1:(kG l k0 m).1.drop (k0+(m+1))=l.drop (k0+(m+1)):=by
   have:=congrArg (List.drop 1) i4;simpa [jr,ct,d9,Nat.add_left_comm] using this
  unfold kG;simp only[g1,g2];by_cases hq:l[k0+m+1]=l[k0+m]
  ·rw[if_pos hq];rw[if_pos (by simpa using hq.symm)]at hc;exact⟨i1,by omega,by rw[i3];simpa [ct] using hc.symm,e1⟩
  rw[if_neg hq];rw[if_neg (by simpa using fun e=>hq e.symm)]at hc;refine⟨by simp[i1],by simp;omega,?_,?_⟩
  ·have h2:(kG l k0 m).2<(kG l k0 m).1.length:=by omega
   simp only;rw[cw (by simpa using h2),List.take_set_of_le (by omega),i3];simp only[fJ];simpa [ct] using hc.symm
  simp only;rw[List.drop_set_of_lt (by omega)];exact e1
abbrev Wf(σ:ay)(id ep n k0:Nat)(l:aQ)(m:Nat):St:=
 ⟨[.sl id ep 0 n,.fn 116 [] [],.any,ar ((kG l k0 m).2:Nat),.sl id ep k0 (n-k0),ar ((m+1:Nat):Int),.bool false,.bool true,.bool true,.any,.any],σ.set id (.arr 1 ep (nm (kG l k0 m).1))⟩
theorem HX{σ:ay}{id ep k0:Nat}{l:aQ}(hσ:σ[id]?=some (.arr 1 ep (nm l)))(hn:l.length≤most)(hr:∀r∈l,r.length≤most)(h0:0<k0)(hk:k0<l.length)(hd:l[k0-1]=l[k0])(hp:dQ (l.take k0)=l.take k0) :
  cq code σ.length [9,10] yN (Wf σ id ep l.length k0 l 0)=some (.ext 2,⟨[.sl id ep 0 l.length,.fn 116 [] [],.any,ar ((dQ l).length:Nat),.sl id ep k0 (l.length-k0),ar ((l.length-k0:Nat):Int),.bool false,.bool true,.bool true,.bool false,.any],σ.set id (.arr 1 ep (nm (kG l k0 (l.length-k0-1)).1))⟩):=by
 refine cL (Wf σ id ep l.length k0 l) (l.length-k0-1) _ (fun m hm=>?_) ?_
 ·obtain⟨i1,i2,i3,i4⟩:=yE h0 hk hd hp m (by omega);have hs:kG l k0 (m+1)=if l.getD (k0+m+1) []=l.getD (k0+m) [] then kG l k0 m else ((kG l k0 m).1.set (kG l k0 m).2 (l.getD (k0+m+1) []),(kG l k0 m).2+1):=rfl
  have g1:l.getD (k0+m+1) []=l[k0+m+1]:=by simp[au,show k0+m+1<l.length by omega]
  have g2:l.getD (k0+m) []=l[k0+m]:=by simp[au,show k0+m<l.length by omega]
  rw[g1,g2]at hs;clear g1 g2;unfold Wf;rcases hA:kG l k0 m with⟨A,k⟩;rw[hA]at i1 i2 i3 i4 hs;rw[hs];clear hs hA;simp only at i1 i2 i3 i4;have hg:=OF (o':=.arr 1 ep (nm A)) hσ;have a1:(nm A)[k0+(m+1)]?=some (aD l[k0+m+1]):=by
   have:A[k0+(m+1)]=l[k0+m+1]:=by
    have:=congrArg (fun x=>x[1]?) i4;simp only[fE]at this;rw[am (by omega),am (by omega)]at this;simpa [ct] using this
   rw[og (by omega),this]
  have a2:(nm A)[k0+m]?=some (aD l[k0+m]):=by
   have:A[k0+m]=l[k0+m]:=by
    have:=congrArg (fun x=>x[0]?) i4;simp only[fE]at this;rw[am (by omega),am (by omega)]at this;simpa [ct] using this
   rw[og (by omega),this]
  have ak:((m:Int)+1<((l.length-k0:Nat):Int)):=by omega
  have hn':l.length≤68719476736:=hn;have w1:=rn (n:=(m:Int)) (by omega) (by omega);have w2:=rn (n:=(m:Int)+1+1) (by omega) (by omega);have w3:=rn (n:=(k:Int)+1) (by omega) (by omega);have c1:m+1<l.length-k0:=by omega
  have c2:m<l.length-k0:=by omega
  have c3:k<l.length:=by omega
  have cst:((m:Int)+1).toNat=m+1:=by omega
  have nn:(0:Int)≤(m:Int)+1:=by omega
  have c4:k<A.length:=by omega
  have hset:(nm A)[k]?=some (aD A[k]):=og c4;by_cases hq:l[k0+m+1]=l[k0+m]
  ·rw[if_pos hq];have hE:=R2 (hr _ (aF (show k0+m+1<l.length by omega))) hq;simp[yN,ak,hg,a1,a2,c1,c2,w1,w2,w3,cst,nn,hE,bY,-List.getElem?_map]
  rw[if_neg hq];have hE:=R6 (hr _ (aF (show k0+m+1<l.length by omega))) hq;simp[yN,ak,hg,a1,a2,c1,c2,c3,w1,w2,w3,cst,nn,hE,bY,hset,-List.getElem?_map]
 obtain⟨i1,i2,i3,i4⟩:=yE h0 hk hd hp (l.length-k0-1) (by omega);have hlen:(dQ l).length=(kG l k0 (l.length-k0-1)).2:=by
  rw[show k0+(l.length-k0-1)+1=l.length by omega,cn]at i3;rw[←i3,bO];omega
 rw[hlen];unfold Wf;rcases hA:kG l k0 (l.length-k0-1) with⟨A,k⟩;have hg:=OF (o':=.arr 1 ep (nm A)) hσ;have e1:l.length-k0-1+1=l.length-k0:=by omega
 rw[e1];simp[yN,hg]
theorem rJ{l:aQ}(h:∀k (_:0<k) (hk:k<l.length),l[k-1]≠l[k]):∀j,j≤l.length→dQ (l.take j)=l.take j
 |0,_=>by simp[dQ]
 |1,hj=>by
  match l,hj with
  |a::r,_=>simp[dQ]
 |j+2,hj=>by
  rw[sh (j:=j+1) (by omega) (by omega),if_neg (h (j+1) (by omega) (by omega)),rJ h (j+1) (by omega),←List.take_succ_eq_append_getElem]
abbrev Ix(σ:ay)(id ep n:Nat)(m:Nat):St:=⟨[.sl id ep 0 n,.fn 116 [] [],.any,ar ((m+1:Nat):Int),.any,.any,.bool false,.any,.any,.any,.any],σ⟩
theorem sV{σ:ay}{id ep:Nat}{l:aQ}(hσ:σ[id]?=some (.arr 1 ep (nm l)))(hn:l.length≤most)(hr:∀r∈l,r.length≤most)(m:Nat)(hm:m+1<l.length)(hd:l[m]≠l[m+1]) :
  dK σ.length [2,4,5,7,8,9,10] pf (run code pf (Ix σ id ep l.length m))=cq code σ.length [2,4,5,7,8,9,10] pf (Ix σ id ep l.length (m+1)):=by
 have hn':l.length≤68719476736:=hn;have w1:=rn (n:=(m:Int)) (by omega) (by omega);have w2:=rn (n:=(m:Int)+1+1) (by omega) (by omega);have ak:((m:Int)+1<(l.length:Int)):=by omega
 have a1:=og (l:=l) (k:=m+1) hm;have a2:=og (l:=l) (k:=m) (by omega);have cst:((m:Int)+1).toNat=m+1:=by omega
 have nn:(0:Int)≤(m:Int)+1:=by omega
 have c2:m<l.length:=by omega
 have hE:=R6 (hr _ (aF hm)) (Ne.symm hd);simp[pf,Ix,ak,hσ,a1,a2,w1,w2,cst,nn,hm,c2,hE,bY,-List.getElem?_map]
theorem OP(l:aQ):(∀k (_:0<k) (hk:k<l.length),l[k-1]≠l[k])∨∃k0,∃(_:0<k0) (hk:k0<l.length),l[k0-1]=l[k0]∧∀k (_:0<k) (hk':k<k0),l[k-1]≠l[k]:=by
 have key:∀n,n≤l.length→(∀k (_:0<k) (hk:k<n) (hk':k<l.length),l[k-1]≠l[k])∨∃k0,∃(_:0<k0) (hk:k0<l.length),l[k0-1]=l[k0]∧∀k (_:0<k) (hk':k<k0),l[k-1]≠l[k]:=by
  intro n;induction n with
  |zero=>intro _;exact .inl fun k _ hk=>absurd hk (bX _)
  |succ n ih=>
   intro hn;rcases ih (by omega) with h|h
   ·by_cases h0:0<n
    ·by_cases hd:l[n-1]=l[n]
     ·exact .inr ⟨n,h0,by omega,hd,fun k hk hk'=>h k hk hk' (by omega)⟩
     exact .inl fun k hk hkn hk'=>by
      by_cases he:k=n
      ·subst he;exact hd
      exact h k hk (by omega) hk'
    exact .inl fun k hk hkn hk'=>by omega
   exact .inr h
 rcases key l.length (aM _) with h|h
 ·exact .inl fun k h0 hk=>h k h0 hk hk
 exact .inr h
theorem Gf{σ:ay}{id ep:Nat}{l:aQ}(hσ:σ[id]?=some (.arr 1 ep (nm l)))(hn:l.length≤most)(hr:∀r∈l,r.length≤most) :
  ∃A:List ap,cA code I.qgx [.sl id ep 0 l.length,.fn 116 [] []] σ=some (.sl id ep 0 (dQ l).length,σ.set id (.arr 1 ep A))∧A.length=l.length∧A.take (dQ l).length=nm (dQ l):=by
 rw[bp ahK rfl];by_cases h2:l.length<2
 ·have hc:=rJ (l:=l) (fun k h0 hk=>by omega) l.length (aM _);rw[cn]at hc;refine⟨nm l,?_,by simp,by rw[hc,av (by simp)]⟩;have hi:((l.length:Int)<2):=by omega
  rw[hc,pE hσ];simp[ao1,P8,hσ,hi]
 have hi:¬((l.length:Int)<2):=by omega
 rcases OP l with h|⟨k0,h0,hk,hd,hb⟩
 ·have hc:=rJ h l.length (aM _);rw[cn]at hc;refine⟨nm l,?_,by simp,by rw[hc,av (by simp)]⟩;have hloop:=cL (base:=σ.length) (clr:=[2,4,5,7,8,9,10]) (b:=pf) (Ix σ id ep l.length) (l.length-1)
   (.ext 0,⟨[.sl id ep 0 l.length,.fn 116 [] [],.any,ar l.length,.any,.any,.bool false,.bool false,.any,.any,.any],σ⟩)
   (fun m hm=>sV hσ hn hr m (by omega) (h (m+1) (by omega) (by omega))) (by
    unfold Ix;rw[show l.length-1+1=l.length by omega];simp[pf,hσ])
  unfold Ix at hloop;simp at hloop;rw[hc,pE hσ];simp[ao1,P8,hσ,hi,hloop]
 have hp:dQ (l.take k0)=l.take k0:=by
  have:=rJ (l:=l.take k0) (fun k hk0 hkk=>by
   simp at hkk;simpa using hb k hk0 (by omega)) k0 (by simp;omega)
  rwa [kZ,Nat.min_self]at this
 have hin:=HX (ep:=ep) hσ hn hr h0 hk hd hp;obtain⟨i1,i2,i3,i4⟩:=yE h0 hk hd hp (l.length-k0-1) (by omega);rw[show k0+(l.length-k0-1)+1=l.length by omega,cn]at i3;have hle:(kG l k0 (l.length-k0-1)).2=(dQ l).length:=by rw[←i3,bO];omega
 rw[hle]at i3;generalize (kG l k0 (l.length-k0-1)).1=A at *;have hcl:=BV l;generalize hC:(dQ l).length=c at *;have hg:=fun o'=>OF (o':=o') hσ
 refine⟨(nm A).take c++List.replicate (l.length-c) .aj++(nm A).drop (c+(l.length-c)),?_,by simp;omega,by
  rw[jo,iR (by simp;omega),←i3];simp[d6]⟩
 have hloop:=cL (base:=σ.length) (clr:=[2,4,5,7,8,9,10]) (b:=pf) (Ix σ id ep l.length) (k0-1)
  (.ret,⟨[.sl id ep 0 l.length,.fn 116 [] [],.sl id ep 0 c,ar c,.sl id ep k0 (l.length-k0),ar ((l.length-k0:Nat):Int),.bool false,.bool true,.bool true,.bool false,.any],σ.set id (.arr 1 ep ((nm A).take c++List.replicate (l.length-c) .aj++(nm A).drop (c+(l.length-c))))⟩)
  (fun m hm=>sV hσ hn hr m (by omega) (hb (m+1) (by omega) (by omega))) (by
   unfold Ix;rw[show k0-1+1=k0 by omega];have hn':l.length≤68719476736:=hn;have w1:=rn (n:=(k0:Int)-1) (by omega) (by omega);have w2:((k0:Int)-1).toNat=k0-1:=by omega
   have w3:(0:Int)≤(k0:Int)-1:=by omega
   have w4:(1:Int)≤(k0:Int):=by omega
   have ak:((k0:Int)<(l.length:Int)):=by omega
   have a1:=og (l:=l) (k:=k0) hk;have a2:=og (l:=l) (k:=k0-1) (by omega);have c3:k0-1<l.length:=by omega
   have c4:k0≤l.length:=by omega
   have c5:c+(l.length-c)=l.length:=by omega
   have hE:=R2 (hr _ (aF hk)) hd.symm;unfold Wf at hin;simp[kG]at hin;rw[pE hσ]at hin;simp[pf,ak,hσ,a1,a2,w1,w2,w3,w4,c3,c4,hE,hin,hk,hg,hcl,i1,c5,-List.getElem?_map])
 unfold Ix at hloop;simp at hloop;simp[ao1,P8,hσ,hi,hloop]
def kQ(rs:aQ):aQ:=dQ (dL ez rs)
theorem W3{r:b8}(h:lc r=true):r.length≤most:=by
 unfold lc at h;simp at h;unfold most;omega
theorem D3(b:Bool)(rs:aQ)(hn:rs.length≤8000)(hr:∀r∈rs,lc r=true) :
  aK I.qfu [.aa b (rs.map aD)]=some (.tup [.aa false ((kQ rs).map aD),ar 0]):=by
 rw[aA aic rfl];have hm:rs.length≤most:=by unfold most;omega
 have h1:=fun c=>Fe c [⟨b,rs⟩] (by simp[most]) (by simpa using hn) (by simpa using hr);have h2:=fun b=>KQ b rs hm hr;simp at h1;have hp:=kA (c:=ez) rs;have hl:=gj ez rs;obtain⟨A,h3,h4,h5⟩:=Gf (σ:=[.arr 1 0 ((dL ez rs).map aD)]) (id:=0) (ep:=0) (l:=dL ez rs) rfl (by omega) (fun r h=>W3 (hr r (hp.mem_iff.1 h)));rw[hl]at h3;unfold kQ;have hle:=BV (dL ez rs);generalize dQ (dL ez rs)=C at *;have h6:C.length≤A.length:=by omega
 have hf:(A.take C.length).map (fz false false 0 [.arr 1 0 A] 18)=C.map aD:=by
  rw[h5,cE];exact bx fun r _=>by simp
 simp at h3;simp[aqA,acM,h1,h2,h3,hl,h6,h5]
abbrev Bo(F:ap)(n:bL)(A B:ap):List ap:=
 [F,n.a,.ptr 0 0 0 0,.ptr 1 0 0 0,.ptr 2 0 0 0,A,B,.ptr 3 0 0 0,.ptr 5 0 0 0,.any,.any,.any,.any,.any,.any,.fn 279 [] [.ptr 7 0 0 0,.ptr 8 0 0 0],.any,.any,.any,.any,.any,.any,.any,.any,.any,.any]
abbrev wH(n:bL)(A B r1 r2:ap)(found:List Bool)(O:aQ)(o:Obj):ay:=
 [.arr 12 0 [n.a],.arr 1 0 [r1],.arr 1 0 [r2],.arr 1 0 [.sl 6 O.length 0 O.length],.arr 1 0 (found.map .bool),.arr 1 0 [.sl 4 0 0 found.length],.arr 1 O.length (O.map aD),.arr 1 0 [A],.arr 1 0 [B],o]
noncomputable def uD(e:List EN)(i:Nat)(z:b8)(s:List Bool×aQ):(List Bool×aQ)⊕Unit:=
 if (dM e z).2=0 then .inl (if Ku (dM e z).1=true then (s.1.set i true,s.2++[z]) else s) else .inr ()
theorem Y8(F:ap)(n:bL)(A B:ap)(i:Nat)(z:b8)(found:List Bool)(O:aQ)(hi:i<found.length)(hO:O.length+1≤most)(hc:n.cond.length≤most)(hz:Ng z)(hE:tc n.cond) :
  match uD n.cond i z (found,O) with
  |.inl s=>cA code 193 (.frs 9 []::(Bo F n A B++[.int .i64 i,aD z])) (wH n A B .aj (.int .i64 0) found O (.pend false none))=some (.bool true,wH n A B .aj (.int .i64 0) s.1 s.2 (.pend false none))
  |.inr _=>cA code 193 (.frs 9 []::(Bo F n A B++[.int .i64 i,aD z])) (wH n A B .aj (.int .i64 0) found O (.pend false none))=some (.bool false,wH n A B .aj (.int .i64 140) found O (.pend false (some .ret))):=by
 rw[mW fg (g:=jp) rfl];have hH:=fun c=>Qy c n.cond z hc hz hE;have n2:∀base σ m,fz false true base σ (m+3) n.a=n.a:=fun base σ m=>Ft.ft false true base σ m n rfl;have n3:aC n.a=12∧isAgg n.a=true:=⟨rfl,rfl⟩;have k6:List.take 1 (List.drop 6 (cellsOf n.a))=[.aa n.bc (n.cond.map EN.a)]:=rfl;unfold uD;generalize dM n.cond z=q at *;obtain⟨v,no⟩:=q;simp only at *;by_cases c:no=0
 ·rw[if_pos c];subst c;cases ht:Ku v with
  |false=>
   rw[ht]at hH;simp[jp,kz,kW,jQ,gU,eR,n2,n3,k6,hH]
  |true=>
   rw[ht]at hH;simp[jp,kz,kW,jQ,gU,eR,n2,n3,k6,hH,hi,append,hO]
 rw[if_neg c];simp[jp,kz,kW,jQ,gU,eR,n2,n3,k6,hH,c]
theorem Qd(c:Bool)(x y:b8)(h:x.length+y.length≤most):aK I.qhb [.aa c [aD x,aD y]]=some (aD (x++y)):=by
 have:=jy (enc:=bW.a) c [⟨false,x⟩,⟨false,y⟩] (by simpa using h) (by unfold most;simp);simpa [dI.c,aD] using this
abbrev yJ(F:ap)(n:bL)(A B:ap):ap:=.yld 9 193 (Bo F n A B)
theorem aam(F:ap)(hF:∀base σ m,fz false true base σ (m+4) F=F)(n:bL)(ba bb:Bool)(xy0 bs:aQ)(i:Nat)(x:b8)(hi:i<xy0.length)(ha:xy0.length≤8000)(hb:bs.length≤8000)(hxl:x.length≤8000)(hbl:∀r∈bs,r.length≤8000)(hx:Ng x)(hr:vb bs)(hc:n.cond.length≤most)(hE:tc n.cond)
  (s:List Bool×aQ) (h1:s.1.length=xy0.length) (h2:s.2.length≤i*bs.length) (e5:ap) :
  match aV (fun _ y=>uD n.cond i (x++y)) bs 0 s with
  |.inl s'=>(s'.1.length=xy0.length∧s'.2.length≤i*bs.length+bs.length)∧cq code 10 [5,13,14] tK ⟨[yJ F n (.aa ba (xy0.map aD)) (.aa bb (bs.map aD)),.ptr 7 0 0 0,.ptr 8 0 0 0,.int .i64 i,aD x,.any,.aa ba (xy0.map aD),.int .i64 xy0.length,.int .i64 i,.bool true,.aa bb (bs.map aD),.int .i64 bs.length,.int .i64 0,.any,.any],wH n (.aa ba (xy0.map aD)) (.aa bb (bs.map aD)) .aj (.int .i64 0) s.1 s.2 (.pend false none)⟩ =
    some (.ext 2,⟨[yJ F n (.aa ba (xy0.map aD)) (.aa bb (bs.map aD)),.ptr 7 0 0 0,.ptr 8 0 0 0,ar i,aD x,.any,.aa ba (xy0.map aD),ar xy0.length,ar i,.bool true,.aa bb (bs.map aD),ar bs.length,ar bs.length,.bool false,.any],wH n (.aa ba (xy0.map aD)) (.aa bb (bs.map aD)) .aj (ar 0) s'.1 s'.2 (.pend false none)⟩)
  |.inr _=>∃o,cq code 10 [5,13,14] tK ⟨[yJ F n (.aa ba (xy0.map aD)) (.aa bb (bs.map aD)),.ptr 7 0 0 0,.ptr 8 0 0 0,.int .i64 i,aD x,.any,.aa ba (xy0.map aD),.int .i64 xy0.length,.int .i64 i,.bool true,.aa bb (bs.map aD),.int .i64 bs.length,.int .i64 0,.any,.any],wH n (.aa ba (xy0.map aD)) (.aa bb (bs.map aD)) .aj (.int .i64 0) s.1 s.2 (.pend false none)⟩=some o ∧
    ∃env f O,o=(.ret,⟨env,wH n (.aa ba (xy0.map aD)) (.aa bb (bs.map aD)) .aj (ar 140) f O (.pend false (some .ret))⟩):=by
 have hm:bs.length≤most:=by unfold most;omega
 have hib:i*bs.length≤8000*8000:=gk (by omega) hb;have n2:∀base σ m,fz false true base σ (m+3) n.a=n.a:=fun base σ m=>Ft.ft false true base σ m n rfl;have key:=cT (base:=10) (clr:=[5,13,14]) (b:=tK) bs
  (fun j (s:List Bool×aQ)=>⟨[yJ F n (.aa ba (xy0.map aD)) (.aa bb (bs.map aD)),.ptr 7 0 0 0,.ptr 8 0 0 0,ar i,aD x,.any,.aa ba (xy0.map aD),ar xy0.length,ar i,.bool true,.aa bb (bs.map aD),ar bs.length,ar j,.any,.any],wH n (.aa ba (xy0.map aD)) (.aa bb (bs.map aD)) .aj (ar 0) s.1 s.2 (.pend false none)⟩)
  (fun j s=>s.1.length=xy0.length∧s.2.length≤i*bs.length+j) (fun _ y=>uD n.cond i (x++y))
  (fun s=>(.ext 2,⟨[yJ F n (.aa ba (xy0.map aD)) (.aa bb (bs.map aD)),.ptr 7 0 0 0,.ptr 8 0 0 0,ar i,aD x,.any,.aa ba (xy0.map aD),ar xy0.length,ar i,.bool true,.aa bb (bs.map aD),ar bs.length,ar bs.length,.bool false,.any],wH n (.aa ba (xy0.map aD)) (.aa bb (bs.map aD)) .aj (ar 0) s.1 s.2 (.pend false none)⟩))
  (fun (_:Unit) o=>∃env f O,o=(.ret,⟨env,wH n (.aa ba (xy0.map aD)) (.aa bb (bs.map aD)) .aj (ar 140) f O (.pend false (some .ret))⟩))
  (fun j y s hj hy hs=>by
   obtain⟨hs1,hs2⟩:=hs;obtain⟨f,O⟩:=s;simp only at hs1 hs2;have ak:((j:Int)<(bs.length:Int)):=by omega
   have hym:=aw hy;have hyl:=hbl y hym;have hxy:aD (x++y)=.aa false (x.map bW.a++y.map bW.a):=by simp[aD]
   have hC:∀c,aK I.qhb [.aa c [aD x,aD y]]=some (.aa false (x.map bW.a++y.map bW.a)):=fun c=>by rw[Qd c x y (by unfold most;omega),hxy]
   have hR:=Y8 F n (.aa ba (xy0.map aD)) (.aa bb (bs.map aD)) i (x++y) f O (by omega) (by unfold most;omega) hc (fun v hv=>by
    rcases bT.1 hv with hv|hv
    ·exact hx v hv
    exact hr y hym v hv) hE
   cases hp:uD n.cond i (x++y) (f,O) with
   |inl s'=>
    rw[hp]at hR;have hl':s'.1.length=xy0.length∧s'.2.length≤i*bs.length+(j+1):=by
     unfold uD at hp;split at hp
     ·cases hp;split
      ·simp[hs1];omega
      exact⟨hs1,by simp only;omega⟩
     cases hp
    obtain⟨f',O'⟩:=s';refine⟨?_,hl'⟩;simp only[wH,Bo,cM,b9,hxy]at hR;simp[tK,ak,hy,hC,hR,jc,aE,aH,tw,hF,n2,aX hj hm]
   |inr u=>
    rw[hp]at hR;simp only[wH,Bo,cM,b9,hxy]at hR;exact⟨_,by simp[tK,ak,hy,hC,hR,jc];rfl,_,f,O,rfl⟩) (fun s _=>by simp[tK]) s ⟨h1,by omega⟩
 simp only[show ((0:Nat):Int)=0 from rfl]at key;cases hf:aV (fun _ y=>uD n.cond i (x++y)) bs 0 s with
 |inl s'=>
  rw[hf]at key;exact key
 |inr u=>
  rw[hf]at key;exact key
noncomputable def nY(e:List EN)(bs:aQ)(i:Nat)(x:b8)(s:List Bool×aQ):(List Bool×aQ)⊕Unit:=aV (fun _ y=>uD e i (x++y)) bs 0 s
theorem QM(F:ap)(hF:∀base σ m,fz false true base σ (m+4) F=F)(n:bL)(ba bb:Bool)(xy0 bs:aQ)(ha:xy0.length≤8000)(hb:bs.length≤8000)(hal:∀r∈xy0,r.length≤8000)(hbl:∀r∈bs,r.length≤8000)(hx:vb xy0)(hr:vb bs)(hc:n.cond.length≤most)(hE:tc n.cond)(f:List Bool)(hf0:f.length=xy0.length) :
  match aV (nY n.cond bs) xy0 0 (f,[]) with
  |.inl s'=>(s'.1.length=xy0.length∧s'.2.length≤xy0.length*bs.length)∧cA code 279 [yJ F n (.aa ba (xy0.map aD)) (.aa bb (bs.map aD)),.ptr 7 0 0 0,.ptr 8 0 0 0] (wH n (.aa ba (xy0.map aD)) (.aa bb (bs.map aD)) .aj (.int .i64 0) f [] (.pend false none)) =
    some (.tup [],wH n (.aa ba (xy0.map aD)) (.aa bb (bs.map aD)) .aj (ar 0) s'.1 s'.2 (.pend false none))
  |.inr _=>∃f' O',cA code 279 [yJ F n (.aa ba (xy0.map aD)) (.aa bb (bs.map aD)),.ptr 7 0 0 0,.ptr 8 0 0 0] (wH n (.aa ba (xy0.map aD)) (.aa bb (bs.map aD)) .aj (.int .i64 0) f [] (.pend false none)) =
    some (.tup [],wH n (.aa ba (xy0.map aD)) (.aa bb (bs.map aD)) .aj (ar 140) f' O' (.pend false (some .ret))):=by
 have hm:xy0.length≤most:=by unfold most;omega
 have n2:∀base σ m,fz false true base σ (m+3) n.a=n.a:=fun base σ m=>Ft.ft false true base σ m n rfl;rw[bp ahi rfl];have key:=cT (base:=10) (clr:=[3,4,5,9,10,11,12,13,14]) (b:=zC) xy0
  (fun k (s:List Bool×aQ)=>⟨[yJ F n (.aa ba (xy0.map aD)) (.aa bb (bs.map aD)),.ptr 7 0 0 0,.ptr 8 0 0 0,.any,.any,.any,.aa ba (xy0.map aD),ar xy0.length,ar k,.any,.any,.any,.any,.any,.any],wH n (.aa ba (xy0.map aD)) (.aa bb (bs.map aD)) .aj (ar 0) s.1 s.2 (.pend false none)⟩)
  (fun k s=>s.1.length=xy0.length∧s.2.length≤k*bs.length) (nY n.cond bs)
  (fun s=>(.ext 0,⟨[yJ F n (.aa ba (xy0.map aD)) (.aa bb (bs.map aD)),.ptr 7 0 0 0,.ptr 8 0 0 0,.any,.any,.any,.aa ba (xy0.map aD),ar xy0.length,ar xy0.length,.bool false,.any,.any,.any,.any,.any],wH n (.aa ba (xy0.map aD)) (.aa bb (bs.map aD)) .aj (ar 0) s.1 s.2 (.pend false none)⟩))
  (fun (_:Unit) o=>∃env f O,o=(.ret,⟨env,wH n (.aa ba (xy0.map aD)) (.aa bb (bs.map aD)) .aj (ar 140) f O (.pend false (some .ret))⟩))
  (fun k x s hk hy hs=>by
   obtain⟨hs1,hs2⟩:=hs;obtain⟨f,O⟩:=s;simp only at hs1 hs2;have ak:((k:Int)<(xy0.length:Int)):=by omega
   have hxm:=aw hy;have hI:=aam F hF n ba bb xy0 bs k x hk ha hb (hal x hxm) hbl (hx x hxm) hr hc hE (f,O) hs1 hs2 .any;unfold nY;cases hp:aV (fun _ y=>uD n.cond k (x++y)) bs 0 (f,O) with
   |inl s'=>
    rw[hp]at hI;obtain⟨⟨i1,i2⟩,hI⟩:=hI;obtain⟨f',O'⟩:=s';refine⟨?_,i1,by rw[du,Nat.one_mul];exact i2⟩;have hrx:aD x=.aa false (x.map bW.a):=rfl;simp only[yJ,wH,Bo,hrx]at hI;simp[zC,ak,hy,hI,hrx,aE,aH,tw,hF,n2,aX hk hm]
   |inr u=>
    rw[hp]at hI;obtain⟨o,h1,env,f',O',rfl⟩:=hI;have hrx:aD x=.aa false (x.map bW.a):=rfl;simp only[yJ,wH,Bo,hrx]at h1;exact⟨_,by simp[zC,ak,hy,h1,hrx],env,f',O',rfl⟩)
  (fun s _=>by simp[zC]) (f,[]) ⟨hf0,by simp⟩
 simp only[show ((0:Nat):Int)=0 from rfl]at key;cases hf:aV (nY n.cond bs) xy0 0 (f,[]) with
 |inl s'=>
  rw[hf]at key;obtain⟨k1,k2⟩:=key;simp only[yJ,wH,Bo]at k2;exact⟨k1,by simp[apK,WF,k2]⟩
 |inr u=>
  rw[hf]at key;obtain⟨o,h1,env,f',O',rfl⟩:=key;simp only[yJ,wH,Bo]at h1;exact⟨f',O',by simp[apK,WF,h1]⟩
theorem Eb(x y:ap)(hx:aC x=1∧isAgg x=false)(hy:aC y=1∧isAgg y=false)(σ:ay) :
  cA code I.qck [x,y] σ=some (.fn 279 [] [.ptr σ.length 0 0 0,.ptr (σ.length+1) 0 0 0],σ++[.arr 1 0 [x],.arr 1 0 [y]]):=by
 rw[bp aht rfl];simp[arf,abO,hx,hy]
noncomputable def Hc(n:bL)(xy0 bs:aQ):aQ×Int:=match aV (nY n.cond bs) xy0 0 (List.replicate xy0.length false,[]) with
 |.inl s=>(dL ez s.2,0)
 |.inr _=>([],140)
theorem aaj(t:Bool)(c0 c1 c2 c3 c4 c5 c6:ap)(bA:Bool)(all:List ap)(hz:∀fl top base σ m,(fl ||top)=true→fz fl top base σ (m+4) (.cptr t (eX c0 c1 c2 c3 c4 c5 c6 bA all) 0)=.cptr t (eX c0 c1 c2 c3 c4 c5 c6 bA all) 0)
  (n:bL) (p q:Nat) (hp:n.l=(p:Int)) (hq:n.r=(q:Int)) (ba bb:Bool) (xy0 bs:aQ) (hpa:all[p]?=some (.aa ba (xy0.map aD))) (hqb:all[q]?=some (.aa bb (bs.map aD)))
  (ha:xy0.length≤8000) (hb:bs.length≤8000) (hal:∀r∈xy0,r.length≤8000) (hbl:∀r∈bs,r.length≤8000) (hx:vb xy0) (hr:vb bs) (hc:n.cond.length≤most) (hE:tc n.cond) (hl:n.left=false)
  (hO:∀s,aV (nY n.cond bs) xy0 0 (List.replicate xy0.length false,[])=.inl s→s.2.length≤8000∧∀r∈s.2,lc r=true) :
  aK I.qcu [.cptr t (eX c0 c1 c2 c3 c4 c5 c6 bA all) 0,n.a]=some (.tup [.aa false ((Hc n xy0 bs).1.map aD),ar (Hc n xy0 bs).2]):=by
 rw[aA UF rfl];have hpl:=(al.1 hpa).1;have hag:∀hh:p<all.length,all[p]'hh=.aa ba (xy0.map aD):=fun hh=>(al.1 hpa).2;have hpi:((p:Int)<(all.length:Int)):=by omega
 have hql:=(al.1 hqb).1;have hbg:∀hh:q<all.length,all[q]'hh=.aa bb (bs.map aD):=fun hh=>(al.1 hqb).2;have hqi:((q:Int)<(all.length:Int)):=by omega
 have hz1:∀base σ m,fz true false base σ (m+4) (.cptr t (eX c0 c1 c2 c3 c4 c5 c6 bA all) 0)=.cptr t (eX c0 c1 c2 c3 c4 c5 c6 bA all) 0:=fun base σ m=>hz true false base σ m rfl;have n1:∀base σ m,fz true false base σ (m+3) n.a=n.a:=fun base σ m=>Ft.ft true false base σ m n rfl;have n3:aC n.a=12∧isAgg n.a=true:=⟨rfl,rfl⟩;have k1:(cellsOf n.a)[1]?=some (ar n.l):=rfl;have k2:(cellsOf n.a)[2]?=some (ar n.r):=rfl;have k5:(cellsOf n.a)[5]?=some (.bool false):=by
  have:(cellsOf n.a)[5]?=some (.bool n.left):=rfl;rw[this,hl]
 have hcall:=fun σ=>Eb (.aa ba (xy0.map aD)) (.aa bb (bs.map aD)) ⟨rfl,rfl⟩ ⟨rfl,rfl⟩ σ;have hJ:=QM (.cptr t (eX c0 c1 c2 c3 c4 c5 c6 bA all) 0) (fun base σ m=>hz false true base σ m rfl) n ba bb xy0 bs ha hb hal hbl hx hr hc hE (List.replicate xy0.length false) (by simp);have hm:xy0.length≤most:=by unfold most;omega
 unfold Hc;cases hf:aV (nY n.cond bs) xy0 0 (List.replicate xy0.length false,[]) with
 |inl s=>
  rw[hf]at hJ;obtain⟨⟨j1,j2⟩,hJ⟩:=hJ;obtain⟨f,O⟩:=s;simp only at j1 j2;have hS:=fun b=>mP b O (hO _ hf).1 (hO _ hf).2;simp only[yJ,wH,Bo,eX,bu,bh,eO,ed]at hJ;simp only[eX]at *;simp[aoG,LW,n1,n3,k1,k2,k5,hz1,hp,hq,hpa,hag,hpl,hpi,hqb,hbg,hql,hqi,hcall,hJ,hS,hm,jC]
 |inr u=>
  rw[hf]at hJ;obtain⟨f',O',hJ⟩:=hJ;simp only[yJ,wH,Bo,eX,bu,bh,eO,ed]at hJ;simp only[eX]at *;simp[aoG,LW,n1,n3,k1,k2,k5,hz1,hp,hq,hpa,hag,hpl,hpi,hqb,hbg,hql,hqi,hcall,hJ,hm,jC]
def qA(w:Nat)(f:List Bool)(i:Nat)(x:b8)(O:aQ):aQ⊕Unit:=.inl (if f.getD i false=true then O else O++[x++List.replicate w cu])
abbrev S4(F:ap)(n:bL)(A B:ap)(m:Int)(k:Int)(c:ap):List ap:=
 [F,n.a,.ptr 0 0 0 0,.ptr 1 0 0 0,.ptr 2 0 0 0,A,B,.ptr 3 0 0 0,.ptr 5 0 0 0,.any,.any,.any,.any,.any,.any,.fn 279 [] [.ptr 7 0 0 0,.ptr 8 0 0 0],.any,.any,.any,.any,.bool true,A,ar m,ar k,c,.any]
theorem adX(t:Bool)(c0 c1 c2 c3 c4 c5:ap)(bk:Bool)(ks:List ap)(bA:Bool)(all:List ap)(hz:∀fl top base σ m,(fl ||top)=true→fz fl top base σ (m+4) (.cptr t (eX c0 c1 c2 c3 c4 c5 (.aa bk ks) bA all) 0)=.cptr t (eX c0 c1 c2 c3 c4 c5 (.aa bk ks) bA all) 0)
  (n:bL) (q:Nat) (hq:n.r=(q:Int)) (bq:Bool) (K:List ap) (hk:ks[q]?=some (.aa bq K)) (hK:K.length≤8000) (ba:Bool) (B:ap) (hB:∀base σ m,fz false true base σ (m+3) B=B) (xy0:aQ) (ha:xy0.length≤8000) (hal:∀r∈xy0,r.length≤8000) (f:List Bool) (hf:f.length=xy0.length) (O:aQ) (hO:O.length≤8000*8000) :
  ∃O',aV (qA K.length f) xy0 0 O=.inl O'∧cq code 10 [13,14,24,25] wL ⟨S4 (.cptr t (eX c0 c1 c2 c3 c4 c5 (.aa bk ks) bA all) 0) n (.aa ba (xy0.map aD)) B xy0.length 0 .any,wH n (.aa ba (xy0.map aD)) B .aj (ar 0) f O .dead⟩ =
   some (.ext 2,⟨S4 (.cptr t (eX c0 c1 c2 c3 c4 c5 (.aa bk ks) bA all) 0) n (.aa ba (xy0.map aD)) B xy0.length xy0.length (.bool false),wH n (.aa ba (xy0.map aD)) B .aj (ar 0) f O' .dead⟩):=by
 have hm:xy0.length≤most:=by unfold most;omega
 have hz2:∀base σ m,fz false true base σ (m+4) (.cptr t (eX c0 c1 c2 c3 c4 c5 (.aa bk ks) bA all) 0)=.cptr t (eX c0 c1 c2 c3 c4 c5 (.aa bk ks) bA all) 0:=fun base σ m=>hz false true base σ m rfl;have n2:∀base σ m,fz false true base σ (m+3) n.a=n.a:=fun base σ m=>Ft.ft false true base σ m n rfl;have n3:aC n.a=12∧isAgg n.a=true:=⟨rfl,rfl⟩;have k2:(cellsOf n.a)[2]?=some (ar n.r):=rfl;have hkl:=(al.1 hk).1;have hkg:∀hh:q<ks.length,ks[q]'hh=.aa bq K:=fun hh=>(al.1 hk).2;have hKm:K.length≤most:=by unfold most;omega
 have key:=cT (base:=10) (clr:=[13,14,24,25]) (b:=wL) xy0
  (fun k (O:aQ)=>⟨S4 (.cptr t (eX c0 c1 c2 c3 c4 c5 (.aa bk ks) bA all) 0) n (.aa ba (xy0.map aD)) B xy0.length k .any,wH n (.aa ba (xy0.map aD)) B .aj (ar 0) f O .dead⟩)
  (fun k O=>O.length≤8000*8000+k) (qA K.length f)
  (fun O=>(.ext 2,⟨S4 (.cptr t (eX c0 c1 c2 c3 c4 c5 (.aa bk ks) bA all) 0) n (.aa ba (xy0.map aD)) B xy0.length xy0.length (.bool false),wH n (.aa ba (xy0.map aD)) B .aj (ar 0) f O .dead⟩))
  (fun (_:Unit) o=>False)
  (fun k x O hk' hy hO=>by
   have ak:((k:Int)<(xy0.length:Int)):=by omega
   have hxl:=hal x (aw hy);have hrx:aD x=.aa false (x.map bW.a):=rfl;have hfk:k<f.length:=by omega
   have hC:∀c,aK I.qhb [.aa c [.aa false (x.map bW.a),.aa true (List.replicate K.length cu.a)]]=some (.aa false (x.map bW.a++List.replicate K.length cu.a)):=fun c=>by
    have:=jy (enc:=bW.a) c [⟨false,x⟩,⟨true,List.replicate K.length cu⟩] (by simp;unfold most;omega) (by unfold most;simp);simpa [dI.c] using this
   have hO1:O.length+1≤most:=by unfold most;omega
   have hzv:cu.a=.agg [ar 0,ar 0,.int .u64 0,.str []]:=rfl;rw[hzv]at hC;unfold qA;have hgd:f.getD k false=f[k]:=by simp[au,hfk]
   rw[hgd];cases hfv:f[k] with
   |true=>
    refine⟨?_,by simp;omega⟩;simp only[eX]at *;simp[wL,ak,hy,hrx,hfv,hfk,hz2,n2,hB,aX hk' hm,aE,aH]
   |false=>
    have hfb:∀σ,(ec 10 σ∘ap.bool)=ap.bool:=fun σ=>by
     funext y;simp[ec,iB]
    have hx2:aD (x++List.replicate K.length cu)=.aa false (x.map bW.a++List.replicate K.length (.agg [ar 0,ar 0,.int .u64 0,.str []])):=by simp[aD,hzv]
    refine⟨?_,by simp;omega⟩;simp only[eX]at *;simp[wL,ak,hy,hrx,hfv,hfk,n3,k2,hq,hk,hkl,hkg,hKm,hC,hz2,n2,hB,append,hO1,aX hk' hm,aE,aH,hfb];simp only[S4,wH,dy,bG,bh,bV,bj,bu,bS,hx2])
  (fun O _=>by simp[wL]) O (by omega)
 simp only[show ((0:Nat):Int)=0 from rfl]at key;cases hf:aV (qA K.length f) xy0 0 O with
 |inl O'=>
  rw[hf]at key;exact⟨O',rfl,key.2⟩
 |inr u=>
  rw[hf]at key;exact absurd key (by simp)
noncomputable def AF(n:bL)(w:Nat)(xy0 bs:aQ):aQ×Int:=match aV (nY n.cond bs) xy0 0 (List.replicate xy0.length false,[]) with
 |.inl s=>(match aV (qA w s.1) xy0 0 s.2 with
  |.inl O=>(dL ez O,0)
  |.inr _=>([],140))
 |.inr _=>([],140)
theorem HG(w:Nat)(f:List Bool):∀{l:aQ} {k:Nat} {O O':aQ},aV (qA w f) l k O=.inl O'→O'.length≤O.length+l.length
 |[],k,O,O',h=>by cases h;simp
 |r::l,k,O,O',h=>by
  simp only[aV,qA]at h;have:=HG w f (l:=l) h;split at this
  ·simp;omega
  simp at this ⊢;omega
theorem Vh(t:Bool)(c0 c1 c2 c3 c4 c5:ap)(bk:Bool)(ks:List ap)(bA:Bool)(all:List ap)(hz:∀fl top base σ m,(fl ||top)=true→fz fl top base σ (m+4) (.cptr t (eX c0 c1 c2 c3 c4 c5 (.aa bk ks) bA all) 0)=.cptr t (eX c0 c1 c2 c3 c4 c5 (.aa bk ks) bA all) 0)
  (n:bL) (p q:Nat) (hp:n.l=(p:Int)) (hq:n.r=(q:Int)) (ba bb:Bool) (xy0 bs:aQ) (hpa:all[p]?=some (.aa ba (xy0.map aD))) (hqb:all[q]?=some (.aa bb (bs.map aD))) (bq:Bool) (K:List ap) (hk:ks[q]?=some (.aa bq K)) (hK:K.length≤8000)
  (ha:xy0.length≤8000) (hb:bs.length≤8000) (hal:∀r∈xy0,r.length≤8000) (hbl:∀r∈bs,r.length≤8000) (hx:vb xy0) (hr:vb bs) (hc:n.cond.length≤most) (hE:tc n.cond) (hl:n.left=true)
  (hO:∀s,aV (nY n.cond bs) xy0 0 (List.replicate xy0.length false,[])=.inl s→∀O,aV (qA K.length s.1) xy0 0 s.2=.inl O→O.length≤8000∧∀r∈O,lc r=true) :
  aK I.qcu [.cptr t (eX c0 c1 c2 c3 c4 c5 (.aa bk ks) bA all) 0,n.a]=some (.tup [.aa false ((AF n K.length xy0 bs).1.map aD),ar (AF n K.length xy0 bs).2]):=by
 rw[aA UF rfl];have hpl:=(al.1 hpa).1;have hag:∀hh:p<all.length,all[p]'hh=.aa ba (xy0.map aD):=fun hh=>(al.1 hpa).2;have hpi:((p:Int)<(all.length:Int)):=by omega
 have hql:=(al.1 hqb).1;have hbg:∀hh:q<all.length,all[q]'hh=.aa bb (bs.map aD):=fun hh=>(al.1 hqb).2;have hqi:((q:Int)<(all.length:Int)):=by omega
 have hz1:∀base σ m,fz true false base σ (m+4) (.cptr t (eX c0 c1 c2 c3 c4 c5 (.aa bk ks) bA all) 0)=.cptr t (eX c0 c1 c2 c3 c4 c5 (.aa bk ks) bA all) 0:=fun base σ m=>hz true false base σ m rfl;have n1:∀base σ m,fz true false base σ (m+3) n.a=n.a:=fun base σ m=>Ft.ft true false base σ m n rfl;have n3:aC n.a=12∧isAgg n.a=true:=⟨rfl,rfl⟩;have k1:(cellsOf n.a)[1]?=some (ar n.l):=rfl;have k2:(cellsOf n.a)[2]?=some (ar n.r):=rfl;have k5:(cellsOf n.a)[5]?=some (.bool true):=by
  have:(cellsOf n.a)[5]?=some (.bool n.left):=rfl;rw[this,hl]
 have hcall:=fun σ=>Eb (.aa ba (xy0.map aD)) (.aa bb (bs.map aD)) ⟨rfl,rfl⟩ ⟨rfl,rfl⟩ σ;have hJ:=QM (.cptr t (eX c0 c1 c2 c3 c4 c5 (.aa bk ks) bA all) 0) (fun base σ m=>hz false true base σ m rfl) n ba bb xy0 bs ha hb hal hbl hx hr hc hE (List.replicate xy0.length false) (by simp);have hm:xy0.length≤most:=by unfold most;omega
 unfold AF;cases hf:aV (nY n.cond bs) xy0 0 (List.replicate xy0.length false,[]) with
 |inl s=>
  rw[hf]at hJ;obtain⟨⟨j1,j2⟩,hJ⟩:=hJ;obtain⟨f,O⟩:=s;simp only at j1 j2;obtain⟨O',hl1,hL⟩:=adX t c0 c1 c2 c3 c4 c5 bk ks bA all hz n q hq bq K hk hK ba (.aa bb (bs.map aD)) (fun base σ m=>by simp) xy0 ha hal f j1 O (aI j2 (gk ha hb));have hln:=HG _ _ hl1;have hS:=fun b=>mP b O' (hO _ hf _ hl1).1 (hO _ hf _ hl1).2;simp only[hl1];simp only[S4,wH,eX]at hL;simp only[yJ,wH,Bo,eX,bu,bh,eO,ed]at hJ;simp only[eX]at *;simp[aoG,LW,n1,n3,k1,k2,k5,hz1,hp,hq,hpa,hag,hpl,hpi,hqb,hbg,hql,hqi,hcall,hJ,hL,hS,hm,jC]
 |inr u=>
  rw[hf]at hJ;obtain⟨f',O',hJ⟩:=hJ;simp only[yJ,wH,Bo,eX,bu,bh,eO,ed]at hJ;simp only[eX]at *;simp[aoG,LW,n1,n3,k1,k2,k5,hz1,hp,hq,hpa,hag,hpl,hpi,hqb,hbg,hql,hqi,hcall,hJ,hm,jC]
theorem SN(c0 c1 c2 c3:ap)(bt:Bool)(tabs:List ap)(bi:Bool)(ins:List ap)(c6 c7:ap)
  (n:bL) (b:Bool) (rs:aQ) (h:Ew bt tabs bi ins n b rs) (σ:ay) (id:Nat) (hσ:σ[id]?=some (.arr 8 0 [.agg [c0,c1,c2,c3,.aa bt tabs,.aa bi ins,c6,c7]])) :
  cA code I.qct [.ptr id 0 0 0,n.a] σ=some (.tup [.aa b (rs.map aD),.bool true],σ++[.arr 12 0 [n.a]]):=by
 rw[bp adh rfl];have hl:=(al.1 hσ).1;have hσ2:(σ++[.arr 12 0 [n.a]])[id]?=some (.arr 8 0 [.agg [c0,c1,c2,c3,.aa bt tabs,.aa bi ins,c6,c7]]):=by rw[bB hl,hσ]
 obtain⟨⟨i,hi,ha⟩,hf,hs⟩:=h;have n3:aC n.a=12∧isAgg n.a=true:=⟨rfl,rfl⟩;have k0:(cellsOf n.a)[0]?=some (ar n.op):=rfl;have k3:(cellsOf n.a)[3]?=some (ar n.tab):=rfl;have k4:(cellsOf n.a)[4]?=some (.aa n.bk (n.af.map (.int .i64))):=rfl;have hF:∀b bk,aK I.qcd [.aa b (rs.map aD),.aa bk (n.af.map (.int .i64))]=some (.bool true):=fun b bk=>by rw[GW b bk rs n.af hs,hf]
 by_cases c:n.op=9
 ·rw[if_pos c]at ha;have hpl:=(al.1 ha).1;have hag:∀hh:i<ins.length,ins[i]'hh=.aa b (rs.map aD):=fun hh=>(al.1 ha).2;have ak:¬((ins.length:Int)≤(i:Int)):=by omega
  have hlt':((i:Int)<(ins.length:Int)):=by omega
  simp[aoC,LK,n3,k0,k3,k4,c,hi,ha,hag,hpl,ak,hlt',hF,hσ,hσ2,hl]
 rw[if_neg c]at ha;have hpl:=(al.1 ha).1;have hag:∀hh:i<tabs.length,tabs[i]'hh=.aa b (rs.map aD):=fun hh=>(al.1 ha).2;have ak:¬((tabs.length:Int)≤(i:Int)):=by omega
 have hlt':((i:Int)<(tabs.length:Int)):=by omega
 simp[aoC,LK,n3,k0,k3,k4,c,hi,ha,hag,hpl,ak,hlt',hF,hσ,hσ2,hl]
abbrev YJ(fr T I K:ap)(bn:Bool)(ns:List bL)(k:Int)(c:ap):List ap:=
 [fr,T,I,.ptr 0 0 0 0,.any,.any,K,ar 0,.ptr 1 0 0 0,.any,.any,.any,.any,.any,.any,.any,.bool false,.aa bn (ns.map bL.a),ar ns.length,ar k,c,.any,.any,.any,.any,.any,.any,.any,.any,.any,.any]
theorem aed(fr:ap)(c0 c1 c2 c3:ap)(bt:Bool)(tabs:List ap)(bi:Bool)(ins:List ap)(K:ap)(bn:Bool)(ns:List bL)(hn:ns.length≤8000)
  (hfr:∀base σ m,fz false true base σ (m+3) fr=fr) (hT:∀base σ m,fz false true base σ (m+3) (.aa bt tabs)=.aa bt tabs) (hI:∀base σ m,fz false true base σ (m+3) (.aa bi ins)=.aa bi ins) (hK:∀base σ m,fz false true base σ (m+3) K=K)
  (hS:∀σ m,fz false true 3 σ (m+3) (.agg [c0,c1,c2,c3,.aa bt tabs,.aa bi ins,K,.sl 2 0 0 0])=.agg [c0,c1,c2,c3,.aa bt tabs,.aa bi ins,K,.sl 2 0 0 0])
  (hG:∀n∈ns,n.l<0→∃b rs,Ew bt tabs bi ins n b rs) :
  cq code 3 [4,5,9,10,20,21,22] wi ⟨YJ fr (.aa bt tabs) (.aa bi ins) K bn ns 0 .any,[.arr 4 0 [fr],.arr 8 0 [.agg [c0,c1,c2,c3,.aa bt tabs,.aa bi ins,K,.sl 2 0 0 0]],.arr 1 0 []]⟩ =
   some (.ext 0,⟨YJ fr (.aa bt tabs) (.aa bi ins) K bn ns ns.length (.bool false),[.arr 4 0 [fr],.arr 8 0 [.agg [c0,c1,c2,c3,.aa bt tabs,.aa bi ins,K,.sl 2 0 0 0]],.arr 1 0 []]⟩):=by
 have hm:ns.length≤most:=by unfold most;omega
 have key:=cT (base:=3) (clr:=[4,5,9,10,20,21,22]) (b:=wi) ns
  (fun k (_:Unit)=>⟨YJ fr (.aa bt tabs) (.aa bi ins) K bn ns k .any,[.arr 4 0 [fr],.arr 8 0 [.agg [c0,c1,c2,c3,.aa bt tabs,.aa bi ins,K,.sl 2 0 0 0]],.arr 1 0 []]⟩)
  (fun _ _=>True) (fun _ _ _=>.inl ())
  (fun _=>(.ext 0,⟨YJ fr (.aa bt tabs) (.aa bi ins) K bn ns ns.length (.bool false),[.arr 4 0 [fr],.arr 8 0 [.agg [c0,c1,c2,c3,.aa bt tabs,.aa bi ins,K,.sl 2 0 0 0]],.arr 1 0 []]⟩))
  (fun (_:Unit) o=>False)
  (fun k n s hk hy _=>by
   have ak:((k:Int)<(ns.length:Int)):=by omega
   have n3:aC n.a=12∧isAgg n.a=true:=⟨rfl,rfl⟩;have k1:(cellsOf n.a)[1]?=some (ar n.l):=rfl;refine⟨?_,trivial⟩;by_cases c:n.l<0
   ·obtain⟨b,rs,hg⟩:=hG n (aw hy) c;have hH:=SN c0 c1 c2 c3 bt tabs bi ins K (.sl 2 0 0 0) n b rs hg [.arr 4 0 [fr],.arr 8 0 [.agg [c0,c1,c2,c3,.aa bt tabs,.aa bi ins,K,.sl 2 0 0 0]],.arr 1 0 [],.arr 12 0 [n.a]] 1 rfl;have c':¬(0≤n.l):=by omega
    simp only[cM,b9]at hH;simp[wi,ak,hy,n3,k1,c,c',hH,hfr,hT,hI,hK,hS,aX hk hm,aE,aH]
   have c':0≤n.l:=by omega
   simp[wi,ak,hy,n3,k1,c,c',hfr,hT,hI,hK,hS,aX hk hm,aE,aH])
  (fun _ _=>by simp[wi]) () trivial
 simp only[show ((0:Nat):Int)=0 from rfl]at key;cases hf:aV (fun _ _ _=>(.inl ():Unit⊕Unit)) ns 0 () with
 |inl u=>
  rw[hf]at key;exact key.2
 |inr u=>
  rw[hf]at key;exact absurd key (by simp)
abbrev DG(F:ap)(n:bL)(A B:ap):List ap:=
 [F,n.a,.ptr 0 0 0 0,.ptr 1 0 0 0,.ptr 2 0 0 0,A,B,.ptr 4 0 0 0,.ptr 5 0 0 0,.any,.any,.any,.any,.any,.any,.bool false,.fn 263 [] [.ptr 7 0 0 0,.ptr 8 0 0 0],.any,.any,.any,.any,.any,.any,.any,.any,.any]
abbrev uR(n:bL)(A B r1 r2:ap)(found:List Bool)(O:aQ)(o:Obj):ay:=
 [.arr 12 0 [n.a],.arr 1 0 [r1],.arr 1 0 [r2],.arr 1 0 (found.map .bool),.arr 1 0 [.sl 3 0 0 found.length],.arr 1 0 [.sl 6 O.length 0 O.length],.arr 1 O.length (O.map aD),.arr 1 0 [A],.arr 1 0 [B],o]
theorem MI(bc:Bool)(e:List EN)(r:b8)(hn:e.length≤most)(hr:Ng r)(hE:tc e):aK I.qbj [.agg [.aa bc (e.map EN.a)],aD r]=some (.tup [.bool (Ku (dM e r).1),ar (dM e r).2]):=by
 rw[aA alk rfl];have hV:=fun c=>Dz c e false r hn hr hE;have hT:=Q0 (dM e r).1;have hrx:aD r=.aa false (r.map bW.a):=rfl;generalize dM e r=p at *;obtain⟨v,no⟩:=p;simp only[bW.a]at hV hT ⊢;simp[aqD,ac9,hrx,hV,hT,bW.a]
noncomputable def sR(e:List EN)(i:Nat)(z:b8)(s:List Bool×aQ):(List Bool×aQ)⊕Int:=
 if (dM e z).2=0 then .inl (if Ku (dM e z).1=true then (s.1.set i true,s.2++[z]) else s) else .inr (dM e z).2
theorem Z5(F:ap)(n:bL)(A B:ap)(i:Nat)(z:b8)(found:List Bool)(O:aQ)(hi:i<found.length)(hO:O.length+1≤most)(hc:n.cond.length≤most)(hz:Ng z)(hE:tc n.cond) :
  match sR n.cond i z (found,O) with
  |.inl s=>cA code 170 (.frs 9 []::(DG F n A B++[.int .i64 i,aD z])) (uR n A B .aj (.int .i64 0) found O (.pend false none))=some (.bool true,uR n A B .aj (.int .i64 0) s.1 s.2 (.pend false none))
  |.inr no=>cA code 170 (.frs 9 []::(DG F n A B++[.int .i64 i,aD z])) (uR n A B .aj (.int .i64 0) found O (.pend false none))=some (.bool false,uR n A B .aj (.int .i64 no) found O (.pend false (some .ret))):=by
 rw[mW fg (g:=ij) rfl];have hH:=fun c=>MI c n.cond z hc hz hE;have n2:∀base σ m,fz false true base σ (m+3) n.a=n.a:=fun base σ m=>Ft.ft false true base σ m n rfl;have n3:aC n.a=12∧isAgg n.a=true:=⟨rfl,rfl⟩;have k6:List.take 1 (List.drop 6 (cellsOf n.a))=[.aa n.bc (n.cond.map EN.a)]:=rfl;unfold sR;generalize dM n.cond z=q at *;obtain⟨v,no⟩:=q;simp only at *;by_cases c:no=0
 ·rw[if_pos c];subst c;cases ht:Ku v with
  |false=>
   rw[ht]at hH;simp[ij,ju,jK,jQ,gU,eR,n2,n3,k6,hH]
  |true=>
   rw[ht]at hH;simp[ij,ju,jK,jQ,gU,eR,n2,n3,k6,hH,hi,append,hO]
 rw[if_neg c];simp[ij,ju,jK,jQ,gU,eR,n2,n3,k6,hH,eo c]
abbrev yD(F:ap)(n:bL)(A B:ap):ap:=.yld 9 170 (DG F n A B)
theorem Yt(F:ap)(hF:∀base σ m,fz false true base σ (m+4) F=F)(n:bL)(ba bb:Bool)(xy0 bs:aQ)(i:Nat)(x:b8)(hi:i<xy0.length)(ha:xy0.length≤8000)(hb:bs.length≤8000)(hxl:x.length≤8000)(hbl:∀r∈bs,r.length≤8000)(hx:Ng x)(hr:vb bs)(hc:n.cond.length≤most)(hE:tc n.cond)
  (s:List Bool×aQ) (h1:s.1.length=xy0.length) (h2:s.2.length≤i*bs.length) (e5:ap) :
  match aV (fun _ y=>sR n.cond i (x++y)) bs 0 s with
  |.inl s'=>(s'.1.length=xy0.length∧s'.2.length≤i*bs.length+bs.length)∧cq code 10 [5,13,14] tQ ⟨[yD F n (.aa ba (xy0.map aD)) (.aa bb (bs.map aD)),.ptr 7 0 0 0,.ptr 8 0 0 0,.int .i64 i,aD x,.any,.aa ba (xy0.map aD),.int .i64 xy0.length,.int .i64 i,.bool true,.aa bb (bs.map aD),.int .i64 bs.length,.int .i64 0,.any,.any],uR n (.aa ba (xy0.map aD)) (.aa bb (bs.map aD)) .aj (.int .i64 0) s.1 s.2 (.pend false none)⟩ =
    some (.ext 2,⟨[yD F n (.aa ba (xy0.map aD)) (.aa bb (bs.map aD)),.ptr 7 0 0 0,.ptr 8 0 0 0,ar i,aD x,.any,.aa ba (xy0.map aD),ar xy0.length,ar i,.bool true,.aa bb (bs.map aD),ar bs.length,ar bs.length,.bool false,.any],uR n (.aa ba (xy0.map aD)) (.aa bb (bs.map aD)) .aj (ar 0) s'.1 s'.2 (.pend false none)⟩)
  |.inr no=>∃o,cq code 10 [5,13,14] tQ ⟨[yD F n (.aa ba (xy0.map aD)) (.aa bb (bs.map aD)),.ptr 7 0 0 0,.ptr 8 0 0 0,.int .i64 i,aD x,.any,.aa ba (xy0.map aD),.int .i64 xy0.length,.int .i64 i,.bool true,.aa bb (bs.map aD),.int .i64 bs.length,.int .i64 0,.any,.any],uR n (.aa ba (xy0.map aD)) (.aa bb (bs.map aD)) .aj (.int .i64 0) s.1 s.2 (.pend false none)⟩=some o ∧
    ∃env f O,o=(.ret,⟨env,uR n (.aa ba (xy0.map aD)) (.aa bb (bs.map aD)) .aj (ar no) f O (.pend false (some .ret))⟩):=by
 have hm:bs.length≤most:=by unfold most;omega
 have hib:i*bs.length≤8000*8000:=gk (by omega) hb;have n2:∀base σ m,fz false true base σ (m+3) n.a=n.a:=fun base σ m=>Ft.ft false true base σ m n rfl;have key:=cT (base:=10) (clr:=[5,13,14]) (b:=tQ) bs
  (fun j (s:List Bool×aQ)=>⟨[yD F n (.aa ba (xy0.map aD)) (.aa bb (bs.map aD)),.ptr 7 0 0 0,.ptr 8 0 0 0,ar i,aD x,.any,.aa ba (xy0.map aD),ar xy0.length,ar i,.bool true,.aa bb (bs.map aD),ar bs.length,ar j,.any,.any],uR n (.aa ba (xy0.map aD)) (.aa bb (bs.map aD)) .aj (ar 0) s.1 s.2 (.pend false none)⟩)
  (fun j s=>s.1.length=xy0.length∧s.2.length≤i*bs.length+j) (fun _ y=>sR n.cond i (x++y))
  (fun s=>(.ext 2,⟨[yD F n (.aa ba (xy0.map aD)) (.aa bb (bs.map aD)),.ptr 7 0 0 0,.ptr 8 0 0 0,ar i,aD x,.any,.aa ba (xy0.map aD),ar xy0.length,ar i,.bool true,.aa bb (bs.map aD),ar bs.length,ar bs.length,.bool false,.any],uR n (.aa ba (xy0.map aD)) (.aa bb (bs.map aD)) .aj (ar 0) s.1 s.2 (.pend false none)⟩))
  (fun (no:Int) o=>∃env f O,o=(.ret,⟨env,uR n (.aa ba (xy0.map aD)) (.aa bb (bs.map aD)) .aj (ar no) f O (.pend false (some .ret))⟩))
  (fun j y s hj hy hs=>by
   obtain⟨hs1,hs2⟩:=hs;obtain⟨f,O⟩:=s;simp only at hs1 hs2;have ak:((j:Int)<(bs.length:Int)):=by omega
   have hym:=aw hy;have hyl:=hbl y hym;have hxy:aD (x++y)=.aa false (x.map bW.a++y.map bW.a):=by simp[aD]
   have hC:∀c,aK I.qhb [.aa c [aD x,aD y]]=some (.aa false (x.map bW.a++y.map bW.a)):=fun c=>by rw[Qd c x y (by unfold most;omega),hxy]
   have hR:=Z5 F n (.aa ba (xy0.map aD)) (.aa bb (bs.map aD)) i (x++y) f O (by omega) (by unfold most;omega) hc (fun v hv=>by
    rcases bT.1 hv with hv|hv
    ·exact hx v hv
    exact hr y hym v hv) hE
   cases hp:sR n.cond i (x++y) (f,O) with
   |inl s'=>
    rw[hp]at hR;have hl':s'.1.length=xy0.length∧s'.2.length≤i*bs.length+(j+1):=by
     unfold sR at hp;split at hp
     ·cases hp;split
      ·simp[hs1];omega
      exact⟨hs1,by simp only;omega⟩
     cases hp
    obtain⟨f',O'⟩:=s';refine⟨?_,hl'⟩;simp only[uR,DG,cM,b9,hxy]at hR;simp[tQ,ak,hy,hC,hR,jc,aE,aH,tw,hF,n2,aX hj hm]
   |inr u=>
    rw[hp]at hR;simp only[uR,DG,cM,b9,hxy]at hR;exact⟨_,by simp[tQ,ak,hy,hC,hR,jc];rfl,_,f,O,rfl⟩) (fun s _=>by simp[tQ]) s ⟨h1,by omega⟩
 simp only[show ((0:Nat):Int)=0 from rfl]at key;cases hf:aV (fun _ y=>sR n.cond i (x++y)) bs 0 s with
 |inl s'=>
  rw[hf]at key;exact key
 |inr u=>
  rw[hf]at key;exact key
noncomputable def nW(e:List EN)(bs:aQ)(i:Nat)(x:b8)(s:List Bool×aQ):(List Bool×aQ)⊕Int:=aV (fun _ y=>sR e i (x++y)) bs 0 s
theorem ZG(F:ap)(hF:∀base σ m,fz false true base σ (m+4) F=F)(n:bL)(ba bb:Bool)(xy0 bs:aQ)(ha:xy0.length≤8000)(hb:bs.length≤8000)(hal:∀r∈xy0,r.length≤8000)(hbl:∀r∈bs,r.length≤8000)(hx:vb xy0)(hr:vb bs)(hc:n.cond.length≤most)(hE:tc n.cond)(f:List Bool)(hf0:f.length=xy0.length) :
  match aV (nW n.cond bs) xy0 0 (f,[]) with
  |.inl s'=>(s'.1.length=xy0.length∧s'.2.length≤xy0.length*bs.length)∧cA code 263 [yD F n (.aa ba (xy0.map aD)) (.aa bb (bs.map aD)),.ptr 7 0 0 0,.ptr 8 0 0 0] (uR n (.aa ba (xy0.map aD)) (.aa bb (bs.map aD)) .aj (.int .i64 0) f [] (.pend false none)) =
    some (.tup [],uR n (.aa ba (xy0.map aD)) (.aa bb (bs.map aD)) .aj (ar 0) s'.1 s'.2 (.pend false none))
  |.inr no=>∃f' O',cA code 263 [yD F n (.aa ba (xy0.map aD)) (.aa bb (bs.map aD)),.ptr 7 0 0 0,.ptr 8 0 0 0] (uR n (.aa ba (xy0.map aD)) (.aa bb (bs.map aD)) .aj (.int .i64 0) f [] (.pend false none)) =
    some (.tup [],uR n (.aa ba (xy0.map aD)) (.aa bb (bs.map aD)) .aj (ar no) f' O' (.pend false (some .ret))):=by
 have hm:xy0.length≤most:=by unfold most;omega
 have n2:∀base σ m,fz false true base σ (m+3) n.a=n.a:=fun base σ m=>Ft.ft false true base σ m n rfl;rw[bp aii rfl];have key:=cT (base:=10) (clr:=[3,4,5,9,10,11,12,13,14]) (b:=yM) xy0
  (fun k (s:List Bool×aQ)=>⟨[yD F n (.aa ba (xy0.map aD)) (.aa bb (bs.map aD)),.ptr 7 0 0 0,.ptr 8 0 0 0,.any,.any,.any,.aa ba (xy0.map aD),ar xy0.length,ar k,.any,.any,.any,.any,.any,.any],uR n (.aa ba (xy0.map aD)) (.aa bb (bs.map aD)) .aj (ar 0) s.1 s.2 (.pend false none)⟩)
  (fun k s=>s.1.length=xy0.length∧s.2.length≤k*bs.length) (nW n.cond bs)
  (fun s=>(.ext 0,⟨[yD F n (.aa ba (xy0.map aD)) (.aa bb (bs.map aD)),.ptr 7 0 0 0,.ptr 8 0 0 0,.any,.any,.any,.aa ba (xy0.map aD),ar xy0.length,ar xy0.length,.bool false,.any,.any,.any,.any,.any],uR n (.aa ba (xy0.map aD)) (.aa bb (bs.map aD)) .aj (ar 0) s.1 s.2 (.pend false none)⟩))
  (fun (no:Int) o=>∃env f O,o=(.ret,⟨env,uR n (.aa ba (xy0.map aD)) (.aa bb (bs.map aD)) .aj (ar no) f O (.pend false (some .ret))⟩))
  (fun k x s hk hy hs=>by
   obtain⟨hs1,hs2⟩:=hs;obtain⟨f,O⟩:=s;simp only at hs1 hs2;have ak:((k:Int)<(xy0.length:Int)):=by omega
   have hxm:=aw hy;have hI:=Yt F hF n ba bb xy0 bs k x hk ha hb (hal x hxm) hbl (hx x hxm) hr hc hE (f,O) hs1 hs2 .any;unfold nW;cases hp:aV (fun _ y=>sR n.cond k (x++y)) bs 0 (f,O) with
   |inl s'=>
    rw[hp]at hI;obtain⟨⟨i1,i2⟩,hI⟩:=hI;obtain⟨f',O'⟩:=s';refine⟨?_,i1,by rw[du,Nat.one_mul];exact i2⟩;have hrx:aD x=.aa false (x.map bW.a):=rfl;simp only[yD,uR,DG,hrx]at hI;simp[yM,ak,hy,hI,hrx,aE,aH,tw,hF,n2,aX hk hm]
   |inr u=>
    rw[hp]at hI;obtain⟨o,h1,env,f',O',rfl⟩:=hI;have hrx:aD x=.aa false (x.map bW.a):=rfl;simp only[yD,uR,DG,hrx]at h1;exact⟨_,by simp[yM,ak,hy,h1,hrx],env,f',O',rfl⟩)
  (fun s _=>by simp[yM]) (f,[]) ⟨hf0,by simp⟩
 simp only[show ((0:Nat):Int)=0 from rfl]at key;cases hf:aV (nW n.cond bs) xy0 0 (f,[]) with
 |inl s'=>
  rw[hf]at key;obtain⟨k1,k2⟩:=key;simp only[yD,uR,DG]at k2;exact⟨k1,by simp[apt,Wd,k2]⟩
 |inr u=>
  rw[hf]at key;obtain⟨o,h1,env,f',O',rfl⟩:=key;simp only[yD,uR,DG]at h1;exact⟨f',O',by simp[apt,Wd,h1]⟩
abbrev Cv(F:ap)(n:bL)(A B:ap)(m:Int)(k:Int)(c:ap):List ap:=
 [F,n.a,.ptr 0 0 0 0,.ptr 1 0 0 0,.ptr 2 0 0 0,A,B,.ptr 4 0 0 0,.ptr 5 0 0 0,.any,.any,.any,.any,.any,.any,.bool false,.fn 263 [] [.ptr 7 0 0 0,.ptr 8 0 0 0],.any,.any,.any,.any,A,ar m,ar k,c,.any]
theorem aec(t:Bool)(c0 c1:ap)(bk:Bool)(ks:List ap)(hz:∀fl top base σ m,(fl ||top)=true→fz fl top base σ (m+4) (.cptr t (.agg [c0,c1,.aa bk ks]) 0)=.cptr t (.agg [c0,c1,.aa bk ks]) 0)
  (n:bL) (q:Nat) (hq:n.r=(q:Int)) (hl:n.left=true) (w:Nat) (hk:ks[q]?=some (ar w)) (hK:w≤8000) (ba:Bool) (B:ap) (hB:∀base σ m,fz false true base σ (m+3) B=B) (xy0:aQ) (ha:xy0.length≤8000) (hal:∀r∈xy0,r.length≤8000) (f:List Bool) (hf:f.length=xy0.length) (O:aQ) (hO:O.length≤8000*8000) :
  ∃O',aV (qA w f) xy0 0 O=.inl O'∧cq code 10 [13,14,24,25] om ⟨Cv (.cptr t (.agg [c0,c1,.aa bk ks]) 0) n (.aa ba (xy0.map aD)) B xy0.length 0 .any,uR n (.aa ba (xy0.map aD)) B .aj (ar 0) f O .dead⟩ =
   some (.ext 2,⟨Cv (.cptr t (.agg [c0,c1,.aa bk ks]) 0) n (.aa ba (xy0.map aD)) B xy0.length xy0.length (.bool false),uR n (.aa ba (xy0.map aD)) B .aj (ar 0) f O' .dead⟩):=by
 have hm:xy0.length≤most:=by unfold most;omega
 have hz2:∀base σ m,fz false true base σ (m+4) (.cptr t (.agg [c0,c1,.aa bk ks]) 0)=.cptr t (.agg [c0,c1,.aa bk ks]) 0:=fun base σ m=>hz false true base σ m rfl;have n2:∀base σ m,fz false true base σ (m+3) n.a=n.a:=fun base σ m=>Ft.ft false true base σ m n rfl;have n3:aC n.a=12∧isAgg n.a=true:=⟨rfl,rfl⟩;have k5:(cellsOf n.a)[5]?=some (.bool true):=by
  have:(cellsOf n.a)[5]?=some (.bool n.left):=rfl;rw[this,hl]
 have k2:(cellsOf n.a)[2]?=some (ar n.r):=rfl;have hkl:=(al.1 hk).1;have hkg:∀hh:q<ks.length,ks[q]'hh=ar w:=fun hh=>(al.1 hk).2;have hKm:w≤most:=by unfold most;omega
 have key:=cT (base:=10) (clr:=[13,14,24,25]) (b:=om) xy0
  (fun k (O:aQ)=>⟨Cv (.cptr t (.agg [c0,c1,.aa bk ks]) 0) n (.aa ba (xy0.map aD)) B xy0.length k .any,uR n (.aa ba (xy0.map aD)) B .aj (ar 0) f O .dead⟩)
  (fun k O=>O.length≤8000*8000+k) (qA w f)
  (fun O=>(.ext 2,⟨Cv (.cptr t (.agg [c0,c1,.aa bk ks]) 0) n (.aa ba (xy0.map aD)) B xy0.length xy0.length (.bool false),uR n (.aa ba (xy0.map aD)) B .aj (ar 0) f O .dead⟩))
  (fun (_:Unit) o=>False)
  (fun k x O hk' hy hO=>by
   have ak:((k:Int)<(xy0.length:Int)):=by omega
   have hxl:=hal x (aw hy);have hrx:aD x=.aa false (x.map bW.a):=rfl;have hfk:k<f.length:=by omega
   have hC:∀c,aK I.qhb [.aa c [.aa false (x.map bW.a),.aa true (List.replicate w cu.a)]]=some (.aa false (x.map bW.a++List.replicate w cu.a)):=fun c=>by
    have:=jy (enc:=bW.a) c [⟨false,x⟩,⟨true,List.replicate w cu⟩] (by simp;unfold most;omega) (by unfold most;simp);simpa [dI.c] using this
   have hO1:O.length+1≤most:=by unfold most;omega
   have hzv:cu.a=.agg [ar 0,ar 0,.int .u64 0,.str []]:=rfl;rw[hzv]at hC;unfold qA;have hgd:f.getD k false=f[k]:=by simp[au,hfk]
   rw[hgd];cases hfv:f[k] with
   |true=>
    refine⟨?_,by simp;omega⟩;simp[om,ak,hy,hrx,hfv,hfk,n3,k5,hz2,n2,hB,aX hk' hm,aE,aH]
   |false=>
    have hfb:∀σ,(ec 10 σ∘ap.bool)=ap.bool:=fun σ=>by
     funext y;simp[ec,iB]
    have hx2:aD (x++List.replicate w cu)=.aa false (x.map bW.a++List.replicate w (.agg [ar 0,ar 0,.int .u64 0,.str []])):=by simp[aD,hzv]
    refine⟨?_,by simp;omega⟩;simp[om,ak,hy,hrx,hfv,hfk,n3,k5,k2,hq,hk,hkl,hkg,hKm,hC,hz2,n2,hB,append,hO1,aX hk' hm,aE,aH,hfb];simp only[Cv,uR,dy,bG,bh,bV,bj,bu,bS,hx2])
  (fun O _=>by simp[om]) O (by omega)
 simp only[show ((0:Nat):Int)=0 from rfl]at key;cases hf:aV (qA w f) xy0 0 O with
 |inl O'=>
  rw[hf]at key;exact⟨O',rfl,key.2⟩
 |inr u=>
  rw[hf]at key;exact absurd key (by simp)
abbrev fV(c0:ap)(ba:Bool)(all:List ap)(bk:Bool)(ks:List ap):ap:=.agg [c0,.aa ba all,.aa bk ks]
theorem Mk(x y:ap)(hx:aC x=1∧isAgg x=false)(hy:aC y=1∧isAgg y=false)(σ:ay) :
  cA code I.qbk [x,y] σ=some (.fn 263 [] [.ptr σ.length 0 0 0,.ptr (σ.length+1) 0 0 0],σ++[.arr 1 0 [x],.arr 1 0 [y]]):=by
 rw[bp aiN rfl];simp[arm,ady,hx,hy]
noncomputable def yL(n:bL)(w:Nat)(xy0 bs:aQ):aQ×Int:=
 if 40000<xy0.length*bs.length then ([],3) else match aV (nW n.cond bs) xy0 0 (List.replicate xy0.length false,[]) with
 |.inl s=>if n.left then (match aV (qA w s.1) xy0 0 s.2 with
  |.inl O=>(O,0)
  |.inr _=>([],0)) else (s.2,0)
 |.inr no=>([],no)
theorem YK(F:ap)(hz2:∀base σ m,fz false true base σ (m+4) F=F)
  (n:bL) (hl:n.left=false) (ba:Bool) (B:ap) (hB:∀base σ m,fz false true base σ (m+3) B=B) (xy0:aQ) (ha:xy0.length≤8000) (f:List Bool) (O:aQ) :
  cq code 10 [13,14,24,25] om ⟨Cv F n (.aa ba (xy0.map aD)) B xy0.length 0 .any,uR n (.aa ba (xy0.map aD)) B .aj (ar 0) f O .dead⟩ =
   some (.ext 2,⟨Cv F n (.aa ba (xy0.map aD)) B xy0.length xy0.length (.bool false),uR n (.aa ba (xy0.map aD)) B .aj (ar 0) f O .dead⟩):=by
 have hm:xy0.length≤most:=by unfold most;omega
 have n2:∀base σ m,fz false true base σ (m+3) n.a=n.a:=fun base σ m=>Ft.ft false true base σ m n rfl;have n3:aC n.a=12∧isAgg n.a=true:=⟨rfl,rfl⟩;have k5:(cellsOf n.a)[5]?=some (.bool false):=by
  have:(cellsOf n.a)[5]?=some (.bool n.left):=rfl;rw[this,hl]
 have key:=(ea (base:=10) (clr:=[13,14,24,25]) (b:=om) xy0
  (fun k (_:Unit)=>⟨Cv F n (.aa ba (xy0.map aD)) B xy0.length k .any,uR n (.aa ba (xy0.map aD)) B .aj (ar 0) f O .dead⟩)
  (fun _ _=>True) (fun _ _=>())
  (fun _=>(.ext 2,⟨Cv F n (.aa ba (xy0.map aD)) B xy0.length xy0.length (.bool false),uR n (.aa ba (xy0.map aD)) B .aj (ar 0) f O .dead⟩))
  (fun k x _ hk' hy _=>by
   have ak:((k:Int)<(xy0.length:Int)):=by omega
   have hrx:aD x=.aa false (x.map bW.a):=rfl;have hfb:∀σ,(ec 10 σ∘ap.bool)=ap.bool:=fun σ=>by
    funext y;simp[ec,iB]
   refine⟨?_,trivial⟩;simp[Cv,om,ak,hy,hrx,n3,k5,hz2,n2,hB,aX hk' hm,aE,aH,hfb])
  (fun O _=>by simp[om]) () trivial).1
 simpa using key
theorem aaf(t:Bool)(c0:ap)(bA:Bool)(all:List ap)(bk:Bool)(ks:List ap)(hz:∀fl top base σ m,(fl ||top)=true→fz fl top base σ (m+4) (.cptr t (fV c0 bA all bk ks) 0)=.cptr t (fV c0 bA all bk ks) 0)
  (n:bL) (p q:Nat) (hp:n.l=(p:Int)) (hq:n.r=(q:Int)) (ba bb:Bool) (xy0 bs:aQ) (hpa:all[p]?=some (.aa ba (xy0.map aD))) (hqb:all[q]?=some (.aa bb (bs.map aD))) (w:Nat) (hk:ks[q]?=some (ar w)) (hK:w≤8000)
  (ha:xy0.length≤8000) (hb:bs.length≤8000) (hal:∀r∈xy0,r.length≤8000) (hbl:∀r∈bs,r.length≤8000) (hx:vb xy0) (hr:vb bs) (hc:n.cond.length≤most) (hE:tc n.cond) :
  aK I.qbr [.cptr t (fV c0 bA all bk ks) 0,n.a]=some (.tup [.aa false ((yL n w xy0 bs).1.map aD),ar (yL n w xy0 bs).2]):=by
 rw[aA adW rfl];have hpl:=(al.1 hpa).1;have hag:∀hh:p<all.length,all[p]'hh=.aa ba (xy0.map aD):=fun hh=>(al.1 hpa).2;have hpi:((p:Int)<(all.length:Int)):=by omega
 have hql:=(al.1 hqb).1;have hbg:∀hh:q<all.length,all[q]'hh=.aa bb (bs.map aD):=fun hh=>(al.1 hqb).2;have hqi:((q:Int)<(all.length:Int)):=by omega
 have hz1:∀base σ m,fz true false base σ (m+4) (.cptr t (fV c0 bA all bk ks) 0)=.cptr t (fV c0 bA all bk ks) 0:=fun base σ m=>hz true false base σ m rfl;have n1:∀base σ m,fz true false base σ (m+3) n.a=n.a:=fun base σ m=>Ft.ft true false base σ m n rfl;have n3:aC n.a=12∧isAgg n.a=true:=⟨rfl,rfl⟩;have k1:(cellsOf n.a)[1]?=some (ar n.l):=rfl;have k2:(cellsOf n.a)[2]?=some (ar n.r):=rfl;have hcall:=fun σ=>Mk (.aa ba (xy0.map aD)) (.aa bb (bs.map aD)) ⟨rfl,rfl⟩ ⟨rfl,rfl⟩ σ;have hm:xy0.length≤most:=by unfold most;omega
 have hmul:xy0.length*bs.length≤8000*8000:=gk ha hb;have hw:IntKind.i64.wrap ((xy0.length:Int)*(bs.length:Int))=(xy0.length:Int)*bs.length:=by
  have:(xy0.length:Int)*(bs.length:Int)=((xy0.length*bs.length:Nat):Int):=by simp
  rw[this];exact rn (by omega) (by omega)
 unfold yL;by_cases c:40000<xy0.length*bs.length
 ·rw[if_pos c];have c':(40000:Int)<(xy0.length:Int)*(bs.length:Int):=by
   have:(xy0.length:Int)*(bs.length:Int)=((xy0.length*bs.length:Nat):Int):=by simp
   omega
  simp only[fV]at *;simp[aoI,M7,n1,n3,k1,k2,hz1,hp,hq,hpa,hag,hpl,hpi,hqb,hbg,hql,hqi,hw,c']
 rw[if_neg c];have c':¬(40000:Int)<(xy0.length:Int)*(bs.length:Int):=by
  have:(xy0.length:Int)*(bs.length:Int)=((xy0.length*bs.length:Nat):Int):=by simp
  omega
 have hJ:=ZG (.cptr t (fV c0 bA all bk ks) 0) (fun base σ m=>hz false true base σ m rfl) n ba bb xy0 bs ha hb hal hbl hx hr hc hE (List.replicate xy0.length false) (by simp);cases hf:aV (nW n.cond bs) xy0 0 (List.replicate xy0.length false,[]) with
 |inl s=>
  rw[hf]at hJ;obtain⟨⟨j1,j2⟩,hJ⟩:=hJ;obtain⟨f,O⟩:=s;simp only at j1 j2;simp only[yD,uR,DG,fV,bu,bh,eO,ed]at hJ;cases hl:n.left with
  |true=>
   obtain⟨O',hl1,hL⟩:=aec t c0 (.aa bA all) bk ks hz n q hq hl w hk hK ba (.aa bb (bs.map aD)) (fun base σ m=>by simp) xy0 ha hal f j1 O (aI j2 (gk ha hb));simp only[hl1];simp only[Cv,uR,fV]at hL;simp only[fV]at *;simp[aoI,M7,n1,n3,k1,k2,hz1,hp,hq,hpa,hag,hpl,hpi,hqb,hbg,hql,hqi,hw,c',hcall,hJ,hL,hm,jC]
  |false=>
   have hL:=YK (.cptr t (fV c0 bA all bk ks) 0) (fun base σ m=>hz false true base σ m rfl) n hl ba (.aa bb (bs.map aD)) (fun base σ m=>by simp) xy0 ha f O;simp only[Cv,uR,fV]at hL;simp only[fV]at *;simp[aoI,M7,n1,n3,k1,k2,hz1,hp,hq,hpa,hag,hpl,hpi,hqb,hbg,hql,hqi,hw,c',hcall,hJ,hL,hm,jC]
 |inr no=>
  rw[hf]at hJ;obtain⟨f',O',hJ⟩:=hJ;simp only[yD,uR,DG,fV,bu,bh,eO,ed]at hJ;simp only[fV]at *;simp[aoI,M7,n1,n3,k1,k2,hz1,hp,hq,hpa,hag,hpl,hpi,hqb,hbg,hql,hqi,hw,c',hcall,hJ,hm,jC]
noncomputable def za(e:List EN)(_:Nat)(r:b8)(acc:aQ):aQ⊕Int:=if (dM e r).2=0 then .inl (if Ku (dM e r).1=true then acc++[r] else acc) else .inr (dM e r).2
noncomputable def tM(e:List EN)(rs:aQ):aQ×Int:=match aV (za e) rs 0 [] with
 |.inl out=>(out,0)
 |.inr no=>([],no)
theorem S3(t:Bool)(c0:ap)(ba:Bool)(all:List ap)(bk:Bool)(ks:List ap)(hz:∀fl top base σ m,(fl ||top)=true→fz fl top base σ (m+4) (.cptr t (fV c0 ba all bk ks) 0)=.cptr t (fV c0 ba all bk ks) 0)
  (n:bL) (p:Nat) (hp:n.l=(p:Int)) (b:Bool) (rs:aQ) (ha:all[p]?=some (.aa b (rs.map aD))) (hn:rs.length≤8000) (hc:n.cond.length≤most) (hr:vb rs) (hE:tc n.cond) :
  aK I.qbp [.cptr t (fV c0 ba all bk ks) 0,n.a]=some (.tup [.aa false ((tM n.cond rs).1.map aD),ar (tM n.cond rs).2]):=by
 rw[aA abz rfl];have hm:rs.length≤most:=by unfold most;omega
 have hpl:=(al.1 ha).1;have hag:∀hh:p<all.length,all[p]'hh=.aa b (rs.map aD):=fun hh=>(al.1 ha).2;have hpi:((p:Int)<(all.length:Int)):=by omega
 have hz1:∀base σ m,fz true false base σ (m+4) (.cptr t (fV c0 ba all bk ks) 0)=.cptr t (fV c0 ba all bk ks) 0:=fun base σ m=>hz true false base σ m rfl;have hz2:∀base σ m,fz false true base σ (m+4) (.cptr t (fV c0 ba all bk ks) 0)=.cptr t (fV c0 ba all bk ks) 0:=fun base σ m=>hz false true base σ m rfl;have n1:∀base σ m,fz true false base σ (m+3) n.a=n.a:=fun base σ m=>Ft.ft true false base σ m n rfl;have n2:∀base σ m,fz false true base σ (m+3) n.a=n.a:=fun base σ m=>Ft.ft false true base σ m n rfl;have n3:aC n.a=12∧isAgg n.a=true:=⟨rfl,rfl⟩;have k1:(cellsOf n.a)[1]?=some (ar n.l):=rfl;have k6:List.take 1 (List.drop 6 (cellsOf n.a))=[.aa n.bc (n.cond.map EN.a)]:=rfl;have k6m:∀σ,List.take 1 (List.drop 6 (List.map (fz true false 0 σ 19) (cellsOf n.a)))=[.aa n.bc (n.cond.map EN.a)]:=fun σ=>by
  rw[←List.map_drop,←List.map_take,k6];simp
 have h:=cT (base:=2) (clr:=[3,4,6,7,8,12,13,14]) (b:=wn) rs
  (fun k (acc:aQ)=>⟨[.cptr t (fV c0 ba all bk ks) 0,n.a,.ptr 0 0 0 0,.any,.any,.sl 1 acc.length 0 acc.length,.any,.any,.any,.aa b (rs.map aD),ar rs.length,ar k,.any,.any,.any],[.arr 12 0 [n.a],.arr 1 acc.length (acc.map aD)]⟩)
  (fun k acc=>acc.length≤k) (za n.cond)
  (fun acc=>(.ext 0,⟨[.cptr t (fV c0 ba all bk ks) 0,n.a,.ptr 0 0 0 0,.any,.any,.sl 1 acc.length 0 acc.length,.any,.any,.any,.aa b (rs.map aD),ar rs.length,ar rs.length,.bool false,.any,.any],[.arr 12 0 [n.a],.arr 1 acc.length (acc.map aD)]⟩))
  (fun (no:Int) o=>∃s,o=(.ret,s)∧dO .pure [.env 3,.env 4] (some (.ret,s))=some (.tup [.aa false [],ar no]))
  (fun k r acc hk hy hs=>by
   have ak:((k:Int)<(rs.length:Int)):=by omega
   have hH:=fun c=>MI c n.cond r hc (hr r (aw hy)) hE;have hrx:aD r=.aa false (r.map bW.a):=rfl;have h1:acc.length+1≤most:=by omega
   simp only[hrx]at hH;unfold za;generalize dM n.cond r=q at *;obtain⟨v,no⟩:=q;simp only at *;by_cases c:no=0
   ·rw[if_pos c];subst c;cases ht:Ku v with
    |false=>
     rw[ht]at hH;refine⟨?_,by simp;omega⟩;simp[wn,ak,hy,n2,n3,k6,k6m,hz2,hH,hrx,aX hk hm,aE,aH]
    |true=>
     rw[ht]at hH;refine⟨?_,by simp;omega⟩;simp[wn,ak,hy,n2,n3,k6,k6m,hz2,hH,hrx,append,h1,aX hk hm,aE,aH]
   rw[if_neg c];exact⟨_,by simp[wn,ak,hy,n2,n3,k6,k6m,hz2,hH,hrx,eo c];rfl,_,rfl,by simp⟩)
  (fun acc _=>by simp[wn]) [] (aM _)
 unfold tM;cases hf:aV (za n.cond) rs 0 [] with
 |inl out=>
  rw[hf]at h;have h:=h.2;have htk:List.take out.length (out.map aD)=out.map aD:=av (by simp);simp only[fV]at *;simp at h;simp[apq,Vg,n1,n3,k1,hz1,hp,ha,hag,hpl,hpi,h,htk]
 |inr no=>
  rw[hf]at h;obtain⟨o,h1,s,rfl,h2⟩:=h;simp only[fV]at *;simp at h1;simp[apq,Vg,n1,n3,k1,hz1,hp,ha,hag,hpl,hpi,h1,-dV];exact h2
noncomputable def Yb(r:b8)(_:Nat)(x:jM)(vals:b8):b8⊕Int:=if (dM x.l r).2=0 then .inl (vals++[(dM x.l r).1]) else .inr (dM x.l r).2
noncomputable def TV(items:List jM)(_:Nat)(r:b8)(acc:aQ):aQ⊕Int:=match aV (Yb r) items 0 [] with
 |.inl vals=>.inl (acc++[vals])
 |.inr no=>.inr no
noncomputable def p9(items:List jM)(rs:aQ):aQ×Int:=match aV (TV items) rs 0 [] with
 |.inl out=>(out,0)
 |.inr no=>([],no)
abbrev Lw(F:ap)(n:bL)(m:Nat)(e6 e7:ap)(b:Bool)(rs:aQ)(k:Nat)(e14 e15 e16 e17 e18:ap):List ap:=
 [F,n.a,.ptr 0 0 0 0,.any,.any,.sl 1 m 0 m,e6,e7,.any,.any,.any,.aa b (rs.map aD),ar rs.length,ar k,e14,e15,e16,e17,e18,.any]
theorem JN(F:ap)(hz:∀base σ m,fz false true base σ (m+4) F=F)(n:bL)(b:Bool)(rs:aQ)(k m:Nat)(O:aQ)(r:b8)(hr:Ng r)(hi:n.items.length≤8000)(ha:∀x∈n.items,x.l.length≤most∧tc x.l) :
  (∃vals,aV (Yb r) n.items 0 []=.inl vals∧vals.length=n.items.length∧cq code 3 [3,4,8,9,10,18,19] uy ⟨Lw F n m (aD r) (.sl 2 0 0 0) b rs k (.bool true) (.aa n.bi (n.items.map jM.a)) (ar n.items.length) (ar 0) .any,[.arr 12 0 [n.a],.arr 1 m (O.map aD),.arr 4 0 []]⟩ =
    some (.ext 2,⟨Lw F n m (aD r) (.sl 2 vals.length 0 vals.length) b rs k (.bool true) (.aa n.bi (n.items.map jM.a)) (ar n.items.length) (ar n.items.length) (.bool false),[.arr 12 0 [n.a],.arr 1 m (O.map aD),.arr 4 vals.length (vals.map bW.a)]⟩)) ∨
  (∃no,aV (Yb r) n.items 0 []=.inr no∧∃s,cq code 3 [3,4,8,9,10,18,19] uy ⟨Lw F n m (aD r) (.sl 2 0 0 0) b rs k (.bool true) (.aa n.bi (n.items.map jM.a)) (ar n.items.length) (ar 0) .any,[.arr 12 0 [n.a],.arr 1 m (O.map aD),.arr 4 0 []]⟩=some (.ret,s) ∧
    dO .pure [.env 3,.env 4] (some (.ret,s))=some (.tup [.aa false [],ar no])):=by
 have hm:n.items.length≤most:=by unfold most;omega
 have n2:∀base σ m,fz false true base σ (m+3) n.a=n.a:=fun base σ m=>Ft.ft false true base σ m n rfl;have h:=cT (base:=3) (clr:=[3,4,8,9,10,18,19]) (b:=uy) n.items
  (fun j (vals:b8)=>⟨Lw F n m (aD r) (.sl 2 vals.length 0 vals.length) b rs k (.bool true) (.aa n.bi (n.items.map jM.a)) (ar n.items.length) (ar j) .any,[.arr 12 0 [n.a],.arr 1 m (O.map aD),.arr 4 vals.length (vals.map bW.a)]⟩)
  (fun j vals=>vals.length=j) (Yb r)
  (fun vals=>(.ext 2,⟨Lw F n m (aD r) (.sl 2 vals.length 0 vals.length) b rs k (.bool true) (.aa n.bi (n.items.map jM.a)) (ar n.items.length) (ar n.items.length) (.bool false),[.arr 12 0 [n.a],.arr 1 m (O.map aD),.arr 4 vals.length (vals.map bW.a)]⟩))
  (fun (no:Int) o=>∃s,o=(.ret,s)∧dO .pure [.env 3,.env 4] (some (.ret,s))=some (.tup [.aa false [],ar no]))
  (fun j x vals hj hx hs=>by
   have ak:((j:Int)<(n.items.length:Int)):=by omega
   obtain⟨a1,a2⟩:=ha x (aw hx);have hV:=fun c=>Dz c x.l false r a1 hr a2;have hrx:aD r=.aa false (r.map bW.a):=rfl;have hxa:x.a=.agg [.aa x.b (x.l.map EN.a)]:=rfl;have h1:vals.length+1≤most:=by unfold most;omega
   unfold Yb;generalize dM x.l r=p at *;obtain⟨v,no⟩:=p;simp only[bW.a]at hV ⊢;by_cases c:no=0
   ·rw[if_pos c];subst c;refine⟨?_,by simp[hs]⟩;simp[uy,Lw,ak,hx,hrx,hxa,hV,n2,hz,append,h1,aX hj hm,aE,aH,ec,iB,bW.a]
   rw[if_neg c];exact⟨_,by simp[uy,Lw,ak,hx,hrx,hxa,hV,eo c];rfl,_,rfl,by simp⟩)
  (fun vals _=>by simp[uy,Lw]) [] rfl
 cases hf:aV (Yb r) n.items 0 [] with
 |inl vals=>
  rw[hf]at h;exact .inl ⟨vals,rfl,h.1,h.2⟩
 |inr no=>
  rw[hf]at h;obtain⟨o,h1,s,rfl,h2⟩:=h;exact .inr ⟨no,rfl,s,h1,h2⟩
theorem Q7(items:List jM):∀{l:aQ} {k:Nat} {O O':aQ},aV (TV items) l k O=.inl O'→O'.length=O.length+l.length
 |[],k,O,O',h=>by cases h;simp
 |r::l,k,O,O',h=>by
  simp only[aV]at h;unfold TV at h;cases hf:aV (Yb r) items 0 [] with
  |inl vals=>
   rw[hf]at h;have:=Q7 items (l:=l) h;simp at this ⊢;omega
  |inr no=>rw[hf]at h;cases h
theorem PY(t:Bool)(c0:ap)(ba:Bool)(all:List ap)(bk:Bool)(ks:List ap)(hz:∀fl top base σ m,(fl ||top)=true→fz fl top base σ (m+4) (.cptr t (fV c0 ba all bk ks) 0)=.cptr t (fV c0 ba all bk ks) 0)
  (n:bL) (p:Nat) (hp:n.l=(p:Int)) (b:Bool) (rs:aQ) (ha:all[p]?=some (.aa b (rs.map aD))) (hn:rs.length≤8000) (hi:n.items.length≤8000) (hx:∀x∈n.items,x.l.length≤most∧tc x.l) (hr:vb rs) :
  aK I.qbt [.cptr t (fV c0 ba all bk ks) 0,n.a]=some (.tup [.aa false ((p9 n.items rs).1.map aD),ar (p9 n.items rs).2]):=by
 rw[aA adK rfl];have hm:rs.length≤most:=by unfold most;omega
 have hpl:=(al.1 ha).1;have hag:∀hh:p<all.length,all[p]'hh=.aa b (rs.map aD):=fun hh=>(al.1 ha).2;have hpi:((p:Int)<(all.length:Int)):=by omega
 generalize hF:ap.cptr t (fV c0 ba all bk ks) 0=F at *;have hz1:∀base σ m,fz true false base σ (m+4) F=F:=fun base σ m=>hz true false base σ m rfl;have hz2:∀base σ m,fz false true base σ (m+4) F=F:=fun base σ m=>hz false true base σ m rfl;have n1:∀base σ m,fz true false base σ (m+3) n.a=n.a:=fun base σ m=>Ft.ft true false base σ m n rfl;have n2:∀base σ m,fz false true base σ (m+3) n.a=n.a:=fun base σ m=>Ft.ft false true base σ m n rfl;have n3:aC n.a=12∧isAgg n.a=true:=⟨rfl,rfl⟩;have k1:(cellsOf n.a)[1]?=some (ar n.l):=rfl;have k9:(cellsOf n.a)[9]?=some (.aa n.bi (n.items.map jM.a)):=rfl;have h:=cT (base:=2) (clr:=[3,4,6,7,8,9,10,14,15,16,17,18,19]) (b:=zq) rs
  (fun k (acc:aQ)=>⟨Lw F n acc.length .any .any b rs k .any .any .any .any .any,[.arr 12 0 [n.a],.arr 1 acc.length (acc.map aD)]⟩)
  (fun k acc=>acc.length=k) (TV n.items)
  (fun acc=>(.ext 0,⟨Lw F n acc.length .any .any b rs rs.length (.bool false) .any .any .any .any,[.arr 12 0 [n.a],.arr 1 acc.length (acc.map aD)]⟩))
  (fun (no:Int) o=>∃s,o=(.ret,s)∧dO .pure [.env 3,.env 4] (some (.ret,s))=some (.tup [.aa false [],ar no]))
  (fun k r acc hk hy hs=>by
   have ak:((k:Int)<(rs.length:Int)):=by omega
   have h1:acc.length+1≤most:=by omega
   have hR:=JN F hz2 n b rs k acc.length acc r (hr r (aw hy)) hi hx;have hrx:aD r=.aa false (r.map bW.a):=rfl;unfold TV;rcases hR with⟨vals,hf,hl,hI⟩|⟨no,hf,s,hI,h2⟩
   ·rw[hf];refine⟨?_,by simp[hs]⟩;have htk:(vals.map bW.a).take vals.length=vals.map bW.a:=av (by simp);simp only[Lw,hrx]at hI
    try simp at hI
    simp[zq,Lw,ak,hy,hrx,n2,k9,hz2,hI,htk,append,h1,aX hk hm,aE,aH,ec,iB,aD]
   rw[hf];simp only[Lw,hrx]at hI
   try simp at hI
   exact⟨_,by simp[zq,Lw,ak,hy,hrx,n2,k9,hz2,hI],s,rfl,h2⟩)
  (fun acc _=>by simp[zq,Lw]) [] rfl
 unfold p9;cases hf:aV (TV n.items) rs 0 [] with
 |inl out=>
  rw[hf]at h;have h:=h.2;have hlen:=Q7 n.items hf;have htk:List.take out.length (out.map aD)=out.map aD:=av (by simp);simp only[Lw]at h;simp at h;subst hF;simp only[fV]at *;simp[apL,Up,n1,n3,k1,hz1,hp,ha,hag,hpl,hpi,h,htk]
 |inr no=>
  rw[hf]at h;obtain⟨o,h1,s,rfl,h2⟩:=h;simp only[Lw]at h1;simp at h1;subst hF;simp only[fV]at *;simp[apL,Up,n1,n3,k1,hz1,hp,ha,hag,hpl,hpi,h1,-dV];exact h2
end Go.AM
