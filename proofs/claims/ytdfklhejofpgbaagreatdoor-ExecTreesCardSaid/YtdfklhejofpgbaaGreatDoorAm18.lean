/- Part of the proof. -/
import Derived.Test.YtdfklhejofpgbaaGreatDoorAm17
set_option linter.unusedVariables false
set_option linter.unusedSimpArgs false
namespace Go.AM
open P
set_option maxHeartbeats 64000000
set_option maxRecDepth 40000
attribute [local simp] aW bK
noncomputable def HL(rows:aQ)(_:Nat)(a:cC)(vals:b8):b8⊕Int:=
 if (vd a.tag a.arg rows).2=0 then .inl (vals++[(vd a.tag a.arg rows).1]) else .inr (vd a.tag a.arg rows).2
noncomputable def Gm(n:bL)(_:Nat)(g:b8×aQ)(O:aQ):aQ⊕Int:=match aV (HL g.2) n.ai 0 g.1 with
 |.inl vals=>.inl (O++[vals])
 |.inr no=>.inr no
noncomputable def xQ(n:bL)(rs:aQ):aQ×Int:=match aV (Gm n) (if rs=[]∧n.keys=[] then [([],[])] else ey n.keys rs) 0 [] with
 |.inl O=>(O,0)
 |.inr no=>([],no)
abbrev xO(F:ap)(n:bL)(Gc:ap)(m:Nat)(e8 e9:ap)(c:Bool)(L k:Int)(e18 e19 e20 e21:ap):List ap:=
 [F,n.a,.ptr 0 0 0 0,.any,.any,Gc,ar 0,.sl 1 m 0 m,e8,e9,.any,.any,.any,.bool false,.bool c,Gc,ar L,ar k,e18,e19,e20,e21,.any,.any]
theorem GV(F:ap)(hz:∀base σ m,fz false true base σ (m+4) F=F)(n:bL)(Gc Gc':ap)(hG:∀base σ m,fz false true base σ (m+4) Gc=Gc')(hG':∀base σ m,fz false true base σ (m+4) Gc'=Gc')(gx gy:ap)(hgx:∀base σ m,fz false true base σ (m+3) gx=gx)(hgy:∀base σ m,fz false true base σ (m+3) gy=gy)
  (hnx:aC gx=1∧isAgg gx=false) (hny:aC gy=1∧isAgg gy=false) (b':Bool) (rows:aQ) (hs:∀σ,fz true false 0 σ 20 gy=.aa b' (rows.map aD)) (hrl:rows.length≤8000) (hr:vb rows) (ha:agF n) (hn:n.ai.length≤8000)
  (key:b8) (hk:key.length≤8000) (m:Nat) (O:aQ) (c:Bool) (L k:Int) :
  match aV (HL rows) n.ai 0 key with
  |.inl vals=>vals.length=key.length+n.ai.length∧∃Gd,(Gd=Gc∨Gd=Gc')∧cq code 4 [3,4,10,11,12,22,23] th ⟨xO F n Gc m (.ptr 2 0 0 0) (.sl 3 0 0 key.length) c L k (.bool true) (.aa n.bg (n.ai.map cC.a)) (.int .i64 n.ai.length) (.int .i64 0),[.arr 12 0 [n.a],.arr 1 m (O.map aD),.arr 2 0 [.agg [gx,gy]],.arr 4 0 (key.map bW.a)]⟩ =
    some (.ext 2,⟨(xO F n Gd m (.ptr 2 0 0 0) (.sl 3 n.ai.length 0 vals.length) c L k (.bool true) (.aa n.bg (n.ai.map cC.a)) (ar n.ai.length) (ar n.ai.length)).set 22 (.bool false),[.arr 12 0 [n.a],.arr 1 m (O.map aD),.arr 2 0 [.agg [gx,gy]],.arr 4 n.ai.length (vals.map bW.a)]⟩)
  |.inr no=>∃s,cq code 4 [3,4,10,11,12,22,23] th ⟨xO F n Gc m (.ptr 2 0 0 0) (.sl 3 0 0 key.length) c L k (.bool true) (.aa n.bg (n.ai.map cC.a)) (.int .i64 n.ai.length) (.int .i64 0),[.arr 12 0 [n.a],.arr 1 m (O.map aD),.arr 2 0 [.agg [gx,gy]],.arr 4 0 (key.map bW.a)]⟩=some (.ret,s) ∧
    dO .pure [.env 3,.env 4] (some (.ret,s))=some (.tup [.aa false [],ar no]):=by
 have hm:n.ai.length≤most:=by unfold most;omega
 have n2:∀base σ m,fz false true base σ (m+3) n.a=n.a:=fun base σ m=>Ft.ft false true base σ m n rfl;have key':=uf (base:=4) (clr:=[3,4,10,11,12,22,23]) (b:=th) n.ai
  (fun j (vals:b8) t=>vals.length=key.length+j∧∃Gd,(Gd=Gc∨Gd=Gc')∧t=⟨xO F n Gd m (.ptr 2 0 0 0) (.sl 3 j 0 vals.length) c L k (.bool true) (.aa n.bg (n.ai.map cC.a)) (ar n.ai.length) (ar j),[.arr 12 0 [n.a],.arr 1 m (O.map aD),.arr 2 0 [.agg [gx,gy]],.arr 4 j (vals.map bW.a)]⟩)
  (HL rows)
  (fun vals o=>vals.length=key.length+n.ai.length∧∃Gd,(Gd=Gc∨Gd=Gc')∧o=(.ext 2,⟨(xO F n Gd m (.ptr 2 0 0 0) (.sl 3 n.ai.length 0 vals.length) c L k (.bool true) (.aa n.bg (n.ai.map cC.a)) (ar n.ai.length) (ar n.ai.length)).set 22 (.bool false),[.arr 12 0 [n.a],.arr 1 m (O.map aD),.arr 2 0 [.agg [gx,gy]],.arr 4 n.ai.length (vals.map bW.a)]⟩))
  (fun (no:Int) o=>∃s,o=(.ret,s)∧dO .pure [.env 3,.env 4] (some (.ret,s))=some (.tup [.aa false [],ar no]))
  (fun j a vals t hj hy ht=>by
   obtain⟨hl,Gd,hGd,rfl⟩:=ht;have ak:((j:Int)<(n.ai.length:Int)):=by omega
   obtain⟨a1,a2⟩:=ha a (aw hy);have hA:=fun b=>BZ a b rows hrl a1 hr a2;have a3:∀base σ m,fz true false base σ (m+3) a.a=a.a:=fun base σ m=>Ft.ft true false base σ m a rfl;have a4:∀base σ m,fz false true base σ (m+3) a.a=a.a:=fun base σ m=>Ft.ft false true base σ m a rfl;have hna:aC a.a=2∧isAgg a.a=true:=⟨rfl,rfl⟩;have h1:vals.length+1≤most:=by unfold most;omega
   have hGd':∀base σ m,fz false true base σ (m+4) Gd=Gc':=fun base σ m=>by
    rcases hGd with rfl|rfl
    ·exact hG base σ m
    exact hG' base σ m
   unfold HL;generalize vd a.tag a.arg rows=p at *;obtain⟨v,no⟩:=p;simp only[bW.a]at hA ⊢;by_cases cc:no=0
   ·rw[if_pos cc];subst cc;refine⟨_,?_,by simp[hl];omega,Gc',.inr rfl,rfl⟩;simp[th,xO,ak,hy,a3,a4,hna,hs,hA,n2,hz,hGd',hgx,hgy,hnx,hny,append,h1,aX hj hm,aE,aH,ec,iB,bW.a]
   rw[if_neg cc];exact⟨_,by simp[th,xO,ak,hy,a3,hna,hs,hA,hgx,hgy,hnx,hny,eo cc];rfl,_,rfl,by simp⟩)
  (fun vals t ht=>by
   obtain⟨hl,Gd,hGd,rfl⟩:=ht;exact⟨_,by simp[th,xO],hl,Gd,hGd,rfl⟩) key _ ⟨rfl,Gc,.inl rfl,rfl⟩
 simp only[show ((0:Nat):Int)=0 from rfl]at key';cases hf:aV (HL rows) n.ai 0 key with
 |inl vals=>
  rw[hf]at key';obtain⟨o,h1,h2,Gd,h3,rfl⟩:=key';exact⟨h2,Gd,h3,h1⟩
 |inr no=>
  rw[hf]at key';obtain⟨o,h1,s,rfl,h2⟩:=key';exact⟨s,h1,h2⟩
theorem S9(F:ap)(hz:∀base σ m,fz false true base σ (m+4) F=F)(n:bL)(G:List (b8×aQ))(hG8:G.length≤8000)(hGr:∀g∈G,g.1.length≤8000∧g.2.length≤8000∧vb g.2)(ha:agF n)(hn:n.ai.length≤8000)(c:Bool) :
  match aV (Gm n) G 0 [] with
  |.inl O=>cq code 2 [3,4,8,9,10,11,12,18,19,20,21,22,23] nJ ⟨xO F n (.aa false (G.map eS)) 0 .any .any c G.length 0 .any .any .any .any,[.arr 12 0 [n.a],.arr 1 0 []]⟩ =
    some (.ext 0,⟨xO F n (.aa false (G.map eS)) O.length .any .any c G.length G.length (.bool false) .any .any .any,[.arr 12 0 [n.a],.arr 1 O.length (O.map aD)]⟩)
  |.inr no=>∃s,cq code 2 [3,4,8,9,10,11,12,18,19,20,21,22,23] nJ ⟨xO F n (.aa false (G.map eS)) 0 .any .any c G.length 0 .any .any .any .any,[.arr 12 0 [n.a],.arr 1 0 []]⟩=some (.ret,s) ∧
    dO .pure [.env 3,.env 4] (some (.ret,s))=some (.tup [.aa false [],ar no]):=by
 have hm:G.length≤most:=by unfold most;omega
 have n2:∀base σ m,fz false true base σ (m+3) n.a=n.a:=fun base σ m=>Ft.ft false true base σ m n rfl;have k8:(cellsOf n.a)[8]?=some (.aa n.bg (n.ai.map cC.a)):=rfl;have n3:aC n.a=12∧isAgg n.a=true:=⟨rfl,rfl⟩;have h:=cT (base:=2) (clr:=[3,4,8,9,10,11,12,18,19,20,21,22,23]) (b:=nJ) G
  (fun k (O:aQ)=>⟨xO F n (.aa false (G.map eS)) O.length .any .any c G.length k .any .any .any .any,[.arr 12 0 [n.a],.arr 1 O.length (O.map aD)]⟩)
  (fun k O=>O.length=k) (Gm n)
  (fun O=>(.ext 0,⟨xO F n (.aa false (G.map eS)) O.length .any .any c G.length G.length (.bool false) .any .any .any,[.arr 12 0 [n.a],.arr 1 O.length (O.map aD)]⟩))
  (fun (no:Int) o=>∃s,o=(.ret,s)∧dO .pure [.env 3,.env 4] (some (.ret,s))=some (.tup [.aa false [],ar no]))
  (fun k g O hk hy hs=>by
   have ak:((k:Int)<(G.length:Int)):=by omega
   obtain⟨g1,g2,g3⟩:=hGr g (aw hy);have h1:O.length+1≤most:=by omega
   have hgc:eS g=.agg [aD g.1,.aa false (g.2.map aD)]:=rfl;have hrx:aD g.1=.aa false (g.1.map bW.a):=rfl;have hcl:=fun b=>rZ (enc:=bW.a) b g.1 (by unfold most;omega);have hR:=GV F hz n (.aa false (G.map eS)) (.aa false (G.map eS)) (fun base σ m=>by simp) (fun base σ m=>by simp) (aD g.1) (.aa false (g.2.map aD)) (fun base σ m=>by simp[hrx]) (fun base σ m=>by simp) ⟨rfl,rfl⟩ ⟨rfl,rfl⟩ false g.2 (fun σ=>by simp) g2 g3 ha hn g.1 g1 O.length O c G.length k;unfold Gm;cases hf:aV (HL g.2) n.ai 0 g.1 with
   |inl vals=>
    rw[hf]at hR;obtain⟨hl,Gd,hGd,hI⟩:=hR;obtain rfl:Gd=.aa false (G.map eS):=by rcases hGd with h|h<;>exact h
    refine⟨?_,by simp[hs]⟩;have htk:(vals.map bW.a).take vals.length=vals.map bW.a:=av (by simp);simp only[xO,hrx]at hI
    try simp at hI
    simp[nJ,xO,ak,hy,hgc,hrx,hcl,n2,n3,k8,hz,hI,htk,append,h1,aX hk hm,aE,aH,ec,iB,aD]
   |inr no=>
    rw[hf]at hR;obtain⟨s,hI,h2⟩:=hR;simp only[xO,hrx]at hI
    try simp at hI
    exact⟨_,by simp[nJ,xO,ak,hy,hgc,hrx,hcl,n2,n3,k8,hz,hI],s,rfl,h2⟩)
  (fun O _=>by simp[nJ,xO]) [] rfl
 simp only[show ((0:Nat):Int)=0 from rfl,bu,bh]at h;cases hf:aV (Gm n) G 0 [] with
 |inl O=>
  rw[hf]at h;exact h.2
 |inr no=>
  rw[hf]at h;obtain⟨o,h1,s,rfl,h2⟩:=h;exact⟨s,h1,h2⟩
abbrev aeF:ap:=.lst [.agg [.aj,.aj]]
theorem Wp(F:ap)(hz:∀base σ m,fz false true base σ (m+4) F=F)(n:bL)(ha:agF n)(hn:n.ai.length≤8000) :
  match aV (Gm n) [([],[])] 0 [] with
  |.inl O=>∃Gd,cq code 2 [3,4,8,9,10,11,12,18,19,20,21,22,23] nJ ⟨xO F n aeF 0 .any .any true 1 0 .any .any .any .any,[.arr 12 0 [n.a],.arr 1 0 []]⟩ =
    some (.ext 0,⟨xO F n Gd O.length .any .any true 1 1 (.bool false) .any .any .any,[.arr 12 0 [n.a],.arr 1 O.length (O.map aD)]⟩)
  |.inr no=>∃s,cq code 2 [3,4,8,9,10,11,12,18,19,20,21,22,23] nJ ⟨xO F n aeF 0 .any .any true 1 0 .any .any .any .any,[.arr 12 0 [n.a],.arr 1 0 []]⟩=some (.ret,s) ∧
    dO .pure [.env 3,.env 4] (some (.ret,s))=some (.tup [.aa false [],ar no]):=by
 have n2:∀base σ m,fz false true base σ (m+3) n.a=n.a:=fun base σ m=>Ft.ft false true base σ m n rfl;have k8:(cellsOf n.a)[8]?=some (.aa n.bg (n.ai.map cC.a)):=rfl;have n3:aC n.a=12∧isAgg n.a=true:=⟨rfl,rfl⟩;have hcn:∀σ,cA code 114 [.aj] σ=some (.frs 4 [],σ):=fun σ=>by
  have:=gZ (enc:=bW.a) false [] (by unfold most;simp);have h2:cA code I.qgu [.aa false []] σ=some (.frs 4 [],σ):=by
   rw[jj uM rfl];simp only[bh]at this;rw[this];rfl
  rw[eB fg uM]at h2;show cA code I.qgu [.aj] σ=_;rw[eB fg uM];exact h2
 have hR:=GV F hz n aeF (.aa false [.agg [.aa false [],.aa false []]]) (fun base σ m=>by simp) (fun base σ m=>by simp) .aj .aj (fun base σ m=>by simp) (fun base σ m=>by simp) ⟨rfl,rfl⟩ ⟨rfl,rfl⟩ false [] (fun σ=>by simp) (by simp) (fun r hr=>by cases hr) ha hn [] (by simp) 0 [] true 1 0;simp only[aV,Gm];cases hf:aV (HL []) n.ai 0 [] with
 |inl vals=>
  rw[hf]at hR;obtain⟨hl,Gd,hGd,hI⟩:=hR;have htk:(vals.map bW.a).take vals.length=vals.map bW.a:=av (by simp);have hGz:∀base σ m,fz false true base σ (m+4) Gd=.aa false [.agg [.aa false [],.aa false []]]:=fun base σ m=>by
   rcases hGd with rfl|rfl<;>simp
  simp only[xO]at hI;simp at hI;refine⟨.aa false [.agg [.aa false [],.aa false []]],?_⟩;rw[cg];have m1:(1:Nat)≤most:=by decide
  have m0:(0:Nat)≤most:=by decide
  simp[nJ,xO,hcn,n2,n3,k8,hz,hI,htk,append,m1,aE,aH,ec,iB,hGz,aD];rw[cg];have w1:IntKind.i64.wrap 1=1:=by decide
  simp[aD,w1]
 |inr no=>
  rw[hf]at hR;obtain⟨s,hI,h2⟩:=hR;simp only[xO]at hI
  try simp at hI
  refine⟨s,?_,h2⟩;rw[cg];simp[nJ,xO,hcn,n2,n3,k8,hz,hI]
theorem UL(t:Bool)(c0:ap)(ba:Bool)(all:List ap)(bk:Bool)(ks:List ap)(hz:∀fl top base σ m,(fl ||top)=true→fz fl top base σ (m+4) (.cptr t (fV c0 ba all bk ks) 0)=.cptr t (fV c0 ba all bk ks) 0)
  (n:bL) (p:Nat) (hp:n.l=(p:Int)) (b:Bool) (rs:aQ) (hb:all[p]?=some (.aa b (rs.map aD))) (hrs:rs.length≤8000) (hr:∀r∈rs,lc r=true) (hg:vb rs) (hh:∀r∈rs,EK r n.keys=true) (hc:n.keys.length≤16) (h0:∀c∈n.keys,0≤c) (hn:n.ai.length≤8000) (ha:agF n) :
  aK I.qbq [.cptr t (fV c0 ba all bk ks) 0,n.a]=some (.tup [.aa false ((xQ n rs).1.map aD),ar (xQ n rs).2]):=by
 rw[aA acK rfl];have hpl:=(al.1 hb).1;have hag:∀hh:p<all.length,all[p]'hh=.aa b (rs.map aD):=fun hh=>(al.1 hb).2;have hpi:((p:Int)<(all.length:Int)):=by omega
 have hz1:∀base σ m,fz true false base σ (m+4) (.cptr t (fV c0 ba all bk ks) 0)=.cptr t (fV c0 ba all bk ks) 0:=fun base σ m=>hz true false base σ m rfl;have hz2:∀base σ m,fz false true base σ (m+4) (.cptr t (fV c0 ba all bk ks) 0)=.cptr t (fV c0 ba all bk ks) 0:=fun base σ m=>hz false true base σ m rfl;have n1:∀base σ m,fz true false base σ (m+3) n.a=n.a:=fun base σ m=>Ft.ft true false base σ m n rfl;have n3:aC n.a=12∧isAgg n.a=true:=⟨rfl,rfl⟩;have k1:(cellsOf n.a)[1]?=some (ar n.l):=rfl;have k7:(cellsOf n.a)[7]?=some (.aa n.by' (kR n.keys)):=rfl;have hG:=fun b bc=>zm b bc rs n.keys hrs hr hh hc h0;unfold xQ;by_cases c1:rs=[]∧n.keys=[]
 ·rw[if_pos c1];obtain⟨c1,c2⟩:=c1;have hL:=Wp (.cptr t (fV c0 ba all bk ks) 0) hz2 n ha hn;have hg0:ey n.keys rs=[]:=by rw[c1,c2];rfl
  rw[hg0]at hG;rw[c2]at k7 hG;cases hf:aV (Gm n) [([],[])] 0 [] with
  |inl O=>
   rw[hf]at hL;obtain⟨Gd,hL⟩:=hL;have htk:List.take O.length (O.map aD)=O.map aD:=av (by simp);simp only[xO,fV,kR,bh]at *
   try simp at hL
   simp[aop,Fh,n1,n3,k1,k7,hz1,hp,hb,hag,hpl,hpi,hG,hL,htk]
  |inr no=>
   rw[hf]at hL;obtain⟨s,hL,h2⟩:=hL;simp only[xO,fV,kR,bh]at *
   try simp at hL
   simp[aop,Fh,n1,n3,k1,k7,hz1,hp,hb,hag,hpl,hpi,hG,hL,-dV];exact h2
 rw[if_neg c1];have hGl:(ey n.keys rs).length≤8000:=by
  have:=Bl n.keys rs.length (dL (sg n.keys) rs);rw[gj]at this;unfold ey;omega
 have hL:=S9 (.cptr t (fV c0 ba all bk ks) 0) hz2 n (ey n.keys rs) hGl (fun g hg'=>by
  obtain⟨h1,h2,a,_,h4⟩:=lk hg';refine⟨by rw[h4,wk];omega,by omega,fun r hr'=>hg r (h1 r hr')⟩) ha hn
 have hk0:n.keys=[]→rs≠[]:=fun h h'=>c1 ⟨h',h⟩;have hce:n.keys.length=0→(ey n.keys rs).length≠0:=fun h h'=>by
  have:=F0 (ah:=n.keys) (rs:=rs) (hk0 (bl h));exact this (bl h')
 generalize ey n.keys rs=G at *;have hz0:∀k:Nat,((k:Int)==0)=decide (k=0):=fun k=>by rw[eF,aP,decide_eq_true_iff];omega
 have hK:n.keys.length=0∨(n.keys.length≠0∧((n.keys.length:Int)==0)=false):=by
  by_cases h:n.keys.length=0
  ·exact .inl h
  exact .inr ⟨h,by rw[hz0];exact eH h⟩
 rcases hK with hK|⟨hK,hK'⟩
 ·have hG0:((G.length:Int)==0)=false:=by rw[hz0];exact eH (hce hK)
  have hL:=hL false;cases hf:aV (Gm n) G 0 [] with
  |inl O=>
   rw[hf]at hL;have htk:List.take O.length (O.map aD)=O.map aD:=av (by simp);simp only[xO,fV,kR]at *;simp[aop,Fh,n1,n3,k1,k7,hz1,hp,hb,hag,hpl,hpi,hG,hK,hG0,hL,htk]
  |inr no=>
   rw[hf]at hL;obtain⟨s,hL,h2⟩:=hL;simp only[xO,fV,kR]at *;simp[aop,Fh,n1,n3,k1,k7,hz1,hp,hb,hag,hpl,hpi,hG,hK,hG0,hL,-dV];exact h2
 have hL:=hL false;cases hf:aV (Gm n) G 0 [] with
 |inl O=>
  rw[hf]at hL;have htk:List.take O.length (O.map aD)=O.map aD:=av (by simp);simp only[xO,fV,kR]at *;simp[aop,Fh,n1,n3,k1,k7,hz1,hp,hb,hag,hpl,hpi,hG,hK',hL,htk]
 |inr no=>
  rw[hf]at hL;obtain⟨s,hL,h2⟩:=hL;simp only[xO,fV,kR]at *;simp[aop,Fh,n1,n3,k1,k7,hz1,hp,hb,hag,hpl,hpi,hG,hK',hL,-dV];exact h2
theorem G7{β:Type}{z:β}{eP:EN→List β→β×Int}{e:List EN}(ho:zU e=true)(h0:(oF z eP e).2=0) :
  ∃n,e.getLast?=some n∧∃l,l.length=(cF n.tag).toNat∧(eP n l).2=0∧(oF z eP e).1=(eP n l).1:=by
 unfold oF at h0 ⊢;cases hf:aV (lP eP) e 0 [] with
 |inr no=>
  rw[hf]at h0;simp only at h0;have key:∀(m:List EN) (k:Nat) (st:List β),aV (lP eP) m k st=.inr no→no≠0:=by
   intro m;induction m with
   |nil=>intro k st h;cases h
   |cons x m ih=>
    intro k st h;simp only[aV]at h;cases hg:lP eP k x st with
    |inl st'=>rw[hg]at h;exact ih _ _ h
    |inr p=>
     rw[hg]at h;cases h;unfold lP at hg;split at hg
     ·cases hg
     rename_i hne;cases hg;exact hne
  exact absurd h0 (key _ _ _ hf)
 |inl st=>
  have:=G0 (l:=e) (fun k st=>(∃a o,fN (e.take k) 0 [] []=some (a,o)∧st.length=o.length)∧(k=0∨∃n,e[k-1]?=some n∧∃l,l.length=(cF n.tag).toNat∧(eP n l).2=0∧st.getLast?=some (eP n l).1)) (fun k n st st' hy hi hg=>by
   obtain⟨⟨a,o,hf,hlo⟩,_⟩:=hi;obtain⟨a',o',hf',hs,h1,h2,h3,h4⟩:=sK ho hy hf;have hd:(st.drop (st.length-(cF n.tag).toNat)).length=(cF n.tag).toNat:=by rw[dE];omega
   have htl:(st.take (st.length-(cF n.tag).toNat)).length=st.length-(cF n.tag).toNat:=by rw[bO];omega
   unfold lP at hg;split at hg
   ·rename_i h0;cases hg;exact⟨⟨a',o',hf',by simp[htl,h4,hlo]⟩,.inr ⟨n,by simpa using hy,_,hd,h0,by simp⟩⟩
   cases hg) ⟨⟨[],[],by simp[fN],rfl⟩,.inl rfl⟩ hf
  obtain⟨⟨a,o,h1,h2⟩,h3⟩:=this;rw[cn]at h1;rw[C3 ho h1]at h2;obtain⟨x,rfl⟩:=lQ.1 h2
  ·rcases h3 with h3|⟨n,h3,l,h4,h5,h6⟩
   ·have:e=[]:=bl h3;subst this;exact absurd ho (by decide)
   refine⟨n,by rw[d7];exact h3,l,h4,h5,?_⟩;simpa using h6
theorem VQ{to:Int→Int→Int×Bool}{a b:bW}:(eP to a b).1.k=0∨(eP to a b).1.k=2:=by
 unfold eP;repeat' split
 all_goals simp[cu,iA]
theorem Sn(n:Int):(tD n).k=0∨(tD n).k=1:=by
 unfold tD;repeat' split
 all_goals simp[cu,gi]
theorem aaZ(a:bW):(Ct a).1.k=0∨(Ct a).1.k=1:=by
 unfold Ct;repeat' split
 all_goals first|exact .inl rfl|exact Sn _
theorem V2(is:Int→Bool)(a b:bW):(xj is a b).1.k=0∨(xj is a b).1.k=1:=by
 unfold xj;repeat' split
 all_goals simp[cu,gi]
theorem ZH(to:Int→Int→Int)(a b:bW):(ny to a b).1.k=0∨(ny to a b).1.k=1:=by
 unfold ny;repeat' split
 all_goals first|exact .inl rfl|exact Sn _
theorem afL{p:bW×Int}(h:p.1.k=0∨p.1.k=1):(Cr p).1.k=0∨(Cr p).1.k=1:=by
 unfold Cr;split
 ·exact aaZ _
 exact h
theorem aiS{t:Int}{a b:bW}(h1:t≠1)(h2:t≠2):(Gp t a b).1.k=0∨(Gp t a b).1.k=if sf t then 2 else 1:=by
 unfold Gp sf;by_cases t4:t=4
 ·subst t4;exact VQ
 rw[if_neg t4];by_cases t5:t=5
 ·subst t5;exact aaZ _
 rw[if_neg t5];by_cases t6:t=6
 ·subst t6;simp[gi]
 rw[if_neg t6];by_cases t7:t=7
 ·subst t7;simp[gi]
 rw[if_neg t7];by_cases c12:t=12
 ·subst c12;exact VQ
 rw[if_neg c12];by_cases c13:t=13
 ·subst c13;exact VQ
 rw[if_neg c13];by_cases c14:t=14
 ·subst c14;exact VQ
 rw[if_neg c14];by_cases c15:t=15
 ·subst c15;exact VQ
 rw[if_neg c15];have e:(if (t==4 ||decide (12≤t)&&decide (t≤15))=true then (2:Int) else 1)=1:=by
  rw[if_neg];simp;omega
 rw[e]
 repeat' split
 all_goals first|exact V2 _ _ _|exact afL (V2 _ _ _)|exact ZH _ _ _
theorem NC{e:List EN}{K:List Int}{r:b8}(hl:r.length=K.length)(hK:∀(i:Nat) (v:bW) (k:Int),r[i]?=some v→K[i]?=some k→v.k=0∨v.k=k)(hk:(eC e K).2=0)(hv:(dM e r).2=0):(dM e r).1.k=0∨(dM e r).1.k=(eC e K).1:=by
 unfold eC at *;unfold dM at *;cases ho:zU e with
 |false=>rw[ho]at hk;simp at hk
 |true=>
  rw[ho]at hk hv;simp only[dY,cz]at hk hv ⊢;split at hk
  ·cases hk
  rename_i n1;rw[if_neg n1];split at hk
  ·cases hk
  rename_i n2;rw[if_neg n2];split at hv
  ·cases hv
  rename_i n3;rw[if_neg n3];obtain⟨n,g1,l,g2,g3,g4⟩:=G7 ho hk;obtain⟨m,f1,x,f2,f3,f4⟩:=G7 ho hv;have:m=n:=by rw[g1]at f1;exact (cB f1).symm
  subst this;rw[g4,f4];have hm:m∈e:=jV g1;by_cases t1:m.tag=1
  ·right;simp[t1,oU,na]
  by_cases t2:m.tag=2
  ·have e3:(oU r m x).1=r.getD m.col.toNat cu:=by simp[oU,t1,t2]
   have e4:(na K m l).1=K.getD m.col.toNat 0:=by simp[na,t1,t2]
   rw[e3,e4];have hc:=bR.1 (fT.2 n3) _ (ww hm t2);simp only[cK,aL,cN,not_or,gT]at hc;by_cases hc0:m.col.toNat < r.length
   ·have e1:r[m.col.toNat]?=some r[m.col.toNat]:=am hc0;have hc1:m.col.toNat < K.length:=by omega
    have e2:K[m.col.toNat]?=some K[m.col.toNat]:=am hc1;have:=hK _ _ _ e1 e2;rw[au,e1,au,e2];exact this
   left;rw[au,dC (by omega)];rfl
  have e5:(oU r m x).1=(Gp m.tag (x.getD 0 cu) (x.getD (x.length-1) cu)).1:=by simp[oU,t1,t2]
  rw[e5];have hk:=aiS (a:=x.getD 0 cu) (b:=x.getD (x.length-1) cu) t1 t2;generalize (Gp m.tag (x.getD 0 cu) (x.getD (x.length-1) cu)).1=w at *;have e:(na K m l).2=0→(na K m l).1=if sf m.tag then 2 else 1:=by
   unfold na;rw[if_neg t1,if_neg t2];simp only;by_cases hc:(l.foldl Cs 0=-1∨l.foldl Cs 0≠0∧l.foldl Cs 0≠if sf m.tag=true then 2 else if m.tag=5∨m.tag=22∨m.tag=23 then 1 else l.foldl Cs 0)
   ·rw[if_pos hc];intro h;cases h
   rw[if_neg hc];intro _;rfl
  rw[←e g3]at hk;exact hk
theorem Tz{K:List Int}{n:bL}(h:kOk (nT [Sj K,BK n])=true):K.length≤16∧0<K.length∧mQ [Sj K,BK n] 1 (BK n) [⟨true,K⟩] [0]≠none:=by
 unfold nT at h;rw[if_neg (by simp)]at h;cases hk:Wx [Sj K,BK n] [Sj K,BK n] 0 [] [] with
 |inr i=>rw[hk]at h;cases h
 |inl q=>
  simp only[Wx]at hk;cases hs:mQ [Sj K,BK n] 0 (Sj K) [] [] with
  |none=>rw[hs]at hk;cases hk
  |some r=>
   rw[hs]at hk;simp only[b9]at hk;have hr:r=(⟨true,K⟩,[0])∧xu (Sj K)=true:=by
    unfold mQ at hs;have hp:u4 (Sj K) []=some []:=by simp[u4,Sj,eb,lu]
    rw[hp]at hs;simp only[ig,bC,false_or,bh]at hs;split at hs
    ·cases hs
    have ho:uO [Sj K,BK n] (Sj K) []=if xu (Sj K) then some ⟨true,K⟩ else none:=rfl
    rw[ho]at hs;split at hs
    ·cases hs
    rename_i res he;split at he
    ·rename_i hin;cases he;split at hs
     ·cases hs
     cases hs;exact⟨rfl,hin⟩
    cases he
   obtain⟨hr,hin⟩:=hr;rw[hr]at hk;unfold xu Sj at hin;simp only[aq,aL]at hin;refine⟨hin.2,hin.1.2,?_⟩;intro h0;simp only at hk;rw[h0]at hk;cases hk
structure al0 (K:List Int) (n:bL):Prop where
 keys:∀k∈n.keys,0≤k∧k<K.length
 k3:n.keys.length≤3
 a12:n.ai.length≤12
 ag:∀g∈n.ai,(ln K g).1=true
 no4:∀k∈K,k≠4
structure am8 (K:List Int) (n:bL):Prop where
 k3:n.keys.length≤3
 a12:n.ai.length≤12
 len:n.keys.length+n.ai.length=K.length
 keys:py K 0 n.keys=true
 ags:rS K n.keys.length n.ai=true

theorem Ci(b:Bool)(e:List EN)(bk:Bool)(af:List Int)(hn:e.length≤most)(hk:af.length≤most) :
  aK I.qev [.agg [.aa b (e.map EN.a)],.aa bk (aZ af)]=some (.bool (jU e af)):=by
 rw[aA ai6 rfl];have h:=fun b bk=>pD b e bk af hn hk;unfold jU;simp[apV,aaN,h]
 repeat' (split<;>(try simp_all))
theorem Jj(c:Int)(t bk:Bool)(af:List Int):aK I.qet [ar c,.cptr t (.aa bk (aZ af)) 0]=some (.bool (decide (c<0) ||decide ((af.length:Int)≤c))):=by
 rw[aA aiU rfl];cases t<;>simp[aqu,abL]<;>(repeat' (split<;>(try simp_all)))<;>omega
def kf(l af:List Int):Bool:=!(l.any fun c=>decide (c<0) ||decide ((af.length:Int)≤c))
theorem Lg(b:Bool)(l:List Int)(bk:Bool)(af:List Int)(hl:l.length≤most):aK I.qes [.aa b (l.map (.int .i64)),.aa bk (aZ af)]=some (.bool (kf l af)):=by
 rw[aA ai4 rfl];have hC:=iF (enc:=.int .i64) (b:=b) (l:=l) (f:=fS [.arr 1 0 [.aa bk (aZ af)]] (.fn 373 [] [.ptr 0 0 0 0])) (p:=fun c=>decide (c<0) ||decide ((af.length:Int)≤c)) hl (fun _=>⟨rfl,rfl⟩) (fun σ=>pJ _ _ _) (fun c _=>by
  simp[Jj])
 unfold kf;simp at hC;cases hA:(l.any fun c=>decide (c<0) ||decide ((af.length:Int)≤c))<;>rw[hA]at hC<;>simp[aqr,acI,hC]
theorem K1(k:Int):aK I.qeu [ar k]=some (.bool (k==1 ||k==2 ||k==3)):=by
 rw[aA ajH rfl];simp[arx,aaM]
 repeat' (split<;>(try simp_all))
theorem KK(k:Int):aK I.qen [ar k]=some (.bool (decide (k<1) ||decide (3<k))):=by
 rw[aA akV rfl];have h:=K1 k;have e:(!(k==1 ||k==2 ||k==3))=(decide (k<1) ||decide (3<k)):=by
  rw[eF];simp;omega
 rw[←e];simp[aqw,acx,h]
theorem Mf(o:Int×Bool)(t bk:Bool)(a:List Int):aK I.qek [jl o,.cptr t (.aa bk (aZ a)) 0]=some (.bool (decide (o.1<0) ||decide ((a.length:Int)≤o.1))):=by
 rw[aA akZ rfl];obtain⟨c,d⟩:=o;cases t<;>simp[aqN,adI,jl]<;>(repeat' (split<;>(try simp_all)))<;>omega
def fL(op:Int):Int:=if op=1 then 0 else if op=2∨op=7 then 2 else 1
theorem MZ(op:Int):aK I.qer [ar op]=some (ar (fL op)):=by
 rw[aA aif rfl];unfold fL;simp[aqF,abj]
 repeat' (split<;>(try simp_all))
def Mc(n:bL):Bool:=n.tab==0&&n.af.length==0&&!n.left&&n.cond.length==0&&n.keys.length==0&&n.ai.length==0&&n.items.length==0&&n.ords.length==0&&n.limit==0
theorem Ni(n:bL):aK I.qew [n.a]=some (.bool (Mc n)):=by
 rw[aA aki rfl];have hz:∀{α:Type} (l:List α),(l=[]∧((l.length:Int)==0)=true∧(l.length==0)=true)∨(l≠[]∧((l.length:Int)==0)=false∧(l.length==0)=false):=fun l=>by
  cases l with
  |nil=>exact .inl ⟨rfl,rfl,rfl⟩
  |cons x r=>exact .inr ⟨by simp,by simp;omega,by simp⟩
 unfold Mc;by_cases c1:n.tab=0
 ·rcases hz n.af with⟨c2,c2',c2''⟩|⟨c2,c2',c2''⟩
  ·cases c3:n.left with
   |true=>simp[aoj,xm,bL.a,c1,c2,c3]
   |false=>
    rcases hz n.cond with⟨c4,c4',c4''⟩|⟨c4,c4',c4''⟩
    ·rcases hz n.keys with⟨c5,c5',c5''⟩|⟨c5,c5',c5''⟩
     ·rcases hz n.ai with⟨c6,c6',c6''⟩|⟨c6,c6',c6''⟩
      ·rcases hz n.items with⟨c7,c7',c7''⟩|⟨c7,c7',c7''⟩
       ·rcases hz n.ords with⟨c8,c8',c8''⟩|⟨c8,c8',c8''⟩
        ·simp[aoj,xm,bL.a,c1,c2,c3,c4,c5,c6,c7,c8]
        simp[aoj,xm,bL.a,c1,c2,c3,c4,c5,c6,c7,c8',c8'']
       simp[aoj,xm,bL.a,c1,c2,c3,c4,c5,c6,c7',c7'']
      simp[aoj,xm,bL.a,c1,c2,c3,c4,c5,c6',c6'']
     simp[aoj,xm,bL.a,c1,c2,c3,c4,c5',c5'']
    simp[aoj,xm,bL.a,c1,c2,c3,c4',c4'']
  simp[aoj,xm,bL.a,c1,c2',c2'']
 simp[aoj,xm,bL.a,c1,bE c1]
def u6(af:List Int)(g:cC):Int:=if g.tag=1∨g.tag=2∨g.tag=3 then 2 else if g.tag=4∨g.tag=5 then (eC g.arg af).1 else 0
theorem ZA{af:List Int}{g:cC}(h:(ln af g).1=true):u6 af g=(ln af g).2:=by
 unfold ln u6 at *;by_cases t1:g.tag=1
 ·simp[t1]
 rw[if_neg t1]at h ⊢;simp at h;by_cases t45:g.tag=4∨g.tag=5
 ·have:¬(g.tag=1∨g.tag=2∨g.tag=3):=by omega
  simp[t45,this]
 have:(g.tag=1∨g.tag=2∨g.tag=3):=by omega
 simp[t45,this]
theorem SE(g:cC)(bk:Bool)(af:List Int)(hg:g.arg.length≤most)(hk:af.length≤most) :
  aK I.qea [g.a,.aa bk (aZ af)]=some (.tup [ar (u6 af g),.bool (ln af g).1]):=by
 rw[aA ajX rfl];have h:=fun b bk=>pD b g.arg bk af hg hk;unfold ln u6;by_cases t1:g.tag=1
 ·rw[if_pos t1];simp[aoy,Hj,cC.a,t1];rw[eF];simp
 rw[if_neg t1];generalize (eC g.arg af).1=kk at *;generalize (eC g.arg af).2=no at *;by_cases t2:g.tag=2
 ·simp[aoy,Hj,cC.a,t2,h]
 by_cases t3:g.tag=3
 ·simp[aoy,Hj,cC.a,t3,h]
  repeat' (split<;>(try simp_all))
 by_cases t45:g.tag=4∨g.tag=5
 ·rcases t45 with t|t<;>simp[aoy,Hj,cC.a,t,h]
 have t4:¬g.tag=4:=fun h=>t45 (.inl h);have t5:¬g.tag=5:=fun h=>t45 (.inr h);have:(no==0&&decide (1<g.tag)&&decide (g.tag≤5)&&(g.tag != 3 ||kk==2 ||kk==0))=false:=by
  rw[fT];intro hh;simp at hh;omega
 rw[this];simp[aoy,Hj,cC.a,t1,t2,t3,t4,t5,bE t1,bE t2,bE t3,bE t4,bE t5,h]
section
abbrev pP(bn:Bool)(ns:List bL)(bk:Bool)(ks:List (dI Int))(bf:Bool)(fs:List Nat):ap:=.agg [.aa bn (ns.map bL.a),.aa bk (ks.map (dI.c (.int .i64))),.aa bf (fa fs)]
section
variable (t bn:Bool) (ns:List bL) (bk:Bool) (ks:List (dI Int)) (bf:Bool) (fs:List Nat) (n:bL)
theorem HC:∀base σ m,fz true false base σ (m+4) (.cptr t (pP bn ns bk ks bf fs) 0)=.cptr t (pP bn ns bk ks bf fs) 0:=fun base σ m=>by
 cases t<;>simp
theorem Om(p q:Nat)(hp:n.l=(p:Int))(hq:n.r=(q:Int))(a b:dI Int)(ha:ks[p]?=some a)(hb:ks[q]?=some b)(hc:n.cond.length≤most)(hl:a.l.length+b.l.length≤most) :
  aK I.qei [.cptr t (pP bn ns bk ks bf fs) 0,n.a]=some (.tup [.aa false (aZ (a.l++b.l)),.bool (jU n.cond (a.l++b.l))]):=by
 rw[aA akr rfl];have hpl:=(al.1 ha).1;have hag:∀hh:p<ks.length,ks[p]'hh=a:=fun hh=>(al.1 ha).2;have hpi:((p:Int)<(ks.length:Int)):=by omega
 have hql:=(al.1 hb).1;have hbg:∀hh:q<ks.length,ks[q]'hh=b:=fun hh=>(al.1 hb).2;have hqi:((q:Int)<(ks.length:Int)):=by omega
 have h:=fun b' bk=>Ci b' n.cond bk (a.l++b.l) hc (by simpa using hl);have hcc:∀t,aK I.qhc [.aa t [.aa a.b (aZ a.l),.aa b.b (aZ b.l)]]=some (.aa false (aZ (a.l++b.l))):=fun t=>by
  have:=vL (enc:=.int .i64) t [a,b] (by simpa using hl) (by simp[most]);simpa using this
 have hz1:=HC t bn ns bk ks bf fs;have n1:∀base σ m,fz true false base σ (m+3) n.a=n.a:=fun base σ m=>Ft.ft true false base σ m n rfl;have n3:aC n.a=12∧isAgg n.a=true:=⟨rfl,rfl⟩;have k1:(cellsOf n.a)[1]?=some (ar n.l):=rfl;have k2:(cellsOf n.a)[2]?=some (ar n.r):=rfl;have k6:List.take 1 (List.drop 6 (cellsOf n.a))=[.aa n.bc (n.cond.map EN.a)]:=rfl;have k6':(cellsOf n.a)[6]?=some (.aa n.bc (n.cond.map EN.a)):=rfl;simp only[aZ,dy]at h hcc;simp[aqf,adC,h,hcc,hz1,n1,n3,k1,k2,k6,k6',hp,hq,ha,hb,hpl,hag,hpi,hql,hbg,hqi]
def LL(a:List Int)(s:Bool×Nat×List Int)(e:jM):Bool×Nat×List Int:=(s.1&&(eC e.l a).2==0,s.2.1+1,s.2.2++[(eC e.l a).1])
theorem FU(a:List Int):∀(l:List jM) (ok:Bool) (ep:Nat) (acc:List Int),l.foldl (LL a) (ok,ep,acc)=(ok&&l.all (fun e=>(eC e.l a).2==0),ep+l.length,acc++l.map fun e=>(eC e.l a).1)
 |[],ok,ep,acc=>by simp
 |e::l,ok,ep,acc=>by
  rw[eG,LL,FU a l];simp[jv,ct,d9 1]
theorem Hx(a:List Int):∀(l:List jM),oe a l=if l.all (fun e=>(eC e.l a).2==0) then some (l.map fun e=>(eC e.l a).1) else none
 |[]=>rfl
 |e::l=>by
  unfold oe;rw[Hx a l];by_cases h:(eC e.l a).2=0
  ·by_cases h2:(l.all fun e=>(eC e.l a).2==0)=true
   ·rw[if_pos h,if_pos h2,if_pos (by rw[eL,h2,h];rfl)];rfl
   rw[if_pos h,if_neg h2,if_neg (by rw[eL,h];simpa using h2)];rfl
  rw[if_neg h,if_neg (by rw[eL,bE h];simp)]
theorem Gy(p:Nat)(hp:n.l=(p:Int))(a:dI Int)(ha:ks[p]?=some a)(hi:n.items.length≤most)(he:∀e∈n.items,e.l.length≤most)(hal:a.l.length≤most) :
  aK I.qel [.cptr t (pP bn ns bk ks bf fs) 0,n.a]=some (.tup [.aa false (aZ (n.items.map fun e=>(eC e.l a.l).1)),.bool (decide (1≤n.items.length)&&decide (n.items.length≤16)&&n.items.all (fun e=>(eC e.l a.l).2==0))]):=by
 rw[aA abI rfl];have hpl:=(al.1 ha).1;have hag:∀hh:p<ks.length,ks[p]'hh=a:=fun hh=>(al.1 ha).2;have hpi:((p:Int)<(ks.length:Int)):=by omega
 have hz1:=HC t bn ns bk ks bf fs;have hz2:∀base σ m,fz false true base σ (m+4) (.cptr t (pP bn ns bk ks bf fs) 0)=.cptr t (pP bn ns bk ks bf fs) 0:=fun base σ m=>by cases t<;>simp
 have n1:∀base σ m,fz true false base σ (m+3) n.a=n.a:=fun base σ m=>Ft.ft true false base σ m n rfl;have n2:∀base σ m,fz false true base σ (m+3) n.a=n.a:=fun base σ m=>Ft.ft false true base σ m n rfl;have n3:aC n.a=12∧isAgg n.a=true:=⟨rfl,rfl⟩;have k1:(cellsOf n.a)[1]?=some (ar n.l):=rfl;have k9:(cellsOf n.a)[9]?=some (.aa n.bi (n.items.map jM.a)):=rfl;have h:=fun ok0:Bool=>(ea (base:=2) (clr:=[7,8,9,13]) (b:=Dn) n.items
  (fun k (s:Bool×Nat×List Int)=>⟨[.cptr t (pP bn ns bk ks bf fs) 0,n.a,.ptr 0 0 0 0,.aj,.bool false,.bool s.1,.sl 1 s.2.1 0 s.2.2.length,.any,.any,.any,.aa n.bi (n.items.map jM.a),ar n.items.length,ar k,.any],[.arr 12 0 [n.a],.arr 1 s.2.1 (aZ s.2.2)]⟩)
  (fun k s=>s.2.2.length≤k) (LL a.l)
  (fun s=>(.ext 0,⟨[.cptr t (pP bn ns bk ks bf fs) 0,n.a,.ptr 0 0 0 0,.aj,.bool false,.bool s.1,.sl 1 s.2.1 0 s.2.2.length,.any,.any,.any,.aa n.bi (n.items.map jM.a),ar n.items.length,ar n.items.length,.bool false],[.arr 12 0 [n.a],.arr 1 s.2.1 (aZ s.2.2)]⟩))
  (fun k e s hk hy hs=>by
   obtain⟨ok,ep,acc⟩:=s;simp only at hs;have ak:((k:Int)<(n.items.length:Int)):=by omega
   have h5:acc.length+1≤most:=by omega
   have hkd:=fun b bk=>pD b e.l bk a.l (he e (aw hy)) hal;refine⟨?_,by simp[LL];omega⟩;unfold LL;cases ok<;>simp[Dn,ak,hy,jM.a,hkd,hag,hpl,hpi,ha,hp,n3,k1,append,h5,aX hk hi,aE,aH,hz2,n2])
  (fun s _=>by simp[Dn]) (ok0,0,[]) (by simp)).1
 simp only[FU]at h;have hA:(decide (1≤n.items.length)&&decide (n.items.length≤16))=true∨(1≤n.items.length∧¬n.items.length≤16)∨¬1≤n.items.length:=by
  by_cases c1:1≤n.items.length<;>by_cases c2:n.items.length≤16<;>simp[c1,c2]
 simp at h;rcases hA with c|⟨c1,c2⟩|c1
 ·simp at c;obtain⟨c1,c2⟩:=c;have c1':(1:Int)≤(n.items.length:Int):=by omega
  have c2':(n.items.length:Int)≤16:=by omega
  simp[aoZ,Qt,hz1,n1,n3,k9,h,c1,c2,c1',c2']
 ·have c1':(1:Int)≤(n.items.length:Int):=by omega
  have c2':¬(n.items.length:Int)≤16:=by omega
  simp[aoZ,Qt,hz1,n1,n3,k9,h,c1,c2,c1',c2']
 have c1':¬(1:Int)≤(n.items.length:Int):=by omega
 simp[aoZ,Qt,hz1,n1,n3,k9,h,c1,c1']
end
end
section
section
variable (t bn:Bool) (ns:List bL) (bk:Bool) (ks:List (dI Int)) (bf:Bool) (fs:List Nat) (n:bL)
def unG(k:Nat)(o:Int)(s:Bool×List Int):Bool×List Int⊕Empty:=.inl (s.1&&((if s.2.getD k 0=0 then o else s.2.getD k 0)==o ||o==0),if s.2.getD k 0=0 then s.2.set k o else s.2)
theorem ME:∀(b a pre:List Int) (ok:Bool),a.length=b.length→∃out,aV unG b pre.length (ok,pre++a)=.inl (ok&&(ev a b).isSome,out)∧out.length=pre.length+a.length∧∀r,ev a b=some r→out=pre++r
 |[],a,pre,ok,h=>by
  obtain rfl:a=[]:=bl h;exact⟨pre,by simp[aV,ev],by simp,fun r hr=>by simp[ev]at hr;simp[←hr]⟩
 |o::b,[],pre,ok,h=>by cases h
 |o::b,k::a,pre,ok,h=>by
  have ih:=ME b a (pre++[if k=0 then o else k]) (ok&&((if k=0 then o else k)==o ||o==0)) (by simpa using h);obtain⟨out,h1,h2,h3⟩:=ih;have hget:(pre++k::a).getD pre.length 0=k:=by simp[au]
  have hset:(if k=0 then (pre++k::a).set pre.length o else pre++k::a)=pre++[if k=0 then o else k]++a:=by
   by_cases hk:k=0
   ·simp[hk]
   simp[hk]
  have hu:ev (k::a) (o::b)=if o≠0∧o≠(if k=0 then o else k) then none else (ev a b).map ((if k=0 then o else k)::·):=rfl
  refine⟨out,?_,by simp at h2 ⊢;omega,?_⟩
  ·simp only[aV,unG,hget,hset];rw[show pre.length+1=(pre++[if k=0 then o else k]).length by simp,h1,hu];clear h1 h2 h3 hset hu;generalize (if k=0 then o else k)=w;by_cases hc:o≠0∧o≠w
   ·have hc1:(o==0)=false:=by simp[hc.1]
    have hc2:(w==o)=false:=by simp;exact fun h=>hc.2 h.symm
    simp[hc,hc1,hc2]
   have:(w==o ||o==0)=true:=by
    simp;by_cases h0:o=0
    ·exact .inr h0
    by_cases h1:o=w
    ·exact .inl h1.symm
    exact absurd ⟨h0,h1⟩ hc
   rw[if_neg hc,this];simp
  intro r hr;rw[hu]at hr;by_cases hc:o≠0∧o≠(if k=0 then o else k)
  ·rw[if_pos hc]at hr;cases hr
  rw[if_neg hc]at hr;cases hq:ev a b with
  |none=>rw[hq]at hr;cases hr
  |some q=>
   rw[hq]at hr;simp only[dd,aJ]at hr;rw[h3 q hq,←hr,jo];rfl
theorem KA(p q:Nat)(hp:n.l=(p:Int))(hq:n.r=(q:Int))(a b:dI Int)(ha:ks[p]?=some a)(hb:ks[q]?=some b)(hal:a.l.length≤most)(hlen:a.l.length=b.l.length) :
  ∃out,aK I.qeo [.cptr t (pP bn ns bk ks bf fs) 0,n.a]=some (.tup [.aa false (aZ out),.bool (ev a.l b.l).isSome])∧∀r,ev a.l b.l=some r→out=r:=by
 obtain⟨out,h1,h2,h3⟩:=ME b.l a.l [] true hlen;refine⟨out,?_,by simpa using h3⟩;rw[aA Xp rfl];have hpl:=(al.1 ha).1;have hag:∀hh:p<ks.length,ks[p]'hh=a:=fun hh=>(al.1 ha).2;have hpi:((p:Int)<(ks.length:Int)):=by omega
 have hql:=(al.1 hb).1;have hbg:∀hh:q<ks.length,ks[q]'hh=b:=fun hh=>(al.1 hb).2;have hqi:((q:Int)<(ks.length:Int)):=by omega
 have hz1:=HC t bn ns bk ks bf fs;have hz2:∀base σ m,fz false true base σ (m+4) (.cptr t (pP bn ns bk ks bf fs) 0)=.cptr t (pP bn ns bk ks bf fs) 0:=fun base σ m=>by cases t<;>simp
 have n1:∀base σ m,fz true false base σ (m+3) n.a=n.a:=fun base σ m=>Ft.ft true false base σ m n rfl;have n2:∀base σ m,fz false true base σ (m+3) n.a=n.a:=fun base σ m=>Ft.ft false true base σ m n rfl;have n3:aC n.a=12∧isAgg n.a=true:=⟨rfl,rfl⟩;have k1:(cellsOf n.a)[1]?=some (ar n.l):=rfl;have k2:(cellsOf n.a)[2]?=some (ar n.r):=rfl;have hbm:b.l.length≤most:=by omega
 have h:=cT (base:=2) (clr:=[9,10,15,16]) (b:=up) b.l
  (fun k (s:Bool×List Int)=>⟨[.cptr t (pP bn ns bk ks bf fs) 0,n.a,.ptr 0 0 0 0,.aj,.bool false,.aa a.b (aZ a.l),.aa b.b (aZ b.l),.sl 1 0 0 a.l.length,.bool s.1,.any,.any,.bool false,.aa b.b (aZ b.l),ar b.l.length,ar k,.any,.any],[.arr 12 0 [n.a],.arr 1 0 (aZ s.2)]⟩)
  (fun _ s=>s.2.length=a.l.length) unG
  (fun s=>(.ext 0,⟨[.cptr t (pP bn ns bk ks bf fs) 0,n.a,.ptr 0 0 0 0,.aj,.bool false,.aa a.b (aZ a.l),.aa b.b (aZ b.l),.sl 1 0 0 a.l.length,.bool s.1,.any,.any,.bool false,.aa b.b (aZ b.l),ar b.l.length,ar b.l.length,.bool false,.any],[.arr 12 0 [n.a],.arr 1 0 (aZ s.2)]⟩))
  (fun (r:Empty) _=>r.elim)
  (fun k o s hk hy hs=>by
   obtain⟨ok,X⟩:=s;simp only at hs;unfold unG;have ak:((k:Int)<(b.l.length:Int)):=by omega
   have hkX:k<X.length:=by omega
   have hkA:k<a.l.length:=by omega
   refine⟨?_,by simp only;split<;>simp[hs]⟩;have hof:X[k]?=some (X.getD k 0):=by simp[au,hkX]
   have hge:∀h:k<X.length,X[k]'h=X.getD k 0:=fun h=>(al.1 hof).2;generalize hw:X.getD k 0=w at *;by_cases c:w=0
   ·subst c;cases ok<;>by_cases c2:o=0
    all_goals simp[up,ak,hy,hof,hge,hkX,hkA,hs,n3,aX hk hbm,aE,aH,hz2,n2,c2,bE]
   cases ok
   ·simp[up,ak,hy,hof,hge,hkX,hkA,hs,n3,aX hk hbm,aE,aH,hz2,n2,c,bE c]
   by_cases c2:w=o
   ·subst c2;simp[up,ak,hy,hof,hge,hkX,hkA,hs,n3,aX hk hbm,aE,aH,hz2,n2,c,bE c]
   simp[up,ak,hy,hof,hge,hkX,hkA,hs,n3,aX hk hbm,aE,aH,hz2,n2,c,bE c,c2,bE c2])
  (fun s _=>by simp[up]) (true,a.l) rfl
 simp only[bu,b9]at h1;rw[h1]at h;obtain⟨_,h⟩:=h;have hcl:=lg (enc:=.int .i64) a.b a.l hal;have hne:((a.l.length:Int) != (b.l.length:Int))=false:=by simp[hlen]
 simp only[show ((0:Nat):Int)=0 from rfl]at h;simp at h2;have htk:List.take a.l.length (out.map (ap.int .i64))=out.map (.int .i64):=av (by simp[h2]);simp only[aZ]at *;simp[apx,UA,hz1,n1,n3,k1,k2,hp,hq,ha,hb,hpl,hag,hpi,hql,hbg,hqi,hne,hcl,h,h2,htk]
end
end
section
section
variable (t bn:Bool) (ns:List bL) (bk:Bool) (ks:List (dI Int)) (bf:Bool) (fs:List Nat) (n:bL)
theorem NT(p q:Nat)(hp:n.l=(p:Int))(hq:n.r=(q:Int))(a b:dI Int)(ha:ks[p]?=some a)(hb:ks[q]?=some b)(hlen:a.l.length≠b.l.length) :
  aK I.qeo [.cptr t (pP bn ns bk ks bf fs) 0,n.a]=some (.tup [.aa false [],.bool false]):=by
 rw[aA Xp rfl];have hpl:=(al.1 ha).1;have hag:∀hh:p<ks.length,ks[p]'hh=a:=fun hh=>(al.1 ha).2;have hpi:((p:Int)<(ks.length:Int)):=by omega
 have hql:=(al.1 hb).1;have hbg:∀hh:q<ks.length,ks[q]'hh=b:=fun hh=>(al.1 hb).2;have hqi:((q:Int)<(ks.length:Int)):=by omega
 have hz1:=HC t bn ns bk ks bf fs;have n1:∀base σ m,fz true false base σ (m+3) n.a=n.a:=fun base σ m=>Ft.ft true false base σ m n rfl;have n3:aC n.a=12∧isAgg n.a=true:=⟨rfl,rfl⟩;have k1:(cellsOf n.a)[1]?=some (ar n.l):=rfl;have k2:(cellsOf n.a)[2]?=some (ar n.r):=rfl;have hne:((a.l.length:Int) != (b.l.length:Int))=true:=by simp;omega
 simp[apx,UA,hz1,n1,n3,k1,k2,hp,hq,ha,hb,hpl,hag,hpi,hql,hbg,hqi,hne]
def nu(a:List Int):Bool:=jA n&&kf n.keys a
def Wc(a:List Int)(s:Nat×List Int)(x:Int):Nat×List Int:=(s.1+1,s.2++[a.getD x.toNat 0])
theorem GE(a:List Int):∀(l:List Int) (ep:Nat) (acc:List Int),l.foldl (Wc a) (ep,acc)=(ep+l.length,acc++l.map fun x=>a.getD x.toNat 0)
 |[],ep,acc=>by simp
 |x::l,ep,acc=>by
  rw[eG,Wc,GE a l];simp[ct,d9 1]
def XZ(a:List Int)(s:Bool×Nat×List Int)(g:cC):Bool×Nat×List Int:=(s.1&&(ln a g).1,s.2.1+1,s.2.2++[u6 a g])
theorem Hq(a:List Int):∀(l:List cC) (ok:Bool) (ep:Nat) (acc:List Int),l.foldl (XZ a) (ok,ep,acc)=(ok&&l.all (fun g=>(ln a g).1),ep+l.length,acc++l.map (u6 a))
 |[],ok,ep,acc=>by simp
 |g::l,ok,ep,acc=>by
  rw[eG,XZ,Hq a l];simp[jv,ct,d9 1]
theorem M8(p:Nat)(hp:n.l=(p:Int))(a:dI Int)(ha:ks[p]?=some a)(hk:n.keys.length≤qU)(hg:n.ai.length≤qU)(he:∀g∈n.ai,g.arg.length≤most)(hal:a.l.length≤most) :
  aK I.qeh [.cptr t (pP bn ns bk ks bf fs) 0,n.a]=some (if nu n a.l then .tup [.aa false (aZ ((n.keys.map fun x=>a.l.getD x.toNat 0)++n.ai.map (u6 a.l))),.bool (n.ai.all fun g=>(ln a.l g).1)] else .tup [.aa false [],.bool false]):=by
 rw[aA abf rfl];have hkm:n.keys.length≤most:=aI hk (by decide);have hgm:n.ai.length≤most:=aI hg (by decide);have hkg:n.keys.length+n.ai.length≤68719476736:=aI (nG hk hg) (by decide);have hw:IntKind.i64.wrap ((n.keys.length:Int)+(n.ai.length:Int))=(n.keys.length:Int)+n.ai.length:=rn (by omega) (by omega);have hpl:=(al.1 ha).1;have hag:∀hh:p<ks.length,ks[p]'hh=a:=fun hh=>(al.1 ha).2;have hpi:((p:Int)<(ks.length:Int)):=by omega
 have hz1:=HC t bn ns bk ks bf fs;have hz2:∀base σ m,fz false true base σ (m+4) (.cptr t (pP bn ns bk ks bf fs) 0)=.cptr t (pP bn ns bk ks bf fs) 0:=fun base σ m=>by cases t<;>simp
 have n1:∀base σ m,fz true false base σ (m+3) n.a=n.a:=fun base σ m=>Ft.ft true false base σ m n rfl;have n2:∀base σ m,fz false true base σ (m+3) n.a=n.a:=fun base σ m=>Ft.ft false true base σ m n rfl;have n3:aC n.a=12∧isAgg n.a=true:=⟨rfl,rfl⟩;have k1:(cellsOf n.a)[1]?=some (ar n.l):=rfl;have k7:(cellsOf n.a)[7]?=some (.aa n.by' (n.keys.map (.int .i64))):=rfl;have k8:(cellsOf n.a)[8]?=some (.aa n.bg (n.ai.map cC.a)):=rfl;have hP:=fun b bk=>Lg b n.keys bk a.l hkm;simp only[aZ]at hP;by_cases c1:n.keys.length≤3
 ·have c1':(n.keys.length:Int)≤3:=by omega
  by_cases c2:n.ai.length≤12
  ·have c2':(n.ai.length:Int)≤12:=by omega
   by_cases c3:0<n.keys.length+n.ai.length
   ·have c3':(0:Int)<(n.keys.length:Int)+n.ai.length:=by omega
    cases c4:kf n.keys a.l with
    |false=>
     have e:nu n a.l=false:=by unfold nu;rw[c4];simp
     rw[c4]at hP;simp[aoA,Hv,hz1,n1,n3,k1,k7,k8,hp,ha,hag,hpl,hpi,c1',c2',c3',hw,hP,e]
    |true=>
     have e:nu n a.l=true:=by unfold nu jA;rw[c4];simp[c1,c2];omega
     rw[c4]at hP;have hin:∀x∈n.keys,0≤x∧x<a.l.length:=fun x hx=>by
      unfold kf at c4;simp only[cN,bR]at c4;have:=c4 x hx;simp at this;omega
     have h1:=(ea (base:=2) (clr:=[8,16]) (b:=CL) n.keys
      (fun k (s:Nat×List Int)=>⟨[.cptr t (pP bn ns bk ks bf fs) 0,n.a,.ptr 0 0 0 0,.aj,.bool false,.aa a.b (aZ a.l),.bool true,.sl 1 s.1 0 s.2.length,.any,.any,.any,.any,.bool false,.aa n.by' (n.keys.map (.int .i64)),ar n.keys.length,ar k,.any,.any,.any,.any,.any],[.arr 12 0 [n.a],.arr 1 s.1 (aZ s.2)]⟩)
      (fun k s=>s.2.length≤k) (Wc a.l)
      (fun s=>(.ext 0,⟨[.cptr t (pP bn ns bk ks bf fs) 0,n.a,.ptr 0 0 0 0,.aj,.bool false,.aa a.b (aZ a.l),.bool true,.sl 1 s.1 0 s.2.length,.any,.any,.any,.any,.bool false,.aa n.by' (n.keys.map (.int .i64)),ar n.keys.length,ar n.keys.length,.bool false,.any,.any,.any,.any],[.arr 12 0 [n.a],.arr 1 s.1 (aZ s.2)]⟩))
      (fun k x s hk' hy hs=>by
       obtain⟨ep,acc⟩:=s;simp only at hs;have ak:((k:Int)<(n.keys.length:Int)):=by omega
       have h5:acc.length+1≤most:=by omega
       obtain⟨x0,x1⟩:=hin x (aw hy);refine⟨?_,by simp[Wc];omega⟩;have e3:a.l[x.toNat]?=some (a.l.getD x.toNat 0):=by
        have:x.toNat < a.l.length:=by omega
        simp[au,this]
       unfold Wc;generalize a.l.getD x.toNat 0=w at *;simp[CL,ak,hy,x0,e3,append,h5,aX hk' hkm,aE,aH,hz2,n2])
      (fun s _=>by simp[CL]) (0,[]) (by simp)).1
     have h2:=(ea (base:=2) (clr:=[9,10,11,20]) (b:=Db) n.ai
      (fun k (s:Bool×Nat×List Int)=>⟨[.cptr t (pP bn ns bk ks bf fs) 0,n.a,.ptr 0 0 0 0,.aj,.bool false,.aa a.b (aZ a.l),.bool s.1,.sl 1 s.2.1 0 s.2.2.length,.any,.any,.any,.any,.bool false,.aa n.by' (n.keys.map (.int .i64)),ar n.keys.length,ar n.keys.length,.bool false,.aa n.bg (n.ai.map cC.a),ar n.ai.length,ar k,.any],[.arr 12 0 [n.a],.arr 1 s.2.1 (aZ s.2.2)]⟩)
      (fun k s=>s.2.2.length≤n.keys.length+k) (XZ a.l)
      (fun s=>(.ext 2,⟨[.cptr t (pP bn ns bk ks bf fs) 0,n.a,.ptr 0 0 0 0,.aj,.bool false,.aa a.b (aZ a.l),.bool s.1,.sl 1 s.2.1 0 s.2.2.length,.any,.any,.any,.any,.bool false,.aa n.by' (n.keys.map (.int .i64)),ar n.keys.length,ar n.keys.length,.bool false,.aa n.bg (n.ai.map cC.a),ar n.ai.length,ar n.ai.length,.bool false],[.arr 12 0 [n.a],.arr 1 s.2.1 (aZ s.2.2)]⟩))
      (fun k g s hk' hy hs=>by
       obtain⟨ok,ep,acc⟩:=s;simp only at hs;have ak:((k:Int)<(n.ai.length:Int)):=by omega
       have h5:acc.length+1≤most:=by unfold most;omega
       have hgz:aC g.a=2∧isAgg g.a=true:=⟨rfl,rfl⟩;have g1:∀base σ m,fz true false base σ (m+3) g.a=g.a:=fun base σ m=>Ft.ft true false base σ m g rfl;have g2:∀base σ m,fz false true base σ (m+3) g.a=g.a:=fun base σ m=>Ft.ft false true base σ m g rfl;have hA:=fun bk=>SE g bk a.l (he g (aw hy)) hal;refine⟨?_,by simp[XZ];omega⟩;unfold XZ;cases ok<;>simp[Db,ak,hy,hgz,g1,g2,hA,append,h5,aX hk' hgm,aE,aH,hz2,n2])
      (fun s _=>by simp[Db]) (true,n.keys.length,n.keys.map fun x=>a.l.getD x.toNat 0) (by simp)).1
     rw[GE]at h1;rw[Hq]at h2;simp only[ew]at h2;generalize hL:(n.keys.map fun x=>a.l.getD x.toNat 0)++n.ai.map (u6 a.l)=L at h2 ⊢;simp at h1 h2;simp only[aZ]at *;simp[aoA,Hv,hz1,n1,n3,k1,k7,k8,hp,ha,hag,hpl,hpi,c1',c2',c3',hw,hP,e,h1,h2]
   have c3':¬(0:Int)<(n.keys.length:Int)+n.ai.length:=by omega
   have e:nu n a.l=false:=by unfold nu jA;simp;omega
   simp[aoA,Hv,hz1,n1,n3,k1,k7,k8,hp,ha,hag,hpl,hpi,c1',c2',c3',hw,e]
  have c2':¬(n.ai.length:Int)≤12:=by omega
  have e:nu n a.l=false:=by unfold nu jA;simp;omega
  simp[aoA,Hv,hz1,n1,n3,k1,k7,k8,hp,ha,hag,hpl,hpi,c1',c2',hw,e]
 have c1':¬(n.keys.length:Int)≤3:=by omega
 have e:nu n a.l=false:=by unfold nu jA;simp;omega
 simp[aoA,Hv,hz1,n1,n3,k1,k7,k8,hp,ha,hag,hpl,hpi,c1',hw,e]
end
end
structure iN (K:List Int) (r:b8):Prop where
 len:r.length=K.length
 iv:∀v∈r,Iv v
 kd:∀(i:Nat) (v:bW) (k:Int),r[i]?=some v→K[i]?=some k→v.k=0∨v.k=k
abbrev mX(K:List Int)(rs:aQ):Prop:=∀r∈rs,iN K r
theorem iN.ok{K:List Int}{r:b8}(h:iN K r)(hK:K.length≤16):lc r=true:=by
 unfold lc;simp only[aq,aL,aG];exact⟨by rw[h.len];exact hK,fun v hv=>Ro (h.iv v hv)⟩
theorem iN.rg{K:List Int}{r:b8}(h:iN K r):Ng r:=fun v hv=>(h.iv v hv).2
theorem mX.rg{K:List Int}{rs:aQ}(h:mX K rs):vb rs:=fun r hr=>(h r hr).rg
theorem iN.app{K K':List Int}{r r':b8}(h:iN K r)(h':iN K' r'):iN (K++K') (r++r'):=by
 refine⟨by simp[h.len,h'.len],fun v hv=>?_,fun i v k hr hk=>?_⟩
 ·rcases bT.1 hv with hv|hv
  ·exact h.iv v hv
  exact h'.iv v hv
 by_cases hi:i<r.length
 ·rw[bB hi]at hr;rw[bB (by rw[←h.len];exact hi)]at hk;exact h.kd i v k hr hk
 rw[bQ (by omega)]at hr;rw[bQ (by rw[←h.len];omega)]at hk;rw[←h.len]at hk;exact h'.kd _ v k hr hk
theorem iN.nul(K:List Int):iN K (List.replicate K.length cu):=
 ⟨by simp,fun v hv=>by rw[la hv];exact mu,fun i v k hr _=>by
  have:v=cu:=la (aw hr);rw[this];exact .inl rfl⟩
theorem iN.eval{K:List Int}{r:b8}(h:iN K r){e:List EN}(hE:tc e)(hk:(eC e K).2=0)(hv:(dM e r).2=0):Iv (dM e r).1∧((dM e r).1.k=0∨(dM e r).1.k=(eC e K).1):=
 ⟨QA h.rg hE hv,NC h.len h.kd hk hv⟩
theorem iN.snoc{K:List Int}{r:b8}{v:bW}{k:Int}(h:iN K r)(hv:Iv v)(hk:v.k=0∨v.k=k):iN (K++[k]) (r++[v]):=
 h.app ⟨rfl,fun w hw=>by rw[ce.1 hw];exact hv,fun i w l hw hl=>by
  cases i with
  |zero=>simp at hw hl;subst hw;subst hl;exact hk
  |succ i=>simp at hw⟩
theorem iN.nil:iN [] []:=⟨rfl,by simp,by simp⟩
theorem AG{K:List Int}{r:b8}(h:iN K r):∀(l:List jM) (k:Nat) (vals out:b8) (K0:List Int),(∀x∈l,tc x.l∧(eC x.l K).2=0)→iN K0 vals→aV (Tn r) l k vals=.inl out→iN (K0++l.map fun x=>(eC x.l K).1) out
 |[],k,vals,out,K0,hl,hv,hf=>by cases hf;simpa using hv
 |x::l,k,vals,out,K0,hl,hv,hf=>by
  simp only[aV]at hf;unfold Tn at hf;by_cases c:(dM x.l r).2=0
  ·rw[if_pos c]at hf;obtain⟨hE,hk⟩:=hl x (by simp);obtain⟨h1,h2⟩:=h.eval hE hk c;have:=AG h l (k+1) _ out _ (fun y hy=>hl y (by simp[hy])) (hv.snoc h1 h2) hf;simpa using this
  rw[if_neg c]at hf;cases hf
theorem D8:∀{a b u:List Int} {r:b8},ev a b=some u→iN a r→a.length=b.length→iN u r
 |[],[],u,r,h,hr,_=>by simp[ev]at h;subst h;exact hr
 |[],_::_,_,_,_,_,hl=>by cases hl
 |_::_,[],_,_,_,_,hl=>by cases hl
 |k::a,o::b,u,r,h,hr,hl=>by
  have hu:ev (k::a) (o::b)=if o≠0∧o≠(if k=0 then o else k) then none else (ev a b).map ((if k=0 then o else k)::·):=rfl
  rw[hu]at h;by_cases hc:o≠0∧o≠(if k=0 then o else k)
  ·rw[if_pos hc]at h;cases h
  rw[if_neg hc]at h;cases hq:ev a b with
  |none=>rw[hq]at h;cases h
  |some q=>
   rw[hq]at h;simp only[dd,aJ]at h;subst h;obtain⟨h1,h2,h3⟩:=hr;cases r with
   |nil=>cases h1
   |cons v r=>
    have hv:=h2 v (by simp);have hk:=h3 0 v k rfl rfl;have ih:=D8 (r:=r) hq ⟨by simpa using h1,fun w hw=>h2 w (by simp[hw]),fun i w l hw hl=>h3 (i+1) w l (by simpa using hw) (by simpa using hl)⟩ (by simpa using hl);refine⟨by simp[ih.len],h2,fun i w l hw hl=>?_⟩;cases i with
    |zero=>
     simp at hw hl;subst hw;subst hl;by_cases k0:k=0
     ·left;subst k0;simpa using hk
     rw[if_neg k0];exact hk
    |succ i=>exact ih.kd i w l (by simpa using hw) (by simpa using hl)
theorem DP:∀{a b u:List Int} {r:b8},ev a b=some u→iN b r→a.length=b.length→iN u r
 |[],[],u,r,h,hr,_=>by simp[ev]at h;subst h;exact hr
 |[],_::_,_,_,_,_,hl=>by cases hl
 |_::_,[],_,_,_,_,hl=>by cases hl
 |k::a,o::b,u,r,h,hr,hl=>by
  have hu:ev (k::a) (o::b)=if o≠0∧o≠(if k=0 then o else k) then none else (ev a b).map ((if k=0 then o else k)::·):=rfl
  rw[hu]at h;by_cases hc:o≠0∧o≠(if k=0 then o else k)
  ·rw[if_pos hc]at h;cases h
  rw[if_neg hc]at h;cases hq:ev a b with
  |none=>rw[hq]at h;cases h
  |some q=>
   rw[hq]at h;simp only[dd,aJ]at h;subst h;obtain⟨h1,h2,h3⟩:=hr;cases r with
   |nil=>cases h1
   |cons v r=>
    have hk:=h3 0 v o rfl rfl;have ih:=DP (r:=r) hq ⟨by simpa using h1,fun w hw=>h2 w (by simp[hw]),fun i w l hw hl=>h3 (i+1) w l (by simpa using hw) (by simpa using hl)⟩ (by simpa using hl);refine⟨by simp[ih.len],h2,fun i w l hw hl=>?_⟩;cases i with
    |zero=>
     simp at hw hl;subst hw;subst hl;by_cases o0:o=0
     ·left;subst o0;simpa using hk
     have:o=if k=0 then o else k:=by
      by_cases he:o=if k=0 then o else k
      ·exact he
      exact absurd ⟨o0,he⟩ hc
     rw[←this];exact hk
    |succ i=>exact ih.kd i w l (by simpa using hw) (by simpa using hl)
theorem EH{K:List Int}{r:b8}(h:iN K r):∀(keys:List Int),kf keys K=true→iN (keys.map fun x=>K.getD x.toNat 0) (lA r keys)
 |[],_=>iN.nil
 |x::keys,hp=>by
  have hx:0≤x∧x<K.length:=by
   unfold kf at hp;simp at hp;omega
  have hp':kf keys K=true:=by
   unfold kf at hp ⊢;simp only[fW,Bool.not_or,aq]at hp;exact hp.2
  have ih:=EH h keys hp';have hr:x.toNat < r.length:=by rw[h.len];omega
  have hK:x.toNat < K.length:=by omega
  have e1:r[x.toNat]?=some r[x.toNat]:=am hr;have e2:K[x.toNat]?=some K[x.toNat]:=am hK;have c1:jY r x=r[x.toNat]:=by unfold jY;rw[au,e1];rfl
  have c2:K.getD x.toNat 0=K[x.toNat]:=by rw[au,e2];rfl
  have:iN [K[x.toNat]] [r[x.toNat]]:=⟨rfl,fun w hw=>by rw[ce.1 hw];exact h.iv _ (aF hr),fun i w l hw hl=>by
   cases i with
   |zero=>simp at hw hl;subst hw;subst hl;exact h.kd _ _ _ e1 e2
   |succ i=>simp at hw⟩
  have:=this.app ih;show iN (K.getD x.toNat 0::_) (jY r x::_);rw[c1,c2];exact this
theorem Y2{K:List Int}{rs:aQ}(h:mX K rs)(hn:rs.length≤8000)(g:cC)(hE:tc g.arg)(hk:(ln K g).1=true)(h0:(vd g.tag g.arg rs).2=0):Iv (vd g.tag g.arg rs).1∧((vd g.tag g.arg rs).1.k=0∨(vd g.tag g.arg rs).1.k=u6 K g):=by
 have hrl:=mX.rg h;have hI:=KM (e:=g.arg) (rs:=rs) hrl hE;have hlen:(kD g.arg rs).1.length≤8000:=by
  unfold kD;split
  ·simp
  simp only;have:∀l:aQ,(l.flatMap (AP g.arg)).length≤l.length:=fun l=>by
   induction l with
   |nil=>simp
   |cons r l ih=>
    have:(AP g.arg r).length≤1:=by unfold AP;split<;>simp
    simp only[fY,bV,bj];omega
  exact aI (this rs) hn
 have hints:∀n:Nat,n≤8000→Iv (iA (n:Int)):=fun n h=>N4 (by unfold rg;omega);unfold ln at hk;unfold vd at h0 ⊢;unfold u6;by_cases t1:g.tag=1
 ·rw[if_pos t1,if_pos (.inl t1)];exact⟨hints _ hn,.inr rfl⟩
 rw[if_neg t1]at h0 ⊢;rw[if_neg t1]at hk;simp only[aq,aP,aL]at hk;obtain⟨⟨⟨k1,k2⟩,k3⟩,k4⟩:=hk;by_cases c2:(kD g.arg rs).2=2
 ·rw[if_pos c2]at h0;cases h0
 rw[if_neg c2]at h0 ⊢;by_cases c3:g.tag=3∧(kD g.arg rs).1.any (fun v=>!(v.k==2))=true
 ·rw[if_pos c3]at h0;cases h0
 rw[if_neg c3]at h0 ⊢;by_cases c4:(kD g.arg rs).2≠0
 ·rw[if_pos c4]at h0;exact absurd h0 c4
 rw[if_neg c4]at h0 ⊢;by_cases t2:g.tag=2
 ·rw[if_pos t2,if_pos (.inr (.inl t2))];exact⟨hints _ hlen,.inr rfl⟩
 rw[if_neg t2]at h0 ⊢;by_cases t3:g.tag=3
 ·rw[if_pos t3]at h0 ⊢;rw[if_pos (.inr (.inr t3))];generalize SB (kD g.arg rs).1=s at *;cases s with
  |none=>exact⟨mu,.inl rfl⟩
  |some x=>
   simp only[Ma]at h0 ⊢;split at h0
   ·rename_i hx;rw[if_pos hx];exact⟨N4 (by unfold rg;omega),.inr rfl⟩
   cases h0
 rw[if_neg t3]at h0 ⊢;rw[if_neg (show ¬(g.tag=1∨g.tag=2∨g.tag=3) by omega),if_pos (show g.tag=4∨g.tag=5 by omega)];have hmem:∀v∈(kD g.arg rs).1,Iv v∧(v.k=0∨v.k=(eC g.arg K).1):=fun v hv=>by
  refine⟨hI v hv,?_⟩;unfold kD at hv;split at hv
  ·cases hv
  obtain⟨r,hr,hv⟩:=jJ.1 hv;unfold AP at hv;split at hv
  ·rename_i hc;rw[ce.1 hv];exact ((h r hr).eval hE k1 hc.1).2
  cases hv
 generalize (kD g.arg rs).1=l at *;have hmin:∀w,(w=cu∨w∈l)→Iv w∧(w.k=0∨w.k=(eC g.arg K).1):=fun w hw=>by
  rcases hw with rfl|hw
  ·exact⟨mu,.inl rfl⟩
  exact hmem w hw
 split
 ·refine hmin _ ?_;cases l with
  |nil=>exact .inl rfl
  |cons v r=>
   rcases Kz mI r v with e|e
   ·right;unfold JM;simp only;rw[e];simp
   right;exact aO _ e
 refine hmin _ ?_;cases l with
 |nil=>exact .inl rfl
 |cons v r=>
  rcases M2 mI r v with e|e
  ·right;unfold wq;simp only;rw[e];simp
  right;exact aO _ e
theorem AJ(e:List EN):∀(l:aQ) (k:Nat) (acc:aQ),match aV (za e) l k acc with
  |.inl out=>out=acc++l.filter (fun r=>Ku (dM e r).1)∧aV (F8 e) l k acc=.inl out
  |.inr no=>no≠0∧aV (F8 e) l k acc=.inr ()
 |[],k,acc=>by simp[aV]
 |r::l,k,acc=>by
  simp only[aV,za,F8];by_cases c:(dM e r).2=0
  ·rw[if_pos c,if_pos c];have ih:=AJ e l (k+1) (if Ku (dM e r).1=true then acc++[r] else acc);simp only;cases hf:aV (za e) l (k+1) (if Ku (dM e r).1=true then acc++[r] else acc) with
   |inl out=>
    rw[hf]at ih;refine⟨?_,ih.2⟩;rw[ih.1,List.filter_cons];cases hT:Ku (dM e r).1<;>simp
   |inr no=>rw[hf]at ih;exact ih
  rw[if_neg c,if_neg c];exact⟨c,rfl⟩
theorem RM(r:b8):∀(l:List jM) (k:Nat) (acc:b8),match aV (Yb r) l k acc with
  |.inl out=>aV (Tn r) l k acc=.inl out
  |.inr no=>no≠0∧aV (Tn r) l k acc=.inr ()
 |[],k,acc=>by simp[aV]
 |x::l,k,acc=>by
  simp only[aV,Yb,Tn];by_cases c:(dM x.l r).2=0
  ·rw[if_pos c,if_pos c];exact RM r l (k+1) _
  rw[if_neg c,if_neg c];exact⟨c,rfl⟩
theorem CK(items:List jM):∀(l:aQ) (k:Nat) (acc:aQ),match aV (TV items) l k acc with
  |.inl out=>aV (X8 items) l k acc=.inl out∧out.length=acc.length+l.length∧∀Q:b8→Prop,(∀r∈acc,Q r)→(∀r∈l,∀v,aV (Tn r) items 0 []=.inl v→Q v)→∀r∈out,Q r
  |.inr no=>no≠0∧aV (X8 items) l k acc=.inr ()
 |[],k,acc=>by simp[aV]
 |r::l,k,acc=>by
  have hi:=RM r items 0 [];simp only[aV,TV,X8];cases hf:aV (Yb r) items 0 [] with
  |inl v=>
   rw[hf]at hi;rw[hi];simp only;have ih:=CK items l (k+1) (acc++[v]);cases hg:aV (TV items) l (k+1) (acc++[v]) with
   |inl out=>
    rw[hg]at ih;refine⟨ih.1,by simp at ih ⊢;omega,fun Q h1 h2=>ih.2.2 Q (fun q hq=>?_) (fun q hq=>h2 q (by simp[hq]))⟩;rcases bT.1 hq with hq|hq
    ·exact h1 q hq
    rw[ce.1 hq];exact h2 r (by simp) v hi
   |inr no=>rw[hg]at ih;exact ih
  |inr no=>
   rw[hf]at hi;rw[hi.2];exact⟨hi.1,rfl⟩
theorem He(e:List EN)(i:Nat)(x:b8):∀(l:aQ) (k:Nat) (s:List Bool×aQ),match aV (fun _ y=>sR e i (x++y)) l k s with
  |.inl t=>aV (fun _ y=>uD e i (x++y)) l k s=.inl t∧t.1.length=s.1.length∧t.2.length≤s.2.length+l.length∧∀Q:b8→Prop,(∀r∈s.2,Q r)→(∀y∈l,Q (x++y))→∀r∈t.2,Q r
  |.inr no=>no≠0∧aV (fun _ y=>uD e i (x++y)) l k s=.inr ()
 |[],k,s=>by simp[aV]
 |y::l,k,s=>by
  simp only[aV,sR,uD];by_cases c:(dM e (x++y)).2=0
  ·rw[if_pos c,if_pos c];simp only;have ih:=He e i x l (k+1) (if Ku (dM e (x++y)).1=true then (s.1.set i true,s.2++[x++y]) else s);cases hf:aV (fun _ y=>sR e i (x++y)) l (k+1) (if Ku (dM e (x++y)).1=true then (s.1.set i true,s.2++[x++y]) else s) with
   |inl t=>
    rw[hf]at ih;obtain⟨h1,h2,h3,h4⟩:=ih;refine⟨h1,?_,?_,fun Q q1 q2=>h4 Q (fun r hr=>?_) (fun z hz=>q2 z (by simp[hz]))⟩
    ·rw[h2];split<;>simp
    ·split at h3
     ·simp at h3 ⊢;omega
     simp at h3 ⊢;omega
    split at hr
    ·rcases bT.1 hr with hr|hr
     ·exact q1 r hr
     rw[ce.1 hr];exact q2 y (by simp)
    exact q1 r hr
   |inr no=>rw[hf]at ih;exact ih
  rw[if_neg c,if_neg c];exact⟨c,rfl⟩
theorem ui(e:List EN)(bs:aQ):∀(l:aQ) (k:Nat) (s:List Bool×aQ),match aV (nW e bs) l k s with
  |.inl t=>aV (nY e bs) l k s=.inl t∧t.1.length=s.1.length∧∀Q:b8→Prop,(∀r∈s.2,Q r)→(∀x∈l,∀y∈bs,Q (x++y))→∀r∈t.2,Q r
  |.inr no=>no≠0∧aV (nY e bs) l k s=.inr ()
 |[],k,s=>by simp[aV]
 |x::l,k,s=>by
  have hi:=He e k x bs 0 s;simp only[aV,nW,nY];cases hf:aV (fun _ y=>sR e k (x++y)) bs 0 s with
  |inl t=>
   rw[hf]at hi;obtain⟨h1,h2,_,h4⟩:=hi;rw[h1];simp only;have ih:=ui e bs l (k+1) t;cases hg:aV (nW e bs) l (k+1) t with
   |inl u=>
    rw[hg]at ih;exact⟨ih.1,by rw[ih.2.1,h2],fun Q q1 q2=>ih.2.2 Q (h4 Q q1 (fun y hy=>q2 x (by simp) y hy)) (fun z hz=>q2 z (by simp[hz]))⟩
   |inr no=>rw[hg]at ih;exact ih
  |inr no=>
   rw[hf]at hi;rw[hi.2];exact⟨hi.1,rfl⟩
theorem zD(w:Nat)(f:List Bool):∀(l:aQ) (k:Nat) (O:aQ),∃O',aV (qA w f) l k O=.inl O'∧∀Q:b8→Prop,(∀r∈O,Q r)→(∀x∈l,Q (x++List.replicate w cu))→∀r∈O',Q r
 |[],k,O=>⟨O,rfl,fun Q h _=>h⟩
 |x::l,k,O=>by
  obtain⟨O',h1,h2⟩:=zD w f l (k+1) (if f.getD k false=true then O else O++[x++List.replicate w cu]);refine⟨O',by simp only[aV,qA];exact h1,fun Q q1 q2=>h2 Q (fun r hr=>?_) (fun z hz=>q2 z (by simp[hz]))⟩;split at hr
  ·exact q1 r hr
  rcases bT.1 hr with hr|hr
  ·exact q1 r hr
  rw[ce.1 hr];exact q2 x (by simp)
theorem Lt{rs:aQ}{r:b8}:r∈dL ez rs↔r∈rs:=(kA rs).mem_iff
abbrev JW(rs:aQ):Prop:=rs.Pairwise fun a b=>ez a b≤0
theorem LJ{rs:aQ}(h:JW rs):dL ez rs=rs:=xp (fun _ _=>sU) pA (tn pA rs) h (kA rs)
theorem B4(rs:aQ):JW (dL ez rs):=tn pA rs
theorem Ii(l:aQ):(dQ l).Sublist l:=by
 refine p6 (p:=fun l=>(dQ l).Sublist l) l (List.Sublist.refl _) fun l x ih=>?_;rw[mi];split
 ·exact ih.trans (List.sublist_append_left ..)
 exact ih.append (List.Sublist.refl _)
theorem Jk(rs:aQ):dL ez (kQ rs)=kQ rs:=LJ ((B4 rs).sublist (Ii _))
theorem Ki{rs:aQ}{r:b8}:r∈kQ rs↔r∈rs:=by
 unfold kQ;rw[Iu,Lt]
theorem IF(n:bL)(rows:aQ)(hok:∀g∈n.ai,xo g.tag g.arg rows=true):∀(l:List cC),(∀g∈l,g∈n.ai)→∀(k:Nat) (acc:b8),match aV (HL rows) l k acc with
  |.inl vals=>aV (ph (fun _ a rows=>sI a.tag a.arg rows) rows) l k acc=.inl vals
  |.inr no=>no≠0∧aV (ph (fun _ a rows=>sI a.tag a.arg rows) rows) l k acc=.inr ()
 |[],_,k,acc=>by simp[aV]
 |g::l,hl,k,acc=>by
  have hA:sI g.tag g.arg rows=vd g.tag g.arg rows:=by unfold sI;rw[if_pos (hok g (hl g (by simp)))]
  simp only[aV,HL,ph];rw[hA];by_cases c:(vd g.tag g.arg rows).2=0
  ·rw[if_pos c,if_pos c];exact IF n rows hok l (fun x hx=>hl x (by simp[hx])) (k+1) _
  rw[if_neg c,if_neg c];exact⟨c,rfl⟩
theorem IE(n:bL):∀(G:List (b8×aQ)),(∀g∈G,∀a∈n.ai,xo a.tag a.arg g.2=true)→∀(k:Nat) (O:aQ),match aV (Gm n) G k O with
  |.inl out=>aV (Ah n fun _ a rows=>sI a.tag a.arg rows) G k O=.inl out∧∀Q:b8→Prop,(∀r∈O,Q r)→(∀g∈G,∀v,aV (HL g.2) n.ai 0 g.1=.inl v→Q v)→∀r∈out,Q r
  |.inr no=>no≠0∧aV (Ah n fun _ a rows=>sI a.tag a.arg rows) G k O=.inr ()
 |[],_,k,O=>by simp[aV]
 |g::G,hG,k,O=>by
  have hi:=IF n g.2 (hG g (by simp)) n.ai (fun _ h=>h) 0 g.1;simp only[aV,Gm,Ah];cases hf:aV (HL g.2) n.ai 0 g.1 with
  |inl v=>
   rw[hf]at hi;rw[hi];simp only;have ih:=IE n G (fun x hx=>hG x (by simp[hx])) (k+1) (O++[v]);cases hg:aV (Gm n) G (k+1) (O++[v]) with
   |inl out=>
    rw[hg]at ih;refine⟨ih.1,fun Q q1 q2=>ih.2 Q (fun r hr=>?_) (fun z hz=>q2 z (by simp[hz]))⟩;rcases bT.1 hr with hr|hr
    ·exact q1 r hr
    rw[ce.1 hr];exact q2 g (by simp) v hf
   |inr no=>rw[hg]at ih;exact ih
  |inr no=>
   rw[hf]at hi;rw[hi.2];exact⟨hi.1,rfl⟩
theorem Jx{K:List Int}{rows:aQ}(h:mX K rows)(hn:rows.length≤8000):∀(l:List cC) (k:Nat) (key out:b8) (K0:List Int),(∀g∈l,tc g.arg∧(ln K g).1=true)→iN K0 key→aV (HL rows) l k key=.inl out→iN (K0++l.map (u6 K)) out
 |[],k,key,out,K0,_,hk,hf=>by cases hf;simpa using hk
 |g::l,k,key,out,K0,hl,hk,hf=>by
  simp only[aV]at hf;unfold HL at hf;by_cases c:(vd g.tag g.arg rows).2=0
  ·rw[if_pos c]at hf;obtain⟨e1,e2⟩:=hl g (by simp);obtain⟨m1,m2⟩:=Y2 h hn g e1 e2 c;have:=Jx h hn l (k+1) _ out _ (fun x hx=>hl x (by simp[hx])) (hk.snoc m1 m2) hf;simpa using this
  rw[if_neg c]at hf;cases hf
section
def kY(n:bL):List ap:=[ar n.op,ar n.l,ar n.r,ar (if n.op=1 then 0 else n.tab),if n.op=1 then .aj else .aa n.bk (n.af.map (.int .i64)),.bool (if n.op=2 then false else n.left),
 if n.op=2∨n.op=3 then .aj else .aa n.bc (n.cond.map EN.a),if n.op=4 then .aj else .aa n.by' (n.keys.map (.int .i64)),if n.op=4 then .aj else .aa n.bg (n.ai.map cC.a),if n.op=5 then .aj else .aa n.bi (n.items.map jM.a),
 if n.op=8 then .aj else .aa n.bo (n.ords.map jl),ar (if n.op=8 then 0 else n.limit)]
def HF(n:bL):bL:=⟨n.op,n.l,n.r,if n.op=1 then 0 else n.tab,if n.op=1 then false else n.bk,if n.op=1 then [] else n.af,if n.op=2 then false else n.left,
 if n.op=2∨n.op=3 then false else n.bc,if n.op=2∨n.op=3 then [] else n.cond,if n.op=4 then false else n.by',if n.op=4 then [] else n.keys,if n.op=4 then false else n.bg,if n.op=4 then [] else n.ai,
 if n.op=5 then false else n.bi,if n.op=5 then [] else n.items,if n.op=8 then false else n.bo,if n.op=8 then [] else n.ords,if n.op=8 then 0 else n.limit⟩
def WK(n:bL):List ap:=cellsOf (HF n).a
theorem SY(n:bL)(base:Nat)(σ:ay)(m:Nat):(kY n).map (fz true false base σ (m+2))=WK n:=by
 unfold kY WK HF bL.a;by_cases c1:n.op=1
 ·simp[c1]
 by_cases c2:n.op=2
 ·simp[c2]
 by_cases c3:n.op=3
 ·simp[c3]
 by_cases c4:n.op=4
 ·simp[c4]
 by_cases c5:n.op=5
 ·simp[c5]
 by_cases c8:n.op=8
 ·simp[c8]
 simp[c1,c2,c3,c4,c5,c8]
theorem OW(n:bL)(σ:ay):cA code I.qeb [n.a] σ=some (.agg (kY n),σ++[.arr 12 0 [.agg (kY n)],.arr 12 0 [.agg (kY n)]]):=by
 rw[bp ahy rfl];unfold kY bL.a;by_cases c1:n.op=1
 ·simp[aol,BM,c1]
 by_cases c2:n.op=2
 ·simp[aol,BM,c2]
 by_cases c3:n.op=3
 ·simp[aol,BM,c3]
 by_cases c4:n.op=4
 ·simp[aol,BM,c4]
 by_cases c5:n.op=5
 ·simp[aol,BM,c5]
 by_cases c8:n.op=8
 ·simp[aol,BM,c8]
 simp[aol,BM,c1,c2,c3,c4,c5,c8,bE c1,bE c2,bE c3,bE c4,bE c5,bE c8]
theorem Ns(n:bL):aK I.qew [.agg (WK n)]=some (.bool (Mc (HF n))):=Ni (HF n)
theorem Xy{n:bL}(h:1≤n.op∧n.op≤8):Mc (HF n)=lu n:=by
 have hs:∀{α:Type} (l:List α),(l.length==0)=decide (l=[]):=fun l=>by cases l<;>simp
 unfold Mc HF lu;have:n.op=1∨n.op=2∨n.op=3∨n.op=4∨n.op=5∨n.op=6∨n.op=7∨n.op=8:=by omega
 have hk:((n.keys.length:Int)+n.ai.length==0)=(n.keys.length==0&&n.ai.length==0):=by
  rw[eF,aq,aP,aP,aP];omega
 rw[hk];rcases this with c|c|c|c|c|c|c|c<;>simp[c]<;>(rw[eF];simp[and_assoc,and_left_comm,and_comm])
theorem Ms(c:ap)(n:bL)(σ:ay)(hk:n.af.length≤most):cA code I.qem [c,n.a] σ=some (.tup [.aa n.bk (n.af.map (.int .i64)),.bool (rD n)],σ++[.arr 12 0 [n.a]]):=by
 rw[bp ajs rfl];have hc:=fun b=>iF (enc:=.int .i64) (b:=b) (l:=n.af) (f:=.fn 333 [] []) (p:=fun k=>decide (k<1) ||decide (3<k)) hk (fun _=>⟨rfl,rfl⟩) (fun σ=>by simp) (fun k _=>by simp[KK]);unfold rD;have n3:aC n.a=12∧isAgg n.a=true:=⟨rfl,rfl⟩;have k3:(cellsOf n.a)[3]?=some (ar n.tab):=rfl;have k4:(cellsOf n.a)[4]?=some (.aa n.bk (n.af.map (.int .i64))):=rfl;by_cases c1:0≤n.tab
 ·by_cases c2:n.tab<4
  ·by_cases c3:0<n.af.length
   ·have c3':(1:Int)≤(n.af.length:Int):=by omega
    by_cases c4:n.af.length≤4
    ·have c4':(n.af.length:Int)≤4:=by omega
     cases hA:(n.af.any fun k=>decide (k<1) ||decide (3<k))<;>rw[hA]at hc<;>simp[aox,Hb,n3,k3,k4,hc,c1,c2,c3,c3',c4,c4']
    have c4':¬(n.af.length:Int)≤4:=by omega
    simp[aox,Hb,n3,k3,k4,c1,c2,c3',c4,c4']
   have c3':¬(1:Int)≤(n.af.length:Int):=by omega
   simp[aox,Hb,n3,k3,k4,c1,c2,c3,c3']
  simp[aox,Hb,n3,k3,k4,c1,c2]
 simp[aox,Hb,n3,k3,k4,c1]
structure AtL (σ:ay) (id ik jf:Nat) (bn:Bool) (ns:List bL) (ep:Nat) (ks:List (dI Int)) (ef:Nat) (fs:List Nat):Prop where
 hd:σ[id]?=some (.arr 3 0 [.agg [.aa bn (ns.map bL.a),.sl ik ep 0 ks.length,.sl jf ef 0 fs.length]])
 hk:σ[ik]?=some (.arr 1 ep (ks.map (dI.c (.int .i64))))
 hf:σ[jf]?=some (.arr 1 ef (fa fs))
theorem AtL.more{σ:ay}{id ik jf:Nat}{bn:Bool}{ns:List bL}{ep:Nat}{ks:List (dI Int)}{ef:Nat}{fs:List Nat}(h:AtL σ id ik jf bn ns ep ks ef fs)(X:ay):AtL (σ++X) id ik jf bn ns ep ks ef fs:=
 ⟨by rw[bB (al.1 h.hd).1];exact h.hd,by rw[bB (al.1 h.hk).1];exact h.hk,by rw[bB (al.1 h.hf).1];exact h.hf⟩
section
variable {σ:ay} {id ik jf:Nat} {bn:Bool} {ns:List bL} {ep:Nat} {ks:List (dI Int)} {ef:Nat} {fs:List Nat} (h:AtL σ id ik jf bn ns ep ks ef fs) (n:bL) (p:Nat) (hp:n.l=(p:Int)) (a:dI Int) (ha:ks[p]?=some a)
include h hp ha
theorem Cu:cA code I.qef [.ptr id 0 0 0,n.a] σ=some (.tup [.aa a.b (aZ a.l),.bool true],σ++[.arr 12 0 [n.a]]):=by
 rw[bp ajG rfl];obtain⟨d1,d2,d3⟩:=h.more [.arr 12 0 [n.a]];have hpl:=(al.1 ha).1;have hag:∀hh:p<ks.length,ks[p]'hh=a:=fun hh=>(al.1 ha).2;have hpi:((p:Int)<(ks.length:Int)):=by omega
 have n3:aC n.a=12∧isAgg n.a=true:=⟨rfl,rfl⟩;have k1:(cellsOf n.a)[1]?=some (ar n.l):=rfl;simp[arK,aaG,n3,k1,hp,ha,hag,hpl,hpi,d1,d2]
theorem Ge(hc:n.cond.length≤most)(hl:a.l.length≤most):cA code I.qeg [.ptr id 0 0 0,n.a] σ=some (.tup [.aa a.b (aZ a.l),.bool (jU n.cond a.l)],σ++[.arr 12 0 [n.a]]):=by
 rw[bp agP rfl];obtain⟨d1,d2,d3⟩:=h.more [.arr 12 0 [n.a]];have hT:=fun b' bk=>Ci b' n.cond bk a.l hc hl;have hpl:=(al.1 ha).1;have hag:∀hh:p<ks.length,ks[p]'hh=a:=fun hh=>(al.1 ha).2;have hpi:((p:Int)<(ks.length:Int)):=by omega
 have n3:aC n.a=12∧isAgg n.a=true:=⟨rfl,rfl⟩;have k1:(cellsOf n.a)[1]?=some (ar n.l):=rfl;have k6:List.take 1 (List.drop 6 (cellsOf n.a))=[.aa n.bc (n.cond.map EN.a)]:=rfl;have k6':(cellsOf n.a)[6]?=some (.aa n.bc (n.cond.map EN.a)):=rfl;simp[aq7,abd,n3,k1,k6,k6',hp,ha,hag,hpl,hpi,d1,d2,hT]
theorem Im(ho:n.ords.length≤most)(hl:a.l.length≤most)(hkn:ks.length≤8000)(hnn:ns.length≤8000):∃X Y,cA code I.qej [.ptr id 0 0 0,n.a] σ=some (.tup [.aa a.b (aZ a.l),.bool (sortF n a.l&&decide (ks.length+1=ns.length))],σ++[X,Y]):=by
 refine⟨.arr 12 0 [n.a],.arr 1 0 [.aa a.b (aZ a.l)],?_⟩;rw[bp aiE rfl];obtain⟨d1,d2,d3⟩:=h.more [.arr 12 0 [n.a]];obtain⟨e1,e2,e3⟩:=h.more [.arr 12 0 [n.a],.arr 1 0 [.aa a.b (aZ a.l)]];obtain⟨e1',e2',e3'⟩:=h.more [.arr 12 0 [n.a],.arr 1 0 [.aj]];have hpl:=(al.1 ha).1;have hag:∀hh:p<ks.length,ks[p]'hh=a:=fun hh=>(al.1 ha).2;have hpi:((p:Int)<(ks.length:Int)):=by omega
 have n3:aC n.a=12∧isAgg n.a=true:=⟨rfl,rfl⟩;have k1:(cellsOf n.a)[1]?=some (ar n.l):=rfl;have k10:(cellsOf n.a)[10]?=some (.aa n.bo (n.ords.map jl)):=rfl;have k11:(cellsOf n.a)[11]?=some (ar n.limit):=rfl;have w1:=rn (n:=(ns.length:Int)-1) (by omega) (by omega)
 have hC:=mh (enc:=jl) (b:=n.bo) (l:=n.ords) (f:=.fn 337 [] [.cptr true (.aa a.b (aZ a.l)) 0]) (p:=fun o=>decide (o.1<0) ||decide ((a.l.length:Int)≤o.1)) ho (fun _=>⟨rfl,rfl⟩) (fun σ=>by simp) (fun o _=>by
  have hz:∀σ,fz true false 0 σ 20 (jl o)=jl o:=fun σ=>Fx.fx true false 0 σ 17 o;simp[hz,Mf])
 have hq:((ks.length:Int)==(ns.length:Int)-1)=decide (ks.length+1=ns.length):=by
  rw[eF];simp;omega
 unfold sortF;by_cases c1:n.ords.length≤3
 ·have c1':(n.ords.length:Int)≤3:=by omega
  cases hA:(n.ords.any fun o=>decide (o.1<0) ||decide ((a.l.length:Int)≤o.1)) with
  |true=>
   rw[hA]at hC;simp[aot,G5,n3,k1,k10,k11,hp,ha,hag,hpl,hpi,d1,d2,e1,e2,e1',e2',w1,hC,c1,c1']
  |false=>
   rw[hA]at hC;by_cases c2:-1≤n.limit
   ·by_cases c3:n.limit≤2147483647
    ·simp[aot,G5,n3,k1,k10,k11,hp,ha,hag,hpl,hpi,d1,d2,e1,e2,e1',e2',w1,hC,c1,c1',c2,c3,hq]
    simp[aot,G5,n3,k1,k10,k11,hp,ha,hag,hpl,hpi,d1,d2,e1,e2,e1',e2',w1,hC,c1,c1',c2,c3]
   simp[aot,G5,n3,k1,k10,k11,hp,ha,hag,hpl,hpi,d1,d2,e1,e2,e1',e2',w1,hC,c1,c1',c2]
 have c1':¬(n.ords.length:Int)≤3:=by omega
 simp[aot,G5,n3,k1,k10,k11,hp,ha,hag,hpl,hpi,d1,d2,e1,e2,e1',e2',w1,c1,c1']
end
end
def iV(n:bL)(i:Nat)(fs:List Nat):Int×Bool:=
 if fL n.op=0 then ((i:Int),n.l == -1&&n.r == -1)
 else if fL n.op=1 then (if n.l≠(i:Int)-1∨n.r≠-1∨i=0 then (0,false) else ((fs.getD (i-1) 0:Nat),true))
 else if n.r≠(i:Int)-1∨i=0∨n.l≠(fs.getD (i-1) 0:Nat)-1∨n.l<0 then (0,false) else ((fs.getD n.l.toNat 0:Nat),true)
theorem yV(op:Int):fL op=0∨fL op=1∨fL op=2:=by
 unfold fL
 repeat' split
 all_goals simp
theorem NZ(t bn:Bool)(ns:List bL)(bk:Bool)(ks:List (dI Int))(bf:Bool)(fs:List Nat)(i:Nat)(n:bL)(hi:ns[i]?=some n)(hfs:fs.length=i)(hle:∀f∈fs,f≤i)(hN:i≤8000) :
  aK I.qee [.cptr t (pP bn ns bk ks bf fs) 0,ar i]=some (.tup [ar (iV n i fs).1,.bool (iV n i fs).2]):=by
 rw[aA ahQ rfl];have hpl:=(al.1 hi).1;have hag:∀hh:i<ns.length,ns[i]'hh=n:=fun hh=>(al.1 hi).2;have hpi:((i:Int)<(ns.length:Int)):=by omega
 have n1:∀base σ m,fz true false base σ (m+3) n.a=n.a:=fun base σ m=>Ft.ft true false base σ m n rfl;have n3:aC n.a=12∧isAgg n.a=true:=⟨rfl,rfl⟩;have k0:(cellsOf n.a)[0]?=some (ar n.op):=rfl;have k1:(cellsOf n.a)[1]?=some (ar n.l):=rfl;have k2:(cellsOf n.a)[2]?=some (ar n.r):=rfl;have hz1:=HC t bn ns bk ks bf fs;have w1:=rn (n:=(i:Int)-1) (by omega) (by omega);have hP:=MZ n.op;have w0:IntKind.i64.wrap (-1)=-1:=by decide
 unfold iV;rcases yV n.op with hp|hp|hp
 ·rw[hp]at hP ⊢;by_cases c1:n.l=-1
  ·simp[aof,uN,hz1,hi,hag,hpl,hpi,n3,k0,k1,k2,hP,c1]
  simp[aof,uN,hz1,hi,hag,hpl,hpi,n3,k0,k1,k2,hP,c1,bE c1]
 ·rw[hp]at hP ⊢;by_cases c1:n.l=(i:Int)-1
  ·by_cases c2:n.r=-1
   ·by_cases c3:i=0
    ·subst c3;have c1':n.l=-1:=by omega
     simp[aof,uN,hz1,hi,hag,hpl,n3,k0,k1,k2,hP,c1',c2,w0]
    have c3':¬((i:Int)=0):=by omega
    have e1:(1:Int)≤(i:Int):=by omega
    have e2:((i:Int)-1).toNat=i-1:=by omega
    have e3:i-1<fs.length:=by omega
    have e4:((i:Int)-1<(fs.length:Int)):=by omega
    have hof:fs[i-1]?=some (fs.getD (i-1) 0):=by simp[au,e3]
    have hge:∀h:i-1<fs.length,fs[i-1]'h=fs.getD (i-1) 0:=fun h=>(al.1 hof).2;generalize fs.getD (i-1) 0=f at *;simp[aof,uN,hz1,hi,hag,hpl,hpi,n3,k0,k1,k2,hP,w1,c1,c2,c3,c3',bE c3',e1,e2,e3,e4,hof,hge]
   simp[aof,uN,hz1,hi,hag,hpl,hpi,n3,k0,k1,k2,hP,w1,c1,c2,eo c2]
  simp[aof,uN,hz1,hi,hag,hpl,hpi,n3,k0,k1,k2,hP,w1,c1,eo c1]
 rw[hp]at hP ⊢;by_cases c1:n.r=(i:Int)-1
 ·by_cases c3:i=0
  ·subst c3;have c1':n.r=-1:=by omega
   simp[aof,uN,hz1,hi,hag,hpl,n3,k0,k1,k2,hP,c1',w0]
  have c3':¬((i:Int)=0):=by omega
  have e1:(1:Int)≤(i:Int):=by omega
  have e2:((i:Int)-1).toNat=i-1:=by omega
  have e3:i-1<fs.length:=by omega
  have e4:((i:Int)-1<(fs.length:Int)):=by omega
  have hof:fs[i-1]?=some (fs.getD (i-1) 0):=by simp[au,e3]
  have hge:∀h:i-1<fs.length,fs[i-1]'h=fs.getD (i-1) 0:=fun h=>(al.1 hof).2;have hfl:=hle _ (aw hof);have w2:=rn (n:=((fs.getD (i-1) 0:Nat):Int)-1) (by omega) (by omega);generalize fs.getD (i-1) 0=f at *;by_cases c2:n.l=(f:Int)-1
  ·by_cases c4:n.l<0
   ·obtain rfl:f=0:=by omega
    have c2':n.l=-1:=by omega
    simp[aof,uN,hz1,hi,hag,hpl,hpi,n3,k0,k1,k2,hP,w1,c1,c3,c3',bE c3',e1,e2,e3,e4,hof,hge,c2',w0]
   have c4':0≤n.l:=by omega
   have e5:n.l.toNat < fs.length:=by omega
   have e6:(n.l<(fs.length:Int)):=by omega
   have hof2:fs[n.l.toNat]?=some (fs.getD n.l.toNat 0):=by simp[au,e5]
   have hge2:∀h:n.l.toNat < fs.length,fs[n.l.toNat]'h=fs.getD n.l.toNat 0:=fun h=>(al.1 hof2).2;generalize fs.getD n.l.toNat 0=f2 at *;have c2':(n.l != (f:Int)-1)=false:=by simp[c2]
   generalize n.l=nl at *;simp[aof,uN,hz1,hi,hag,hpl,hpi,n3,k0,k1,k2,hP,w1,w2,c1,c3,c3',bE c3',e1,e2,e3,e4,hof,hge,c2',c4,c4',e5,e6,hof2,hge2];simp[c2]
  simp[aof,uN,hz1,hi,hag,hpl,hpi,n3,k0,k1,k2,hP,w1,w2,c1,c3,c3',bE c3',e1,e2,e3,e4,hof,hge,c2,eo c2]
 simp[aof,uN,hz1,hi,hag,hpl,hpi,n3,k0,k1,k2,hP,w1,c1,eo c1]
theorem BG{n:bL}{i:Nat}{fs:List Nat}(hfs:fs.length=i)(hle:∀f∈fs,f≤i)(h:(iV n i fs).2=true):(iV n i fs).1=(((iV n i fs).1.toNat:Nat):Int)∧(iV n i fs).1.toNat≤i:=by
 have hg:∀k,fs.getD k 0≤i:=fun k=>by
  by_cases hk:k<fs.length
  ·rw[au,am hk];exact hle _ (aF hk)
  rw[au,dC (by omega)];exact bP _
 unfold iV at *;rcases yV n.op with hp|hp|hp<;>rw[hp]at h ⊢<;>simp at h ⊢
 ·split at h
  ·cases h
  rename_i hc;rw[if_neg hc];exact⟨by simp,by simpa using hg (i-1)⟩
 split at h
 ·cases h
 rename_i hc;rw[if_neg hc];exact⟨by simp,by simpa using hg n.l.toNat⟩
def U6(id:Nat)(op:Int):ap:=
 if op=1 then .fn 325 [.ptr id 0 0 0] [] else if op=2 then .fn 326 [.ptr id 0 0 0] [] else if op=3 then .fn 327 [.ptr id 0 0 0] [] else if op=4 then .fn 328 [.ptr id 0 0 0] [] else
 if op=5 then .fn 329 [.ptr id 0 0 0] [] else if op=6 then .fn 330 [.ptr id 0 0 0] [] else if op=7 then .fn 331 [.ptr id 0 0 0] [] else if op=8 then .fn 332 [.ptr id 0 0 0] [] else .nilf
def rl(id:Nat):List (ap×ap):=[(ar 1,.fn 325 [.ptr id 0 0 0] []),(ar 2,.fn 326 [.ptr id 0 0 0] []),(ar 3,.fn 327 [.ptr id 0 0 0] []),(ar 4,.fn 328 [.ptr id 0 0 0] []),
 (ar 5,.fn 329 [.ptr id 0 0 0] []),(ar 6,.fn 330 [.ptr id 0 0 0] []),(ar 7,.fn 331 [.ptr id 0 0 0] []),(ar 8,.fn 332 [.ptr id 0 0 0] [])]
theorem K9(id:Nat)(op:Int):lookup (ar op) (rl id)=some (if 1≤op∧op≤8 then some (U6 id op) else none):=by
 unfold rl U6;by_cases h:1≤op∧op≤8
 ·rw[if_pos h];have:op=1∨op=2∨op=3∨op=4∨op=5∨op=6∨op=7∨op=8:=by omega
  rcases this with rfl|rfl|rfl|rfl|rfl|rfl|rfl|rfl<;>rfl
 rw[if_neg h];have h1:¬1=op:=by omega
 have h2:¬2=op:=by omega
 have h3:¬3=op:=by omega
 have h4:¬4=op:=by omega
 have h5:¬5=op:=by omega
 have h6:¬6=op:=by omega
 have h7:¬7=op:=by omega
 have h8:¬8=op:=by omega
 simp[lookup,s9,bE h1,bE h2,bE h3,bE h4,bE h5,bE h6,bE h7,bE h8]
def nN(N:Nat)(ks:List (dI Int))(n:bL):Option (dI Int):=
 if n.op=1 then (if rD n then some ⟨n.bk,n.af⟩ else none)
 else (ks[n.l.toNat]?).bind fun a=>
  if n.op=2 then (ks[n.r.toNat]?).bind fun b=>if jU n.cond (a.l++b.l) then some ⟨false,a.l++b.l⟩ else none
  else if n.op=3 then (if jU n.cond a.l then some a else none)
  else if n.op=4 then (if nu n a.l&&n.ai.all (fun g=>(ln a.l g).1) then some ⟨false,(n.keys.map fun x=>a.l.getD x.toNat 0)++n.ai.map (u6 a.l)⟩ else none)
  else if n.op=5 then (if decide (1≤n.items.length)&&decide (n.items.length≤16)&&n.items.all (fun e=>(eC e.l a.l).2==0) then some ⟨false,n.items.map fun e=>(eC e.l a.l).1⟩ else none)
  else if n.op=6 then some a
  else if n.op=7 then (ks[n.r.toNat]?).bind fun b=>if a.l.length=b.l.length then (ev a.l b.l).map fun r=>⟨false,r⟩ else none
  else if n.op=8 then (if sortF n a.l&&decide (ks.length+1=N) then some a else none)
  else none
def XK(call:Option (ap×ay))(σ:ay)(o:Option (dI Int)):Prop:=∃b l X,call=some (.tup [.aa b (aZ l),.bool o.isSome],σ++X)∧∀r,o=some r→r=⟨b,l⟩
theorem nI{call:Option (ap×ay)}{σ:ay}{b:Bool}{l:List Int}{X:ay}{t:Bool}(h:call=some (.tup [.aa b (aZ l),.bool t],σ++X)):XK call σ (if t then some ⟨b,l⟩ else none):=by
 refine⟨b,l,X,?_,?_⟩
 ·rw[h];cases t<;>rfl
 intro r hr;cases t with
 |true=>simpa using hr.symm
 |false=>cases hr
theorem AtL.snapped{σ:ay}{id ik jf:Nat}{bn:Bool}{ns:List bL}{ep:Nat}{ks:List (dI Int)}{ef:Nat}{fs:List Nat}(h:AtL σ id ik jf bn ns ep ks ef fs):fz true false 0 σ 20 (.ptr id 0 0 0)=.cptr true (pP bn ns true ks true fs) 0:=by
 obtain⟨d1,d2,d3⟩:=h;have t1:List.take ks.length (ks.map (dI.c (.int .i64)))=ks.map (dI.c (.int .i64)):=av (by simp);have t2:List.take fs.length (fa fs)=fa fs:=av (by simp);simp[d1,d2,d3,t1,t2]
theorem Tx{σ:ay}{id ik jf:Nat}{bn:Bool}{ns:List bL}{ep:Nat}{ks:List (dI Int)}{ef:Nat}{fs:List Nat}(h:AtL σ id ik jf bn ns ep ks ef fs)(n:bL)(hn:nO n)(hop:1≤n.op∧n.op≤8)
  {fs0:List Nat} (hb:(iV n ks.length fs0).2=true) (hle:∀f∈fs0,f≤ks.length) (hfl:fs0.length=ks.length) (hkm:∀a∈ks,a.l.length≤16) (hkn:ks.length≤8000) (hnn:ns.length≤8000):XK (dS code (U6 id n.op) [n.a] σ) σ (nN ns.length ks n):=by
 have hm:qU≤most:=by decide
 have n1:∀base σ m,fz true false base σ (m+3) n.a=n.a:=fun base σ m=>Ft.ft true false base σ m n rfl;have hsn:=h.snapped;have at1:n.op=3∨n.op=4∨n.op=5∨n.op=6∨n.op=8→∃p:Nat,∃a,n.l=(p:Int)∧ks[p]?=some a:=fun hq=>by
  unfold iV at hb;rw[if_neg (by unfold fL;rw[if_neg (by omega)];split<;>omega),if_pos (by unfold fL;rw[if_neg (by omega),if_neg (by omega)])]at hb;split at hb
  ·cases hb
  rename_i hc;have h0:ks.length≠0:=fun hz=>hc (.inr (.inr hz));have h1:n.l=(ks.length:Int)-1:=by
   by_cases hx:n.l=(ks.length:Int)-1
   ·exact hx
   exact absurd (.inl hx) hc
  exact⟨ks.length-1,ks[ks.length-1]'(by omega),by omega,am _⟩
 have at2:n.op=2∨n.op=7→∃p q:Nat,∃a b,n.l=(p:Int)∧n.r=(q:Int)∧ks[p]?=some a∧ks[q]?=some b:=fun hq=>by
  unfold iV at hb;rw[if_neg (by unfold fL;rw[if_neg (by omega),if_pos hq];omega),if_neg (by unfold fL;rw[if_neg (by omega),if_pos hq];omega)]at hb;split at hb
  ·cases hb
  rename_i hc;have h0:ks.length≠0:=fun hz=>hc (.inr (.inl hz));have h1:n.r=(ks.length:Int)-1:=by
   by_cases hx:n.r=(ks.length:Int)-1
   ·exact hx
   exact absurd (.inl hx) hc
  have h2:0≤n.l:=by
   by_cases hx:n.l<0
   ·exact absurd (.inr (.inr (.inr hx))) hc
   omega
  have h3:n.l=((fs0.getD (ks.length-1) 0:Nat):Int)-1:=by
   by_cases hx:n.l=((fs0.getD (ks.length-1) 0:Nat):Int)-1
   ·exact hx
   exact absurd (.inr (.inr (.inl hx))) hc
  have h4:fs0.getD (ks.length-1) 0≤ks.length:=by
   have:ks.length-1<fs0.length:=by omega
   rw[au,am this];exact hle _ (aF this)
  exact⟨n.l.toNat,ks.length-1,ks[n.l.toNat]'(by omega),ks[ks.length-1]'(by omega),by omega,by omega,am _,am _⟩
 have:n.op=1∨n.op=2∨n.op=3∨n.op=4∨n.op=5∨n.op=6∨n.op=7∨n.op=8:=by omega
 rcases this with c|c|c|c|c|c|c|c
 ·have hs:=Ms (.ptr id 0 0 0) n σ (aI hn.af hm);have e:nN ns.length ks n=if rD n then some ⟨n.bk,n.af⟩ else none:=by unfold nN;rw[if_pos c]
  rw[e,show U6 id n.op=.fn 325 [.ptr id 0 0 0] [] by rw[c];rfl];exact nI hs
 ·obtain⟨p,q,a,b,hp,hq,ha,hbb⟩:=at2 (.inl c);have hla:=hkm _ (aw ha);have hlb:=hkm _ (aw hbb);have hs:=Om true bn ns true ks true fs n p q hp hq a b ha hbb (aI hn.cond hm) (by unfold most;omega);have e:nN ns.length ks n=if jU n.cond (a.l++b.l) then some ⟨false,a.l++b.l⟩ else none:=by unfold nN;simp[c,hp,hq,ha,hbb]
  rw[e,show U6 id n.op=.fn 326 [.ptr id 0 0 0] [] by rw[c];rfl];refine nI (X:=[]) ?_;simp[hsn,n1,hs]
 ·obtain⟨p,a,hp,ha⟩:=at1 (.inl c);have hla:=hkm _ (aw ha);have hs:=Ge h n p hp a ha (aI hn.cond hm) (by unfold most;omega);have e:nN ns.length ks n=if jU n.cond a.l then some a else none:=by unfold nN;simp[c,hp,ha]
  rw[e,show U6 id n.op=.fn 327 [.ptr id 0 0 0] [] by rw[c];rfl];exact nI hs
 ·obtain⟨p,a,hp,ha⟩:=at1 (.inr (.inl c));have hla:=hkm _ (aw ha);have hs:=M8 true bn ns true ks true fs n p hp a ha hn.keys hn.ai (fun g hg=>aI (hn.args g hg) hm) (by unfold most;omega);rw[show U6 id n.op=.fn 328 [.ptr id 0 0 0] [] by rw[c];rfl];by_cases hg:nu n a.l=true
  ·rw[if_pos hg]at hs;have e:nN ns.length ks n=if n.ai.all (fun g=>(ln a.l g).1) then some ⟨false,(n.keys.map fun x=>a.l.getD x.toNat 0)++n.ai.map (u6 a.l)⟩ else none:=by unfold nN;simp[c,hp,ha,hg]
   rw[e];refine nI (X:=[]) ?_;simp only[cR];rw[TK,ajf];simp only[cM,b9,cR,bG,bh,po,hsn,n1,hs,dd]
  rw[if_neg hg]at hs;have e:nN ns.length ks n=if false then some ⟨false,[]⟩ else none:=by unfold nN;simp[c,hp,ha,hg]
  rw[e];refine nI (X:=[]) ?_;simp[hsn,n1,hs]
 ·obtain⟨p,a,hp,ha⟩:=at1 (.inr (.inr (.inl c)));have hla:=hkm _ (aw ha);have hs:=Gy true bn ns true ks true fs n p hp a ha (aI hn.items hm) (fun e he=>aI (hn.exprs e he) hm) (by unfold most;omega);have e:nN ns.length ks n=if decide (1≤n.items.length)&&decide (n.items.length≤16)&&n.items.all (fun e=>(eC e.l a.l).2==0) then some ⟨false,n.items.map fun e=>(eC e.l a.l).1⟩ else none:=by unfold nN;simp[c,hp,ha]
  rw[e,show U6 id n.op=.fn 329 [.ptr id 0 0 0] [] by rw[c];rfl];refine nI (X:=[]) ?_;rw[TK,aj8];simp only[cM,b9,cR,bG,bh,po,hsn,n1,hs,dd]
 ·obtain⟨p,a,hp,ha⟩:=at1 (.inr (.inr (.inr (.inl c))));have hs:=Cu h n p hp a ha;have e:nN ns.length ks n=if true then some a else none:=by unfold nN;simp[c,hp,ha]
  rw[e,show U6 id n.op=.fn 330 [.ptr id 0 0 0] [] by rw[c];rfl];exact nI hs
 ·obtain⟨p,q,a,b,hp,hq,ha,hbb⟩:=at2 (.inr c);have hla:=hkm _ (aw ha);rw[show U6 id n.op=.fn 331 [.ptr id 0 0 0] [] by rw[c];rfl];by_cases hl:a.l.length=b.l.length
  ·obtain⟨out,hs,ho⟩:=KA true bn ns true ks true fs n p q hp hq a b ha hbb (by unfold most;omega) hl;have e:nN ns.length ks n=(ev a.l b.l).map fun r=>⟨false,r⟩:=by unfold nN;simp[c,hp,hq,ha,hbb,hl]
   rw[e];refine⟨false,out,[],?_,?_⟩
   ·rw[TK,ahJ];simp only[cM,b9,cR,bG,bh,po,hsn,n1,hs,dd,Option.isSome_map]
   intro r hr;cases hu:ev a.l b.l with
   |none=>rw[hu]at hr;cases hr
   |some w=>
    rw[hu]at hr;cases hr;rw[ho w hu]
  have hs:=NT true bn ns true ks true fs n p q hp hq a b ha hbb hl;have e:nN ns.length ks n=if false then some ⟨false,[]⟩ else none:=by unfold nN;simp[c,hp,hq,ha,hbb,hl]
  rw[e];refine nI (X:=[]) ?_;simp[hsn,n1,hs]
 obtain⟨p,a,hp,ha⟩:=at1 (.inr (.inr (.inr (.inr c))));have hla:=hkm _ (aw ha);obtain⟨X,Y,hs⟩:=Im h n p hp a ha (aI hn.ords hm) (by unfold most;omega) hkn hnn;have e:nN ns.length ks n=if sortF n a.l&&decide (ks.length+1=ns.length) then some a else none:=by unfold nN;simp[c,hp,ha]
 rw[e,show U6 id n.op=.fn 332 [.ptr id 0 0 0] [] by rw[c];rfl];exact nI hs
def xg(N:Nat)(n:bL)(ks:List (dI Int))(fs:List Nat):Option (dI Int×Nat):=
 if (decide (1≤n.op)&&decide (n.op≤8)&&lu n&&(iV n ks.length fs).2)=false then none else
 match nN N ks n with
 |none=>none
 |some r=>if 16<r.l.length then none else some (r,(iV n ks.length fs).1.toNat)
def pR(N:Nat)(k:Nat)(n:bL)(s:List (dI Int)×List Nat):(List (dI Int)×List Nat)⊕Nat:=match xg N n s.1 s.2 with
 |some r=>.inl (s.1++[r.1],s.2++[r.2])
 |none=>.inr k
abbrev Ym(L:Nat)(bn:Bool)(ns:List bL):List ap:=
 [.agg [.aa bn (ns.map bL.a)],.ptr L 0 0 0,.ptr (L+1) 0 0 0,.ptr (L+2) 0 0 0,.ptr (L+3) 0 0 0,.ptr (L+5) 0 0 0,ar ns.length,.any,.any,.bool false,.fn 271 [] [.ptr (L+6) 0 0 0],.any,.any,.any]
abbrev Ya(L:Nat)(P:ay)(bn:Bool)(ns:List bL)(r2 r3 r4:ap)(ep:Nat)(kc:List ap)(ef:Nat)(fc:List ap)(o:Obj):ay:=
 P++[.arr 1 0 [.agg [.aa bn (ns.map bL.a)]],.arr 1 0 [r2],.arr 1 0 [r3],.arr 1 0 [r4],.arr 3 0 [.agg [.aa bn (ns.map bL.a),.sl (L+7) ep 0 kc.length,.sl (L+8) ef 0 fc.length]],.arr 1 0 [.ptr (L+4) 0 0 0],.arr 1 0 [.ptr (L+4) 0 0 0],.arr 1 ep kc,.arr 1 ef fc,o]
theorem Qb(L:Nat)(P:ay)(hP:(L=1∧∃a,P=[.arr 1 0 [a]])∨(L=2∧∃a b,P=[.arr 1 0 [a],.arr 1 0 [b]]))(bn:Bool)(ns:List bL)(k:Nat)(ok:Bool)(ep:Nat)(kc:List ap)(ef:Nat)(fc:List ap)(X:ay) :
  cA code 175 (.frs (L+9) []::(Ym L bn ns++[ar k,.bool ok])) (Ya L P bn ns .nilp (ar 0) (.bool false) ep kc ef fc (.pend false none)++X) =
   some (.bool ok,if ok then Ya L P bn ns .nilp (ar 0) (.bool false) ep kc ef fc (.pend false none)++X else Ya L P bn ns (.ptr (L+4) 0 0 0) (ar k) (.bool false) ep kc ef fc (.pend false (some .ret))++X):=by
 rw[mW fg (g:=nz) rfl];rcases hP with⟨rfl,a,rfl⟩|⟨rfl,a,b,rfl⟩
 all_goals
  cases ok
  ·simp[nz,oN,qP,jQ,gU,eR]
  simp[nz,oN,qP,jQ,gU,eR]
abbrev Ji(L:Nat)(bn:Bool)(ns:List bL)(k:Nat)(c:ap):List ap:=
 [.yld (L+9) 175 (Ym L bn ns),.ptr (L+6) 0 0 0,.mp (L+10),.any,.any,.any,.any,.any,.any,.any,.aa bn (ns.map bL.a),ar ns.length,ar k,c,.any,.any,.any]
abbrev stA(L:Nat)(P:ay)(bn:Bool)(ns:List bL)(k:Nat)(ks:List (dI Int))(fs:List Nat):ay:=
 Ya L P bn ns .nilp (ar 0) (.bool false) k (ks.map (dI.c (.int .i64))) k (fa fs) (.pend false none)++[.map (rl (L+4))]
theorem Q9(id base:Nat)(σ:ay)(h:id<base):(rl id).map (fun e=>(e.1,fz false true base σ 20 e.2))=rl id:=by
 simp[rl,h]
def I8(L:Nat)(P:ay)(bn:Bool)(ns:List bL)(k:Nat)(τ:ay):Prop:=
 ∃ep kc ef fc X,τ=Ya L P bn ns (.ptr (L+4) 0 0 0) (ar k) (.bool false) ep kc ef fc (.pend false (some .ret))++X
theorem ael(L:Nat)(P:ay)(hP:(L=1∧∃a,P=[.arr 1 0 [a]])∨(L=2∧∃a b,P=[.arr 1 0 [a],.arr 1 0 [b]]))(hPz:∀x,.arr 1 0 [x]∈P→∀base σ m,fz false true base σ (m+3) x=x)(bn:Bool)(ns:List bL)(hN:∀n∈ns,nO n)(hl:ns.length≤60) :
  match aV (pR ns.length) ns 0 ([],[]) with
  |.inl s=>(s.1.length=ns.length∧s.2.length=ns.length)∧cq code (L+11) [3,4,5,6,7,8,9,13,14,15,16] mw ⟨Ji L bn ns 0 .any,stA L P bn ns 0 [] []⟩=some (.ext 0,⟨Ji L bn ns ns.length (.bool false),stA L P bn ns ns.length s.1 s.2⟩)
  |.inr k=>∃env τ,cq code (L+11) [3,4,5,6,7,8,9,13,14,15,16] mw ⟨Ji L bn ns 0 .any,stA L P bn ns 0 [] []⟩=some (.ret,⟨env,τ⟩)∧I8 L P bn ns k τ:=by
 have hm:ns.length≤most:=by unfold most;omega
 have key:=cT (base:=L+11) (clr:=[3,4,5,6,7,8,9,13,14,15,16]) (b:=mw) ns
  (fun k (s:List (dI Int)×List Nat)=>⟨Ji L bn ns k .any,stA L P bn ns k s.1 s.2⟩)
  (fun k s=>(s.1.length=k∧s.2.length=k)∧(∀f∈s.2,f≤k)∧∀a∈s.1,a.l.length≤16) (pR ns.length)
  (fun s=>(.ext 0,⟨Ji L bn ns ns.length (.bool false),stA L P bn ns ns.length s.1 s.2⟩))
  (fun (k:Nat) o=>∃env τ,o=(.ret,⟨env,τ⟩)∧I8 L P bn ns k τ)
  (fun k n s hk hy hs=>by
   obtain⟨ks,fs⟩:=s;obtain⟨⟨hs1,hs2⟩,hs3,hs4⟩:=hs;simp only at hs1 hs2 hs3 hs4;have ak:((k:Int)<(ns.length:Int)):=by omega
   have n1:∀base σ m,fz true false base σ (m+3) n.a=n.a:=fun base σ m=>Ft.ft true false base σ m n rfl;have n3:aC n.a=12∧isAgg n.a=true:=⟨rfl,rfl⟩;have k0:(cellsOf n.a)[0]?=some (ar n.op):=rfl;have hkm:k+1≤most:=by unfold most;omega
   have hlk:=K9 (L+4) n.op;have hB:=OW n;have hbz:=fun σ=>SY n 0 σ 17;have hZ:=Ns n;have hnF:=hN n (aw hy);have hRt:=fun ep kc ef fc X=>Qb L P hP bn ns k true ep kc ef fc X;have hRf:=fun ep kc ef fc X=>Qb L P hP bn ns k false ep kc ef fc X;have htk:List.take k (ks.map (dI.c (.int .i64)))=ks.map (dI.c (.int .i64)):=av (by simp[hs1]);have htf:List.take k (fa fs)=fa fs:=av (by simp[hs2]);unfold pR xg;simp only;by_cases c1:1≤n.op∧n.op≤8
   ·rw[if_pos c1]at hlk;rw[Xy c1]at hZ;have d1:decide (1≤n.op)=true:=fD c1.1;have d2:decide (n.op≤8)=true:=fD c1.2;rw[d1,d2];cases c2:lu n with
    |false=>
     rw[c2]at hZ;have hR:=hRf (k+1) (ks.map (dI.c (.int .i64))++[.aj]) k (fa fs) [.map (rl (L+4)),.arr 12 0 [n.a],.arr 12 0 [(.agg (kY n))],.arr 12 0 [(.agg (kY n))]];rcases hP with⟨hL,a,rfl⟩|⟨hL,a,b,rfl⟩
     all_goals
      simp only[hL,Nat.reduceAdd]at hlk;simp[hs1,hs2,hL]at hR;exact⟨_,by simp[mw,hL,ak,hy,n3,k0,gG,hlk,hs1,hs2,append,hkm,htk,hB,hbz,hZ,hR,jc];rfl,_,_,rfl,k+1,ks.map (dI.c (.int .i64))++[.aj],k,fa fs,[.map (rl (L+4)),.arr 12 0 [n.a],.arr 12 0 [(.agg (kY n))],.arr 12 0 [(.agg (kY n))]],rfl⟩
    |true=>
     rw[c2]at hZ;have hBl:=NZ true bn ns true ks true fs k n hy hs2 hs3 (by omega);cases c3:(iV n k fs).2 with
     |false=>
      rw[c3]at hBl;rw[hs1,c3];have hR:=hRf (k+1) (ks.map (dI.c (.int .i64))++[.aj]) (k+1) (fa fs++[ar (iV n k fs).1]) [.map (rl (L+4)),.arr 12 0 [n.a],.arr 12 0 [(.agg (kY n))],.arr 12 0 [(.agg (kY n))]];rcases hP with⟨hL,a,rfl⟩|⟨hL,a,b,rfl⟩
      all_goals
       simp only[hL,Nat.reduceAdd]at hlk;simp[hs1,hs2,hL]at hR;exact⟨_,by simp[mw,hL,ak,hy,n3,k0,gG,hlk,hs1,hs2,append,hkm,htk,htf,hB,hbz,hZ,hBl,hR,jc];rfl,_,_,rfl,k+1,ks.map (dI.c (.int .i64))++[.aj],k+1,fa fs++[ar (iV n k fs).1],[.map (rl (L+4)),.arr 12 0 [n.a],.arr 12 0 [(.agg (kY n))],.arr 12 0 [(.agg (kY n))]],rfl⟩
     |true=>
      rw[c3]at hBl;rw[hs1,c3];obtain⟨hb1,hb2⟩:=BG hs2 hs3 c3;rw[hb1]at hBl;generalize (iV n k fs).1.toNat=f at *;have hat:AtL (Ya L P bn ns .nilp (ar 0) (.bool false) k (ks.map (dI.c (.int .i64))) (k+1) (fa (fs++[f])) (.pend false none)++[.map (rl (L+4)),.arr 12 0 [n.a],.arr 12 0 [.agg (kY n)],.arr 12 0 [.agg (kY n)]]) (L+4) (L+7) (L+8) bn ns k ks (k+1) (fs++[f]):=by
       rcases hP with⟨hL,a,rfl⟩|⟨hL,a,b,rfl⟩
       all_goals
        subst hL;exact⟨by simp only[Ya,cf];rfl,rfl,rfl⟩
      obtain⟨b',l,X,hq,hr⟩:=Tx hat n hnF c1 (fs0:=fs) (by rw[hs1];exact c3) (by rw[hs1];exact hs3) (by rw[hs1];exact hs2) hs4 (by omega) (by omega);have hl3:(aZ l).length=l.length:=by simp
      have hnc:aC (.aa b' (aZ l))=1∧isAgg (.aa b' (aZ l))=false:=⟨rfl,rfl⟩;have hRf':=hRf (k+1) (ks.map (dI.c (.int .i64))++[.aa b' (aZ l)]) (k+1) (fa (fs++[f])) (.map (rl (L+4))::.arr 12 0 [n.a]::.arr 12 0 [.agg (kY n)]::.arr 12 0 [.agg (kY n)]::X);have hRt':=hRt (k+1) (ks.map (dI.c (.int .i64))++[.aa b' (aZ l)]) (k+1) (fa (fs++[f])) (.map (rl (L+4))::.arr 12 0 [n.a]::.arr 12 0 [.agg (kY n)]::.arr 12 0 [.agg (kY n)]::X);cases hA:nN ns.length ks n with
      |none=>
       rw[hA]at hq;simp only[Bool.and_self,dY,cz];rcases hP with⟨hL,a,rfl⟩|⟨hL,a,b,rfl⟩
       all_goals
        simp only[hL,Nat.reduceAdd]at hlk;simp[hs1,hs2,hL]at hRf' hq;exact⟨_,by simp[mw,hL,ak,hy,n3,k0,gG,hlk,hs1,hs2,append,hkm,htk,htf,hB,hbz,hZ,hBl,hq,hRf',jc];rfl,_,_,rfl,k+1,ks.map (dI.c (.int .i64))++[.aa b' (aZ l)],k+1,fa (fs++[f]),.map (rl (L+4))::.arr 12 0 [n.a]::.arr 12 0 [.agg (kY n)]::.arr 12 0 [.agg (kY n)]::X,rfl⟩
      |some r=>
       obtain rfl:=hr r hA;rw[hA]at hq;simp only;by_cases hw:16<l.length
       ·have hw':¬((l.length:Int)≤16):=by omega
        rw[if_pos hw];rcases hP with⟨hL,a,rfl⟩|⟨hL,a,b,rfl⟩
        all_goals
         simp only[hL,Nat.reduceAdd]at hlk;simp[hs1,hs2,hL]at hRf' hq;exact⟨_,by simp[mw,hL,ak,hy,n3,k0,gG,hlk,hs1,hs2,append,hkm,htk,htf,hB,hbz,hZ,hBl,hq,hw',hRf',jc];rfl,_,_,rfl,k+1,ks.map (dI.c (.int .i64))++[.aa b' (aZ l)],k+1,fa (fs++[f]),.map (rl (L+4))::.arr 12 0 [n.a]::.arr 12 0 [.agg (kY n)]::.arr 12 0 [.agg (kY n)]::X,rfl⟩
       have hw':((l.length:Int)≤16):=by omega
       rw[if_neg hw];refine⟨?_,⟨by simp[hs1],by simp[hs2]⟩,?_,?_⟩
       ·have hmz:=fun base σ h=>Q9 (L+4) base σ h;rcases hP with⟨hL,a,rfl⟩|⟨hL,a,b,rfl⟩
        ·have hza:=hPz a (by simp);simp only[hL,Nat.reduceAdd]at hlk hmz;simp[hs1,hs2,hL]at hRt' hq;simp[Ji,mw,hL,ak,hy,n3,k0,gG,hlk,hs1,hs2,append,hkm,htk,htf,hB,hbz,hZ,hBl,hq,hw',hRt',jc,aE,aH,tw,hza,hmz,aX hk hm]
        have hza:=hPz a (by simp);have hzb:=hPz b (by simp);simp only[hL,Nat.reduceAdd]at hlk hmz;simp[hs1,hs2,hL]at hRt' hq;simp[Ji,mw,hL,ak,hy,n3,k0,gG,hlk,hs1,hs2,append,hkm,htk,htf,hB,hbz,hZ,hBl,hq,hw',hRt',jc,aE,aH,tw,hza,hzb,hmz,aX hk hm]
       ·intro x hx;rcases bT.1 hx with hx|hx
        ·exact Nat.le_succ_of_le (hs3 x hx)
        rw[ce.1 hx];omega
       intro x hx;rcases bT.1 hx with hx|hx
       ·exact hs4 x hx
       rw[ce.1 hx];simp;omega
   rw[if_neg c1]at hlk;have e:(decide (1≤n.op)&&decide (n.op≤8)&&lu n&&(iV n ks.length fs).2)=false:=by
    by_cases h:1≤n.op
    ·have:¬n.op≤8:=fun h'=>c1 ⟨h,h'⟩;simp[this]
    simp[h]
   rw[if_pos e];have hR:=hRf (k+1) (ks.map (dI.c (.int .i64))++[.aj]) k (fa fs) [.map (rl (L+4)),.arr 12 0 [n.a]];rcases hP with⟨hL,a,rfl⟩|⟨hL,a,b,rfl⟩
   all_goals
    simp only[hL,Nat.reduceAdd]at hlk;simp[hs1,hs2,hL]at hR;exact⟨_,by simp[mw,hL,ak,hy,n3,k0,gG,hlk,hs1,hs2,append,hkm,htk,hR,jc];rfl,_,_,rfl,k+1,ks.map (dI.c (.int .i64))++[.aj],k,fa fs,[.map (rl (L+4)),.arr 12 0 [n.a]],rfl⟩)
  (fun s hs=>by
   rcases hP with⟨rfl,a,rfl⟩|⟨rfl,a,b,rfl⟩
   all_goals simp[mw]) ([],[]) ⟨⟨rfl,rfl⟩,by simp,by simp⟩
 simp only[show ((0:Nat):Int)=0 from rfl]at key;cases hf:aV (pR ns.length) ns 0 ([],[]) with
 |inl s=>
  rw[hf]at key;exact⟨key.1.1,key.2⟩
 |inr k=>
  rw[hf]at key;obtain⟨o,h1,env,τ,rfl,h2⟩:=key;exact⟨env,τ,h1,h2⟩
def mS(ns:List bL):Option (List (dI Int)×List Nat):=
 if ns.length<1∨60<ns.length then none else match aV (pR ns.length) ns 0 ([],[]) with
 |.inl s=>if s.2.getD (ns.length-1) 0=0 then some s else none
 |.inr _=>none
abbrev stE(L:Nat)(P:ay)(bn:Bool)(ns:List bL)(s:List (dI Int)×List Nat)(t:Bool):ay:=
 Ya L P bn ns (.ptr (L+4) 0 0 0) (ar ((ns.length:Int)-1)) (.bool t) ns.length (s.1.map (dI.c (.int .i64))) ns.length (fa s.2) .dead++[.map (rl (L+4))]
theorem MP(id:Nat)(N:ap)(σ:ay)(h:σ[id]?=some (.arr 3 0 [.agg [N,.aj,.aj]])) :
  cA code I.qec [.ptr id 0 0 0] σ=some (.fn 271 [] [.ptr σ.length 0 0 0],(σ.set id (.arr 3 0 [.agg [N,.sl (σ.length+1) 0 0 0,.sl (σ.length+2) 0 0 0]]))++[.arr 1 0 [.ptr id 0 0 0],.arr 1 0 [],.arr 1 0 []]):=by
 rw[bp ajJ rfl];have hl:=(al.1 h).1;have h2:(σ++[.arr 1 0 [.ptr id 0 0 0]])[id]?=some (.arr 3 0 [.agg [N,.aj,.aj]]):=by rw[bB hl,h]
 have h3:∀X t,(σ.set id X++t)[id]?=some X:=fun X t=>by rw[bB (by simpa using hl)];simp[hl]
 simp[apW,adz,h,h2,h3,hl]
theorem AA(L:Nat)(P:ay)(hP:(L=1∧∃a,P=[.arr 1 0 [a]])∨(L=2∧∃a b,P=[.arr 1 0 [a],.arr 1 0 [b]]))(hPz:∀x,.arr 1 0 [x]∈P→∀base σ m,fz false true base σ (m+3) x=x)(bn:Bool)(ns:List bL)(hN:∀n∈ns,nO n)(h1:ns.length≤60) :
  match aV (pR ns.length) ns 0 ([],[]) with
  |.inl s=>(s.1.length=ns.length∧s.2.length=ns.length)∧cA code 271 [.yld (L+9) 175 (Ym L bn ns),.ptr (L+6) 0 0 0] (Ya L P bn ns .nilp (.int .i64 0) (.bool false) 0 [] 0 [] (.pend false none))=some (.tup [],stA L P bn ns ns.length s.1 s.2)
  |.inr k=>∃τ,cA code 271 [.yld (L+9) 175 (Ym L bn ns),.ptr (L+6) 0 0 0] (Ya L P bn ns .nilp (.int .i64 0) (.bool false) 0 [] 0 [] (.pend false none))=some (.tup [],τ)∧I8 L P bn ns k τ:=by
 have hk:=ael L P hP hPz bn ns hN h1;cases hf:aV (pR ns.length) ns 0 ([],[]) with
 |inl s=>
  rw[hf]at hk;obtain⟨e1,hk⟩:=hk;refine⟨e1,?_⟩;rw[bp aaO rfl];rcases hP with⟨hL,a,rfl⟩|⟨hL,a,b,rfl⟩
  all_goals
   subst hL;simp[Ji,rl]at hk;simp[apu,Vo,gG,mput,s9,rl,hk]
 |inr k=>
  rw[hf]at hk;obtain⟨env,τ,hk,hS⟩:=hk;refine⟨τ,?_,hS⟩;rw[bp aaO rfl];rcases hP with⟨hL,a,rfl⟩|⟨hL,a,b,rfl⟩
  all_goals
   subst hL;simp[Ji,rl]at hk;simp[apu,Vo,gG,mput,s9,rl,hk]
theorem Yh(L:Nat)(P:ay)(hP:(L=1∧∃a,P=[.arr 1 0 [a]])∨(L=2∧∃a b,P=[.arr 1 0 [a],.arr 1 0 [b]]))(hPz:∀x,.arr 1 0 [x]∈P→∀base σ m,fz false true base σ (m+3) x=x)(bn:Bool)(ns:List bL)(hN:∀n∈ns,nO n)
  (h0:0<ns.length) (h1:ns.length≤60) (s:List (dI Int)×List Nat) (hs:aV (pR ns.length) ns 0 ([],[])=.inl s) :
  cA code I.qeq [.agg [.aa bn (ns.map bL.a)]] P=some (.tup [.ptr (L+4) 0 0 0,ar ((ns.length:Int)-1),.bool (s.2.getD (ns.length-1) 0==0)],stE L P bn ns s (s.2.getD (ns.length-1) 0==0)):=by
 rw[bp XG rfl];have c1:¬((ns.length:Int)<1):=by omega
 have c2:¬(60<(ns.length:Int)):=by omega
 have hm:ns.length≤most:=by unfold most;omega
 have hk:=AA L P hP hPz bn ns hN h1;rw[hs]at hk;obtain⟨⟨e1,e2⟩,hk⟩:=hk;have w1:=rn (n:=(ns.length:Int)-1) (by omega) (by omega);have w2:(0:Int)≤(ns.length:Int)-1:=by omega
 have w3:((ns.length:Int)-1).toNat=ns.length-1:=by omega
 have w4:((ns.length:Int)-1<(ns.length:Int)):=by omega
 have w5:(1:Int)≤(ns.length:Int):=by omega
 have w6:ns.length-1<s.2.length:=by omega
 have w7:ns.length-1<ns.length:=by omega
 obtain⟨ks,fs⟩:=s;simp only at *;have hof:fs[ns.length-1]?=some (fs.getD (ns.length-1) 0):=by simp[au,w6]
 have hge:∀h:ns.length-1<fs.length,fs[ns.length-1]'h=fs.getD (ns.length-1) 0:=fun h=>(al.1 hof).2;generalize fs.getD (ns.length-1) 0=f at *;have hA:=fun id σ h=>MP id (.aa bn (ns.map bL.a)) σ h;have hf0:((f:Int)==0)=(f==0):=by rw[eF,aP,aP];omega
 rcases hP with⟨hL,a,rfl⟩|⟨hL,a,b,rfl⟩
 all_goals
  subst hL;simp at hk;simp[aoM,Lh,c1,c2,hA,hk,jC,w1,w2,w3,w4,w5,w6,w7,hof,hge,e1,e2,hf0]
theorem TU(L:Nat)(P:ay)(hP:(L=1∧∃a,P=[.arr 1 0 [a]])∨(L=2∧∃a b,P=[.arr 1 0 [a],.arr 1 0 [b]]))(hPz:∀x,.arr 1 0 [x]∈P→∀base σ m,fz false true base σ (m+3) x=x)(bn:Bool)(ns:List bL)(hN:∀n∈ns,nO n)
  (h0:0<ns.length) (h1:ns.length≤60) (k:Nat) (hs:aV (pR ns.length) ns 0 ([],[])=.inr k) :
  ∃τ,cA code I.qeq [.agg [.aa bn (ns.map bL.a)]] P=some (.tup [.ptr (L+4) 0 0 0,ar k,.bool false],τ):=by
 rw[bp XG rfl];have c1:¬((ns.length:Int)<1):=by omega
 have c2:¬(60<(ns.length:Int)):=by omega
 have hk:=AA L P hP hPz bn ns hN h1;rw[hs]at hk;obtain⟨τ,hk,ep,kc,ef,fc,X,rfl⟩:=hk;have hA:=fun id σ h=>MP id (.aa bn (ns.map bL.a)) σ h;rcases hP with⟨hL,a,rfl⟩|⟨hL,a,b,rfl⟩
 all_goals
  subst hL;simp at hk;exact⟨_,by simp[aoM,Lh,c1,c2,hA,hk,jC];rfl⟩
theorem Tc(L:Nat)(P:ay)(hP:(L=1∧∃a,P=[.arr 1 0 [a]])∨(L=2∧∃a b,P=[.arr 1 0 [a],.arr 1 0 [b]]))(bn:Bool)(ns:List bL)(h0:ns.length<1∨60<ns.length) :
  ∃τ,cA code I.qeq [.agg [.aa bn (ns.map bL.a)]] P=some (.tup [.ptr (L+4) 0 0 0,ar 0,.bool false],τ):=by
 rw[bp XG rfl];rcases hP with⟨hL,a,rfl⟩|⟨hL,a,b,rfl⟩
 all_goals
  subst hL;by_cases c1:ns.length<1
  ·have c1':((ns.length:Int)<1):=by omega
   exact⟨_,by simp[aoM,Lh,c1'];rfl⟩
  have c1':¬((ns.length:Int)<1):=by omega
  have c2':(60<(ns.length:Int)):=by omega
  exact⟨_,by simp[aoM,Lh,c1',c2'];rfl⟩
theorem Kh(L:Nat)(P:ay)(hP:(L=1∧∃a,P=[.arr 1 0 [a]])∨(L=2∧∃a b,P=[.arr 1 0 [a],.arr 1 0 [b]]))(hPz:∀x,.arr 1 0 [x]∈P→∀base σ m,fz false true base σ (m+3) x=x)(bn:Bool)(ns:List bL)(hN:∀n∈ns,nO n) :
  match mS ns with
  |some s=>(0<ns.length∧ns.length≤60∧s.1.length=ns.length∧s.2.length=ns.length)∧cA code I.qeq [.agg [.aa bn (ns.map bL.a)]] P=some (.tup [.ptr (L+4) 0 0 0,.int .i64 ((ns.length:Int)-1),.bool true],stE L P bn ns s true)
  |none=>∃k τ,cA code I.qeq [.agg [.aa bn (ns.map bL.a)]] P=some (.tup [.ptr (L+4) 0 0 0,.int .i64 k,.bool false],τ):=by
 unfold mS;by_cases h:ns.length<1∨60<ns.length
 ·rw[if_pos h];obtain⟨τ,h⟩:=Tc L P hP bn ns h;exact⟨_,τ,h⟩
 rw[if_neg h];have h0:0<ns.length:=by omega
 have h1:ns.length≤60:=by omega
 cases hf:aV (pR ns.length) ns 0 ([],[]) with
 |inr k=>
  obtain⟨τ,h⟩:=TU L P hP hPz bn ns hN h0 h1 k hf;exact⟨_,τ,h⟩
 |inl s=>
  have hk:=Yh L P hP hPz bn ns hN h0 h1 s hf;have hl:=AA L P hP hPz bn ns hN h1;rw[hf]at hl;simp only;by_cases c:s.2.getD (ns.length-1) 0=0
  ·rw[if_pos c];rw[c]at hk;exact⟨⟨h0,h1,hl.1.1,hl.1.2⟩,hk⟩
  rw[if_neg c];rw[show (s.2.getD (ns.length-1) 0==0)=false by simpa using c]at hk;exact⟨_,_,hk⟩
theorem mT(bn:Bool)(ns:List bL)(hN:∀n∈ns,nO n):∃k,aK I.qdx [.agg [.aa bn (ns.map bL.a)]]=some (.tup [ar k,ar (if (mS ns).isSome then 0 else 230)]):=by
 have h:=Kh 1 [.arr 1 0 [.agg [.aa bn (ns.map bL.a)]]] (.inl ⟨rfl,_,rfl⟩) (fun x hx base σ m=>by simp at hx;rw[hx];simp) bn ns hN;cases hl:mS ns with
 |none=>
  rw[hl]at h;obtain⟨k,τ,h⟩:=h;refine⟨k,?_⟩;rw[aA aaR rfl];simp[apn,WC,h]
 |some s=>
  rw[hl]at h;obtain⟨_,h⟩:=h;refine⟨0,?_⟩;rw[aA aaR rfl];simp[apn,WC,h]
theorem S0(bn:Bool)(ns:List bL)(hN:∀n∈ns,nO n)(s:List (dI Int)×List Nat)(hl:mS ns=some s)(hs:∀a∈s.1,a.l.length≤16) :
  aK I.qdy [.agg [.aa bn (ns.map bL.a)]]=some (.tup [.aa false (aZ (s.1.getD (ns.length-1) lY).l),ar 0]):=by
 have h:=Kh 1 [.arr 1 0 [.agg [.aa bn (ns.map bL.a)]]] (.inl ⟨rfl,_,rfl⟩) (fun x hx base σ m=>by simp at hx;rw[hx];simp) bn ns hN;rw[hl]at h;obtain⟨⟨h0,h1,e1,e2⟩,h⟩:=h;rw[aA ag5 rfl];obtain⟨ks,fs⟩:=s;simp only at *;have w1:=rn (n:=(ns.length:Int)-1) (by omega) (by omega);have w2:(0:Int)≤(ns.length:Int)-1:=by omega
 have w3:((ns.length:Int)-1).toNat=ns.length-1:=by omega
 have w4:((ns.length:Int)-1<(ns.length:Int)):=by omega
 have w5:(1:Int)≤(ns.length:Int):=by omega
 have w6:ns.length-1<ks.length:=by omega
 have w7:ns.length-1<ns.length:=by omega
 have hof:ks[ns.length-1]?=some (ks.getD (ns.length-1) lY):=by simp[au,w6]
 have hge:∀h:ns.length-1<ks.length,ks[ns.length-1]'h=ks.getD (ns.length-1) lY:=fun h=>(al.1 hof).2;have hlen:=hs _ (aw hof);generalize ks.getD (ns.length-1) lY=a at *;have hcl:=lg (enc:=.int .i64) a.b a.l (by unfold most;omega);simp at h;simp[aqq,acv,h,w1,w2,w3,w4,w5,w6,w7,hof,hge,e1,e2,hcl]
theorem GH(N:Nat):∀(l:List bL) (i:Nat) (a:List (dI Int)) (b:List Nat) (s:List (dI Int)×List Nat),a.length=i→b.length=i→aV (pR N) l i (a,b)=.inl s →
  (s.1.take i=a∧s.2.take i=b)∧s.1.length=i+l.length∧s.2.length=i+l.length∧∀k n,l[k]?=some n→∃r f,s.1[i+k]?=some r∧s.2[i+k]?=some f∧xg N n (s.1.take (i+k)) (s.2.take (i+k))=some (r,f)
 |[],i,a,b,s,ha,hb,h=>by
  cases h;exact⟨⟨av (by show a.length≤i;omega),av (by show b.length≤i;omega)⟩,by simpa using ha,by simpa using hb,fun k n hk=>by simp at hk⟩
 |m::l,i,a,b,s,ha,hb,h=>by
  simp only[aV]at h;unfold pR at h;cases hs:xg N m a b with
  |none=>rw[hs]at h;cases h
  |some q=>
   obtain⟨r,f⟩:=q;rw[hs]at h;simp only at h;obtain⟨⟨h1,h2⟩,h3,h4,h5⟩:=GH N l (i+1) (a++[r]) (b++[f]) s (by simp[ha]) (by simp[hb]) h;have t1:s.1.take i=a:=by
    have:=congrArg (List.take i) h1;rw[kZ,dx (by omega)]at this;rw[this,←ha];simp
   have t2:s.2.take i=b:=by
    have:=congrArg (List.take i) h2;rw[kZ,dx (by omega)]at this;rw[this,←hb];simp
   have g1:s.1[i]?=some r:=by
    have:=congrArg (·[i]?) h1;simp only[df]at this;rw[if_pos (by omega)]at this;rw[this,←ha];simp
   have g2:s.2[i]?=some f:=by
    have:=congrArg (·[i]?) h2;simp only[df]at this;rw[if_pos (by omega)]at this;rw[this,←hb];simp
   refine⟨⟨t1,t2⟩,by simp;omega,by simp;omega,fun k n hk=>?_⟩;cases k with
   |zero=>
    simp at hk;subst hk;exact⟨r,f,g1,g2,by rw[eK,t1,t2];exact hs⟩
   |succ k=>
    have:=h5 k n (by simpa using hk);rw[show i+1+k=i+(k+1) by omega]at this;exact this
structure aa1 (N:Nat) (K:Nat→List Int) (fs:List Nat) (k:Nat) (n:bL):Prop where
 op:1≤n.op∧n.op≤8
 blank:lu n=true
 len:(K k).length≤16
 first:∃f,fs[k]?=some f∧f≤k∧(n.op=1→f=k)∧(n.op=3∨n.op=4∨n.op=5∨n.op=6∨n.op=8→n.l=(k:Int)-1∧n.r=-1∧k≠0∧fs[k-1]?=some f) ∧
  (n.op=2∨n.op=7→∃p g:Nat,n.l=(p:Int)∧n.r=(k:Int)-1∧k≠0∧fs[k-1]?=some g∧p+1=g∧fs[p]?=some f)
 scan:n.op=1→n.l=-1∧n.r=-1∧rD n=true∧K k=n.af
 join:n.op=2→∃p q:Nat,n.l=(p:Int)∧n.r=(q:Int)∧p<k∧q<k∧jU n.cond (K p++K q)=true∧K k=K p++K q
 filter:n.op=3→∃p:Nat,n.l=(p:Int)∧p<k∧jU n.cond (K p)=true∧K k=K p
 group:n.op=4→∃p:Nat,n.l=(p:Int)∧p<k∧nu n (K p)=true∧(∀g∈n.ai,(ln (K p) g).1=true)∧K k=(n.keys.map fun x=>(K p).getD x.toNat 0)++n.ai.map (u6 (K p))
 project:n.op=5→∃p:Nat,n.l=(p:Int)∧p<k∧1≤n.items.length∧n.items.length≤16∧(∀e∈n.items,(eC e.l (K p)).2=0)∧K k=n.items.map fun e=>(eC e.l (K p)).1
 distinct:n.op=6→∃p:Nat,n.l=(p:Int)∧p<k∧K k=K p
 union:n.op=7→∃p q:Nat,n.l=(p:Int)∧n.r=(q:Int)∧p<k∧q<k∧(K p).length=(K q).length∧ev (K p) (K q)=some (K k)
 sort:n.op=8→∃p:Nat,n.l=(p:Int)∧p<k∧sortF n (K p)=true∧k+1=N∧K k=K p
theorem NM{N:Nat}{n:bL}{ks:List (dI Int)}{fs:List Nat}{k:Nat}{r:dI Int}{f:Nat}(hks:k<ks.length)(hfs:k<fs.length)(hle:∀(i g:Nat),fs[i]?=some g→g≤i)(hr:ks[k]?=some r)(hf:fs[k]?=some f)(h:xg N n (ks.take k) (fs.take k)=some (r,f)) :
  aa1 N (fun i=>(ks.getD i lY).l) fs k n:=by
 have hl1:(ks.take k).length=k:=by simp;omega
 have hl2:(fs.take k).length=k:=by simp;omega
 have hget:∀p,p<k→(ks.take k)[p]?=some (ks.getD p lY):=fun p hp=>by
  have:p<ks.length:=by omega
  rw[df,if_pos hp,au,am this];rfl
 have hno:∀p,¬p<k→(ks.take k)[p]?=none:=fun p hp=>dC (by omega);have hfg:∀p,p<k→(fs.take k).getD p 0=fs.getD p 0∧fs[p]?=some (fs.getD p 0):=fun p hp=>by
  have:p<fs.length:=by omega
  rw[au,df,if_pos hp,au,am this];exact⟨rfl,rfl⟩
 have hKk:(ks.getD k lY)=r:=by rw[au,hr];rfl
 unfold xg at h;rw[hl1]at h;split at h
 ·cases h
 rename_i hc;simp only[gT,aq,aL]at hc;obtain⟨⟨⟨o1,o2⟩,hbl⟩,hb⟩:=hc;cases hA:nN N (ks.take k) n with
 |none=>rw[hA]at h;cases h
 |some q=>
  rw[hA]at h;simp only at h;split at h
  ·cases h
  rename_i h16;simp only[aJ,dN]at h;obtain⟨h1,h2⟩:=h;subst h1;have hleq:∀g∈fs.take k,g≤k:=fun g hg=>by
   obtain⟨i,hi⟩:=dt.1 hg;rw[df]at hi;split at hi
   ·have:=hle i g hi;omega
   cases hi
  obtain⟨b1,b2⟩:=BG hl2 hleq hb;rw[h2]at b1 b2;have one:n.op=3∨n.op=4∨n.op=5∨n.op=6∨n.op=8→n.l=(k:Int)-1∧n.r=-1∧k≠0∧fs[k-1]?=some f:=fun hq=>by
   unfold iV at hb b1;have e0:¬fL n.op=0:=by unfold fL;rw[if_neg (by omega)];split<;>omega
   have e1:fL n.op=1:=by unfold fL;rw[if_neg (by omega),if_neg (by omega)]
   rw[if_neg e0,if_pos e1]at hb b1;by_cases hx:n.l≠(k:Int)-1∨n.r≠-1∨k=0
   ·rw[if_pos hx]at hb;cases hb
   rw[if_neg hx]at b1;have k0:k≠0:=fun hz=>hx (.inr (.inr hz));obtain⟨g1,g2⟩:=hfg (k-1) (by omega);have:fs.getD (k-1) 0=f:=by rw[g1]at b1;exact Int.ofNat.inj b1
   refine⟨?_,?_,k0,by rw[g2,this]⟩
   ·by_cases hy:n.l=(k:Int)-1
    ·exact hy
    exact absurd (.inl hy) hx
   by_cases hy:n.r=-1
   ·exact hy
   exact absurd (.inr (.inl hy)) hx
  have two:n.op=2∨n.op=7→∃p g:Nat,n.l=(p:Int)∧n.r=(k:Int)-1∧k≠0∧fs[k-1]?=some g∧p+1=g∧fs[p]?=some f:=fun hq=>by
   unfold iV at hb b1;have e0:¬fL n.op=0:=by unfold fL;rw[if_neg (by omega),if_pos hq];omega
   have e1:¬fL n.op=1:=by unfold fL;rw[if_neg (by omega),if_pos hq];omega
   rw[if_neg e0,if_neg e1]at hb b1;by_cases hx:n.r≠(k:Int)-1∨k=0∨n.l≠(((fs.take k).getD (k-1) 0:Nat):Int)-1∨n.l<0
   ·rw[if_pos hx]at hb;cases hb
   rw[if_neg hx]at b1;have k0:k≠0:=fun hz=>hx (.inr (.inl hz));obtain⟨g1,g2⟩:=hfg (k-1) (by omega);have l0:0≤n.l:=by
    by_cases hy:n.l<0
    ·exact absurd (.inr (.inr (.inr hy))) hx
    omega
   have l1:n.l=((fs.getD (k-1) 0:Nat):Int)-1:=by
    by_cases hy:n.l=(((fs.take k).getD (k-1) 0:Nat):Int)-1
    ·rw[←g1];exact hy
    exact absurd (.inr (.inr (.inl hy))) hx
   have l2:=hle _ _ g2;obtain⟨g3,g4⟩:=hfg n.l.toNat (by omega);have:fs.getD n.l.toNat 0=f:=by rw[g3]at b1;exact Int.ofNat.inj b1
   refine⟨n.l.toNat,fs.getD (k-1) 0,by omega,?_,k0,g2,by omega,by rw[g4,this]⟩;by_cases hy:n.r=(k:Int)-1
   ·exact hy
   exact absurd (.inl hy) hx
  have zero:n.op=1→n.l=-1∧n.r=-1∧f=k:=fun hq=>by
   unfold iV at hb b1;have e0:fL n.op=0:=by unfold fL;rw[if_pos hq]
   rw[if_pos e0]at hb b1;simp at hb b1;omega
  unfold nN at hA;refine⟨⟨o1,o2⟩,hbl,by simp only[hKk];omega,⟨f,hf,b2,fun hq=>(zero hq).2.2,one,two⟩,fun c=>?_,fun c=>?_,fun c=>?_,fun c=>?_,fun c=>?_,fun c=>?_,fun c=>?_,fun c=>?_⟩
  ·rw[if_pos c]at hA;split at hA
   ·rename_i hs;cases hA;exact⟨(zero c).1,(zero c).2.1,hs,by simp only[hKk]⟩
   cases hA
  ·obtain⟨p,g,hp,hq,k0,g1,g2,_⟩:=two (.inl c);have:=hle _ _ g1;have hpk:p<k:=by omega
   have hqk:k-1<k:=by omega
   have hq':n.r=((k-1:Nat):Int):=by omega
   rw[if_neg (by omega),hp,aR,hget p hpk]at hA;simp only[bM]at hA;rw[if_pos c,hq',aR,hget (k-1) hqk]at hA;simp only[bM]at hA;split at hA
   ·rename_i ht;cases hA;exact⟨p,k-1,hp,hq',hpk,hqk,ht,by simp only[hKk]⟩
   cases hA
  ·obtain⟨hp,_,k0,_⟩:=one (.inl c);have hqk:k-1<k:=by omega
   have hp':n.l=((k-1:Nat):Int):=by omega
   rw[if_neg (by omega),hp',aR,hget (k-1) hqk]at hA;simp only[bM]at hA;rw[if_neg (by omega),if_pos c]at hA;split at hA
   ·rename_i ht;cases hA;exact⟨k-1,hp',hqk,ht,by simp only[hKk]⟩
   cases hA
  ·obtain⟨hp,_,k0,_⟩:=one (.inr (.inl c));have hqk:k-1<k:=by omega
   have hp':n.l=((k-1:Nat):Int):=by omega
   rw[if_neg (by omega),hp',aR,hget (k-1) hqk]at hA;simp only[bM]at hA;rw[if_neg (by omega),if_neg (by omega),if_pos c]at hA;split at hA
   ·rename_i ht;cases hA;simp only[aq,aG]at ht;exact⟨k-1,hp',hqk,ht.1,ht.2,by simp only[hKk]⟩
   cases hA
  ·obtain⟨hp,_,k0,_⟩:=one (.inr (.inr (.inl c)));have hqk:k-1<k:=by omega
   have hp':n.l=((k-1:Nat):Int):=by omega
   rw[if_neg (by omega),hp',aR,hget (k-1) hqk]at hA;simp only[bM]at hA;rw[if_neg (by omega),if_neg (by omega),if_neg (by omega),if_pos c]at hA;split at hA
   ·rename_i ht;cases hA;simp only[aq,aG,aL,aP]at ht;exact⟨k-1,hp',hqk,ht.1.1,ht.1.2,ht.2,by simp only[hKk]⟩
   cases hA
  ·obtain⟨hp,_,k0,_⟩:=one (.inr (.inr (.inr (.inl c))));have hqk:k-1<k:=by omega
   have hp':n.l=((k-1:Nat):Int):=by omega
   rw[if_neg (by omega),hp',aR,hget (k-1) hqk]at hA;simp only[bM]at hA;rw[if_neg (by omega),if_neg (by omega),if_neg (by omega),if_neg (by omega),if_pos c]at hA;cases hA;exact⟨k-1,hp',hqk,by simp only[hKk]⟩
  ·obtain⟨p,g,hp,hq,k0,g1,g2,_⟩:=two (.inr c);have:=hle _ _ g1;have hpk:p<k:=by omega
   have hqk:k-1<k:=by omega
   have hq':n.r=((k-1:Nat):Int):=by omega
   rw[if_neg (by omega),hp,aR,hget p hpk]at hA;simp only[bM]at hA;rw[if_neg (by omega),if_neg (by omega),if_neg (by omega),if_neg (by omega),if_neg (by omega),if_pos c,hq',aR,hget (k-1) hqk]at hA;simp only[bM]at hA;split at hA
   ·rename_i hl;cases hu:ev (ks.getD p lY).l (ks.getD (k-1) lY).l with
    |none=>rw[hu]at hA;cases hA
    |some w=>
     rw[hu]at hA;cases hA;exact⟨p,k-1,hp,hq',hpk,hqk,hl,by simp only[hKk];exact hu⟩
   cases hA
  obtain⟨hp,_,k0,_⟩:=one (.inr (.inr (.inr (.inr c))));have hqk:k-1<k:=by omega
  have hp':n.l=((k-1:Nat):Int):=by omega
  rw[if_neg (by omega),hp',aR,hget (k-1) hqk]at hA;simp only[bM]at hA;rw[if_neg (by omega),if_neg (by omega),if_neg (by omega),if_neg (by omega),if_neg (by omega),if_neg (by omega),if_pos c]at hA;split at hA
  ·rename_i ht;cases hA;simp only[aq,aL]at ht;exact⟨k-1,hp',hqk,ht.1,by omega,by simp only[hKk]⟩
  cases hA
end Go.AM
