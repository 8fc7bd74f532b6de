/- Part of the proof. -/
import Derived.Test.YtdfklhejofpgbaaGreatDoorAm18
set_option linter.unusedVariables false
set_option linter.unusedSimpArgs false
namespace Go.AM
set_option maxHeartbeats 4000000
abbrev dh(s:List (dI Int)×List Nat):Nat→List Int:=fun i=>(s.1.getD i lY).l
structure lC (ns:List bL) (s:List (dI Int)×List Nat):Prop where
 pos:0<ns.length
 most:ns.length≤60
 len1:s.1.length=ns.length
 len2:s.2.length=ns.length
 le:∀(i g:Nat),s.2[i]?=some g→g≤i
 node:∀(k:Nat) n,ns[k]?=some n→aa1 ns.length (dh s) s.2 k n
 root:s.2[ns.length-1]?=some 0
theorem WO{ns:List bL}{s:List (dI Int)×List Nat}(h:mS ns=some s):lC ns s:=by
 unfold mS at h;split at h
 ·cases h
 rename_i hc;cases hf:aV (pR ns.length) ns 0 ([],[]) with
 |inr k=>rw[hf]at h;cases h
 |inl q=>
  rw[hf]at h;simp only at h;split at h
  ·rename_i h0;have hq:q=s:=cB h;subst hq;obtain⟨_,h1,h2,h3⟩:=GH ns.length ns 0 [] [] q rfl rfl hf;rw[bS]at h1 h2;have hle:∀(i g:Nat),q.2[i]?=some g→g≤i:=by
    intro i;induction i using Nat.strongRecOn with
    |ind i ih=>
     intro g hg;have hi:=(al.1 hg).1;obtain⟨r,f,e1,e2,e3⟩:=h3 i ns[i] (am (by omega));rw[bS]at e1 e2 e3;rw[hg]at e2;cases e2;have ak:(q.2.take i).length=i:=by simp;omega
     have hlk:(q.1.take i).length=i:=by simp;omega
     unfold xg at e3;split at e3
     ·cases e3
     rename_i hb;simp only[gT,aq]at hb;rw[hlk]at hb;have:=(BG ak (fun x hx=>by
      obtain⟨j,hj⟩:=dt.1 hx;rw[df]at hj;split at hj
      ·rename_i hji;have:=ih j hji x hj;omega
      cases hj) hb.2).2
     cases hA:nN ns.length (q.1.take i) ns[i] with
     |none=>rw[hA]at e3;cases e3
     |some r'=>
      rw[hA]at e3;simp only at e3;split at e3
      ·cases e3
      cases e3;rw[hlk];exact this
   refine⟨by omega,by omega,h1,h2,hle,fun k n hk=>?_,?_⟩
   ·obtain⟨r,f,e1,e2,e3⟩:=h3 k n hk;rw[bS]at e1 e2 e3;have:=(al.1 hk).1;exact NM (by omega) (by omega) hle e1 e2 e3
   have:ns.length-1<q.2.length:=by omega
   rw[au,am this]at h0;rw[am this];simpa using h0
  cases h
theorem lC.nest{ns:List bL}{s:List (dI Int)×List Nat}(h:lC ns s):∀(p f:Nat),s.2[p]?=some f→∀(i g:Nat),f≤i→i≤p→s.2[i]?=some g→f≤g:=by
 intro p;induction p using Nat.strongRecOn with
 |ind p ih=>
  intro f hf i g h1 h2 hg;have hp:=(al.1 hf).1;rw[h.len2]at hp;have hn:=h.node p ns[p] (am hp);obtain⟨f',q1,q2,q3,q4,q5⟩:=hn.first
  rw[hf]at q1;cases q1;by_cases hip:i=p
  ·subst hip;rw[hf]at hg;cases hg;exact aM _
  have ho:=hn.op;have:ns[p].op=1∨(ns[p].op=3∨ns[p].op=4∨ns[p].op=5∨ns[p].op=6∨ns[p].op=8)∨(ns[p].op=2∨ns[p].op=7):=by omega
  rcases this with c|c|c
  ·have:=q3 c;omega
  ·obtain⟨_,_,k0,e1⟩:=q4 c;exact ih (p-1) (by omega) f e1 i g h1 (by omega) hg
  obtain⟨l,g',e1,e2,k0,e3,e4,e5⟩:=q5 c;have hg':=h.le _ _ e3;have hl:=h.le _ _ e5;by_cases hig:g'≤i
  ·have:=ih (p-1) (by omega) g' e3 i g hig (by omega) hg;omega
  exact ih l (by omega) f e5 i g h1 (by omega) hg
end Go.AM
namespace Go.AM
open P
set_option maxHeartbeats 64000000
set_option maxRecDepth 40000
attribute [local simp] aW bK
def Lu:List (ap×ap):=[(ar 1,.fn 98 [] []),(ar 9,.fn 98 [] []),(ar 2,.fn 99 [] []),(ar 3,.fn 100 [] []),(ar 5,.fn 101 [] []),(ar 4,.fn 102 [] []),(ar 10,.fn 103 [] []),(ar 11,.fn 104 [] []),(ar 6,.fn 105 [] []),(ar 7,.fn 106 [] []),(ar 8,.fn 107 [] [])]
theorem xt:aK I.qcc []=some (.imap false Lu):=by
 rw[aA ait rfl];simp[aqS,acr,Lu,gG,mput,s9]
def AC(op:Int):ap:=
 if op=1 then .fn 98 [] [] else if op=9 then .fn 98 [] [] else if op=2 then .fn 99 [] [] else if op=3 then .fn 100 [] [] else if op=5 then .fn 101 [] [] else if op=4 then .fn 102 [] [] else if op=10 then .fn 103 [] [] else
 if op=11 then .fn 104 [] [] else if op=6 then .fn 105 [] [] else if op=7 then .fn 106 [] [] else if op=8 then .fn 107 [] [] else .nilf
theorem MN(op:Int):∃r,lookup (ar op) Lu=some r∧r.getD .nilf=AC op:=by
 unfold Lu AC;by_cases h1:op=1
 ·subst h1;exact⟨some _,rfl,rfl⟩
 by_cases h9:op=9
 ·subst h9;exact⟨some _,rfl,rfl⟩
 by_cases h2:op=2
 ·subst h2;exact⟨some _,rfl,rfl⟩
 by_cases h3:op=3
 ·subst h3;exact⟨some _,rfl,rfl⟩
 by_cases h5:op=5
 ·subst h5;exact⟨some _,rfl,rfl⟩
 by_cases h4:op=4
 ·subst h4;exact⟨some _,rfl,rfl⟩
 by_cases h10:op=10
 ·subst h10;exact⟨some _,rfl,rfl⟩
 by_cases h11:op=11
 ·subst h11;exact⟨some _,rfl,rfl⟩
 by_cases h6:op=6
 ·subst h6;exact⟨some _,rfl,rfl⟩
 by_cases h7:op=7
 ·subst h7;exact⟨some _,rfl,rfl⟩
 by_cases h8:op=8
 ·subst h8;exact⟨some _,rfl,rfl⟩
 refine⟨none,?_,?_⟩
 ·simp[lookup,s9,bE (Ne.symm h1),bE (Ne.symm h9),bE (Ne.symm h2),bE (Ne.symm h3),bE (Ne.symm h4),bE (Ne.symm h10),bE (Ne.symm h11),bE (Ne.symm h5),bE (Ne.symm h6),bE (Ne.symm h7),bE (Ne.symm h8)]
 simp[h1,h9,h2,h3,h4,h10,h11,h5,h6,h7,h8]
abbrev dg:=aQ
def cV(rs:dg):ap:=.aa false (rs.map aD)
instance:Nc cV 1 false:=⟨fun _=>rfl,fun _=>rfl⟩
instance:Fx cV:=⟨fun fl top base σ n y=>by simp[cV]⟩
def uX(opE:List dg→bL→dg×Int)(_:Nat)(n:bL)(all:List dg):List dg⊕Int:=
 if (opE all n).2≠0 then .inr 140 else if 200<(opE all n).1.length then .inr 300 else .inl (all++[(opE all n).1])
abbrev Gq(fr T I K:ap)(bn:Bool)(ns:List bL)(bad:Int)(k:Nat)(x13 x14 x15 c x27 x28 x29:ap):List ap:=
 [fr,T,I,.ptr 0 0 0 0,.any,.any,K,ar 0,.ptr 1 0 0 0,.any,.any,.imap false Lu,ar bad,x13,x14,x15,.bool false,.aa bn (ns.map bL.a),ar ns.length,ar ns.length,.bool false,.any,.any,.aa bn (ns.map bL.a),ar ns.length,ar k,c,x27,x28,x29,.any]
theorem aej(fr c0 c1 c2 c3:ap)(bt:Bool)(tabs:List ap)(bi:Bool)(ins:List ap)(K:ap)(bn:Bool)(ns:List bL)(hn:ns.length≤8000)
  (hfr:∀base σ m,fz false true base σ (m+3) fr=fr) (hT:∀base σ m,fz false true base σ (m+3) (.aa bt tabs)=.aa bt tabs) (hI:∀base σ m,fz false true base σ (m+3) (.aa bi ins)=.aa bi ins) (hK:∀base σ m,fz false true base σ (m+3) K=K)
  (hcz:∀s base σ m,fz false true base σ (m+3) (.agg [c0,c1,c2,c3,.aa bt tabs,.aa bi ins,K,s])=.agg [c0,c1,c2,c3,.aa bt tabs,.aa bi ins,K,fz false true base σ (m+2) s])
  (J:Nat→List dg→Prop) (opE:List dg→bL→dg×Int)
  (hJ:∀k n all all',ns[k]?=some n→all.length=k→J k all→uX opE k n all=.inl all'→J (k+1) all')
  (hop:∀k n all σ,ns[k]?=some n→all.length=k→J k all→σ[1]?=some (.arr 8 0 [.agg [c0,c1,c2,c3,.aa bt tabs,.aa bi ins,K,.sl 2 k 0 k]])→σ[2]?=some (.arr 1 k (all.map cV)) →
   dS code (AC n.op) [.ptr 1 0 0 0,n.a] σ=some (.tup [cV (opE all n).1,ar (opE all n).2],σ)) (h0:J 0 []) :
  match aV (uX opE) ns 0 [] with
  |.inl all=>all.length=ns.length∧J ns.length all∧cq code 3 [13,14,15,26,27,28,29] rR ⟨Gq fr (.aa bt tabs) (.aa bi ins) K bn ns 0 0 .any .any .any .any .any .any .any,[.arr 4 0 [fr],.arr 8 0 [.agg [c0,c1,c2,c3,.aa bt tabs,.aa bi ins,K,.sl 2 0 0 0]],.arr 1 0 []]⟩ =
   some (.ext 2,⟨Gq fr (.aa bt tabs) (.aa bi ins) K bn ns 0 ns.length .any .any .any (.bool false) .any .any .any,[.arr 4 0 [fr],.arr 8 0 [.agg [c0,c1,c2,c3,.aa bt tabs,.aa bi ins,K,.sl 2 ns.length 0 ns.length]],.arr 1 ns.length (all.map cV)]⟩)
  |.inr e=>∃k x13 x14 x15 c x27 x28 x29 σ,cq code 3 [13,14,15,26,27,28,29] rR ⟨Gq fr (.aa bt tabs) (.aa bi ins) K bn ns 0 0 .any .any .any .any .any .any .any,[.arr 4 0 [fr],.arr 8 0 [.agg [c0,c1,c2,c3,.aa bt tabs,.aa bi ins,K,.sl 2 0 0 0]],.arr 1 0 []]⟩ =
   some (.ext 2,⟨Gq fr (.aa bt tabs) (.aa bi ins) K bn ns e k x13 x14 x15 c x27 x28 x29,σ⟩)∧(e=140∨e=300):=by
 have hm:ns.length≤most:=by unfold most;omega
 have key:=cT (base:=3) (clr:=[13,14,15,26,27,28,29]) (b:=rR) ns
  (fun k (all:List dg)=>⟨Gq fr (.aa bt tabs) (.aa bi ins) K bn ns 0 k .any .any .any .any .any .any .any,[.arr 4 0 [fr],.arr 8 0 [.agg [c0,c1,c2,c3,.aa bt tabs,.aa bi ins,K,.sl 2 k 0 all.length]],.arr 1 k (all.map cV)]⟩)
  (fun k all=>all.length=k∧J k all) (uX opE)
  (fun all=>(.ext 2,⟨Gq fr (.aa bt tabs) (.aa bi ins) K bn ns 0 ns.length .any .any .any (.bool false) .any .any .any,[.arr 4 0 [fr],.arr 8 0 [.agg [c0,c1,c2,c3,.aa bt tabs,.aa bi ins,K,.sl 2 ns.length 0 all.length]],.arr 1 ns.length (all.map cV)]⟩))
  (fun (e:Int) o=>∃k x13 x14 x15 c x27 x28 x29 σ,o=(.ext 2,⟨Gq fr (.aa bt tabs) (.aa bi ins) K bn ns e k x13 x14 x15 c x27 x28 x29,σ⟩)∧(e=140∨e=300))
  (fun k n all hk hy hs=>by
   obtain⟨hal,hj⟩:=hs;have ak:((k:Int)<(ns.length:Int)):=by omega
   have n3:aC n.a=12∧isAgg n.a=true:=⟨rfl,rfl⟩;have k0:(cellsOf n.a)[0]?=some (ar n.op):=rfl;have hkm:k+1≤most:=by unfold most;omega
   obtain⟨ra,hr1,hr2⟩:=MN n.op;have ho:=hop k n all [.arr 4 0 [fr],.arr 8 0 [.agg [c0,c1,c2,c3,.aa bt tabs,.aa bi ins,K,.sl 2 k 0 k]],.arr 1 k (all.map cV),.arr 12 0 [n.a]] hy hal hj rfl rfl;have hJ':=hJ k n all;unfold uX at hJ' ⊢;generalize opE all n=q at *;obtain⟨out,e⟩:=q;simp only at *;by_cases d1:e=0
   ·subst d1;by_cases d2:200<out.length
    ·have d2':((200:Int)<(out.length:Int)):=by omega
     simp only[ne_eq,ke,cz,if_pos d2];have hro:cV out=.aa false (out.map aD):=rfl;rw[hro]at ho;refine⟨_,?_,k,.ptr 3 0 0 0,.aa false (out.map aD),ar 0,.bool true,.bool false,.bool true,.bool true,[.arr 4 0 [fr],.arr 8 0 [.agg [c0,c1,c2,c3,.aa bt tabs,.aa bi ins,K,.sl 2 k 0 k]],.arr 1 k (all.map cV),.arr 12 0 [n.a]],rfl,by simp⟩;simp[rR,ak,hy,n3,k0,gG,hr1,hr2,hal,ho,d2']
    have d2':¬((200:Int)<(out.length:Int)):=by omega
    simp only[ne_eq,ke,cz,if_neg d2];refine⟨?_,by simp[hal],hJ' _ hy hal hj (by simp[d2])⟩;have hro:cV out=.aa false (out.map aD):=rfl;rw[hro]at ho;have htk:List.take k (all.map cV)=all.map cV:=by rw[←hal];exact lF all cV
    simp[Gq,htk,rR,ak,hy,n3,k0,gG,hr1,hr2,hal,ho,d2',append,hkm,aX hk hm,aE,aH,hfr,hT,hI,hK,hcz,cV]
   have d1':=eo d1;simp only[ne_eq,d1,not_false_iff,cW];have hro:cV out=.aa false (out.map aD):=rfl;rw[hro]at ho;refine⟨_,?_,k,.ptr 3 0 0 0,.aa false (out.map aD),ar e,.bool true,.bool true,.any,.bool true,[.arr 4 0 [fr],.arr 8 0 [.agg [c0,c1,c2,c3,.aa bt tabs,.aa bi ins,K,.sl 2 k 0 k]],.arr 1 k (all.map cV),.arr 12 0 [n.a]],rfl,by simp⟩;simp[rR,ak,hy,n3,k0,gG,hr1,hr2,hal,ho,d1,d1'])
  (fun all hs=>by simp[rR]) [] ⟨rfl,h0⟩
 simp only[show ((0:Nat):Int)=0 from rfl,bu,bh]at key;cases hf:aV (uX opE) ns 0 [] with
 |inl all=>
  rw[hf]at key;obtain⟨⟨k1,k2⟩,k3⟩:=key;refine⟨k1,k2,?_⟩;rw[k1]at k3;exact k3
 |inr e=>
  rw[hf]at key;obtain⟨o,h1,k,x13,x14,x15,c,x27,x28,x29,σ,rfl,he⟩:=key;exact⟨k,x13,x14,x15,c,x27,x28,x29,σ,h1,he⟩
section
noncomputable def pe(tabs:List dg)(W:Nat→Nat)(all:List dg)(n:bL):dg×Int:=
 if n.op=1 then (tabs.getD n.tab.toNat [],0)
 else if n.op=2 then yL n (W n.r.toNat) (all.getD n.l.toNat []) (all.getD n.r.toNat [])
 else if n.op=3 then tM n.cond (all.getD n.l.toNat [])
 else if n.op=4 then xQ n (all.getD n.l.toNat [])
 else if n.op=5 then p9 n.items (all.getD n.l.toNat [])
 else if n.op=6 then (kQ (all.getD n.l.toNat []),0)
 else if n.op=7 then (all.getD n.l.toNat []++all.getD n.r.toNat [],0)
 else (J7 n.limit (dL (yg n.ords) (all.getD n.l.toNat [])),0)
noncomputable def Bu(tabs:List dg)(W:Nat→Nat)(all:List dg)(n:bL):dg×Int:=
 if n.op=1 then (dL ez (tabs.getD n.tab.toNat []),0)
 else if n.op=2 then (if n.left then AF n (W n.r.toNat) (all.getD n.l.toNat []) (all.getD n.r.toNat []) else Hc n (all.getD n.l.toNat []) (all.getD n.r.toNat []))
 else if n.op=3 then wN n.cond (all.getD n.l.toNat [])
 else if n.op=4 then A9 n (all.getD n.l.toNat [])
 else if n.op=5 then s8 n.items (all.getD n.l.toNat [])
 else if n.op=6 then (kQ (all.getD n.l.toNat []),0)
 else if n.op=7 then (dL ez (all.getD n.l.toNat []++all.getD n.r.toNat []),0)
 else (J7 n.limit (dL (yg n.ords) (all.getD n.l.toNat [])),0)
structure RgX (n:bL):Prop where
 cond:tc n.cond
 ag:∀g∈n.ai,tc g.arg
 it:∀e∈n.items,tc e.l
structure DZ (ns:List bL) (s:List (dI Int)×List Nat) (k:Nat) (all:List dg):Prop where
 len:all.length=k
 fit:∀i,i<k→mX (dh s i) (all.getD i [])
 few:∀i,i<k→(all.getD i []).length≤8000
 srt:∀(i:Nat) n,i<k→ns[i]?=some n→n.op≠8→JW (all.getD i [])
section
variable {ns:List bL} {s:List (dI Int)×List Nat} (h:lC ns s) {k:Nat} {n:bL} (hn:ns[k]?=some n) (hR:RgX n) {tabs:List dg} (hT:n.op=1→mX n.af (tabs.getD n.tab.toNat [])) {all:List dg} (hF:DZ ns s k all)
include h hn hR hT hF
theorem UX(h0:(pe tabs (fun i=>(dh s i).length) all n).2=0):mX (dh s k) (pe tabs (fun i=>(dh s i).length) all n).1:=by
 have hN:=h.node k n hn;have ho:=hN.op;have hk:=(al.1 hn).1;unfold pe at h0 ⊢;have:n.op=1∨n.op=2∨n.op=3∨n.op=4∨n.op=5∨n.op=6∨n.op=7∨n.op=8:=by omega
 rcases this with c|c|c|c|c|c|c|c
 ·obtain⟨_,_,_,l4⟩:=hN.scan c;rw[if_pos c,l4];exact hT c
 ·obtain⟨x,y,l1,l2,l3,l4,_,l6⟩:=hN.join c;rw[if_neg (by omega),if_pos c,l1,l2,aR,aR]at h0 ⊢;have fx:=hF.fit x l3;have fy:=hF.fit y l4;have hps:=ui n.cond (all.getD y []) (all.getD x []) 0 (List.replicate (all.getD x []).length false,[]);unfold yL at h0 ⊢;split at h0
  ·cases h0
  rename_i hc;rw[if_neg hc];rw[l6];cases hf:aV (nW n.cond (all.getD y [])) (all.getD x []) 0 (List.replicate (all.getD x []).length false,[]) with
  |inr no=>
   rw[hf]at h0 hps;exact absurd h0 hps.1
  |inl t=>
   rw[hf]at hps;obtain⟨_,_,hq⟩:=hps;have hq:=hq (iN (dh s x++dh s y)) (by simp) (fun a ha b hb=>(fx a ha).app (fy b hb));simp only;cases hl:n.left with
   |true=>
    obtain⟨O',m1,m2⟩:=zD (dh s y).length t.1 (all.getD x []) 0 t.2;simp only[cW];rw[m1];exact m2 _ hq (fun a ha=>(fx a ha).app (iN.nul _))
   |false=>exact hq
 ·obtain⟨x,l1,l2,_,l4⟩:=hN.filter c;rw[if_neg (by omega),if_neg (by omega),if_pos c,l1,aR]at h0 ⊢;have fx:=hF.fit x l2;have hfs:=AJ n.cond (all.getD x []) 0 [];unfold tM at h0 ⊢;rw[l4];cases hf:aV (za n.cond) (all.getD x []) 0 [] with
  |inr no=>rw[hf]at h0 hfs;exact absurd h0 hfs.1
  |inl out=>
   rw[hf]at hfs;simp only;intro r hr;rw[hfs.1]at hr;exact fx r (List.mem_filter.1 (by simpa only [b9] using hr)).1
 ·obtain⟨x,l1,l2,l3,l4,l5⟩:=hN.group c;rw[if_neg (by omega),if_neg (by omega),if_neg (by omega),if_pos c,l1,aR]at h0 ⊢;have fx:=hF.fit x l2;have lx:=hF.few x l2;unfold xQ at h0 ⊢;rw[l5];unfold nu at l3;simp only[aq]at l3;have hrow:∀(g:b8×aQ) (v:b8),iN (n.keys.map fun x'=>(dh s x).getD x'.toNat 0) g.1→mX (dh s x) g.2→g.2.length≤8000→aV (HL g.2) n.ai 0 g.1=.inl v→iN ((n.keys.map fun x'=>(dh s x).getD x'.toNat 0)++n.ai.map (u6 (dh s x))) v:=fun g v h1 h2 h3 h4=>
   Jx h2 h3 n.ai 0 g.1 v _ (fun a ha=>⟨hR.ag a ha,l4 a ha⟩) h1 h4
  have hall:∀(G:List (b8×aQ)) (k:Nat) (O out:aQ),(∀g∈G,iN (n.keys.map fun x'=>(dh s x).getD x'.toNat 0) g.1∧mX (dh s x) g.2∧g.2.length≤8000)→(∀r∈O,iN ((n.keys.map fun x'=>(dh s x).getD x'.toNat 0)++n.ai.map (u6 (dh s x))) r)→aV (Gm n) G k O=.inl out→∀r∈out,iN ((n.keys.map fun x'=>(dh s x).getD x'.toNat 0)++n.ai.map (u6 (dh s x))) r:=by
   intro G;induction G with
   |nil=>intro k O out _ hO hf;cases hf;exact hO
   |cons g G ih=>
    intro k O out hG hO hf;simp only[aV]at hf;unfold Gm at hf;cases hv:aV (HL g.2) n.ai 0 g.1 with
    |inr no=>rw[hv]at hf;cases hf
    |inl v=>
     rw[hv]at hf;obtain⟨m1,m2,m3⟩:=hG g (by simp);refine ih (k+1) (O++[v]) out (fun g' hg'=>hG g' (by simp[hg'])) (fun r hr=>?_) hf;rcases bT.1 hr with hr|hr
     ·exact hO r hr
     rw[ce.1 hr];exact hrow g v m1 m2 m3 hv
  have hno:∀(G:List (b8×aQ)) (k:Nat) (O:aQ) (no:Int),aV (Gm n) G k O=.inr no→no≠0:=by
   intro G;induction G with
   |nil=>intro k O no hf;cases hf
   |cons g G ih=>
    intro k O no hf;simp only[aV]at hf;unfold Gm at hf;cases hv:aV (HL g.2) n.ai 0 g.1 with
    |inl v=>rw[hv]at hf;exact ih _ _ no hf
    |inr no'=>
     rw[hv]at hf;cases hf;have:∀(l:List cC) (k:Nat) (acc:b8) (no:Int),aV (HL g.2) l k acc=.inr no→no≠0:=by
      intro l;induction l with
      |nil=>intro k acc no hf;cases hf
      |cons a l ih=>
       intro k acc no hf;simp only[aV]at hf;unfold HL at hf;by_cases c:(vd a.tag a.arg g.2).2=0
       ·rw[if_pos c]at hf;exact ih _ _ no hf
       rw[if_neg c]at hf;cases hf;exact c
     exact this _ _ _ _ hv
  generalize hG:(if all.getD x []=[]∧n.keys=[] then [([],[])] else ey n.keys (all.getD x []))=G at h0 ⊢;have hGf:∀g∈G,iN (n.keys.map fun x'=>(dh s x).getD x'.toNat 0) g.1∧mX (dh s x) g.2∧g.2.length≤8000:=by
   intro g hg;rw[←hG]at hg;split at hg
   ·rename_i hh;rw[ce.1 hg,hh.2];exact⟨iN.nil,(show mX (dh s x) [] from fun r hr=>absurd hr (by simp)),by simp⟩
   obtain⟨m1,m2,a,m3,m4⟩:=lk hg;exact⟨by rw[m4];exact EH (fx a m3) n.keys l3.2,fun r hr=>fx r (m1 r hr),by omega⟩
  cases hf:aV (Gm n) G 0 [] with
  |inr no=>rw[hf]at h0;exact absurd h0 (hno _ _ _ _ hf)
  |inl out=>exact hall G 0 [] out hGf (by simp) hf
 ·obtain⟨x,l1,l2,_,_,l5,l6⟩:=hN.project c;rw[if_neg (by omega),if_neg (by omega),if_neg (by omega),if_neg (by omega),if_pos c,l1,aR]at h0 ⊢;have fx:=hF.fit x l2;have hps:=CK n.items (all.getD x []) 0 [];unfold p9 at h0 ⊢;rw[l6];cases hf:aV (TV n.items) (all.getD x []) 0 [] with
  |inr no=>rw[hf]at h0 hps;exact absurd h0 hps.1
  |inl out=>
   rw[hf]at hps
   exact hps.2.2 _ (by simp) (fun r hr v hv=>by
    have:=AG (fx r hr) n.items 0 [] v [] (fun e he=>⟨hR.it e he,l5 e he⟩) iN.nil hv;simpa using this)
 ·obtain⟨x,l1,l2,l3⟩:=hN.distinct c;rw[if_neg (by omega),if_neg (by omega),if_neg (by omega),if_neg (by omega),if_neg (by omega),if_pos c,l1,aR,l3];exact fun r hr=>hF.fit x l2 r (Ki.1 hr)
 ·obtain⟨x,y,l1,l2,l3,l4,l5,l6⟩:=hN.union c;rw[if_neg (by omega),if_neg (by omega),if_neg (by omega),if_neg (by omega),if_neg (by omega),if_neg (by omega),if_pos c,l1,l2,aR,aR];intro r hr;rcases bT.1 hr with hr|hr
  ·exact D8 l6 (hF.fit x l3 r hr) l5
  exact DP l6 (hF.fit y l4 r hr) l5
 obtain⟨x,l1,l2,_,_,l5⟩:=hN.sort c;rw[if_neg (by omega),if_neg (by omega),if_neg (by omega),if_neg (by omega),if_neg (by omega),if_neg (by omega),if_neg (by omega),l1,aR,l5];intro r hr;have:r∈dL (yg n.ords) (all.getD x []):=by
  unfold J7 at hr;split at hr
  ·exact bv hr
  exact hr
 exact hF.fit x l2 r ((kA _).mem_iff.1 this)
theorem QO:((pe tabs (fun i=>(dh s i).length) all n).2=0→(pe tabs (fun i=>(dh s i).length) all n).1.length≤8000→Bu tabs (fun i=>(dh s i).length) all n=(if n.op=8 then (pe tabs (fun i=>(dh s i).length) all n).1 else dL ez (pe tabs (fun i=>(dh s i).length) all n).1,0)) ∧
  ((pe tabs (fun i=>(dh s i).length) all n).2=140→(Bu tabs (fun i=>(dh s i).length) all n).2≠0):=by
 have _:=hR;have _:=hT;have hN:=h.node k n hn;have ho:=hN.op;have hk:=(al.1 hn).1;unfold pe Bu;have:n.op=1∨n.op=2∨n.op=3∨n.op=4∨n.op=5∨n.op=6∨n.op=7∨n.op=8:=by omega
 rcases this with c|c|c|c|c|c|c|c
 ·rw[if_pos c,if_pos c,if_neg (show ¬n.op=8 by omega)];exact⟨fun _ _=>rfl,fun h=>by cases h⟩
 ·obtain⟨x,y,l1,l2,l3,l4,_,l6⟩:=hN.join c;rw[if_neg (show ¬n.op=1 by omega),if_pos c,if_neg (show ¬n.op=1 by omega),if_pos c,if_neg (show ¬n.op=8 by omega),l1,l2,aR,aR];have hps:=ui n.cond (all.getD y []) (all.getD x []) 0 (List.replicate (all.getD x []).length false,[]);unfold yL AF Hc;by_cases hc:40000<(all.getD x []).length*(all.getD y []).length
  ·rw[if_pos hc];exact⟨fun h=>(by cases h),fun h=>(by cases h)⟩
  rw[if_neg hc];cases hf:aV (nW n.cond (all.getD y [])) (all.getD x []) 0 (List.replicate (all.getD x []).length false,[]) with
  |inr no=>
   rw[hf]at hps;rw[hps.2];refine⟨fun h=>absurd h hps.1,fun _=>?_⟩;cases n.left<;>simp
  |inl t=>
   rw[hf]at hps;rw[hps.1];obtain⟨O',m1,_⟩:=zD (dh s y).length t.1 (all.getD x []) 0 t.2;cases n.left with
   |true=>
    simp only[cW];rw[m1];exact⟨fun _ _=>rfl,fun h=>(by cases h)⟩
   |false=>exact⟨fun _ _=>rfl,fun h=>(by cases h)⟩
 ·obtain⟨x,l1,l2,_,l4⟩:=hN.filter c;rw[if_neg (show ¬n.op=1 by omega),if_neg (show ¬n.op=2 by omega),if_pos c,if_neg (show ¬n.op=1 by omega),if_neg (show ¬n.op=2 by omega),if_pos c,if_neg (show ¬n.op=8 by omega),l1,aR];have hfs:=AJ n.cond (all.getD x []) 0 [];unfold tM wN;cases hf:aV (za n.cond) (all.getD x []) 0 [] with
  |inr no=>
   rw[hf]at hfs;rw[hfs.2];exact⟨fun h=>absurd h hfs.1,fun _=>(by simp)⟩
  |inl out=>
   rw[hf]at hfs;rw[hfs.2];refine⟨fun _ _=>?_,fun h=>(by cases h)⟩;have hx8:∀m,ns[x]?=some m→m.op≠8:=fun m hm h8=>by
    obtain⟨_,_,_,_,e,_⟩:=(h.node x m hm).sort h8;omega
   have hxl:x<ns.length:=by omega
   have hs:=hF.srt x _ l2 (am hxl) (hx8 _ (am hxl));have:JW out:=by
    rw[hfs.1,b9];exact hs.filter _
   rw[LJ this]
 ·obtain⟨x,l1,l2,l3,l4,l5⟩:=hN.group c;rw[if_neg (show ¬n.op=1 by omega),if_neg (show ¬n.op=2 by omega),if_neg (show ¬n.op=3 by omega),if_pos c,if_neg (show ¬n.op=1 by omega),if_neg (show ¬n.op=2 by omega),if_neg (show ¬n.op=3 by omega),if_pos c,if_neg (show ¬n.op=8 by omega),l1,aR];have fx:=hF.fit x l2;have hx16:=(h.node x _ (am (show x<ns.length by omega))).len;have hagg:∀(rows:aQ),(∀r∈rows,lc r=true)→∀a∈n.ai,xo a.tag a.arg rows=true:=fun rows hr a ha=>by
   have:=l4 a ha;unfold ln at this;unfold xo;have hra:rows.all lc=true:=aG.2 hr;rw[hra];by_cases t1:a.tag=1
   ·rw[if_pos t1]at this;rw[t1];simpa using this
   rw[if_neg t1]at this;simp only[aq,aP,aL]at this;have hk0:=this.1.1.1;have:zU a.arg=true:=by
    unfold eC at hk0;cases ho:zU a.arg with
    |true=>rfl
    |false=>rw[ho]at hk0;simp at hk0
   rw[if_neg t1,this];simp;omega
  have hGok:∀g∈(if all.getD x []=[]∧n.keys=[] then [([],[])] else ey n.keys (all.getD x [])),∀a∈n.ai,xo a.tag a.arg g.2=true:=fun g hg=>by
   split at hg
   ·rw[ce.1 hg];exact hagg [] (by simp)
   obtain⟨m1,_⟩:=lk hg;exact hagg g.2 (fun r hr=>(fx r (m1 r hr)).ok hx16)
  have hgs:=IE n _ hGok 0 [];unfold xQ A9 vP vT;by_cases c1:all.getD x []=[]
  ·by_cases c2:n.keys=[]
   ·rw[if_pos ⟨c1,c2⟩]at hgs ⊢;rw[if_pos c1,if_pos c2];simp only[aV,Ah]at hgs;cases hf:aV (Gm n) [([],[])] 0 [] with
    |inr no=>
     simp only[aV]at hf;simp only[hf]at hgs;cases hv:aV (ph (fun _ a rows=>sI a.tag a.arg rows) []) n.ai 0 [] with
     |inl v=>rw[hv]at hgs;cases hgs.2
     |inr u=>exact⟨fun h=>absurd h hgs.1,fun _=>(by simp)⟩
    |inl out=>
     simp only[aV]at hf;simp only[hf]at hgs;cases hv:aV (ph (fun _ a rows=>sI a.tag a.arg rows) []) n.ai 0 [] with
     |inr u=>rw[hv]at hgs;cases hgs.1
     |inl v=>
      rw[hv]at hgs;have:out=[v]:=(Sum.inl.inj hgs.1).symm;subst this;exact⟨fun _ _=>rfl,fun h=>(by cases h)⟩
   rw[if_neg (fun h=>c2 h.2)]at hgs ⊢;rw[if_pos c1,if_neg c2];have hg0:ey n.keys (all.getD x [])=[]:=by rw[c1];rfl
   rw[hg0];exact⟨fun _ _=>rfl,fun h=>(by cases h)⟩
  rw[if_neg (fun h=>c1 h.1)]at hgs ⊢;rw[if_neg c1];cases hf:aV (Gm n) (ey n.keys (all.getD x [])) 0 [] with
  |inr no=>
   rw[hf]at hgs;rw[hgs.2];exact⟨fun h=>absurd h hgs.1,fun _=>(by simp)⟩
  |inl out=>
   rw[hf]at hgs;rw[hgs.1];exact⟨fun _ _=>rfl,fun h=>(by cases h)⟩
 ·obtain⟨x,l1,l2,_,_,l5,l6⟩:=hN.project c;rw[if_neg (show ¬n.op=1 by omega),if_neg (show ¬n.op=2 by omega),if_neg (show ¬n.op=3 by omega),if_neg (show ¬n.op=4 by omega),if_pos c,if_neg (show ¬n.op=1 by omega),if_neg (show ¬n.op=2 by omega),if_neg (show ¬n.op=3 by omega),if_neg (show ¬n.op=4 by omega),if_pos c,if_neg (show ¬n.op=8 by omega),l1,aR];have hps:=CK n.items (all.getD x []) 0 [];unfold p9 s8;cases hf:aV (TV n.items) (all.getD x []) 0 [] with
  |inr no=>
   rw[hf]at hps;rw[hps.2];exact⟨fun h=>absurd h hps.1,fun _=>(by simp)⟩
  |inl out=>
   rw[hf]at hps;rw[hps.1];exact⟨fun _ _=>rfl,fun h=>(by cases h)⟩
 ·rw[if_neg (show ¬n.op=1 by omega),if_neg (show ¬n.op=2 by omega),if_neg (show ¬n.op=3 by omega),if_neg (show ¬n.op=4 by omega),if_neg (show ¬n.op=5 by omega),if_pos c,if_neg (show ¬n.op=1 by omega),if_neg (show ¬n.op=2 by omega),if_neg (show ¬n.op=3 by omega),if_neg (show ¬n.op=4 by omega),if_neg (show ¬n.op=5 by omega),if_pos c,if_neg (show ¬n.op=8 by omega)];exact⟨fun _ _=>by rw[Jk],fun h=>(by cases h)⟩
 ·rw[if_neg (show ¬n.op=1 by omega),if_neg (show ¬n.op=2 by omega),if_neg (show ¬n.op=3 by omega),if_neg (show ¬n.op=4 by omega),if_neg (show ¬n.op=5 by omega),if_neg (show ¬n.op=6 by omega),if_pos c,if_neg (show ¬n.op=1 by omega),if_neg (show ¬n.op=2 by omega),if_neg (show ¬n.op=3 by omega),if_neg (show ¬n.op=4 by omega),if_neg (show ¬n.op=5 by omega),if_neg (show ¬n.op=6 by omega),if_pos c,if_neg (show ¬n.op=8 by omega)];exact⟨fun _ _=>rfl,fun h=>(by cases h)⟩
 rw[if_neg (show ¬n.op=1 by omega),if_neg (show ¬n.op=2 by omega),if_neg (show ¬n.op=3 by omega),if_neg (show ¬n.op=4 by omega),if_neg (show ¬n.op=5 by omega),if_neg (show ¬n.op=6 by omega),if_neg (show ¬n.op=7 by omega),if_neg (show ¬n.op=1 by omega),if_neg (show ¬n.op=2 by omega),if_neg (show ¬n.op=3 by omega),if_neg (show ¬n.op=4 by omega),if_neg (show ¬n.op=5 by omega),if_neg (show ¬n.op=6 by omega),if_neg (show ¬n.op=7 by omega),if_pos c];exact⟨fun _ _=>rfl,fun h=>(by cases h)⟩
end
end
section
section
variable (t:Bool) (c0:ap) (ba:Bool) (all:List ap) (bk:Bool) (ks:List ap) (hz:∀fl top base σ m,(fl ||top)=true→fz fl top base σ (m+4) (.cptr t (fV c0 ba all bk ks) 0)=.cptr t (fV c0 ba all bk ks) 0)
 (n:bL) (p:Nat) (hp:n.l=(p:Int)) (b:Bool) (rs:aQ) (hb:all[p]?=some (.aa b (rs.map aD)))
include hz hp hb
theorem Mq(out:aQ)(e:Int)(h:∀b,aK I.qfu [.aa b (rs.map aD)]=some (.tup [.aa false (out.map aD),ar e])) :
  aK I.qbo [.cptr t (fV c0 ba all bk ks) 0,n.a]=some (.tup [.aa false (out.map aD),ar e]):=by
 rw[aA aaB rfl];have hpl:=(al.1 hb).1;have hag:∀hh:p<all.length,all[p]'hh=.aa b (rs.map aD):=fun hh=>(al.1 hb).2;have hpi:((p:Int)<(all.length:Int)):=by omega
 have hz1:∀base σ m,fz true false base σ (m+4) (.cptr t (fV c0 ba all bk ks) 0)=.cptr t (fV c0 ba all bk ks) 0:=fun base σ m=>hz true false base σ m rfl;have n1:∀base σ m,fz true false base σ (m+3) n.a=n.a:=fun base σ m=>Ft.ft true false base σ m n rfl;have n3:aC n.a=12∧isAgg n.a=true:=⟨rfl,rfl⟩;have k1:(cellsOf n.a)[1]?=some (ar n.l):=rfl;simp only[fV]at *;simp[arQ,aco,n1,n3,k1,hz1,hp,hb,hag,hpl,hpi,h]
theorem Uu(out:aQ)(h:∀b,aK I.qbw [.aa b (rs.map aD),.aa n.bo (n.ords.map jl),ar n.limit]=some (.aa false (out.map aD))) :
  aK I.qbs [.cptr t (fV c0 ba all bk ks) 0,n.a]=some (.tup [.aa false (out.map aD),ar 0]):=by
 rw[aA adj rfl];have hpl:=(al.1 hb).1;have hag:∀hh:p<all.length,all[p]'hh=.aa b (rs.map aD):=fun hh=>(al.1 hb).2;have hpi:((p:Int)<(all.length:Int)):=by omega
 have hz1:∀base σ m,fz true false base σ (m+4) (.cptr t (fV c0 ba all bk ks) 0)=.cptr t (fV c0 ba all bk ks) 0:=fun base σ m=>hz true false base σ m rfl;have n1:∀base σ m,fz true false base σ (m+3) n.a=n.a:=fun base σ m=>Ft.ft true false base σ m n rfl;have n3:aC n.a=12∧isAgg n.a=true:=⟨rfl,rfl⟩;have k1:(cellsOf n.a)[1]?=some (ar n.l):=rfl;have k10:(cellsOf n.a)[10]?=some (.aa n.bo (n.ords.map jl)):=rfl;have k11:(cellsOf n.a)[11]?=some (ar n.limit):=rfl;simp only[fV]at *;simp[arT,adF,n1,n3,k1,k10,k11,hz1,hp,hb,hag,hpl,hpi,h]
theorem WZ(q:Nat)(hq:n.r=(q:Int))(b':Bool)(rs':aQ)(hb':all[q]?=some (.aa b' (rs'.map aD)))(hn:rs.length+rs'.length≤most) :
  aK I.qbv [.cptr t (fV c0 ba all bk ks) 0,n.a]=some (.tup [.aa false ((rs++rs').map aD),ar 0]):=by
 rw[aA adU rfl];have hpl:=(al.1 hb).1;have hag:∀hh:p<all.length,all[p]'hh=.aa b (rs.map aD):=fun hh=>(al.1 hb).2;have hpi:((p:Int)<(all.length:Int)):=by omega
 have hql:=(al.1 hb').1;have hbg:∀hh:q<all.length,all[q]'hh=.aa b' (rs'.map aD):=fun hh=>(al.1 hb').2;have hqi:((q:Int)<(all.length:Int)):=by omega
 have hz1:∀base σ m,fz true false base σ (m+4) (.cptr t (fV c0 ba all bk ks) 0)=.cptr t (fV c0 ba all bk ks) 0:=fun base σ m=>hz true false base σ m rfl;have n1:∀base σ m,fz true false base σ (m+3) n.a=n.a:=fun base σ m=>Ft.ft true false base σ m n rfl;have n3:aC n.a=12∧isAgg n.a=true:=⟨rfl,rfl⟩;have k1:(cellsOf n.a)[1]?=some (ar n.l):=rfl;have k2:(cellsOf n.a)[2]?=some (ar n.r):=rfl;have hC:∀B x y,aK I.qha [.aa B [.aa x (rs.map aD),.aa y (rs'.map aD)]]=some (.aa false (rs.map aD++rs'.map aD)):=fun B x y=>by
  have:=nE (enc:=aD) B [⟨x,rs⟩,⟨y,rs'⟩] (by simpa using hn) (by unfold most;simp);simpa [dI.c] using this
 simp only[fV]at *;simp[arn,acn,n1,n3,k1,k2,hz1,hp,hq,hb,hb',hag,hbg,hpl,hpi,hql,hqi,hC]
end
theorem Yn(id:Nat)(bt:Bool)(tabs:List ap)(x y:ap)(σ:ay)(h:σ[id]?=some (.arr 3 0 [.agg [.aa bt tabs,x,y]]))(n:bL)(i:Nat)(hi:n.tab=(i:Int))(b:Bool)(rs:aQ)(ht:tabs[i]?=some (.aa b (rs.map aD))) :
  cA code I.qbu [.ptr id 0 0 0,n.a] σ=some (.tup [.aa b (rs.map aD),ar 0],σ++[.arr 12 0 [n.a]]):=by
 rw[bp agl rfl];have hl:=(al.1 h).1;have h2:(σ++[.arr 12 0 [n.a]])[id]?=some (.arr 3 0 [.agg [.aa bt tabs,x,y]]):=by rw[bB hl,h]
 have hpl:=(al.1 ht).1;have hag:∀hh:i<tabs.length,tabs[i]'hh=.aa b (rs.map aD):=fun hh=>(al.1 ht).2;have hpi:((i:Int)<(tabs.length:Int)):=by omega
 have n3:aC n.a=12∧isAgg n.a=true:=⟨rfl,rfl⟩;have k3:(cellsOf n.a)[3]?=some (ar n.tab):=rfl;simp[ard,aaV,h,h2,hl,hi,ht,hag,hpl,hpi,n3,k3]
end
theorem uS{α:Type}{enc:α→ap}[Nc enc 2 true][Fx enc](b:Bool)(l:List α)(hn:l.length≤most):aK I.qgs [.aa b (l.map enc)]=some (.frs 2 (l.map enc)):=by
 cases l with
 |nil=>cases b<;>exact fA (n:=20) (σ:=[]) (by kernel_rfl)
 |cons v r=>
  have hall:=vH (f:=enc) (v::r);have hl:((v::r).map enc).length=r.length+1:=by simp
  have hne:gd [] (.aa b ((v::r).map enc))=false:=rfl;unfold aK;rw[eB fg ado,hne];simp only[bC,cz];unfold iH;have hn':r.length+1≤most:=by simpa using hn
  have hnil:lj false [] (.aa b ((v::r).map enc))=some (.bool false):=rfl;have hf:=jk (f:=enc) (v::r) 0 0 [.arr 2 0 ((v::r).map enc)] rfl;have hx:(v::r).map enc≠[]:=by simp
  have hy:∀x,x∈(v::r).map enc→aC x=2:=fun x hx=>by simpa using aG.1 hall x hx
  have ht:((v::r).map enc).take (r.length+1)=(v::r).map enc:=av (by simp);simp only[bj]at hf;generalize (v::r).map enc=xs at *;simp[arl,adx,enter,kF,append,hall,hl,hn',-lj,hnil,hx];rw[if_pos hy];simp[kF];exact hf
@[simp] theorem tC{α:Type}{enc:α→ap}[Nc enc 2 true][Fx enc](b:Bool)(l:List α)(hn:l.length≤most)(σ:ay):cA code I.qgs [.aa b (l.map enc)] σ=some (.frs 2 (l.map enc),σ):=by
 rw[jj ado rfl,uS b l hn];rfl
theorem rp{α:Type}{enc:α→ap}[Nc enc 8 true][Fx enc](b:Bool)(l:List α)(hn:l.length≤most):aK I.qgq [.aa b (l.map enc)]=some (.frs 8 (l.map enc)):=by
 cases l with
 |nil=>cases b<;>exact fA (n:=20) (σ:=[]) (by kernel_rfl)
 |cons v r=>
  have hall:=vH (f:=enc) (v::r);have hl:((v::r).map enc).length=r.length+1:=by simp
  have hne:gd [] (.aa b ((v::r).map enc))=false:=rfl;unfold aK;rw[eB fg acG,hne];simp only[bC,cz];unfold iH;have hn':r.length+1≤most:=by simpa using hn
  have hnil:lj false [] (.aa b ((v::r).map enc))=some (.bool false):=rfl;have hf:=jk (f:=enc) (v::r) 0 0 [.arr 8 0 ((v::r).map enc)] rfl;have hx:(v::r).map enc≠[]:=by simp
  have hy:∀x,x∈(v::r).map enc→aC x=8:=fun x hx=>by simpa using aG.1 hall x hx
  have ht:((v::r).map enc).take (r.length+1)=(v::r).map enc:=av (by simp);simp only[bj]at hf;generalize (v::r).map enc=xs at *;simp[aqG,adc,enter,kF,append,hall,hl,hn',-lj,hnil,hx];rw[if_pos hy];simp[kF];exact hf
@[simp] theorem iG{α:Type}{enc:α→ap}[Nc enc 8 true][Fx enc](b:Bool)(l:List α)(hn:l.length≤most)(σ:ay):cA code I.qgq [.aa b (l.map enc)] σ=some (.frs 8 (l.map enc),σ):=by
 rw[jj acG rfl,rp b l hn];rfl
theorem uQ{α:Type}{enc:α→ap}[Nc enc 2 true][Fx enc](b:Bool)(l:List α)(hn:l.length≤most):aK I.qgp [.aa b (l.map enc)]=some (.frs 2 (l.map enc)):=by
 cases l with
 |nil=>cases b<;>exact fA (n:=20) (σ:=[]) (by kernel_rfl)
 |cons v r=>
  have hall:=vH (f:=enc) (v::r);have hl:((v::r).map enc).length=r.length+1:=by simp
  have hne:gd [] (.aa b ((v::r).map enc))=false:=rfl;unfold aK;rw[eB fg ab5,hne];simp only[bC,cz];unfold iH;have hn':r.length+1≤most:=by simpa using hn
  have hnil:lj false [] (.aa b ((v::r).map enc))=some (.bool false):=rfl;have hf:=jk (f:=enc) (v::r) 0 0 [.arr 2 0 ((v::r).map enc)] rfl;have hx:(v::r).map enc≠[]:=by simp
  have hy:∀x,x∈(v::r).map enc→aC x=2:=fun x hx=>by simpa using aG.1 hall x hx
  have ht:((v::r).map enc).take (r.length+1)=(v::r).map enc:=av (by simp);simp only[bj]at hf;generalize (v::r).map enc=xs at *;simp[ap6,abh,enter,kF,append,hall,hl,hn',-lj,hnil,hx];rw[if_pos hy];simp[kF];exact hf
@[simp] theorem td{α:Type}{enc:α→ap}[Nc enc 2 true][Fx enc](b:Bool)(l:List α)(hn:l.length≤most)(σ:ay):cA code I.qgp [.aa b (l.map enc)] σ=some (.frs 2 (l.map enc),σ):=by
 rw[jj ab5 rfl,uQ b l hn];rfl
theorem sM{α:Type}{enc:α→ap}[Nc enc 1 true][Fx enc](b:Bool)(l:List α)(hn:l.length≤most):aK I.qgr [.aa b (l.map enc)]=some (.frs 1 (l.map enc)):=by
 cases l with
 |nil=>cases b<;>exact fA (n:=20) (σ:=[]) (by kernel_rfl)
 |cons v r=>
  have hall:=vH (f:=enc) (v::r);have hl:((v::r).map enc).length=r.length+1:=by simp
  have hne:gd [] (.aa b ((v::r).map enc))=false:=rfl;unfold aK;rw[eB fg acf,hne];simp only[bC,cz];unfold iH;have hn':r.length+1≤most:=by simpa using hn
  have hnil:lj false [] (.aa b ((v::r).map enc))=some (.bool false):=rfl;have hf:=jk (f:=enc) (v::r) 0 0 [.arr 1 0 ((v::r).map enc)] rfl;have hx:(v::r).map enc≠[]:=by simp
  have hy:∀x,x∈(v::r).map enc→aC x=1:=fun x hx=>by simpa using aG.1 hall x hx
  have ht:((v::r).map enc).take (r.length+1)=(v::r).map enc:=av (by simp);simp only[bj]at hf;generalize (v::r).map enc=xs at *;simp[arE,acj,enter,kF,append,hall,hl,hn',-lj,hnil,hx];rw[if_pos hy];simp[kF];exact hf
@[simp] theorem sj{α:Type}{enc:α→ap}[Nc enc 1 true][Fx enc](b:Bool)(l:List α)(hn:l.length≤most)(σ:ay):cA code I.qgr [.aa b (l.map enc)] σ=some (.frs 1 (l.map enc),σ):=by
 rw[jj acf rfl,sM b l hn];rfl
def Kt(g:cC):ap:=.agg [ar g.tag,.aa false (g.arg.map EN.a)]
def Ks(e:jM):ap:=.agg [.aa false (e.l.map EN.a)]
instance:Nc Kt 2 true:=⟨fun _=>rfl,fun _=>rfl⟩
instance:Fx Kt:=⟨fun fl top base σ n y=>by simp[Kt]⟩
instance:Nc Ks 1 true:=⟨fun _=>rfl,fun _=>rfl⟩
instance:Fx Ks:=⟨fun fl top base σ n y=>by simp[Ks]⟩
structure xr (n:bL):Prop where
 ag:∀g∈n.ai,g.b=false
 ex:∀e∈n.items,e.b=false
theorem xr.ags{n:bL}(h:xr n):n.ai.map cC.a=n.ai.map Kt:=bx fun g hg=>by simp[cC.a,Kt,h.ag g hg]
theorem xr.exs{n:bL}(h:xr n):n.items.map jM.a=n.items.map Ks:=bx fun e he=>by simp[jM.a,Ks,h.ex e he]
def gS(by':Int)(n:bL):bL:=⟨n.op,if 0≤n.l then n.l+by' else n.l,if 0≤n.r then n.r+by' else n.r,n.tab,false,n.af,n.left,false,n.cond,false,n.keys,false,n.ai,false,n.items,false,n.ords,n.limit⟩
abbrev nC(n:bL)(l r:Int):ap:=.agg [ar n.op,ar l,ar r,ar n.tab,.sl 2 0 0 n.af.length,.bool n.left,.sl 5 0 0 n.cond.length,.sl 3 0 0 n.keys.length,.sl 6 0 0 n.ai.length,.sl 7 0 0 n.items.length,.sl 4 0 0 n.ords.length,ar n.limit]
abbrev stC(n:bL)(l r:Int)(z:ap):ay:=[.arr 12 0 [nC n l r],.arr 12 0 [z],.arr 1 0 (n.af.map (.int .i64)),.arr 1 0 (n.keys.map (.int .i64)),.arr 2 0 (n.ords.map jl),.arr 8 0 (n.cond.map EN.a),.arr 2 0 (n.ai.map Kt),.arr 1 0 (n.items.map Ks)]
abbrev MV:ap:=.agg [ar 0,ar 0,ar 0,ar 0,.aj,.bool false,.aj,.aj,.aj,.aj,.aj,ar 0]
theorem EX{α:Type}{l:List α}{k:Nat}{x:α}(h:l[k]?=some x):l.set k x=l:=by
 obtain⟨hk,rfl⟩:=al.1 h;exact List.set_getElem_self hk
theorem Xq(n:bL)(hf:xr n)(hn:nO n)(by':Int)(h1:0≤n.l→-9223372036854775808≤n.l+by'∧n.l+by' < 9223372036854775808)(h2:0≤n.r→-9223372036854775808≤n.r+by'∧n.r+by' < 9223372036854775808) :
  aK I.qep [n.a,ar by']=some (gS by' n).a:=by
 rw[aA akE rfl];have hm:qU≤most:=by decide
 have k1:=fun b=>lg (enc:=.int .i64) b n.af (aI hn.af hm);have k2:=fun b=>lg (enc:=.int .i64) b n.keys (aI hn.keys hm);have k3:=fun b=>tC (enc:=jl) b n.ords (aI hn.ords hm);have k4:=fun b=>iG (enc:=EN.a) b n.cond (aI hn.cond hm);have k5:=fun b=>td (enc:=Kt) b n.ai (aI hn.ai hm);have k6:=fun b=>sj (enc:=Ks) b n.items (aI hn.items hm);have e1:=hf.ags;have e2:=hf.exs;generalize hl:(if 0≤n.l then n.l+by' else n.l)=l';generalize hr:(if 0≤n.r then n.r+by' else n.r)=r';have hc:gS by' n=⟨n.op,l',r',n.tab,false,n.af,n.left,false,n.cond,false,n.keys,false,n.ai,false,n.items,false,n.ords,n.limit⟩:=by unfold gS;rw[hl,hr]
 have loop1:=fun c6 c7:Bool=>(ea (base:=8) (clr:=[4,10]) (b:=CU) n.ai
  (fun k (_:Unit)=>⟨[n.a,ar by',.ptr 0 0 0 0,.ptr 1 0 0 0,.any,.any,.bool c6,.bool c7,ar n.ai.length,ar k,.any,.any,.any,.any],stC n l' r' MV⟩)
  (fun _ _=>True) (fun _ _=>())
  (fun _=>(.ext 0,⟨[n.a,ar by',.ptr 0 0 0 0,.ptr 1 0 0 0,.any,.any,.bool c6,.bool c7,ar n.ai.length,ar n.ai.length,.bool false,.any,.any,.any],stC n l' r' MV⟩))
  (fun k g _ hk hy _=>by
   have ak:((k:Int)<(n.ai.length:Int)):=by omega
   refine⟨?_,trivial⟩;have hcl:=fun b=>iG (enc:=EN.a) b g.arg (aI (hn.args g (aw hy)) hm);have hgg:∀h:k<n.ai.length,n.ai[k]'h=g:=fun h=>(al.1 hy).2;have n1:∀base σ m,fz false true base σ (m+3) n.a=n.a:=fun base σ m=>Ft.ft false true base σ m n rfl;have hset:(n.ai.map Kt).set k (.agg [ar g.tag,.aa false (g.arg.map EN.a)])=n.ai.map Kt:=EX (by rw[dp,hy];rfl);simp[CU,ak,hy,hk,hgg,Kt,hcl,n1,aX hk (aI hn.ai hm),aE,aH,hset])
  (fun _ _=>by simp[CU]) () trivial).1
 have loop2:=fun c6 c7:Bool=>(ea (base:=8) (clr:=[5,13]) (b:=Df) n.items
  (fun k (_:Unit)=>⟨[n.a,ar by',.ptr 0 0 0 0,.ptr 1 0 0 0,.any,.any,.bool c6,.bool c7,ar n.ai.length,ar n.ai.length,.bool false,ar n.items.length,ar k,.any],stC n l' r' MV⟩)
  (fun _ _=>True) (fun _ _=>())
  (fun _=>(.ext 2,⟨[n.a,ar by',.ptr 0 0 0 0,.ptr 1 0 0 0,.any,.any,.bool c6,.bool c7,ar n.ai.length,ar n.ai.length,.bool false,ar n.items.length,ar n.items.length,.bool false],stC n l' r' MV⟩))
  (fun k g _ hk hy _=>by
   have ak:((k:Int)<(n.items.length:Int)):=by omega
   refine⟨?_,trivial⟩;have hcl:=fun b=>iG (enc:=EN.a) b g.l (aI (hn.exprs g (aw hy)) hm);have hgg:∀h:k<n.items.length,n.items[k]'h=g:=fun h=>(al.1 hy).2;have n1:∀base σ m,fz false true base σ (m+3) n.a=n.a:=fun base σ m=>Ft.ft false true base σ m n rfl;have hset:(n.items.map Ks).set k (.agg [.aa false (g.l.map EN.a)])=n.items.map Ks:=EX (by rw[dp,hy];rfl);simp[Df,ak,hy,hk,hgg,Ks,hcl,n1,aX hk (aI hn.items hm),aE,aH,hset])
  (fun _ _=>by simp[Df]) () trivial).1
 have hna:n.a=.agg [ar n.op,ar n.l,ar n.r,ar n.tab,.aa n.bk (n.af.map (.int .i64)),.bool n.left,.aa n.bc (n.cond.map EN.a),.aa n.by' (n.keys.map (.int .i64)),.aa n.bg (n.ai.map Kt),.aa n.bi (n.items.map Ks),.aa n.bo (n.ords.map jl),ar n.limit]:=by unfold bL.a;rw[e1,e2]
 have hca:(gS by' n).a=.agg [ar n.op,ar l',ar r',ar n.tab,.aa false (n.af.map (.int .i64)),.bool n.left,.aa false (n.cond.map EN.a),.aa false (n.keys.map (.int .i64)),.aa false (n.ai.map Kt),.aa false (n.items.map Ks),.aa false (n.ords.map jl),ar n.limit]:=by rw[hc];unfold bL.a;simp only;rw[e1,e2]
 rw[hca];simp only[show ((0:Nat):Int)=0 from rfl,stC,MV,nC,hna]at loop1 loop2;rw[hna];have w1:=fun h=>rn (h1 h).1 (h1 h).2;have w2:=fun h=>rn (h2 h).1 (h2 h).2;by_cases d1:0≤n.l
 ·rw[if_pos d1]at hl;rw[hl]at w1;have w1:=w1 d1;by_cases d2:0≤n.r
  ·rw[if_pos d2]at hr;rw[hr]at w2;have w2:=w2 d2;simp[aoN,KG,d1,d2,hl,hr,w1,w2,k1,k2,k3,k4,k5,k6,loop1,loop2];exact⟨fun a _=>by rw[Fx.fx (f:=Kt) false false 0 _ 15 a],fun a _=>by rw[Fx.fx (f:=Ks) false false 0 _ 15 a],fun a x h=>by rcases h with⟨_,rfl⟩|⟨_,rfl⟩<;>rw[Fx.fx (f:=jl) false false 0 _ 15 _]⟩
  rw[if_neg d2]at hr;subst hr;simp[aoN,KG,d1,d2,hl,w1,k1,k2,k3,k4,k5,k6,loop1,loop2];exact⟨fun a _=>by rw[Fx.fx (f:=Kt) false false 0 _ 15 a],fun a _=>by rw[Fx.fx (f:=Ks) false false 0 _ 15 a],fun a x h=>by rcases h with⟨_,rfl⟩|⟨_,rfl⟩<;>rw[Fx.fx (f:=jl) false false 0 _ 15 _]⟩
 rw[if_neg d1]at hl;subst hl;by_cases d2:0≤n.r
 ·rw[if_pos d2]at hr;rw[hr]at w2;have w2:=w2 d2;simp[aoN,KG,d1,d2,hr,w2,k1,k2,k3,k4,k5,k6,loop1,loop2];exact⟨fun a _=>by rw[Fx.fx (f:=Kt) false false 0 _ 15 a],fun a _=>by rw[Fx.fx (f:=Ks) false false 0 _ 15 a],fun a x h=>by rcases h with⟨_,rfl⟩|⟨_,rfl⟩<;>rw[Fx.fx (f:=jl) false false 0 _ 15 _]⟩
 rw[if_neg d2]at hr;subst hr;simp[aoN,KG,d1,d2,k1,k2,k3,k4,k5,k6,loop1,loop2];exact⟨fun a _=>by rw[Fx.fx (f:=Kt) false false 0 _ 15 a],fun a _=>by rw[Fx.fx (f:=Ks) false false 0 _ 15 a],fun a x h=>by rcases h with⟨_,rfl⟩|⟨_,rfl⟩<;>rw[Fx.fx (f:=jl) false false 0 _ 15 _]⟩
def Gr(n:bL):ap:=.agg [ar n.op,ar n.l,ar n.r,ar n.tab,.aa false (n.af.map (.int .i64)),.bool n.left,.aa false (n.cond.map EN.a),.aa false (n.keys.map (.int .i64)),.aa false (n.ai.map Kt),.aa false (n.items.map Ks),.aa false (n.ords.map jl),ar n.limit]
instance:Nc Gr 12 true:=⟨fun _=>rfl,fun _=>rfl⟩
instance:Fx Gr:=⟨fun fl top base σ n y=>by simp[Gr]⟩
def lnC(n:bL):List ap:=cellsOf (Gr n)
theorem aek(n:bL)(fl top:Bool)(base:Nat)(σ:ay)(m:Nat):(lnC n).map (fz fl top base σ (m+2))=lnC n:=by
 have h:fz fl top base σ (m+3) (Gr n)=Gr n:=Fx.fx fl top base σ m n;have e:Gr n=.agg (lnC n):=rfl;rw[e]at h;simpa using h
theorem QE{n:bL}(h:xr n)(by':Int):(gS by' n).a=Gr (gS by' n):=by
 have e1:(gS by' n).ai.map cC.a=(gS by' n).ai.map Kt:=h.ags;have e2:(gS by' n).items.map jM.a=(gS by' n).items.map Ks:=h.exs;unfold bL.a Gr;rw[e1,e2];rfl
def mz(ns:List bL)(f k:Nat):List bL:=((ns.drop f).take k).map (gS (-(f:Int)))
theorem zS{ns:List bL}{f k:Nat}(h:f+k≤ns.length):(mz ns f k).length=k:=by
 unfold mz;simp;omega
theorem S5{ns:List bL}{f k:Nat}{n:bL}(h:ns[f+k]?=some n):mz ns f (k+1)=mz ns f k++[gS (-(f:Int)) n]:=by
 unfold mz;have hk:(ns.drop f)[k]?=some n:=by rw[fE];exact h
 rw[List.take_add_one,hk];simp
theorem afH{ns:List bL}(hz:∀n∈ns,xr n)(f k:Nat):(mz ns f k).map bL.a=(mz ns f k).map Gr:=by
 refine bx fun m hm=>?_;unfold mz at hm;obtain⟨n,hn,rfl⟩:=aU.1 hm;exact QE (hz n (cQ (bv hn))) _
theorem afT(bn:Bool)(ns:List bL)(hN:∀n∈ns,nO n)(hz:∀n∈ns,xr n)(s:List (dI Int)×List Nat)(hl:mS ns=some s)(p:Nat)(hp:p<ns.length)(f:Nat)(hf:s.2[p]?=some f)(hfp:f≤p)
  (hlr:∀n∈ns,n.l<100∧n.r<100) :
  aK I.qdz [.agg [.aa bn (ns.map bL.a)],ar p]=some (.tup [.agg [.aa false ((mz ns f (p+1-f)).map bL.a)],ar 0]):=by
 have h:=Kh 2 [.arr 1 0 [.agg [.aa bn (ns.map bL.a)]],.arr 1 0 [.agg [.aj]]] (.inr ⟨rfl,_,_,rfl⟩) (fun x hx base σ m=>by
  simp at hx;rcases hx with hx|hx<;>rw[hx]<;>simp) bn ns hN
 rw[hl]at h;obtain⟨⟨h0,h1,e1,e2⟩,h⟩:=h;obtain⟨ks,fs⟩:=s;simp only at *;rw[afH hz];have w1:=rn (n:=-(f:Int)) (by omega) (by omega);have hfl:=(al.1 hf).1;have hge:∀h:p<fs.length,fs[p]'h=f:=fun h=>(al.1 hf).2;have hp1:¬((p:Int)<0):=by omega
 have hp2:¬((ns.length:Int)≤(p:Int)):=by omega
 have hp3:((p:Int)<(ns.length:Int)):=by omega
 have loop:=cL (base:=15) (clr:=[11]) (b:=CX)
  (fun k=>⟨[.agg [.aa bn (ns.map bL.a)],ar p,.ptr 0 0 0 0,.ptr 1 0 0 0,ar 0,.ptr 6 0 0 0,.bool true,.ptr 13 0 0 0,ar ((f:Int)+(k:Int)),.bool false,.bool false,.any],
   stE 2 [.arr 1 0 [.agg [.aa bn (ns.map bL.a)]],.arr 1 0 [.agg [.aj]]] bn ns (ks,fs) true++[.arr 1 0 [.agg [.sl 14 k 0 k]],.arr 12 k ((mz ns f k).map Gr)]⟩) (p+1-f)
  (.ext 1,⟨[.agg [.aa bn (ns.map bL.a)],ar p,.ptr 0 0 0 0,.ptr 1 0 0 0,ar 0,.ptr 6 0 0 0,.bool true,.ptr 13 0 0 0,ar ((p:Int)+1),.bool false,.bool false,.bool false],
   stE 2 [.arr 1 0 [.agg [.aa bn (ns.map bL.a)]],.arr 1 0 [.agg [.aj]]] bn ns (ks,fs) true++[.arr 1 0 [.agg [.sl 14 (p+1-f) 0 (p+1-f)]],.arr 12 (p+1-f) ((mz ns f (p+1-f)).map Gr)]⟩)
  (fun k hk=>by
   have ak:((f:Int)+(k:Int)≤(p:Int)):=by omega
   have hi:f+k<ns.length:=by omega
   have hy:ns[f+k]?=some ns[f+k]:=am hi;have hgg:∀h:f+k<ns.length,ns[f+k]'h=ns[f+k]'hi:=fun _=>rfl;have hmem:=aF hi;have hcv:=Xq ns[f+k] (hz _ hmem) (hN _ hmem) (-(f:Int)) (fun h=>by have:=hlr _ hmem;omega) (fun h=>by have:=hlr _ hmem;omega);rw[QE (hz _ hmem)]at hcv;have hs:=S5 hy;have hsl:(mz ns f k).length=k:=zS (by omega);generalize ns[f+k]=n at *;rw[hs];have n3:aC n.a=12∧isAgg n.a=true:=⟨rfl,rfl⟩;have n1:∀base σ m,fz true false base σ (m+3) n.a=n.a:=fun base σ m=>Ft.ft true false base σ m n rfl;have hkm:k+1≤most:=by unfold most;omega
   have i1:(0:Int)≤(f:Int)+(k:Int):=by omega
   have i2:((f:Int)+(k:Int)).toNat=f+k:=by omega
   have i3:((f:Int)+(k:Int)<(ns.length:Int)):=by omega
   have w2:IntKind.i64.wrap ((f:Int)+(k:Int)+1)=(f:Int)+((k:Int)+1):=by rw[rn (by omega) (by omega)];omega
   have htk:List.take k ((mz ns f k).map Gr)=(mz ns f k).map Gr:=av (by simp[hsl]);have hmz:=fun base σ h=>Q9 6 base σ h;generalize gS (-(f:Int)) n=c at *;have hzc:Gr c=.agg (lnC c):=rfl;have c3:(lnC c).length=12:=rfl;have c4:=aek c;rw[hzc]at hcv;simp[CX,ak,i1,i2,i3,hy,hgg,hi,n1,n3,hf,hge,hfl,w1,w2,hcv,append,hkm,htk,hsl,hzc,c3,c4,aE,aH,hmz])
  (by
   have hs:(mz ns f (p+1-f)).length=p+1-f:=zS (by omega);have ak:¬((f:Int)+((p+1-f:Nat):Int)≤(p:Int)):=by omega
   have he:(f:Int)+((p+1-f:Nat):Int)=(p:Int)+1:=by omega
   rw[he];have hlt2:¬((p:Int)+1≤(p:Int)):=by omega
   simp[CX,hlt2])
 have hs:(mz ns f (p+1-f)).length=p+1-f:=zS (by omega);have htk:List.take (p+1-f) ((mz ns f (p+1-f)).map Gr)=(mz ns f (p+1-f)).map Gr:=av (by simp[hs]);have h00:(mz ns f 0).map Gr=[]:=by simp[mz]
 have hcz:∀σ m,∀a:bL,aC (fz false false 0 σ (m+3) (Gr a))=aC (Gr a):=fun σ m a=>by rw[Fx.fx (f:=Gr) false false 0 σ m a]
 have hi0:(f:Int)+((0:Nat):Int)=(f:Int):=by omega
 simp[h00,hi0]at loop;simp at h;generalize mz ns f (p+1-f)=S at *;have hps:p+1≤S.length+f:=by omega
 rw[aA alr rfl];simp[aqK,aa7,h,loop,hp1,hp2,hp3,hp,hge,hfl,hf,htk,hps];exact fun a _=>hcz _ 14 a
def HM(q:bW×Int):Bool:=!oC q.1 ||(q.1.k != 0&&q.1.k != q.2)
def Gx(af:List Int)(r:b8):Bool:=r.length != af.length ||(r.zip af).any HM
def LI(af:List Int)(rs:aQ):Bool:=decide (rs.length≤12)&&!rs.any (Gx af)
abbrev Ho(R K:ap)(b:Bool)(rs:aQ)(k:Int)(e3 c10 c11 e12 e13 e14:ap):List ap:=
 [R,K,.any,e3,.any,.any,.bool false,.aa b (rs.map aD),ar rs.length,ar k,c10,c11,e12,e13,e14,.any,.any]
theorem Mg(R K:ap)(b bk:Bool)(af:List Int)(rs:aQ)(hR:R=.aa b (rs.map aD))(hK:K=.aa bk (af.map (.int .i64)))(k:Int)(r:b8)(hl:r.length=af.length)(hm:r.length≤most) :
  ((r.zip af).any HM=false∧cq code 0 [2,4,5,15,16] pw ⟨Ho R K b rs k (aD r) (.bool true) (.bool false) (aD r) (ar r.length) (ar 0),[]⟩ =
   some (.ext 2,⟨(Ho R K b rs k (aD r) (.bool true) (.bool false) (aD r) (ar r.length) (ar r.length)).set 15 (.bool false),[]⟩)) ∨
  ((r.zip af).any HM=true∧∃o,cq code 0 [2,4,5,15,16] pw ⟨Ho R K b rs k (aD r) (.bool true) (.bool false) (aD r) (ar r.length) (ar 0),[]⟩=some o∧∃s,o=(.ret,s)∧dO .pure [.env 2] (some (.ret,s))=some (.bool false)):=by
 subst hK;subst hR;have hrx:aD r=.aa false (r.map bW.a):=rfl;have hzl:(r.zip af).length=r.length:=by simp[hl]
 have h:=lD (base:=0) (clr:=[2,4,5,15,16]) (b:=pw) (r.zip af)
  (fun j=>⟨Ho (.aa b (rs.map aD)) (.aa bk (af.map (.int .i64))) b rs k (aD r) (.bool true) (.bool false) (aD r) (ar r.length) (ar j),[]⟩) HM
  (.ext 2,⟨(Ho (.aa b (rs.map aD)) (.aa bk (af.map (.int .i64))) b rs k (aD r) (.bool true) (.bool false) (aD r) (ar r.length) (ar r.length)).set 15 (.bool false),[]⟩)
  (fun o=>∃s,o=(.ret,s)∧dO .pure [.env 2] (some (.ret,s))=some (.bool false))
  (fun j q hj hy hp=>by
   obtain⟨v,kd⟩:=q;rw[d5]at hy;obtain⟨hy1,hy2⟩:=hy;simp only at hy1 hy2;rw[hzl]at hj;have ak:((j:Int)<(r.length:Int)):=by omega
   have hC:=nX v;have hg1:∀h:j<r.length,r[j]'h=v:=fun h=>(al.1 hy1).2;have hg2:∀h:j<af.length,af[j]'h=kd:=fun h=>(al.1 hy2).2;have hj2:j<af.length:=by omega
   unfold HM at hp;simp only[eQ,gv]at hp;obtain⟨hp1,hp2⟩:=hp;rw[hp1]at hC;obtain⟨vk,vn,vu,vs⟩:=v;simp only[bW.a]at hC;simp only at hp2;have hva:(⟨vk,vn,vu,vs⟩:bW).a=.agg [ar vk,ar vn,.int .u64 vu,.str vs]:=rfl;by_cases c1:vk=0
   ·subst c1;simp[pw,Ho,hrx,ak,hy1,hy2,hg1,hg2,hj,hj2,bW.a,hC,aX hj hm,aE]
   have c2:vk=kd:=by
    rw[show (vk != 0)=true by simp[c1]]at hp2;simpa using hp2
   subst c2;simp[pw,Ho,hrx,ak,hy1,hy2,hg1,hg2,hj,hj2,bW.a,hC,c1,eo c1,aX hj hm,aE])
  (fun j q hj hy hp=>by
   obtain⟨v,kd⟩:=q;rw[d5]at hy;obtain⟨hy1,hy2⟩:=hy;simp only at hy1 hy2;rw[hzl]at hj;have ak:((j:Int)<(r.length:Int)):=by omega
   have hC:=nX v;have hg1:∀h:j<r.length,r[j]'h=v:=fun h=>(al.1 hy1).2;have hg2:∀h:j<af.length,af[j]'h=kd:=fun h=>(al.1 hy2).2;have hj2:j<af.length:=by omega
   unfold HM at hp;obtain⟨vk,vn,vu,vs⟩:=v;have hva:(⟨vk,vn,vu,vs⟩:bW).a=.agg [ar vk,ar vn,.int .u64 vu,.str vs]:=rfl;cases ho:oC ⟨vk,vn,vu,vs⟩ with
   |false=>
    rw[ho]at hC;simp only[bW.a]at hC;exact⟨_,by simp[pw,Ho,hrx,ak,hy1,hy2,hg1,hg2,hj,hj2,bW.a,hC];rfl,_,rfl,by simp⟩
   |true=>
    rw[ho]at hC hp;simp only[bW.a]at hC;simp at hp;obtain⟨c1,c2⟩:=hp;exact⟨_,by simp[pw,Ho,hrx,ak,hy1,hy2,hg1,hg2,hj,hj2,bW.a,hC,c1,eo c1,c2,eo c2];rfl,_,rfl,by simp⟩)
  (by rw[hzl];simp[pw,Ho])
 simp only[show ((0:Nat):Int)=0 from rfl]at h;exact h
theorem W9(b:Bool)(rs:aQ)(bk:Bool)(af:List Int)(hr:∀r∈rs,r.length≤most):aK I.qbg [.aa b (rs.map aD),.aa bk (af.map (.int .i64))]=some (.bool (LI af rs)):=by
 rw[aA als rfl];unfold LI;by_cases h12:rs.length≤12
 ·have h12':¬((12:Int)<(rs.length:Int)):=by omega
  have hm:rs.length≤most:=by unfold most;omega
  have h:=lD (base:=0) (clr:=[2,3,4,5,10,11,12,13,14,15,16]) (b:=wy) rs
   (fun k=>⟨Ho (.aa b (rs.map aD)) (.aa bk (af.map (.int .i64))) b rs k .any .any .any .any .any .any,[]⟩) (Gx af)
   (.ext 0,⟨Ho (.aa b (rs.map aD)) (.aa bk (af.map (.int .i64))) b rs rs.length .any (.bool false) .any .any .any .any,[]⟩)
   (fun o=>∃s,o=(.ret,s)∧dO .pure [.env 2] (some (.ret,s))=some (.bool false))
   (fun k r hk hy hp=>by
    have ak:((k:Int)<(rs.length:Int)):=by omega
    have hrx:aD r=.aa false (r.map bW.a):=rfl;unfold Gx at hp;simp only[eQ]at hp;have hl:r.length=af.length:=by simpa using hp.1
    rcases Mg (.aa b (rs.map aD)) (.aa bk (af.map (.int .i64))) b bk af rs rfl rfl k r hl (hr r (aw hy)) with⟨_,h⟩|⟨h,_⟩
    ·simp only[Ho,hrx]at h
     try simp at h
     have hne:((r.length:Int) != (af.length:Int))=false:=by simp[hl]
     simp[wy,Ho,ak,hy,hrx,hne,h,aX hk hm,aE]
    rw[hp.2]at h;cases h)
   (fun k r hk hy hp=>by
    have ak:((k:Int)<(rs.length:Int)):=by omega
    have hrx:aD r=.aa false (r.map bW.a):=rfl;unfold Gx at hp;by_cases hl:r.length=af.length
    ·rw[show (r.length != af.length)=false by simp[hl],jW]at hp;rcases Mg (.aa b (rs.map aD)) (.aa bk (af.map (.int .i64))) b bk af rs rfl rfl k r hl (hr r (aw hy)) with⟨h,_⟩|⟨_,o,h,s,rfl,h2⟩
     ·rw[hp]at h;cases h
     simp only[Ho,hrx]at h
     try simp at h
     have hne:((r.length:Int) != (af.length:Int))=false:=by simp[hl]
     exact⟨_,by simp[wy,Ho,ak,hy,hrx,hne,h],s,rfl,h2⟩
    have hne:((r.length:Int) != (af.length:Int))=true:=by simp;omega
    exact⟨_,by simp[wy,Ho,ak,hy,hrx,hne];rfl,_,rfl,by simp⟩)
   (by simp[wy,Ho])
  simp only[show ((0:Nat):Int)=0 from rfl]at h;rcases h with⟨hA,h⟩|⟨hA,o,h,s,rfl,h2⟩
  ·simp only[Ho]at h
   try simp at h
   simp[ao8,Rx,h12,h12',hA,h]
  simp only[Ho]at h
  try simp at h
  simp[ao8,Rx,h12,h12',hA,h,-dV];exact h2
 have h12':((12:Int)<(rs.length:Int)):=by omega
 simp[ao8,Rx,h12,h12']
def BC(tabs:List dg)(n:bL):Bool:=n.op==1&&(decide ((tabs.length:Int)≤n.tab) || !LI n.af (tabs.getD n.tab.toNat []))
theorem UR(bn:Bool)(ns:List bL)(hN:∀n∈ns,nO n)(hl:(mS ns).isSome=true)(h60:ns.length≤60)(h0:∀n∈ns,n.op=1→0≤n.tab)(bt:Bool)(tabs:List dg)(hr:∀rs∈tabs,∀r∈rs,r.length≤most) :
  aK I.qax [.agg [.aa bn (ns.map bL.a)],.agg [.aa bt (tabs.map cV)]]=some (.bool (!ns.any (BC tabs))):=by
 rw[aA ago rfl];have hm:ns.length≤most:=by unfold most;omega
 have hC0:∃k,aK I.qdx [.agg [.aa false (ns.map bL.a)]]=some (.tup [ar k,ar 0])∧∃k',aK I.qdx [.agg [.aa true (ns.map bL.a)]]=some (.tup [ar k',ar 0]):=by
  obtain⟨k,h1⟩:=mT false ns hN;obtain⟨k',h2⟩:=mT true ns hN;rw[hl]at h1 h2;exact⟨k,h1,k',h2⟩
 obtain⟨k0,hC1,k1,hC2⟩:=hC0;have hC:∀b,aK I.qdx [.agg [.aa b (ns.map bL.a)]]=some (.tup [ar (if b then k1 else k0),ar 0]):=fun b=>by cases b<;>simp[hC1,hC2]
 have h:=lD (base:=2) (clr:=[4,6,11,12]) (b:=ul) ns
  (fun k=>⟨[.agg [.aa bn (ns.map bL.a)],.agg [.aa bt (tabs.map cV)],.ptr 0 0 0 0,.ptr 1 0 0 0,.any,ar 0,.any,.bool false,.aa bn (ns.map bL.a),ar ns.length,ar k,.any,.any],[.arr 1 0 [.agg [.aa bn (ns.map bL.a)]],.arr 1 0 [.agg [.aa bt (tabs.map cV)]]]⟩) (BC tabs)
  (.ext 0,⟨[.agg [.aa bn (ns.map bL.a)],.agg [.aa bt (tabs.map cV)],.ptr 0 0 0 0,.ptr 1 0 0 0,.any,ar 0,.any,.bool false,.aa bn (ns.map bL.a),ar ns.length,ar ns.length,.bool false,.any],[.arr 1 0 [.agg [.aa bn (ns.map bL.a)]],.arr 1 0 [.agg [.aa bt (tabs.map cV)]]]⟩)
  (fun o=>∃s,o=(.ret,s)∧dO .pure [.env 4] (some (.ret,s))=some (.bool false))
  (fun k n hk hy hp=>by
   have ak:((k:Int)<(ns.length:Int)):=by omega
   have n3:aC n.a=12∧isAgg n.a=true:=⟨rfl,rfl⟩;have q0:(cellsOf n.a)[0]?=some (ar n.op):=rfl;have q3:(cellsOf n.a)[3]?=some (ar n.tab):=rfl;have q4:(cellsOf n.a)[4]?=some (.aa n.bk (n.af.map (.int .i64))):=rfl;unfold BC at hp;by_cases c1:n.op=1
   ·rw[c1]at hp;simp only[fu,ew,eQ,eW,gv]at hp;obtain⟨p1,p2⟩:=hp;have t0:=h0 n (aw hy) c1;have t1:n.tab<(tabs.length:Int):=by omega
    have t2:n.tab.toNat < tabs.length:=by omega
    have hof:tabs[n.tab.toNat]?=some (tabs.getD n.tab.toNat []):=by simp[au,t2]
    have hge:∀h:n.tab.toNat < tabs.length,tabs[n.tab.toNat]'h=tabs.getD n.tab.toNat []:=fun h=>(al.1 hof).2;have hF:=fun b bk=>W9 b (tabs.getD n.tab.toNat []) bk n.af (hr _ (aw hof));rw[p2]at hF;generalize tabs.getD n.tab.toNat []=rs at *;have hrs:cV rs=.aa false (rs.map aD):=rfl;simp[ul,ak,hy,n3,q0,q3,q4,c1,p1,t0,t1,t2,hof,hge,hrs,hF,aX hk hm,aE,aH]
   simp[ul,ak,hy,n3,q0,c1,bE c1,aX hk hm,aE,aH])
  (fun k n hk hy hp=>by
   have ak:((k:Int)<(ns.length:Int)):=by omega
   have n3:aC n.a=12∧isAgg n.a=true:=⟨rfl,rfl⟩;have q0:(cellsOf n.a)[0]?=some (ar n.op):=rfl;have q3:(cellsOf n.a)[3]?=some (ar n.tab):=rfl;have q4:(cellsOf n.a)[4]?=some (.aa n.bk (n.af.map (.int .i64))):=rfl;unfold BC at hp;simp only[aq,aP]at hp;obtain⟨c1,hp⟩:=hp;by_cases p1:(tabs.length:Int)≤n.tab
   ·exact⟨_,by simp[ul,ak,hy,n3,q0,q3,q4,c1,p1];rfl,_,rfl,by simp⟩
   rw[eH p1,jW]at hp;have hp:LI n.af (tabs.getD n.tab.toNat [])=false:=by simpa using hp
   have t0:=h0 n (aw hy) c1;have t1:n.tab<(tabs.length:Int):=by omega
   have t2:n.tab.toNat < tabs.length:=by omega
   have hof:tabs[n.tab.toNat]?=some (tabs.getD n.tab.toNat []):=by simp[au,t2]
   have hge:∀h:n.tab.toNat < tabs.length,tabs[n.tab.toNat]'h=tabs.getD n.tab.toNat []:=fun h=>(al.1 hof).2;have hF:=fun b bk=>W9 b (tabs.getD n.tab.toNat []) bk n.af (hr _ (aw hof));rw[hp]at hF;generalize tabs.getD n.tab.toNat []=rs at *;have hrs:cV rs=.aa false (rs.map aD):=rfl;exact⟨_,by simp[ul,ak,hy,n3,q0,q3,q4,c1,p1,t0,t1,t2,hof,hge,hrs,hF];rfl,_,rfl,by simp⟩)
  (by simp[ul])
 simp only[show ((0:Nat):Int)=0 from rfl]at h;rcases h with⟨hA,h⟩|⟨hA,o,h,s,rfl,h2⟩
 ·simp[api,W2,hC,hA,h]
 simp[api,W2,hC,hA,h,-dV];exact h2
def doD(op:Int):ap:=
 if op=1 then .fn 85 [.ptr 2 0 0 0] [] else if op=2 then .fn 86 [.ptr 2 0 0 0] [] else if op=3 then .fn 87 [.ptr 2 0 0 0] [] else if op=4 then .fn 88 [.ptr 2 0 0 0] [] else
 if op=5 then .fn 89 [.ptr 2 0 0 0] [] else if op=6 then .fn 90 [.ptr 2 0 0 0] [] else if op=7 then .fn 91 [.ptr 2 0 0 0] [] else if op=8 then .fn 92 [.ptr 2 0 0 0] [] else .nilf
def MW:List (ap×ap):=[(ar 1,.fn 85 [.ptr 2 0 0 0] []),(ar 2,.fn 86 [.ptr 2 0 0 0] []),(ar 3,.fn 87 [.ptr 2 0 0 0] []),(ar 4,.fn 88 [.ptr 2 0 0 0] []),
 (ar 5,.fn 89 [.ptr 2 0 0 0] []),(ar 6,.fn 90 [.ptr 2 0 0 0] []),(ar 7,.fn 91 [.ptr 2 0 0 0] []),(ar 8,.fn 92 [.ptr 2 0 0 0] [])]
theorem Lc(op:Int)(h:1≤op∧op≤8):lookup (ar op) MW=some (some (doD op)):=by
 unfold MW doD;have:op=1∨op=2∨op=3∨op=4∨op=5∨op=6∨op=7∨op=8:=by omega
 rcases this with rfl|rfl|rfl|rfl|rfl|rfl|rfl|rfl<;>rfl
theorem aan(base:Nat)(σ:ay)(h:2<base):MW.map (fun e=>(e.1,fz false true base σ 20 e.2))=MW:=by
 simp[MW,h]
def pp(opD:List dg→bL→dg×Int)(_:Nat)(n:bL)(all:List dg):List dg⊕Int:=
 if (opD all n).2≠0 then .inr (opD all n).2 else if 8000<(opD all n).1.length then .inr 3 else .inl (all++[if n.op=8 then (opD all n).1 else dL ez (opD all n).1])
def oV(W:Nat→Nat)(k:Nat):List ap:=(List.range k).map fun i=>ar ((W i:Nat):Int)
theorem TA(W:Nat→Nat)(k:Nat):oV W (k+1)=oV W k++[ar ((W k:Nat):Int)]:=by simp[oV,List.range_succ]
theorem yB(W:Nat→Nat)(k:Nat):(oV W k).length=k:=by simp[oV]
theorem YA(W:Nat→Nat)(k:Nat)(base:Nat)(σ:ay):(oV W k).map (ec base σ)=oV W k:=by
 unfold oV;rw[cE];exact bx fun i _=>by simp[ec,iB]
abbrev Jy(bn:Bool)(ns:List bL)(bt:Bool)(tabs:List ap)(k:Nat)(c:ap):List ap:=
 [.agg [.aa bn (ns.map bL.a)],.agg [.aa bt tabs],.ptr 0 0 0 0,.ptr 1 0 0 0,.any,.any,ar 0,.ptr 2 0 0 0,.mp 3,.any,.any,.any,.any,.any,.any,.bool false,.bool false,.aa bn (ns.map bL.a),ar ns.length,ar k,c,.any,.any,.any]
abbrev Xk(bn:Bool)(ns:List bL)(bt:Bool)(tabs:List ap)(W:Nat→Nat)(k:Nat)(all:List dg):ay:=
 [.arr 1 0 [.agg [.aa bn (ns.map bL.a)]],.arr 1 0 [.agg [.aa bt tabs]],.arr 3 0 [.agg [.aa bt tabs,.sl 4 k 0 k,.sl 5 k 0 k]],.map MW,.arr 1 k (all.map cV),.arr 1 k (oV W k)]
theorem aeE(bn:Bool)(ns:List bL)(h60:ns.length≤60)(bt:Bool)(tabs:List ap)(W:Nat→Nat)(J:Nat→List dg→Prop)(opD:List dg→bL→dg×Int)(hops:∀n∈ns,1≤n.op∧n.op≤8)
  (hW:∀k,k<ns.length→∃P K,(∀b,aK I.qdz [.agg [.aa b (ns.map bL.a)],ar k]=some (.tup [.agg [.aa false P],ar 0]))∧(∀b,aK I.qdy [.agg [.aa b P]]=some (.tup [.aa false K,ar 0]))∧K.length=W k)
  (hJ:∀k n all all',ns[k]?=some n→all.length=k→J k all→pp opD k n all=.inl all'→J (k+1) all')
  (hS:∀k n all,ns[k]?=some n→all.length=k→J k all→(opD all n).2=0→n.op≠8→∀r∈(opD all n).1,lc r=true)
  (hop:∀k n all σ,ns[k]?=some n→all.length=k→J k all→σ[2]?=some (.arr 3 0 [.agg [.aa bt tabs,.sl 4 k 0 k,.sl 5 k 0 k]])→σ[4]?=some (.arr 1 k (all.map cV))→σ[5]?=some (.arr 1 k (oV W k)) →
   ∃b X,(n.op=8→b=false)∧dS code (doD n.op) [n.a] σ=some (.tup [.aa b ((opD all n).1.map aD),ar (opD all n).2],σ++X)) (h0:J 0 []) :
  match aV (pp opD) ns 0 [] with
  |.inl all=>(all.length=ns.length∧J ns.length all)∧cq code 6 [4,5,9,10,11,12,13,14,20,21,22,23] pm ⟨Jy bn ns bt tabs 0 .any,Xk bn ns bt tabs W 0 []⟩=some (.ext 0,⟨Jy bn ns bt tabs ns.length (.bool false),Xk bn ns bt tabs W ns.length all⟩)
  |.inr e=>∃s,cq code 6 [4,5,9,10,11,12,13,14,20,21,22,23] pm ⟨Jy bn ns bt tabs 0 .any,Xk bn ns bt tabs W 0 []⟩=some (.ret,s)∧dO .pure [.env 4,.env 5] (some (.ret,s))=some (.tup [.aa false [],.int .i64 e]):=by
 have hm:ns.length≤most:=by unfold most;omega
 have key:=cT (base:=6) (clr:=[4,5,9,10,11,12,13,14,20,21,22,23]) (b:=pm) ns
  (fun k (all:List dg)=>⟨Jy bn ns bt tabs k .any,Xk bn ns bt tabs W k all⟩)
  (fun k all=>all.length=k∧J k all) (pp opD)
  (fun all=>(.ext 0,⟨Jy bn ns bt tabs ns.length (.bool false),Xk bn ns bt tabs W ns.length all⟩))
  (fun (e:Int) o=>∃s,o=(.ret,s)∧dO .pure [.env 4,.env 5] (some (.ret,s))=some (.tup [.aa false [],ar e]))
  (fun k n all hk hy hs=>by
   obtain⟨hal,hj⟩:=hs;have ak:((k:Int)<(ns.length:Int)):=by omega
   have n3:aC n.a=12∧isAgg n.a=true:=⟨rfl,rfl⟩;have k0:(cellsOf n.a)[0]?=some (ar n.op):=rfl;have hkm:k+1≤most:=by unfold most;omega
   have hlk:=Lc n.op (hops n (aw hy));obtain⟨b,X,hb8,ho⟩:=hop k n all (Xk bn ns bt tabs W k all++[.arr 12 0 [n.a]]) hy hal hj rfl rfl rfl;simp only[Xk,cM,b9]at ho;have hS':=hS k n all hy hal hj;have hJ':=hJ k n all;obtain⟨P,K,hP,hK,hKl⟩:=hW k hk;have htk:List.take k (all.map cV)=all.map cV:=av (by simp[hal]);have htw:List.take k (oV W k)=oV W k:=av (by simp[yB]);have hwl:=yB W k;have hws:=TA W k;have hwf:=fun σ=>YA W k 6 σ;have hmz:=fun σ=>aan 6 σ (by decide);unfold pp at hJ' ⊢;generalize opD all n=q at *;obtain⟨out,e⟩:=q;simp only at *;by_cases d1:e=0
   ·subst d1;by_cases d2:8000<out.length
    ·have d2':((8000:Int)<(out.length:Int)):=by omega
     simp only[ne_eq,ke,cz,if_pos d2];exact⟨_,by simp[pm,ak,hy,n3,k0,gG,hlk,ho,d2'];rfl,_,rfl,by simp⟩
    have d2':¬((8000:Int)<(out.length:Int)):=by omega
    simp only[ne_eq,ke,cz,if_neg d2];refine⟨?_,by simp[hal],hJ' _ hy hal hj (by simp[d2])⟩;have hro:cV out=.aa false (out.map aD):=rfl;have hro2:cV (dL ez out)=.aa false ((dL ez out).map aD):=rfl;have hget:∀(a b c d e f g y:Obj),(a::b::c::d::e::f::g::(X++[y]))[X.length+7]?=some y:=fun a b c d e f g y=>by simp
    have hset:∀(a b c d e f g y z:Obj),(a::b::c::d::e::f::g::(X++[y])).set (X.length+7) z=a::b::c::d::e::f::g::(X++[z]):=fun a b c d e f g y z=>by simp
    by_cases d3:n.op=8
    ·rw[hb8 d3]at ho;rw[if_pos d3];rw[d3]at ho hlk k0;simp[Jy,Xk,pm,ak,hy,n3,k0,gG,hlk,ho,d2',hP,hK,hKl,hget,hset,append,hkm,hal,htk,htw,hws,hwl,aE,aH,hwf,hmz,hro,aX hk hm]
    rw[if_neg d3];have hSt:=fun b=>MO b out (by omega) (hS' rfl d3);simp[Jy,Xk,pm,ak,hy,n3,k0,gG,hlk,ho,d2',d3,eo d3,hSt,hP,hK,hKl,hget,hset,append,hkm,hal,htk,htw,hws,hwl,aE,aH,hwf,hmz,hro2,aX hk hm]
   have d1':=eo d1;simp only[ne_eq,d1,not_false_iff,cW];exact⟨_,by simp[pm,ak,hy,n3,k0,gG,hlk,ho,d1,d1',bE d1];rfl,_,rfl,by simp⟩)
  (fun all hs=>by simp[pm]) [] ⟨rfl,h0⟩
 cases hf:aV (pp opD) ns 0 [] with
 |inl all=>
  rw[hf]at key;exact key
 |inr e=>
  rw[hf]at key;obtain⟨o,h1,s,rfl,h2⟩:=key;exact⟨s,h1,h2⟩
def NB:List dg⊕Int→ap
 |.inl all=>.tup [cV (all.getLastD []),.int .i64 0]
 |.inr e=>.tup [.aa false [],.int .i64 e]
theorem aei(bn:Bool)(ns:List bL)(hN:∀n∈ns,nO n)(hl:(mS ns).isSome=true)(h1:ns≠[])(h60:ns.length≤60)(bt:Bool)(tabs:List dg)(hr:∀rs∈tabs,∀r∈rs,r.length≤most)(hft:ns.any (BC tabs)=false)(h0t:∀n∈ns,n.op=1→0≤n.tab)
  (W:Nat→Nat) (J:Nat→List dg→Prop) (opD:List dg→bL→dg×Int) (hops:∀n∈ns,1≤n.op∧n.op≤8)
  (hW:∀k,k<ns.length→∃P K,(∀b,aK I.qdz [.agg [.aa b (ns.map bL.a)],ar k]=some (.tup [.agg [.aa false P],ar 0]))∧(∀b,aK I.qdy [.agg [.aa b P]]=some (.tup [.aa false K,ar 0]))∧K.length=W k)
  (hJ:∀k n all all',ns[k]?=some n→all.length=k→J k all→pp opD k n all=.inl all'→J (k+1) all')
  (hS:∀k n all,ns[k]?=some n→all.length=k→J k all→(opD all n).2=0→n.op≠8→∀r∈(opD all n).1,lc r=true)
  (hop:∀b k n all σ,ns[k]?=some n→all.length=k→J k all→σ[2]?=some (.arr 3 0 [.agg [.aa b (tabs.map cV),.sl 4 k 0 k,.sl 5 k 0 k]])→σ[4]?=some (.arr 1 k (all.map cV))→σ[5]?=some (.arr 1 k (oV W k)) →
   ∃b X,(n.op=8→b=false)∧dS code (doD n.op) [n.a] σ=some (.tup [.aa b ((opD all n).1.map aD),ar (opD all n).2],σ++X)) (h0:J 0 []) :
  aK I.qay [.agg [.aa bn (ns.map bL.a)],.agg [.aa bt (tabs.map cV)]]=some (NB (aV (pp opD) ns 0 [])):=by
 rw[aA adG rfl];have hC0:∃k,aK I.qdx [.agg [.aa false (ns.map bL.a)]]=some (.tup [ar k,ar 0])∧∃k',aK I.qdx [.agg [.aa true (ns.map bL.a)]]=some (.tup [ar k',ar 0]):=by
  obtain⟨k,h1⟩:=mT false ns hN;obtain⟨k',h2⟩:=mT true ns hN;rw[hl]at h1 h2;exact⟨k,h1,k',h2⟩
 obtain⟨k0,hC1,k1,hC2⟩:=hC0;have hC:∀b,aK I.qdx [.agg [.aa b (ns.map bL.a)]]=some (.tup [ar (if b then k1 else k0),ar 0]):=fun b=>by cases b<;>simp[hC1,hC2]
 have hF:=fun b b'=>UR b ns hN hl h60 h0t b' tabs hr;rw[hft]at hF;have key:=aeE bn ns h60 bt (tabs.map cV) W J opD hops hW hJ hS (hop bt) h0;have hz0:0<ns.length:=by cases ns with|nil=>exact absurd rfl h1|cons=>simp
 cases hf:aV (pp opD) ns 0 [] with
 |inl all=>
  rw[hf]at key;obtain⟨⟨e1,_⟩,key⟩:=key;have w1:=rn (n:=(ns.length:Int)-1) (by omega) (by omega);have w2:(0:Int)≤(ns.length:Int)-1:=by omega
  have w3:((ns.length:Int)-1).toNat=ns.length-1:=by omega
  have w4:((ns.length:Int)-1<(ns.length:Int)):=by omega
  have hla:all[ns.length-1]?=some (all.getLastD []):=by
   have:ns.length-1<all.length:=by omega
   rw[ic,d7,e1,am this];rfl
  have hlb:∀h:ns.length-1<all.length,all[ns.length-1]'h=all.getLastD []:=fun h=>by rw[am h]at hla;exact cB hla
  have w5:(1:Int)≤(ns.length:Int):=by omega
  have w6:ns.length-1<ns.length:=by omega
  have hnc:∀rs,aC (cV rs)=1∧isAgg (cV rs)=false:=fun _=>⟨rfl,rfl⟩;have hfz:∀rs fl top base σ m,fz fl top base σ (m+3) (cV rs)=cV rs:=fun rs fl top base σ m=>Fx.fx fl top base σ m rs;simp only[Jy,Xk,MW,oV,List.range_zero,bh,show ((0:Nat):Int)=0 from rfl]at key;simp[aoH,Mx,hC,hF,gG,mput,s9,key,NB,hnc,hfz,w1,w2,w3,w4,w5,w6,hla,hlb,e1]
 |inr e=>
  rw[hf]at key;obtain⟨s,key,h2⟩:=key;simp only[Jy,Xk,MW,oV,List.range_zero,bh,show ((0:Nat):Int)=0 from rfl]at key;simp[aoH,Mx,hC,hF,gG,mput,s9,key,NB,-dV];exact h2
theorem Xu(bn:Bool)(ns:List bL)(hN:∀n∈ns,nO n)(h60:ns.length≤60)(h0t:(mS ns).isSome=true→∀n∈ns,n.op=1→0≤n.tab)(bt:Bool)(tabs:List dg)(hr:∀rs∈tabs,∀r∈rs,r.length≤most)(h:mS ns=none∨ns.any (BC tabs)=true) :
  ∃e,aK I.qay [.agg [.aa bn (ns.map bL.a)],.agg [.aa bt (tabs.map cV)]]=some (.tup [.aa false [],ar e])∧e≠0∧e≠140:=by
 rw[aA adG rfl];cases hl:mS ns with
 |none=>
  have hC0:∃k,aK I.qdx [.agg [.aa false (ns.map bL.a)]]=some (.tup [ar k,ar 230])∧∃k',aK I.qdx [.agg [.aa true (ns.map bL.a)]]=some (.tup [ar k',ar 230]):=by
   obtain⟨k,h1⟩:=mT false ns hN;obtain⟨k',h2⟩:=mT true ns hN;rw[hl]at h1 h2;exact⟨k,h1,k',h2⟩
  obtain⟨k0,hC1,k1,hC2⟩:=hC0;have hC:∀b,aK I.qdx [.agg [.aa b (ns.map bL.a)]]=some (.tup [ar (if b then k1 else k0),ar 230]):=fun b=>by cases b<;>simp[hC1,hC2]
  exact⟨230,by simp[aoH,Mx,hC],by decide,by decide⟩
 |some s=>
  have hl':(mS ns).isSome=true:=by rw[hl];rfl
  have hb:ns.any (BC tabs)=true:=by
   rcases h with h|h
   ·rw[hl]at h;cases h
   exact h
  have hC0:∃k,aK I.qdx [.agg [.aa false (ns.map bL.a)]]=some (.tup [ar k,ar 0])∧∃k',aK I.qdx [.agg [.aa true (ns.map bL.a)]]=some (.tup [ar k',ar 0]):=by
   obtain⟨k,h1⟩:=mT false ns hN;obtain⟨k',h2⟩:=mT true ns hN;rw[hl']at h1 h2;exact⟨k,h1,k',h2⟩
  obtain⟨k0,hC1,k1,hC2⟩:=hC0;have hC:∀b,aK I.qdx [.agg [.aa b (ns.map bL.a)]]=some (.tup [ar (if b then k1 else k0),ar 0]):=fun b=>by cases b<;>simp[hC1,hC2]
  have hF:=fun b b'=>UR b ns hN hl' h60 (h0t hl') b' tabs hr;rw[hb]at hF;exact⟨250,by simp[aoH,Mx,hC,hF],by decide,by decide⟩
section
section
variable {ns:List bL} {s:List (dI Int)×List Nat} (h:lC ns s) (hR:∀n∈ns,RgX n) {tabs:List dg} (hT:∀n∈ns,n.op=1→mX n.af (tabs.getD n.tab.toNat []))
noncomputable abbrev iJ(s:List (dI Int)×List Nat)(tabs:List dg):List dg→bL→dg×Int:=pe tabs fun i=>(dh s i).length
noncomputable abbrev nr(s:List (dI Int)×List Nat)(tabs:List dg):List dg→bL→dg×Int:=Bu tabs fun i=>(dh s i).length
include h hR hT
theorem HA{k:Nat}{n:bL}(hn:ns[k]?=some n){all:List dg}(hF:DZ ns s k all)(h0:(iJ s tabs all n).2=0)(h8:(iJ s tabs all n).1.length≤8000) :
  DZ ns s (k+1) (all++[if n.op=8 then (iJ s tabs all n).1 else dL ez (iJ s tabs all n).1]):=by
 have hmem:=aw hn;have hfit:=UX h hn (hR n hmem) (hT n hmem) hF h0;have hl:=hF.len;have get1:∀i,i<k→∀x:dg,(all++[x]).getD i []=all.getD i []:=fun i hi x=>by
  rw[au,bB (by omega),au]
 have get2:∀x:dg,(all++[x]).getD k []=x:=fun x=>by
  rw[au,bQ (by omega),hl,mr];rfl
 refine⟨by simp[hl],fun i hi=>?_,fun i hi=>?_,fun i m hi hm hop=>?_⟩
 ·by_cases hik:i<k
  ·rw[get1 i hik];exact hF.fit i hik
  obtain rfl:i=k:=by omega
  rw[get2];split
  ·exact hfit
  exact fun r hr=>hfit r (Lt.1 hr)
 ·by_cases hik:i<k
  ·rw[get1 i hik];exact hF.few i hik
  obtain rfl:i=k:=by omega
  rw[get2];split
  ·exact h8
  rw[gj];exact h8
 by_cases hik:i<k
 ·rw[get1 i hik];exact hF.srt i m hik hm hop
 obtain rfl:i=k:=by omega
 rw[hn]at hm;cases hm;rw[get2,if_neg hop];exact B4 _
theorem Ld{k:Nat}{n:bL}(hn:ns[k]?=some n){all all':List dg}(hF:DZ ns s k all)(hd:pp (iJ s tabs) k n all=.inl all'):DZ ns s (k+1) all':=by
 unfold pp at hd;by_cases c:(iJ s tabs all n).2=0
 ·rw[if_neg (by simpa using c)]at hd;by_cases c8:8000<(iJ s tabs all n).1.length
  ·rw[if_pos c8]at hd;cases hd
  rw[if_neg c8]at hd;cases hd;exact HA h hR hT hn hF c (by omega)
 rw[if_pos c]at hd;cases hd
structure Er (ns:List bL) (s:List (dI Int)×List Nat) (tabs:List dg) (k:Nat) (all:List dg):Prop where
 fine:DZ ns s k all
 rest:∀e,aV (pp (iJ s tabs)) (ns.drop k) k all=.inr e→e=140
omit hR hT in
theorem wd{k:Nat}{n:bL}(hn:ns[k]?=some n){all:List dg}(hJ:Er ns s tabs k all) :
  ((iJ s tabs all n).2=0∧(iJ s tabs all n).1.length≤8000)∨(iJ s tabs all n).2=140:=by
 have _:=h;have hd:ns.drop k=n::ns.drop (k+1):=by
  have:=(al.1 hn);rw[dP this.1,this.2]
 have hr:=hJ.rest;rw[hd]at hr;simp only[aV]at hr;unfold pp at hr;by_cases c:(iJ s tabs all n).2=0
 ·by_cases c8:8000<(iJ s tabs all n).1.length
  ·rw[if_neg (by simpa using c),if_pos c8]at hr;have:=hr 3 rfl;omega
  exact .inl ⟨c,by omega⟩
 rw[if_pos c]at hr;exact .inr (hr _ rfl)
theorem Lv{k:Nat}{n:bL}(hn:ns[k]?=some n){all all':List dg}(hJ:Er ns s tabs k all)(hr:uX (nr s tabs) k n all=.inl all'):Er ns s tabs (k+1) all'∧pp (iJ s tabs) k n all=.inl all':=by
 have hmem:=aw hn;obtain⟨s1,s2⟩:=QO h hn (hR n hmem) (hT n hmem) hJ.fine;rcases wd h hn hJ with⟨c,c8⟩|c
 ·have he:=s1 c c8;unfold uX at hr;unfold nr at hr;rw[he]at hr;simp only[ne_eq,ke,cz]at hr;by_cases c2:200<(if n.op=8 then (pe tabs (fun i=>(dh s i).length) all n).1 else dL ez (pe tabs (fun i=>(dh s i).length) all n).1).length
  ·rw[if_pos c2]at hr;cases hr
  rw[if_neg c2]at hr;have hr:=(Sum.inl.inj hr).symm;subst hr;have hden:pp (iJ s tabs) k n all=.inl (all++[if n.op=8 then (iJ s tabs all n).1 else dL ez (iJ s tabs all n).1]):=by
   unfold pp;rw[if_neg (by simpa using c),if_neg (by omega)]
  have hd:ns.drop k=n::ns.drop (k+1):=by
   have:=(al.1 hn);rw[dP this.1,this.2]
  refine⟨⟨HA h hR hT hn hJ.fine c c8,fun e he=>hJ.rest e ?_⟩,hden⟩;rw[hd];simp only[aV,hden];exact he
 have:=s2 c;unfold uX at hr;rw[if_pos this]at hr;cases hr
theorem DS:∀(l:List bL) (k:Nat) (all:List dg),ns.drop k=l→Er ns s tabs k all→match aV (pp (iJ s tabs)) l k all with
  |.inl r=>aV (uX (nr s tabs)) l k all=.inl r∨aV (uX (nr s tabs)) l k all=.inr 300
  |.inr _=>aV (uX (nr s tabs)) l k all=.inr 140∨aV (uX (nr s tabs)) l k all=.inr 300
 |[],k,all,_,_=>.inl rfl
 |n::l,k,all,hd,hJ=>by
  have hn:ns[k]?=some n:=by
   have:=congrArg (·[0]?) hd;simpa using this
  have hl:ns.drop (k+1)=l:=by
   have:=congrArg List.tail hd;simpa [dD] using this
  have hmem:=aw hn;obtain⟨s1,s2⟩:=QO h hn (hR n hmem) (hT n hmem) hJ.fine;simp only[aV];cases hr:uX (nr s tabs) k n all with
  |inl all'=>
   obtain⟨g1,g2⟩:=Lv h hR hT hn hJ hr;rw[g2];exact DS l (k+1) all' hl g1
  |inr e=>
   have he:e=140∨e=300:=by
    unfold uX at hr;split at hr
    ·cases hr;exact .inl rfl
    split at hr
    ·cases hr;exact .inr rfl
    cases hr
   rcases he with rfl|rfl
   ·rcases wd h hn hJ with⟨c,c8⟩|c
    ·have he:=s1 c c8;unfold uX at hr;unfold nr at hr;rw[he]at hr;simp only[ne_eq,ke,cz]at hr;by_cases c2:200<(if n.op=8 then (pe tabs (fun i=>(dh s i).length) all n).1 else dL ez (pe tabs (fun i=>(dh s i).length) all n).1).length
     ·rw[if_pos c2]at hr;exact absurd (Sum.inr.inj hr) (by decide)
     rw[if_neg c2]at hr;exact absurd hr (by simp)
    have hden:pp (iJ s tabs) k n all=.inr 140:=by
     unfold pp;rw[if_pos (by rw[c];decide),c]
    rw[hden];exact .inl rfl
   split<;>exact Or.inr rfl
end
end
def J1:List dg⊕Int→ap
 |.inl all=>.tup [cV (all.getLastD []),.int .i64 0]
 |.inr e=>.tup [.aa false [],.int .i64 e]
abbrev Bt(bn:Bool)(ns:List bL)(bc:Bool):ap:=.agg [.aa bn (ns.map bL.a),ar 0,ar 0,.aa bc []]
abbrev afB(bn:Bool)(ns:List bL)(bc bt:Bool)(tabs:List ap)(bi:Bool)(ins:List ap)(ks:List (List Int))(s:ap):ap:=
 .agg [.aa bn (ns.map bL.a),ar 0,ar 0,.aa bc [],.aa bt tabs,.aa bi ins,.aa false (ks.map uT),s]
theorem ajk(bc bt:Bool)(tabs:List ap)(bi:Bool)(ins:List ap)(bn:Bool)(ns:List bL)(hn:ns.length≤8000)(h1:ns≠[])(hF:∀n∈ns,nO n)(ks:List (List Int))(hks:nT ns=.inl ks)
  (hG:∀n∈ns,n.l<0→∃b rs,Ew bt tabs bi ins n b rs)
  (J:Nat→List dg→Prop) (opE:List dg→bL→dg×Int)
  (hJ:∀k n all all',ns[k]?=some n→all.length=k→J k all→uX opE k n all=.inl all'→J (k+1) all')
  (hop:∀k n all σ,ns[k]?=some n→all.length=k→J k all→σ[1]?=some (.arr 8 0 [afB bn ns bc bt tabs bi ins ks (.sl 2 k 0 k)])→σ[2]?=some (.arr 1 k (all.map cV)) →
   dS code (AC n.op) [.ptr 1 0 0 0,n.a] σ=some (.tup [cV (opE all n).1,ar (opE all n).2],σ)) (h0:J 0 []) :
  aK I.qbz [Bt bn ns bc,.aa bt tabs,.aa bi ins]=some (J1 (aV (uX opE) ns 0 [])):=by
 rw[aA agA rfl];have hk:=fun b=>IN b ns hF (by unfold qU;omega);rw[hks]at hk;simp only[xK]at hk;have imz:∀b xs base σ m,fz false true base σ (m+1) (.aa b xs)=.aa b xs:=fun b xs base σ m=>by simp[fz]
 have hT:∀base σ m,fz false true base σ (m+3) (.aa bt tabs)=.aa bt tabs:=fun base σ m=>imz _ _ _ _ _;have hI:∀base σ m,fz false true base σ (m+3) (.aa bi ins)=.aa bi ins:=fun base σ m=>imz _ _ _ _ _;have hfr:∀base σ m,fz false true base σ (m+3) (Bt bn ns bc)=Bt bn ns bc:=fun base σ m=>by simp
 have hK:∀base σ m,fz false true base σ (m+3) (.aa false (ks.map uT))=.aa false (ks.map uT):=fun base σ m=>by simp
 have key1:=aed (Bt bn ns bc) (.aa bn (ns.map bL.a)) (ar 0) (ar 0) (.aa bc []) bt tabs bi ins (.aa false (ks.map uT)) bn ns hn hfr hT hI hK (fun σ m=>by simp[fz]) hG;have key2:=aej (Bt bn ns bc) (.aa bn (ns.map bL.a)) (ar 0) (ar 0) (.aa bc []) bt tabs bi ins (.aa false (ks.map uT)) bn ns hn hfr hT hI hK (fun s base σ m=>by simp[fz]) J opE hJ hop h0;cases hf:aV (uX opE) ns 0 [] with
 |inl all=>
  rw[hf]at key2;obtain⟨k1,k2,k3⟩:=key2;simp only[Gq,show ((0:Nat):Int)=0 from rfl]at k3;have hz:0<ns.length:=by cases ns with|nil=>exact absurd rfl h1|cons=>simp
  have w1:=rn (n:=(ns.length:Int)-1) (by omega) (by omega);have w2:(0:Int)≤(ns.length:Int)-1:=by omega
  have w3:((ns.length:Int)-1).toNat=ns.length-1:=by omega
  have w4:((ns.length:Int)-1<(ns.length:Int)):=by omega
  have hla:all[ns.length-1]?=some (all.getLastD []):=by
   have:ns.length-1<all.length:=by omega
   rw[ic,d7,k1,am this];rfl
  have hlb:∀h:ns.length-1<all.length,all[ns.length-1]'h=all.getLastD []:=fun h=>by rw[am h]at hla;exact cB hla
  have w5:(1:Int)≤(ns.length:Int):=by omega
  have w6:ns.length-1<ns.length:=by omega
  have hro:∀rs,cV rs=.aa false (rs.map aD):=fun _=>rfl;have hnc:∀rs,aC (cV rs)=1∧isAgg (cV rs)=false:=fun _=>⟨rfl,rfl⟩;have hfz:∀rs fl top base σ m,fz fl top base σ (m+3) (cV rs)=cV rs:=fun rs fl top base σ m=>Fx.fx fl top base σ m rs;simp[hnc,hfz,ao3,P9,hk,key1,xt,k3,J1,w1,w2,w3,w4,w5,w6,hla,hlb,k1]
 |inr e=>
  rw[hf]at key2;obtain⟨k,x13,x14,x15,c,x27,x28,x29,σ,h2,he⟩:=key2;simp only[Gq,show ((0:Nat):Int)=0 from rfl]at h2;rcases he with rfl|rfl
  ·simp[ao3,P9,hk,key1,xt,h2,J1]
  simp[ao3,P9,hk,key1,xt,h2,J1]
structure R8 (n:bL):Prop where
 fit:nO n
 flat:xr n
 rg:RgX n
 bo:n.bo=false
abbrev fnR(bn:Bool)(ns:List bL)(bc bt:Bool)(tabs:List ap)(bi:Bool)(ins:List ap)(ks:List (List Int))(all:List dg):ap:=
 .cptr true (eX (.aa bn (ns.map bL.a)) (ar 0) (ar 0) (.aa bc []) (.aa bt tabs) (.aa bi ins) (.aa false (ks.map uT)) true (all.map cV)) 0
theorem pq{σ:ay}{bn:Bool}{ns:List bL}{bc bt:Bool}{tabs:List ap}{bi:Bool}{ins:List ap}{ks:List (List Int)}{k:Nat}{all:List dg}(hl:all.length=k)(h1:σ[1]?=some (.arr 8 0 [afB bn ns bc bt tabs bi ins ks (.sl 2 k 0 k)]))(h2:σ[2]?=some (.arr 1 k (all.map cV))) :
  fz true false 0 σ 20 (.ptr 1 0 0 0)=fnR bn ns bc bt tabs bi ins ks all:=by
 have htk:List.take k (all.map cV)=all.map cV:=av (by simp[hl]);simp[h1,h2,htk,hl];exact fun a _=>by rw[Fx.fx (f:=cV) true false 0 _ 14 a]
theorem zI(bn:Bool)(ns:List bL)(bc bt:Bool)(tabs:List ap)(bi:Bool)(ins:List ap)(ks:List (List Int))(all:List dg):∀fl top base σ m,(fl ||top)=true→fz fl top base σ (m+4) (fnR bn ns bc bt tabs bi ins ks all)=fnR bn ns bc bt tabs bi ins ks all:=fun fl top base σ m h=>by
 cases fl<;>cases top
 ·cases h
 all_goals simp
theorem gu{all:List dg}{p k:Nat}(hl:all.length=k)(hp:p<k):(all.map cV)[p]?=some (.aa false ((all.getD p []).map aD)):=by
 rw[dp,am (by omega),au,am (by omega)];rfl
theorem nq{f:Nat}{σ:ay}{x y F N r:ap}(hf:aT f)(hx:fz true false 0 σ 20 x=F)(hy:fz true false 0 σ 20 y=N)(h:aK f [F,N]=some r):dS code (.fn f [] []) [x,y] σ=some (r,σ):=by
 rw[TK];simp only[b9,cR];rw[hf];simp only[bG,bh,po,hx,hy,h,dd]
theorem Eh(N:Nat)(P:Nat→List (dI Int)×List Nat→Prop):∀(l:List bL) (i:Nat) (s:List (dI Int)×List Nat),P i s→(∀k n s,l[k]?=some n→P (i+k) s→∃q,xg N n s.1 s.2=some q∧P (i+k+1) (s.1++[q.1],s.2++[q.2])) →
  ∃s',aV (pR N) l i s=.inl s'∧P (i+l.length) s'
 |[],i,s,h,_=>⟨s,rfl,h⟩
 |n::l,i,s,h,hs=>by
  obtain⟨q,h1,h2⟩:=hs 0 n s rfl h;obtain⟨s',h3,h4⟩:=Eh N P l (i+1) (s.1++[q.1],s.2++[q.2]) h2 (fun k m t hk ht=>by
   have:=hs (k+1) m t (by simpa using hk) (by rw[show i+(k+1)=i+1+k by omega];exact ht);rw[show i+(k+1)=i+1+k by omega]at this;exact this)
  refine⟨s',?_,by rw[bj,show i+(l.length+1)=i+1+l.length by omega];exact h4⟩;simp only[aV,pR,h1];exact h3
theorem UW{ns:List bL}{s:List (dI Int)×List Nat}(h:lC ns s){p f:Nat}(hf:s.2[p]?=some f){j:Nat}(hj:f+j≤p){n:bL}(hn:ns[f+j]?=some n){a:List (dI Int)}{b:List Nat}(ha:a.length=j)(hb:b.length=j)
  (hk:∀q,q<j→(a.getD q lY).l=dh s (f+q)) (hg:∀q,q<j→∃g,s.2[f+q]?=some g∧b[q]?=some (g-f)) :
  ∃r g,s.2[f+j]?=some g∧f≤g∧xg (p+1-f) (gS (-(f:Int)) n) a b=some (r,g-f)∧r.l=dh s (f+j):=by
 have hN:=h.node _ _ hn;obtain⟨g,g1,g2,q3,q4,q5⟩:=hN.first
 have hfg:=h.nest p f hf (f+j) g (by omega) hj g1;have hget:∀q,q<j→∃x,a[q]?=some x∧x.l=dh s (f+q):=fun q hq=>by
  have hq':q<a.length:=by omega
  have:=hk q hq;rw[au,am hq']at this;exact⟨a[q],am hq',this⟩
 have ho:=hN.op;have hop:(gS (-(f:Int)) n).op=n.op:=rfl;have hbl:lu (gS (-(f:Int)) n)=true:=hN.blank;have hcl:0≤n.l→(gS (-(f:Int)) n).l=n.l-f:=fun h=>by show (if 0≤n.l then n.l+-(f:Int) else n.l)=_;rw[if_pos h];omega
 have hcl':n.l<0→(gS (-(f:Int)) n).l=n.l:=fun h=>by show (if 0≤n.l then n.l+-(f:Int) else n.l)=_;rw[if_neg (by omega)]
 have hcr:0≤n.r→(gS (-(f:Int)) n).r=n.r-f:=fun h=>by show (if 0≤n.r then n.r+-(f:Int) else n.r)=_;rw[if_pos h];omega
 have hcr':n.r<0→(gS (-(f:Int)) n).r=n.r:=fun h=>by show (if 0≤n.r then n.r+-(f:Int) else n.r)=_;rw[if_neg (by omega)]
 have hbelow:iV (gS (-(f:Int)) n) j b=(((g-f:Nat):Int),true):=by
  have:n.op=1∨(n.op=3∨n.op=4∨n.op=5∨n.op=6∨n.op=8)∨(n.op=2∨n.op=7):=by omega
  unfold iV;rw[hop];rcases this with c|c|c
  ·have e0:fL n.op=0:=by unfold fL;rw[if_pos c]
   obtain⟨l1,l2,_⟩:=hN.scan c;rw[if_pos e0,hcl' (by omega),hcr' (by omega),l1,l2,q3 c];simp
  ·have e0:¬fL n.op=0:=by unfold fL;rw[if_neg (by omega)];split<;>omega
   have e1:fL n.op=1:=by unfold fL;rw[if_neg (by omega),if_neg (by omega)]
   obtain⟨l1,l2,k0,l3⟩:=q4 c;have hg1:=h.le _ _ l3;have j0:j≠0:=by omega
   obtain⟨g',m1,m2⟩:=hg (j-1) (by omega);rw[show f+(j-1)=f+j-1 by omega,l3]at m1;cases m1;rw[if_neg e0,if_pos e1,hcl (by omega),hcr' (by omega),l1,l2,if_neg (by omega),au,m2];rfl
  have e0:¬fL n.op=0:=by unfold fL;rw[if_neg (by omega),if_pos c];omega
  have e1:¬fL n.op=1:=by unfold fL;rw[if_neg (by omega),if_pos c];omega
  obtain⟨l,g',l1,l2,k0,l3,l4,l5⟩:=q5 c;have hg1:=h.le _ _ l3;have hg2:=h.le _ _ l5;have j0:j≠0:=by omega
  obtain⟨g1',m1,m2⟩:=hg (j-1) (by omega);rw[show f+(j-1)=f+j-1 by omega,l3]at m1;cases m1;obtain⟨g2',m3,m4⟩:=hg (l-f) (by omega);rw[show f+(l-f)=l by omega,l5]at m3;cases m3;have e2:b.getD (j-1) 0=g' - f:=by rw[au,m2];rfl
  have e3:(n.l-(f:Int)).toNat=l-f:=by omega
  rw[if_neg e0,if_neg e1,hcl (by omega),hcr (by omega),e2,e3,if_neg (by omega),au,m4];rfl
 have hask:∃r,nN (p+1-f) a (gS (-(f:Int)) n)=some r∧r.l=dh s (f+j):=by
  have part:∀q:Nat,n.l=(q:Int)→f≤q→(gS (-(f:Int)) n).l.toNat=q-f:=fun q hq h=>by rw[hcl (by omega),hq];omega
  have partr:∀q:Nat,n.r=(q:Int)→f≤q→(gS (-(f:Int)) n).r.toNat=q-f:=fun q hq h=>by rw[hcr (by omega),hq];omega
  have one:n.op=3∨n.op=4∨n.op=5∨n.op=6∨n.op=8→∀q:Nat,n.l=(q:Int)→f≤q∧q-f<j∧f+(q-f)=q:=fun c q hq=>by
   obtain⟨l1,l2,k0,l3⟩:=q4 c;have:=h.le _ _ l3;omega
  have two:n.op=2∨n.op=7→∀q q':Nat,n.l=(q:Int)→n.r=(q':Int)→(f≤q∧q-f<j∧f+(q-f)=q)∧(f≤q'∧q' - f<j∧f+(q' - f)=q'):=fun c q q' hq hq'=>by
   obtain⟨l,g',l1,l2,k0,l3,l4,l5⟩:=q5 c;have:=h.le _ _ l3;have:=h.le _ _ l5;omega
  unfold nN;rw[hop];have:n.op=1∨n.op=2∨n.op=3∨n.op=4∨n.op=5∨n.op=6∨n.op=7∨n.op=8:=by omega
  rcases this with c|c|c|c|c|c|c|c
  ·obtain⟨_,_,l3,l4⟩:=hN.scan c;have:rD (gS (-(f:Int)) n)=true:=l3;rw[if_pos c,if_pos this];exact⟨_,rfl,l4.symm⟩
  ·obtain⟨x,y,l1,l2,l3,l4,l5,l6⟩:=hN.join c;obtain⟨⟨t1,t2,t3⟩,t4,t5,t6⟩:=two (.inl c) x y l1 l2;obtain⟨u,u1,u2⟩:=hget _ t2;obtain⟨w,w1,w2⟩:=hget _ t5;rw[t3]at u2;rw[t6]at w2;rw[if_neg (by omega),part x l1 t1,u1];simp only[bM];rw[if_pos c,partr y l2 t4,w1];simp only[bM];rw[u2,w2];have:jU (gS (-(f:Int)) n).cond (dh s x++dh s y)=true:=l5;rw[if_pos this];exact⟨_,rfl,l6.symm⟩
  ·obtain⟨x,l1,l2,l3,l4⟩:=hN.filter c;obtain⟨t1,t2,t3⟩:=one (.inl c) x l1;obtain⟨u,u1,u2⟩:=hget _ t2;rw[t3]at u2;rw[if_neg (by omega),part x l1 t1,u1];simp only[bM];have:jU (gS (-(f:Int)) n).cond u.l=true:=by rw[u2];exact l3
   rw[if_neg (by omega),if_pos c,if_pos this];exact⟨_,rfl,by rw[u2,l4]⟩
  ·obtain⟨x,l1,l2,l3,l4,l5⟩:=hN.group c;obtain⟨t1,t2,t3⟩:=one (.inr (.inl c)) x l1;obtain⟨u,u1,u2⟩:=hget _ t2;rw[t3]at u2;rw[if_neg (by omega),part x l1 t1,u1];simp only[bM];have:(nu (gS (-(f:Int)) n) u.l&&(gS (-(f:Int)) n).ai.all fun g=>(ln u.l g).1)=true:=by
    rw[u2];simp only[aq,aG];exact⟨l3,l4⟩
   rw[if_neg (by omega),if_neg (by omega),if_pos c,if_pos this,u2];exact⟨_,rfl,l5.symm⟩
  ·obtain⟨x,l1,l2,l3,l4,l5,l6⟩:=hN.project c;obtain⟨t1,t2,t3⟩:=one (.inr (.inr (.inl c))) x l1;obtain⟨u,u1,u2⟩:=hget _ t2;rw[t3]at u2;rw[if_neg (by omega),part x l1 t1,u1];simp only[bM];have:(decide (1≤(gS (-(f:Int)) n).items.length)&&decide ((gS (-(f:Int)) n).items.length≤16)&&(gS (-(f:Int)) n).items.all fun e=>(eC e.l u.l).2==0)=true:=by
    rw[u2];simp only[aq,aG,aL,aP];exact⟨⟨l3,l4⟩,l5⟩
   rw[if_neg (by omega),if_neg (by omega),if_neg (by omega),if_pos c,if_pos this,u2];exact⟨_,rfl,l6.symm⟩
  ·obtain⟨x,l1,l2,l3⟩:=hN.distinct c;obtain⟨t1,t2,t3⟩:=one (.inr (.inr (.inr (.inl c)))) x l1;obtain⟨u,u1,u2⟩:=hget _ t2;rw[t3]at u2;rw[if_neg (by omega),part x l1 t1,u1];simp only[bM];rw[if_neg (by omega),if_neg (by omega),if_neg (by omega),if_neg (by omega),if_pos c];exact⟨_,rfl,by rw[u2,l3]⟩
  ·obtain⟨x,y,l1,l2,l3,l4,l5,l6⟩:=hN.union c;obtain⟨⟨t1,t2,t3⟩,t4,t5,t6⟩:=two (.inr c) x y l1 l2;obtain⟨u,u1,u2⟩:=hget _ t2;obtain⟨w,w1,w2⟩:=hget _ t5;rw[t3]at u2;rw[t6]at w2;rw[if_neg (by omega),part x l1 t1,u1];simp only[bM];rw[if_neg (by omega),if_neg (by omega),if_neg (by omega),if_neg (by omega),if_neg (by omega),if_pos c,partr y l2 t4,w1];simp only[bM];rw[u2,w2,if_pos l5,l6];exact⟨_,rfl,rfl⟩
  obtain⟨x,l1,l2,l3,l4,l5⟩:=hN.sort c;obtain⟨t1,t2,t3⟩:=one (.inr (.inr (.inr (.inr c)))) x l1;obtain⟨u,u1,u2⟩:=hget _ t2;rw[t3]at u2;have hp:=(al.1 hf).1;have:=h.len2;rw[if_neg (by omega),part x l1 t1,u1];simp only[bM];have e:(sortF (gS (-(f:Int)) n) u.l&&decide (a.length+1=p+1-f))=true:=by
   rw[u2];simp only[aq,aL];exact⟨l3,by omega⟩
  rw[if_neg (by omega),if_neg (by omega),if_neg (by omega),if_neg (by omega),if_neg (by omega),if_neg (by omega),if_pos c,if_pos e];exact⟨_,rfl,by rw[u2,l5]⟩
 obtain⟨r,hr1,hr2⟩:=hask;refine⟨r,g,g1,hfg,?_,hr2⟩;have h16:=hN.len;unfold xg;rw[ha,hop,hbl,hbelow,fD ho.1,fD ho.2,hr1];simp only[Bool.and_self,dY,cz];rw[if_neg (by rw[hr2];omega)];simp
theorem Vq{ns:List bL}{s:List (dI Int)×List Nat}(h:lC ns s){p f:Nat}(hf:s.2[p]?=some f) :
  ∃s',mS (mz ns f (p+1-f))=some s'∧(∀a∈s'.1,a.l.length≤16)∧(s'.1.getD ((mz ns f (p+1-f)).length-1) lY).l=dh s p:=by
 have hp:=(al.1 hf).1;have hfp:=h.le _ _ hf;have hl2:=h.len2;have hm:=h.most;have hlen:(mz ns f (p+1-f)).length=p+1-f:=zS (by omega);have key:=Eh (p+1-f) (fun j t=>j≤p+1-f→(t.1.length=j∧t.2.length=j)∧(∀q,q<j→(t.1.getD q lY).l=dh s (f+q))∧∀q,q<j→∃g,s.2[f+q]?=some g∧f≤g∧t.2[q]?=some (g-f)) (mz ns f (p+1-f)) 0 ([],[])
  (fun _=>⟨⟨rfl,rfl⟩,fun q hq=>by omega,fun q hq=>by omega⟩)
  (fun j n' t hn' ht=>by
   rw[bS]at ht ⊢;have hj:=(al.1 hn').1;rw[hlen]at hj;obtain⟨⟨a1,a2⟩,a3,a4⟩:=ht (by omega);have hn:ns[f+j]?=some ns[f+j]:=am (by omega);have hcopy:n'=gS (-(f:Int)) ns[f+j]:=by
    have e:(mz ns f (p+1-f))[j]?=some (gS (-(f:Int)) ns[f+j]):=by
     unfold mz;rw[dp,df,if_pos (by omega),fE,hn];rfl
    rw[e]at hn';exact (cB hn').symm
   obtain⟨r,g,g1,g2,g3,g4⟩:=UW h hf (j:=j) (by omega) hn a1 a2 a3 (fun q hq=>by
    obtain⟨g,m1,_,m3⟩:=a4 q hq;exact⟨g,m1,m3⟩)
   rw[hcopy];refine⟨(r,g-f),g3,fun _=>⟨⟨by simp[a1],by simp[a2]⟩,fun q hq=>?_,fun q hq=>?_⟩⟩
   ·by_cases hqj:q<j
    ·have:=a3 q hqj;rw[au,bB (by omega)];rw[au]at this;exact this
    obtain rfl:q=j:=by omega
    rw[au,bQ (by omega),a1,mr];exact g4
   by_cases hqj:q<j
   ·obtain⟨g',m1,m2,m3⟩:=a4 q hqj;exact⟨g',m1,m2,by rw[bB (by omega)];exact m3⟩
   obtain rfl:q=j:=by omega
   exact⟨g,g1,g2,by rw[bQ (by omega),a2,mr];rfl⟩)
 obtain⟨s',h1,h2⟩:=key;rw[bS,hlen]at h2;obtain⟨⟨b1,b2⟩,b3,b4⟩:=h2 (aM _);refine⟨s',?_,fun a ha=>?_,?_⟩
 ·unfold mS;rw[hlen,if_neg (by omega),h1];simp only;obtain⟨g,m1,m2,m3⟩:=b4 (p-f) (by omega);rw[show f+(p-f)=p by omega,hf]at m1;cases m1;rw[show p+1-f-1=p-f by omega,au,m3];simp
 ·obtain⟨i,hi⟩:=dt.1 ha;have hil:=(al.1 hi).1;have:=b3 i (by omega);rw[au,hi]at this;simp only[cJ]at this;rw[this];exact (h.node (f+i) ns[f+i] (am (by omega))).len
 rw[hlen,show p+1-f-1=p-f by omega,b3 (p-f) (by omega),show f+(p-f)=p by omega]
theorem lC.below{ns:List bL}{s:List (dI Int)×List Nat}(h:lC ns s){k:Nat}{n:bL}(hn:ns[k]?=some n):n.l<(k:Int)+1∧n.r<(k:Int)+1:=by
 have hN:=h.node k n hn;obtain⟨f,_,_,_,q4,q5⟩:=hN.first
 have ho:=hN.op;have:n.op=1∨(n.op=3∨n.op=4∨n.op=5∨n.op=6∨n.op=8)∨(n.op=2∨n.op=7):=by omega
 rcases this with c|c|c
 ·obtain⟨l1,l2,_⟩:=hN.scan c;omega
 ·obtain⟨l1,l2,_⟩:=q4 c;omega
 obtain⟨l,g,l1,l2,_,l3,l4,_⟩:=q5 c;have:=h.le _ _ l3;omega
theorem XL{ns:List bL}{s:List (dI Int)×List Nat}(hl:mS ns=some s)(hN:∀n∈ns,nO n)(hz:∀n∈ns,xr n)(k:Nat)(hk:k<ns.length) :
  ∃Q K,(∀b,aK I.qdz [.agg [.aa b (ns.map bL.a)],ar k]=some (.tup [.agg [.aa false Q],ar 0]))∧(∀b,aK I.qdy [.agg [.aa b Q]]=some (.tup [.aa false K,ar 0]))∧K.length=(dh s k).length:=by
 have h:=WO hl;have hl2:=h.len2;have hm:=h.most;have hf:s.2[k]?=some s.2[k]:=am (by omega);generalize s.2[k]=f at hf;have hfk:=h.le _ _ hf;obtain⟨s',h1,h2,h3⟩:=Vq h hf;have hlr:∀n∈ns,n.l<100∧n.r<100:=fun n hn=>by
  obtain⟨i,hi⟩:=dt.1 hn;have hil:=(al.1 hi).1;have:=h.below hi;omega
 have hNs:∀n∈mz ns f (k+1-f),nO n:=fun m hm=>by
  unfold mz at hm;obtain⟨n,hn,rfl⟩:=aU.1 hm;have:=hN n (cQ (bv hn));exact⟨this.af,this.cond,this.keys,this.ai,this.args,this.items,this.exprs,this.ords⟩
 refine⟨(mz ns f (k+1-f)).map bL.a,aZ (s'.1.getD ((mz ns f (k+1-f)).length-1) lY).l,fun b=>afT b ns hN hz s hl k hk f hf hfk hlr,fun b=>S0 b _ hNs s' h1 h2,?_⟩;rw[h3];simp
inductive Rb (fs:List Nat):Nat→List Nat→Prop
 |nil:Rb fs 0 []
 |snoc {i g:Nat} {o:List Nat}:fs[i]?=some g→Rb fs g o→Rb fs (i+1) (o++[i])
theorem Rb.inv{fs:List Nat}{i:Nat}{o:List Nat}(h:Rb fs (i+1) o):∃g o',fs[i]?=some g∧Rb fs g o'∧o=o'++[i]:=by
 cases h with
 |snoc h1 h2=>exact⟨_,_,h1,h2,rfl⟩
theorem HO{a keys:List Int}(h:kf keys a=true):o5 a keys=some (keys.map fun x=>a.getD x.toNat 0):=by
 unfold o5;rw[if_pos];unfold kf at h;simp only[cN,bR,cK,aL,not_or]at h;simp only[aG,aq,aL];intro x hx;have:=h x hx;omega
theorem Cn{e:List EN}{K:List Int}(h:(eC e K).2=0):(eC e K).1≠4:=by
 unfold eC at h ⊢;cases ho:zU e with
 |false=>rw[ho]at h;simp at h
 |true=>
  rw[ho]at h;simp only[dY,cz]at h ⊢;split at h
  ·cases h
  rename_i n1;rw[if_neg n1];split at h
  ·cases h
  rename_i n2;rw[if_neg n2]
  suffices hs:(oF 0 (na K) e).1≠4∨∃no,no≠0∧oF 0 (na K) e=(0,no) by
   rcases hs with hs|⟨no,_,hs⟩
   ·exact hs
   rw[hs];exact (by decide:(0:Int)≠4)
  refine MA ho (fun k=>k≠4) (fun n hn l hl hc hy h0=>?_) h;unfold na at h0 ⊢;simp only at h0 ⊢;by_cases t1:n.tag=1
  ·rw[if_pos t1];unfold f9 at hc;rw[if_pos t1]at hc;unfold jS at hc;simp at hc;exact hc.1.2
  rw[if_neg t1]at h0 ⊢;by_cases t2:n.tag=2
  ·rw[if_pos t2];simp only;by_cases hi:n.col.toNat < K.length
   ·rw[au,am hi];have:=bR.1 (fT.2 n1) _ (aF hi);unfold UC at this;simp at this;simp only[cJ];omega
   rw[au,dC (by omega)];simp
  rw[if_neg t2]at h0 ⊢;clear h0;generalize (if sf n.tag=true then (2:Int) else if n.tag=5∨n.tag=22∨n.tag=23 then 1 else l.foldl Cs 0)=w;by_cases hx:l.foldl Cs 0=-1∨l.foldl Cs 0≠0∧l.foldl Cs 0≠w
  ·rw[if_pos hx];exact (by decide:(0:Int)≠4)
  rw[if_neg hx];show (if sf n.tag=true then (2:Int) else 1)≠4;split<;>decide
def El(K:List Int):Prop:=∀k∈K,k≠4
theorem El.any{K:List Int}(h:El K):qG K=false:=by
 unfold qG;rw[bR];intro k hk;have:=h k hk;simp;omega
theorem B6:∀{a b u:List Int},ev a b=some u→El a→El b→El u
 |[],_,u,h,_,_=>by simp[ev]at h;subst h;intro k hk;cases hk
 |_::_,[],_,h,_,_=>by simp[ev]at h
 |k::a,o::b,u,h,ha,hb=>by
  have hu:ev (k::a) (o::b)=if o≠0∧o≠(if k=0 then o else k) then none else (ev a b).map ((if k=0 then o else k)::·):=rfl
  rw[hu]at h;by_cases hc:o≠0∧o≠(if k=0 then o else k)
  ·rw[if_pos hc]at h;cases h
  rw[if_neg hc]at h;cases hq:ev a b with
  |none=>rw[hq]at h;cases h
  |some q=>
   rw[hq]at h;simp only[dd,aJ]at h;subst h;have ih:=B6 hq (fun x hx=>ha x (by simp[hx])) (fun x hx=>hb x (by simp[hx]));intro x hx;rcases dz.1 hx with rfl|hx
   ·split
    ·exact hb o (by simp)
    exact ha k (by simp)
   exact ih x hx
theorem TS{K:List Int}(h:El K)(i:Nat):K.getD i 0≠4:=by
 by_cases hi:i<K.length
 ·rw[au,am hi];exact h _ (aF hi)
 rw[au,dC (by omega)];simp
theorem lC.nosum{ns:List bL}{s:List (dI Int)×List Nat}(h:lC ns s):∀k,k<ns.length→El (dh s k):=by
 intro k;induction k using Nat.strongRecOn with
 |ind k ih=>
  intro hk;have hN:=h.node k ns[k] (am hk);generalize ns[k]=n at hN;have ho:=hN.op;have:n.op=1∨n.op=2∨n.op=3∨n.op=4∨n.op=5∨n.op=6∨n.op=7∨n.op=8:=by omega
  rcases this with c|c|c|c|c|c|c|c
  ·obtain⟨_,_,l3,l4⟩:=hN.scan c;rw[l4];intro x hx;unfold rD at l3;simp only[aq,cN,bR]at l3;have:=l3.1.1.1.1 x hx;simp at this;omega
  ·obtain⟨x,y,_,_,l3,l4,_,l6⟩:=hN.join c;rw[l6];intro z hz;rcases bT.1 hz with hz|hz
   ·exact ih x l3 (by omega) z hz
   exact ih y l4 (by omega) z hz
  ·obtain⟨x,_,l2,_,l4⟩:=hN.filter c;rw[l4];exact ih x l2 (by omega)
  ·obtain⟨x,_,l2,_,l4,l5⟩:=hN.group c;rw[l5];intro z hz;rcases bT.1 hz with hz|hz
   ·obtain⟨i,_,rfl⟩:=aU.1 hz;exact TS (ih x l2 (by omega)) _
   obtain⟨g,hg,rfl⟩:=aU.1 hz;have:=l4 g hg;unfold u6;unfold ln at this;by_cases t1:g.tag=1
   ·simp[t1]
   rw[if_neg t1]at this;simp only[aq,aP]at this;split
   ·simp
   split
   ·exact Cn this.1.1.1
   simp
  ·obtain⟨x,_,l2,_,_,l5,l6⟩:=hN.project c;rw[l6];intro z hz;obtain⟨e,he,rfl⟩:=aU.1 hz;exact Cn (l5 e he)
  ·obtain⟨x,_,l2,l3⟩:=hN.distinct c;rw[l3];exact ih x l2 (by omega)
  ·obtain⟨x,y,_,_,l3,l4,_,l6⟩:=hN.union c;exact B6 l6 (ih x l3 (by omega)) (ih y l4 (by omega))
  obtain⟨x,_,l2,_,_,l5⟩:=hN.sort c;rw[l5];exact ih x l2 (by omega)
theorem V7{op:Int}(h:op=3∨op=4∨op=5∨op=6∨op=8):eb op=1:=by
 unfold eb;rw[if_neg (by omega),if_neg (by omega),if_pos (by omega)]
theorem XP{op:Int}(h:op=2∨op=7):eb op=2:=by
 unfold eb;rw[if_neg (by omega),if_pos (by omega)]
theorem NH{ns:List bL}{s:List (dI Int)×List Nat}(h:lC ns s){i:Nat}{n:bL}(hn:ns[i]?=some n){af:List (dI Int)}{opn:List Nat}(hl:af.length=i)(hk:∀q,q<i→(af.getD q lY).l=dh s q)(ho:Rb s.2 i opn) :
  ∃x o',mQ ns i n af opn=some (x,o')∧x.l=dh s i∧Rb s.2 (i+1) o':=by
 have hN:=h.node i n hn;have hin:=(al.1 hn).1;obtain⟨f,g1,g2,q3,q4,q5⟩:=hN.first
 have hop:=hN.op;have hbl:=hN.blank;have h16:=hN.len;have ns4:∀q,q<i→qG (af.getD q lY).l=false:=fun q hq=>by
  rw[hk q hq];exact (h.nosum q (by omega)).any
 have three:n.op=1∨(n.op=3∨n.op=4∨n.op=5∨n.op=6∨n.op=8)∨(n.op=2∨n.op=7):=by omega
 rcases three with c|c|c
 ·obtain⟨l1,l2,l3,l4⟩:=hN.scan c;have p0:eb n.op=0:=by unfold eb;rw[if_pos (.inl c)]
  have hpre:u4 n opn=some []:=by
   unfold u4;rw[p0,hbl,if_neg (by simp)];simp[l1,l2]
  refine⟨⟨n.bk,n.af⟩,opn++[i],?_,l4.symm,?_⟩
  ·unfold mQ;rw[hpre];have hr:sB n i ns.length=true:=by unfold sB;simp[c]
   simp only[ig,hr];rw[if_neg (by simp)];simp only[bh];have:uO ns n []=some ⟨n.bk,n.af⟩:=by unfold uO;rw[if_pos c,if_pos l3]
   rw[this];simp only;rw[if_neg (by rw[l4]at h16;simpa using h16)];simp
  have:=q3 c;subst this;exact Rb.snoc g1 ho
 ·obtain⟨l1,l2,k0,l3⟩:=q4 c;obtain⟨j,rfl⟩:∃j,i=j+1:=⟨i-1,by omega⟩;obtain⟨g,o,e1,e2,rfl⟩:=ho.inv;simp only[kU]at l3;rw[l3]at e1;cases e1;have l1':n.l=(j:Int):=by rw[l1];simp
  have p1:eb n.op=1:=V7 c;have hpre:u4 n (o++[j])=some [j]:=by
   unfold u4;rw[p1,hbl,if_neg (by simp;omega)];have:(o++[j]).drop ((o++[j]).length-(1:Int).toNat)=[j]:=by simp
   rw[this];simp[l1',l2]
  have hA:=hk j (by omega);have hx:∃x,uO ns n [af.getD j lY]=some x∧x.l=dh s (j+1):=by
   generalize af.getD j lY=a at hA;have hj:∀p:Nat,n.l=(p:Int)→p=j:=fun p hp=>by omega
   unfold uO;dsimp only;rcases c with c|c|c|c|c
   ·obtain⟨x,m1,_,m3,m4⟩:=hN.filter c;obtain rfl:=hj x m1;rw[if_pos c,hA,if_pos m3];exact⟨a,rfl,by rw[hA,m4]⟩
   ·obtain⟨x,m1,_,m3,m4,m5⟩:=hN.group c;obtain rfl:=hj x m1;unfold nu at m3;simp only[aq]at m3;have hag:rb n (dh s x)=true:=by
     unfold rb;have:=m3.1;unfold jA at this;rw[this,ew];exact aG.2 m4
    rw[if_neg (by omega),if_pos c,hA,HO m3.2];simp only[bM];rw[if_pos hag];refine⟨_,rfl,?_⟩;rw[m5];simp only[List.append_cancel_left_eq];exact bx fun g hg=>(ZA (m4 g hg)).symm
   ·obtain⟨x,m1,_,m3,m4,m5,m6⟩:=hN.project c;obtain rfl:=hj x m1;have hit:oe (dh s x) n.items=some (n.items.map fun e=>(eC e.l (dh s x)).1):=by
     rw[Hx,if_pos];exact aG.2 fun e he=>by rw[m5 e he];rfl
    rw[if_neg (by omega),if_neg (by omega),if_pos c,hA,hit];simp only[bM];rw[if_pos (by simp;omega)];exact⟨_,rfl,m6.symm⟩
   ·obtain⟨x,m1,_,m3⟩:=hN.distinct c;obtain rfl:=hj x m1;rw[if_neg (by omega),if_neg (by omega),if_neg (by omega),if_pos c];exact⟨a,rfl,by rw[hA,m3]⟩
   obtain⟨x,m1,_,m3,_,m5⟩:=hN.sort c;obtain rfl:=hj x m1;rw[if_neg (by omega),if_neg (by omega),if_neg (by omega),if_neg (by omega),if_pos c,hA,if_pos m3];exact⟨a,rfl,by rw[hA,m5]⟩
  obtain⟨x,hx1,hx2⟩:=hx;refine⟨x,o++[j+1],?_,hx2,Rb.snoc g1 e2⟩;have hr:sB n (j+1) ns.length=true:=by
   unfold sB;by_cases c8:n.op=8
   ·obtain⟨_,_,_,_,m4,_⟩:=hN.sort c8;have:j+1=ns.length-1:=by omega
    simp[this]
   have:¬n.op=10:=by omega
   simp[c8,this]
  unfold mQ;rw[hpre];simp only[fW,ig,ns4 j (by omega),hr];rw[if_neg (by simp)];simp only[bG,bh];rw[hx1];simp only;rw[if_neg (by rw[hx2];omega)];simp
 obtain⟨l,g,l1,l2,k0,l3,l4,l5⟩:=q5 c;obtain⟨j,rfl⟩:∃j,i=j+1:=⟨i-1,by omega⟩;obtain⟨g',o,e1,e2,rfl⟩:=ho.inv;simp only[kU]at l3;rw[l3]at e1;cases e1;subst l4;obtain⟨f',o',e3,e4,rfl⟩:=e2.inv;rw[l5]at e3;cases e3;have hg:=h.le _ _ l3;have l2':n.r=(j:Int):=by rw[l2];simp
 have p2:eb n.op=2:=XP c;have hpre:u4 n (o'++[l]++[j])=some [l,j]:=by
  unfold u4;rw[p2,hbl,if_neg (by simp;omega)];have:(o'++[l]++[j]).drop ((o'++[l]++[j]).length-(2:Int).toNat)=[l,j]:=by simp
  rw[this];simp[l1,l2']
 have hA:=hk l (by omega);have hB:=hk j (by omega);have hx:∃x,uO ns n [af.getD l lY,af.getD j lY]=some x∧x.l=dh s (j+1):=by
  generalize af.getD l lY=a at hA;generalize af.getD j lY=b at hB;unfold uO;dsimp only;rcases c with c|c
  ·obtain⟨x,y,m1,m2,_,_,m5,m6⟩:=hN.join c;obtain rfl:x=l:=by omega
   obtain rfl:y=j:=by omega
   rw[if_pos c,hA,hB,if_pos m5];exact⟨_,rfl,m6.symm⟩
  obtain⟨x,y,m1,m2,_,_,m5,m6⟩:=hN.union c;obtain rfl:x=l:=by omega
  obtain rfl:y=j:=by omega
  rw[if_neg (by omega),if_pos c,hA,hB,if_pos m5,m6];exact⟨_,rfl,rfl⟩
 obtain⟨x,hx1,hx2⟩:=hx;refine⟨x,o'++[j+1],?_,hx2,Rb.snoc g1 e4⟩;have hr:sB n (j+1) ns.length=true:=by
  unfold sB;have h8:¬n.op=8:=by omega
  have h10:¬n.op=10:=by omega
  simp[h8,h10]
 unfold mQ;rw[hpre];simp only[fW,ig,ns4 l (by omega),ns4 j (by omega),hr];rw[if_neg (by simp)];simp only[bG,bh];rw[hx1];simp only;rw[if_neg (by rw[hx2];omega)];simp
theorem GJ{ns:List bL}{s:List (dI Int)×List Nat}(h:lC ns s):∀(l:List bL) (i:Nat) (af:List (dI Int)) (opn:List Nat),i+l.length=ns.length→(∀(k:Nat) n,l[k]?=some n→ns[i+k]?=some n)→af.length=i→(∀q,q<i→(af.getD q lY).l=dh s q)→Rb s.2 i opn →
  ∃k' o',Wx ns l i af opn=.inl (k',o')∧k'.length=ns.length∧(∀q,q<ns.length→(k'.getD q lY).l=dh s q)∧Rb s.2 ns.length o'
 |[],i,af,opn,hl,_,hk1,hk2,ho=>by
  simp at hl;subst hl;exact⟨af,opn,rfl,hk1,hk2,ho⟩
 |n::l,i,af,opn,hl,hg,hk1,hk2,ho=>by
  obtain⟨x,o',h1,h2,h3⟩:=NH h (hg 0 n rfl) hk1 hk2 ho
  obtain⟨k',o2,m1,m2,m3,m4⟩:=GJ h l (i+1) (af++[x]) o' (by simp at hl;omega) (fun k m hm=>by
   have:=hg (k+1) m (by simpa using hm);rw[show i+(k+1)=i+1+k by omega]at this;exact this) (by simp[hk1]) (fun q hq=>by
   by_cases hqi:q<i
   ·have:=hk2 q hqi;rw[au,bB (by omega)];rw[au]at this;exact this
   obtain rfl:q=i:=by omega
   rw[au,bQ (by omega),hk1,mr];exact h2) h3
  refine⟨k',o2,?_,m2,m3,m4⟩;simp only[Wx];rw[eK]at *;rw[h1];exact m1
theorem KT{ns:List bL}{s:List (dI Int)×List Nat}(h:lC ns s):∃ks,nT ns=.inl ks∧ks.length=ns.length∧∀(q:Nat),q<ns.length→ks[q]?=some (dh s q):=by
 obtain⟨k',o',h1,h2,h3,h4⟩:=GJ h ns 0 [] [] (by simp) (fun k n hk=>by rw[bS];exact hk) rfl (fun q hq=>by omega) Rb.nil;have hm:=h.most;have hp:=h.pos;obtain⟨j,hj⟩:∃j,ns.length=j+1:=⟨ns.length-1,by omega⟩;have hr:=h.root;rw[hj]at h4 hr;simp only[kU]at hr;obtain⟨g,o,e1,e2,rfl⟩:=h4.inv;rw[hr]at e1;cases e1;have ho:o=[]:=by
  cases e2;rfl
 subst ho;refine⟨k'.map (·.l),?_,by simp[h2],fun q hq=>?_⟩
 ·unfold nT;rw[if_neg (by omega),h1];simp
 have:q<k'.length:=by omega
 have h3':=h3 q hq;rw[au,am this]at h3';rw[dp,am this];simp only[dd,←h3'];rfl
end Go.AM
