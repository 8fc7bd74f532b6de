/- Part of the proof. -/
import Derived.Test.YtegkopkbogoajaaGreatDoorAm19
import Derived.Test.YtegkopkbogoajaaGreatDoorAm20
import Derived.Test.YtegkopkbogoajaaGreatDoorAm13
set_option linter.unusedVariables false
set_option linter.unusedSimpArgs false
namespace Go.AM
open P
theorem adB:az I.qag []=some (.bool true):=fq YS
theorem CJ{α:Type}(l:List α)(k:Nat)(h:k≤100):(l.take k).length≤kV:=by
 show _≤4294967296;rw[al4];omega
theorem Oe(l:List EN):(tG l).length≤kV:=by
 unfold tG;rw[ajk];exact CJ l 60 (by decide)
theorem Ia(n:aO):NFit (jG n) where
 xX:=CJ n.xX 17 (by decide)
 cond:=Oe n.cond
 keys:=CJ n.keys 6 (by decide)
 yo:=by show ((n.yo.take 14).map J3).length≤kV;rw[ajk];exact CJ _ 14 (by decide)
 args:=fun g hg=>by
  obtain⟨y,_,rfl⟩:=afJ.1 (show g∈(n.yo.take 14).map J3 from hg);exact Oe _
 items:=by show ((n.items.take 17).map MX).length≤kV;rw[ajk];exact CJ _ 17 (by decide)
 exprs:=fun g hg=>by
  obtain⟨y,_,rfl⟩:=afJ.1 (show g∈(n.items.take 17).map MX from hg);exact Oe _
 ords:=CJ n.ords 5 (by decide)
end Go.AM
namespace Go.AM
open P
set_option maxHeartbeats 64000000
set_option maxRecDepth 40000
attribute [local simp] aB aP
theorem yu(n:aO)(cd:Nat→aT→av→aE×Int)(rs:av):(iV n cd rs).1.length≤rs.length∧∀r∈(iV n cd rs).1,r.length=n.keys.length+n.yo.length:=by
 rw[ve];split
 ·refine⟨by rw[il,ajk];exact mK _ _,fun r hr=>?_⟩;have hr:=(dX _).mem_iff.1 hr;obtain⟨g,hg,rfl⟩:=afJ.1 hr;obtain⟨_,_,a,_,h4⟩:=eh hg;unfold UI;rw[aog,ajk,Jy,h4,gL]
 simp
structure aj3 (x0:aa) (M:aO) (l1:List aa) (R:av):Prop where
 x1:∀base σ m,fz true false base σ (m+3) x0=x0
 x2:∀base σ m,fz false true base σ (m+3) x0=x0
 x3:aw x0=12∧isAgg x0=true
 xQ:∀b,az I.qac [.wh b [x0],ac 1]=some (.wh false [M.a])
 rows:az I.qae [.wh true l1,ac 30]=some (.wh false (R.map aG))
 part:∀b,az I.qds [M.a,.wh b (R.map aG)]=some (.tup [.wh false ((jW M R).1.map aG),ac (jW M R).2])
 fin:∀b,az I.qdr [M.a,.wh b (R.map aG)]=some (.tup [.wh false ((uj M R).1.map aG),ac (uj M R).2])
 asked:∀(op:Int),op=10∨op=11→∀b,az I.qcu [M.a,ac op,.wh b (R.map aG)]=some (.bool (fR M op R))
 part20:fR M 10 R=true∨fR M 11 R=true→∀b,az I.qcy [M.a,.wh b (R.map aG)]=some (.tup [.wh false ((ix M R).1.map aG),ac (ix M R).2])
 fin20:fR M 11 R=true→∀b,az I.qcv [M.a,.wh b (R.map aG)]=some (.tup [.wh false ((tQ M R).1.map aG),ac (tQ M R).2])
 eq10:fR M 10 R=true→ix M R=gp M R
 eq11:fR M 11 R=true→tQ M R=ly M R
 wide:M.keys.length+M.yo.length≤20
 len:R.length≤30
 row:∀r∈R,r.length≤17
abbrev eL(x0:aa)(l1:List aa)(k:Int)(e13:aa):List aa:=[x0,.wh true l1,.ptr 0 0 0 0,.any,.any,.any,.any,.any,.any,.any,.bool false,.agg [ac 10,ac 11],ac k,e13,.any,.any,.any,.any,.any]
theorem agq{x0:aa}{M:aO}{l1:List aa}{R:av}(h:aj3 x0 M l1 R) :
  aM code 1 [3,4,5,6,7,8,9,13,14,15,16,17,18] oW ⟨eL x0 l1 0 .any,[.arr 12 0 [M.a]]⟩=aM code 1 [3,4,5,6,7,8,9,13,14,15,16,17,18] oW ⟨eL x0 l1 1 .any,[.arr 12 0 [M.a]]⟩:=by
 rw[bj];have hx1:=h.x1;have hx2:=h.x2;have hx3:=h.x3;have hrows:=h.rows;have hP:=h.part;have hA:=h.asked 10 (.inl rfl);have hsR:=fun b b'=>Bh b b' R R (by have:=h.len;omega) (fun r hr=>by have:=h.row r hr;unfold most;omega);have m1:∀base σ m,fz true false base σ (m+3) M.a=M.a:=fun base σ m=>Ft.ft true false base σ m M rfl;have m2:∀base σ m,fz false true base σ (m+3) M.a=M.a:=fun base σ m=>Ft.ft false true base σ m M rfl;have m3:aw M.a=12∧isAgg M.a=true:=⟨rfl,rfl⟩;cases hq:fR M 10 R with
 |false=>
  rw[hq]at hA;have e:jW M R=([],2):=by unfold jW;rw[hq];rfl
  rw[e]at hP;simp[oW,eL,hrows,hP,hA,hx1,hx2,hx3,m1,m2,m3,show IntKind.i64.wrap 1=1 from rfl,show IntKind.i64.wrap 2=2 from rfl,ar,ap]
 |true=>
  rw[hq]at hA;have hP20:=h.part20 (.inl hq);have e:jW M R=gp M R:=by unfold jW;rw[hq];rfl
  rw[h.eq10 hq]at hP20;rw[e]at hP;have hsm:=yu M (fun _ a rows=>jD a.tag a.arg rows) R
  have hS:=fun b b'=>Bh b b' (gp M R).1 (gp M R).1 (by have:=hsm.1;have:=h.len;unfold gp;omega) (fun r hr=>by
   have:=hsm.2 r hr;have:=h.wide;unfold most;omega)
  generalize gp M R=p at *;simp only[decide_true]at hS hsR;simp[oW,eL,hrows,hP,hA,hP20,hS,hsR,hx1,hx2,hx3,m1,m2,m3,show IntKind.i64.wrap 1=1 from rfl,show IntKind.i64.wrap 2=2 from rfl,ar,ap]
theorem afe{x0:aa}{M:aO}{l1:List aa}{R:av}(h:aj3 x0 M l1 R) :
  aM code 1 [3,4,5,6,7,8,9,13,14,15,16,17,18] oW ⟨eL x0 l1 1 .any,[.arr 12 0 [M.a]]⟩=aM code 1 [3,4,5,6,7,8,9,13,14,15,16,17,18] oW ⟨eL x0 l1 2 .any,[.arr 12 0 [M.a]]⟩:=by
 rw[bj];have hx1:=h.x1;have hx2:=h.x2;have hx3:=h.x3;have hrows:=h.rows;have hP:=h.part;have hF:=h.fin;have hA:=h.asked 11 (.inr rfl);have hsR:=fun b b'=>Bh b b' R R (by have:=h.len;omega) (fun r hr=>by have:=h.row r hr;unfold most;omega);have m1:∀base σ m,fz true false base σ (m+3) M.a=M.a:=fun base σ m=>Ft.ft true false base σ m M rfl;have m2:∀base σ m,fz false true base σ (m+3) M.a=M.a:=fun base σ m=>Ft.ft false true base σ m M rfl;have m3:aw M.a=12∧isAgg M.a=true:=⟨rfl,rfl⟩;generalize jW M R=pp at *;cases hq:fR M 11 R with
 |false=>
  rw[hq]at hA;have e:uj M R=([],2):=by unfold uj;rw[hq];rfl
  rw[e]at hF;simp[oW,eL,hrows,hP,hF,hA,hx1,hx2,hx3,m1,m2,m3,show IntKind.i64.wrap 1=1 from rfl,show IntKind.i64.wrap 2=2 from rfl,ar,ap]
 |true=>
  rw[hq]at hA;have hP20:=h.part20 (.inr hq);have hF20:=h.fin20 hq;have e:uj M R=ly M R:=by unfold uj;rw[hq];rfl
  rw[h.eq11 hq]at hF20;rw[e]at hF;have hsm:=yu M (fun i a rows=>sw a.tag (oY (M.keys.length+i) rows)) R
  have hS:=fun b b'=>Bh b b' (ly M R).1 (ly M R).1 (by have:=hsm.1;have:=h.len;unfold ly;omega) (fun r hr=>by
   have:=hsm.2 r hr;have:=h.wide;unfold most;omega)
  generalize ly M R=p at *;generalize ix M R=pr at *;simp only[decide_true]at hS hsR;simp[oW,eL,hrows,hP,hF,hA,hP20,hF20,hS,hsR,hx1,hx2,hx3,m1,m2,m3,show IntKind.i64.wrap 1=1 from rfl,show IntKind.i64.wrap 2=2 from rfl,ar,ap]
theorem Qz{x0:aa}{M:aO}{l1:List aa}{R:av}(h:aj3 x0 M l1 R):az I.qt [x0,.wh true l1]=some (.bool true):=by
 rw[am anp rfl];have hx1:=h.x1;have hx2:=h.x2;have hx3:=h.x3;have hnd:=h.xQ;have m1:∀base σ m,fz true false base σ (m+3) M.a=M.a:=fun base σ m=>Ft.ft true false base σ m M rfl;have m2:∀base σ m,fz false true base σ (m+3) M.a=M.a:=fun base σ m=>Ft.ft false true base σ m M rfl;have m3:aw M.a=12∧isAgg M.a=true:=⟨rfl,rfl⟩;have hl:aM code 1 [3,4,5,6,7,8,9,13,14,15,16,17,18] oW ⟨eL x0 l1 0 .any,[.arr 12 0 [M.a]]⟩=some (.ext 0,⟨eL x0 l1 2 (.bool false),[.arr 12 0 [M.a]]⟩):=by
  rw[agq h,afe h,bj];simp[oW,eL]
 simp only[eL]at hl;simp[aAs,aqq,adB,hnd,hx1,hx2,hx3,m1,m2,m3,hl]
theorem akv{e:List EN}(ho:si e=true){k:Nat}{n:EN}(hn:e[k]?=some n) :
  cq n=true∧(n.tag=1∨n.tag=2∨(¬n.tag=1∧¬n.tag=2∧(∃p:Nat,n.l=p∧p<k)∧(n.r=-1∨∃q:Nat,n.r=q∧q<k))):=by
 obtain⟨hk,_⟩:=aaN.1 hn;obtain⟨a,o,i1,i2,i3,i4,_⟩:=ME (xX:=[]) (by simp) ho k (by omega);obtain⟨a',o',_,s2,s3,s4,s5,_⟩:=jX ho hn i1;refine⟨s5,?_⟩;by_cases t1:n.tag=1
 ·exact .inl t1
 by_cases t2:n.tag=2
 ·exact .inr (.inl t2)
 refine .inr (.inr ⟨t1,t2,?_⟩);have hp0:aI n.tag≠0:=fun h=>by
  unfold aI at h;rw[if_neg (by omega)]at h;split at h
  ·omega
  split at h<;>omega
 unfold gX at s2;split at s2
 ·cases s2
 have hmem:∀p∈o.drop (o.length-(aI n.tag).toNat),p<k:=fun p hp=>i4 p (asW hp);have hd:(o.drop (o.length-(aI n.tag).toNat)).length=(aI n.tag).toNat:=by rw[atj];omega
 split at s2
 ·rename_i h;rw[h]at hd;simp at hd;omega
 ·rename_i p h;split at s2
  ·rename_i hlr;rw[h]at hmem;exact⟨⟨p,hlr.1,hmem p (by simp)⟩,.inl hlr.2⟩
  cases s2
 ·rename_i p q h;split at s2
  ·rename_i hlr;rw[h]at hmem;exact⟨⟨p,hlr.1,hmem p (by simp)⟩,.inr ⟨q,hlr.2,hmem q (by simp)⟩⟩
  cases s2
 cases s2
abbrev AV(b:Bool)(e:List EN)(bk:Bool)(xX:List Int)(ep:Nat)(own:List Int)(k e27:aa):List aa:=
 Gr b e bk xX ([.any,.any,.any,.any,.sl 1 ep 0 own.length,.any,.any,.any,.any,.any]++dK bk xX++[.wh b (e.map EN.a),ac e.length,ac e.length,.bool false,.any,.wh b (e.map EN.a),ac e.length,k,e27,.any,.any,.any,.any])
abbrev wa(b:Bool)(e:List EN)(ep:Nat)(own:List Int):ah:=[.arr 1 0 [.agg [.wh b (e.map EN.a)]],.arr 1 ep (own.map (.int .i64))]
theorem afX(b:Bool)(e:List EN)(bk:Bool)(xX:List Int)(hn:e.length≤8000)(ho:si e=true)(hcol:(e.any fun n=>n.tag==2&&decide ((xX.length:Int)≤n.col))=false) :
  (∃own,aV (Eh xX) e 0 []=.inl own∧∃ep,aM code 2 [3,4,8,9,10,11,12,27,28,29,30,31] kZ ⟨AV b e bk xX 0 [] (ac 0) .any,wa b e 0 []⟩ =
   some (.ext 4,⟨AV b e bk xX ep own (ac e.length) (.bool false),wa b e ep own⟩)) ∨
  (aV (Eh xX) e 0 []=.inr ()∧∃s,aM code 2 [3,4,8,9,10,11,12,27,28,29,30,31] kZ ⟨AV b e bk xX 0 [] (ac 0) .any,wa b e 0 []⟩=some (.ret,s) ∧
   bF .pure [.env 3,.env 4] (some (.ret,s))=some (.tup [ac 0,ac 201])):=by
 have hm:e.length≤most:=by unfold most;omega
 have key:=eI (base:=2) (clr:=[3,4,8,9,10,11,12,27,28,29,30,31]) (b:=kZ) e
  (fun k (own:List Int) t=>own.length=k∧∃ep,t=⟨AV b e bk xX ep own (ac k) .any,wa b e ep own⟩)
  (Eh xX)
  (fun own o=>∃ep,o=(.ext 4,⟨AV b e bk xX ep own (ac e.length) (.bool false),wa b e ep own⟩))
  (fun (_:Unit) o=>∃s,o=(.ret,s)∧bF .pure [.env 3,.env 4] (some (.ret,s))=some (.tup [ac 0,ac 201]))
  (fun k n own t hk hy ht=>by
   obtain⟨hl,ep,rfl⟩:=ht;have yB:((k:Int)<(e.length:Int)):=by omega
   have hl1:own.length+1≤most:=by omega
   obtain⟨hcn,hpos⟩:=akv ho hy;have hcol':=arG.1 hcol n (aeb hy);have hkind:=abB n.tag;unfold Eh;by_cases t1:n.tag=1
   ·rw[if_pos t1];refine⟨⟨AV b e bk xX (ep+1) (own++[n.v.k]) (ac (k+1:Nat)) .any,wa b e (ep+1) (own++[n.v.k])⟩,?_,by simp[hl],ep+1,rfl⟩;simp[wa,kZ,yB,hy,EN.a,t1,append,hl1,aA hk hm,ar,ap]
   rw[if_neg t1];by_cases t2:n.tag=2
   ·rw[if_pos t2];have hc0:=ij hcn t2;have hcl:n.col<xX.length:=by
     simp[t2]at hcol';omega
    obtain⟨c,hc⟩:∃c:Nat,n.col=c:=⟨n.col.toNat,by omega⟩;have hck:xX[c]?=some (xX.getD c 0):=by
     rw[ad4,ad3 (by omega)];rfl
    obtain⟨hcl',hcg⟩:=aaN.1 hck;rw[hc]at hcl;rw[show n.col.toNat=c by omega];generalize xX.getD c 0=x at *;refine⟨⟨AV b e bk xX (ep+1) (own++[x]) (ac (k+1:Nat)) .any,wa b e (ep+1) (own++[x])⟩,?_,by simp[hl],ep+1,rfl⟩;simp[wa,kZ,yB,hy,EN.a,t2,hc,hck,hcg,hcl',append,hl1,aA hk hm,ar,ap]
   rw[if_neg t2];obtain⟨_,_,⟨p,hp,hpk⟩,hr⟩:=(hpos.resolve_left t1).resolve_left t2;have hpo:own[p]?=some (own.getD p 0):=by
    rw[ad4,ad3 (by omega)];rfl
   obtain⟨hpl,hpg⟩:=aaN.1 hpo;rw[hp,atL];generalize own.getD p 0=x at *;rcases hr with hr|⟨q,hq,hqk⟩
   ·rw[hr,if_neg (show ¬(0:Int)≤-1 by decide)];have hkd:=hkind x 0;generalize gh n.tag x 0=w at *;obtain⟨w1,w2⟩:=w;cases w2 with
    |true=>
     simp only[aml];refine⟨⟨AV b e bk xX (ep+1) (own++[w1]) (ac (k+1:Nat)) .any,wa b e (ep+1) (own++[w1])⟩,?_,by simp[hl],ep+1,rfl⟩;simp[wa,kZ,yB,hy,EN.a,al t1,al t2,hp,hpo,hpl,hpg,hr,hkd,append,hl1,aA hk hm,ar,ap]
    |false=>
     simp only[ai1,ali];exact⟨_,by simp[wa,kZ,yB,hy,EN.a,al t1,al t2,hp,hpo,hpl,hpg,hr,hkd];rfl,_,rfl,by simp⟩
   have hqo:own[q]?=some (own.getD q 0):=by
    rw[ad4,ad3 (by omega)];rfl
   obtain⟨hql,hqg⟩:=aaN.1 hqo;rw[hq,atL,if_pos (show (0:Int)≤(q:Nat) by omega)];generalize own.getD q 0=y at *;have hkd:=hkind x y;generalize gh n.tag x y=w at *;obtain⟨w1,w2⟩:=w;cases w2 with
   |true=>
    simp only[aml];refine⟨⟨AV b e bk xX (ep+1) (own++[w1]) (ac (k+1:Nat)) .any,wa b e (ep+1) (own++[w1])⟩,?_,by simp[hl],ep+1,rfl⟩;simp[wa,kZ,yB,hy,EN.a,al t1,al t2,hp,hpo,hpl,hpg,hq,hqo,hql,hqg,hkd,append,hl1,aA hk hm,ar,ap]
   |false=>
    simp only[ai1,ali];exact⟨_,by simp[wa,kZ,yB,hy,EN.a,al t1,al t2,hp,hpo,hpl,hpg,hq,hqo,hql,hqg,hkd];rfl,_,rfl,by simp⟩)
  (fun own t ht=>by
   obtain⟨_,ep,rfl⟩:=ht;exact⟨_,by simp[kZ],ep,rfl⟩) [] _ ⟨rfl,0,rfl⟩
 rcases hf:aV (Eh xX) e 0 [] with own|u
 ·rw[hf]at key;obtain⟨o,h1,ep,rfl⟩:=key;exact .inl ⟨own,rfl,ep,h1⟩
 rw[hf]at key;obtain⟨o,h1,s,rfl,h2⟩:=key;exact .inr ⟨rfl,s,h1,h2⟩
theorem OG(b:Bool)(e:List EN)(bk:Bool)(xX:List Int)(hn:e.length≤most)(hk:xX.length≤most) :
  az I.qbu [.agg [.wh b (e.map EN.a)],.wh bk (bd xX)]=some (.tup [ac (dm e xX).1,ac (dm e xX).2]):=by
 rw[am ank rfl];have hR:=fun b=>G9 b e hn;simp only[nV,vx]at hR;unfold dm;cases ho:si e with
 |false=>
  rw[ho]at hR;simp[ayz,JW,hR]
 |true=>
  rw[ho]at hR;have h8:1≤e.length∧e.length≤1000:=by
   rw[←Hz]at ho;unfold Cs at ho;simp only[acz,ad7]at ho;exact ho.1
  simp only[asf,ali];rcases afl b e bk xX hk with⟨a2,l2⟩|⟨a2,s,l2,v2⟩
  ·rw[a2];rcases afW b e bk xX hn hk with⟨a1,l1⟩|⟨a1,s,l1,v1⟩
   ·rw[Pr,a1];simp only[ai1,ali];have hks:∀x∈xX,Fk x:=fun x hx=>by
     have:=arG.1 a2 x hx;unfold zm at this;simp at this;exact⟨by omega,by omega⟩
    rcases afX b e bk xX (by omega) ho a1 with⟨own,f0,ep,l0⟩|⟨f0,s,l0,v0⟩
    ·rcases QE (xX:=xX) hks ho with⟨own',g1,g2,g3⟩|⟨g1,_⟩
     ·rw[f0]at g1;cases g1;rw[g3];have hw:IntKind.i64.wrap ((own.length:Int)-1)=(own.length:Int)-1:=bl (by omega);have hi:own[own.length-1]?=some (own.getD (e.length-1) 0):=by
       rw[←g2,ad4,ad3 (by omega)];rfl
      obtain⟨hil,hig⟩:=aaN.1 hi;have hc:(own.length:Int)-1=((own.length-1:Nat):Int):=by omega
      generalize own.getD (e.length-1) 0=z at *;rw[hc]at hw;simp[wa]at l2 l1 l0;simp[ayz,JW,hR,l2,l1,l0,hc,hw,hi,hil,hig]
     rw[f0]at g1;cases g1
    rcases QE (xX:=xX) hks ho with⟨own',g1,g2,g3⟩|⟨_,g2⟩
    ·rw[f0]at g1;cases g1
    rw[g2];simp[wa]at l2 l1 l0;simp[ayz,JW,hR,l2,l1,l0,-bP];exact v0
   rw[Pr,a1];simp at l2 l1;simp[ayz,JW,hR,l2,l1,-bP];exact v1
  rw[a2];simp at l2;simp[ayz,JW,hR,l2,-bP];exact v2
def gC(t:Int):Int:=if t=1 then 0 else if t=2∨t=7 then 2 else if t=3∨t=4∨t=5∨t=6∨t=8 then 1 else -1
theorem J6(t:Int):az I.qcg [ac t]=some (ac (gC t)):=by
 rw[am apj rfl];unfold gC;by_cases h1:t=1
 ·subst h1;simp[ax9,ye]
 by_cases h2:t=2
 ·subst h2;simp[ax9,ye]
 by_cases h7:t=7
 ·subst h7;simp[ax9,ye]
 by_cases h3:t=3
 ·subst h3;simp[ax9,ye]
 by_cases h4:t=4
 ·subst h4;simp[ax9,ye]
 by_cases h5:t=5
 ·subst h5;simp[ax9,ye]
 by_cases h6:t=6
 ·subst h6;simp[ax9,ye]
 by_cases h8:t=8
 ·subst h8;simp[ax9,ye]
 simp[ax9,ye,h1,h2,h3,h4,h5,h6,h7,h8,al h1,al h2,al h3,al h4,al h5,al h6,al h7,al h8]
def qO(t:Int):Int:=if t=9 then 0 else if t=10∨t=11 then 1 else gC t
theorem YE(t:Int):az I.qcm [ac t]=some (ac (qO t)):=by
 rw[am apl rfl];unfold qO;by_cases h1:t=9
 ·subst h1;simp[ayN,QN]
 by_cases h2:t=10
 ·subst h2;simp[ayN,QN]
 by_cases h3:t=11
 ·subst h3;simp[ayN,QN]
 have h:=J6 t;simp[ayN,QN,h1,h2,h3,al h1,al h2,al h3,h]
def lI(a:List Int)(g:aT):Int×Bool:=
 if g.tag=1 then (2,g.arg.length==0) else if g.tag<1∨5<g.tag∨(dm g.arg a).2≠0 then (0,false)
 else if g.tag=3∧(dm g.arg a).1≠2∧(dm g.arg a).1≠0 then (0,false) else if 4≤g.tag then ((dm g.arg a).1,true) else (2,true)
theorem Je(g:aT)(bk:Bool)(xX:List Int)(hn:g.arg.length≤most)(hk:xX.length≤most) :
  az I.qci [.agg [ac g.tag,.wh g.b (g.arg.map EN.a)],.wh bk (bd xX)]=some (.tup [ac (lI xX g).1,.bool (lI xX g).2]):=by
 rw[am anJ rfl];have h:=fun b bk=>OG b g.arg bk xX hn hk;obtain⟨t,b,e⟩:=g;simp only at h hn ⊢;unfold lI;simp only;generalize dm e xX=q at *;obtain⟨k,no⟩:=q;simp only at h ⊢;by_cases t1:t=1
 ·subst t1;by_cases he:e=[]
  ·subst he;simp[ax5,vP]
  have he':¬((e.length:Int)=0):=fun h=>he (ahc (by omega));have he2:¬(e.length=0):=by omega
  simp[ax5,vP,al he',he,he2]
 rw[if_neg t1];by_cases t2:t<1
 ·simp[ax5,vP,h,al t1,t2]
 by_cases t3:5<t
 ·simp[ax5,vP,h,al t1,t2,t3]
 by_cases h0:no=0
 ·subst h0;by_cases t4:t=3
  ·subst t4;by_cases k2:k=2
   ·subst k2;simp[ax5,vP,h]
   by_cases k0:k=0
   ·subst k0;simp[ax5,vP,h]
   simp[ax5,vP,h,k2,k0,aR k2,aR k0]
  by_cases t5:4≤t
  ·simp[ax5,vP,h,al t1,al t4,t2,t3,t4,t5]
  simp[ax5,vP,h,al t1,al t4,t2,t3,t4,t5]
 simp[ax5,vP,h,al t1,t2,t3,h0,aR h0]
theorem Ou(a:List Int)(g:aT):(lI a g).2=(jM a g).1∧((jM a g).1=true→(lI a g).1=(jM a g).2):=by
 unfold lI jM;generalize dm g.arg a=q;obtain⟨k,no⟩:=q;simp only;by_cases t1:g.tag=1
 ·simp[t1]
 rw[if_neg t1,if_neg t1];by_cases c:g.tag<1∨5<g.tag∨no≠0
 ·rw[if_pos c];have:(no==0&&decide (1<g.tag)&&decide (g.tag≤5))=false:=by
   rw[atN];intro h;simp only[acz,afE,ad7]at h;omega
  simp[this]
 rw[if_neg c];have c1:1<g.tag∧g.tag≤5∧no=0:=by omega
 obtain⟨c1,c2,rfl⟩:=c1;by_cases t3:g.tag=3
 ·by_cases k2:k=2
  ·simp[t3,k2]
  by_cases k0:k=0
  ·simp[t3,k0]
  simp[t3,k0,k2]
 by_cases t4:4≤g.tag
 ·have:g.tag=4∨g.tag=5:=by omega
  simp[t3,t4,c1,c2,this]
 have:¬(g.tag=4∨g.tag=5):=by omega
 simp[t3,t4,c1,c2,this]
theorem Py(b:Bool)(l:List Int)(hl:l.length≤most):az I.qct [.wh b (bd l)]=some (.bool (lG l)):=by
 rw[am aqb rfl];have h1:=fM (base:=0) (clr:=[1,2,6,7]) (b:=AK) l
  (fun k=>⟨[.wh b (bd l),.any,.any,.wh b (bd l),ac l.length,ac k,.any,.any],[]⟩) (fun y=>4==y)
  (.ext 0,⟨[.wh b (bd l),.any,.any,.wh b (bd l),ac l.length,ac l.length,.bool false,.any],[]⟩)
  (fun o=>∃s,o=(.ret,s)∧bF .pure [.env 1] (some (.ret,s))=some (.bool true))
  (fun k y hk' hy hp=>by
   have yB:((k:Int)<(l.length:Int)):=by omega
   have e1:¬(y=4):=fun h=>by simp[h]at hp
   simp[AK,yB,hy,al e1,aA hk' hl,aH])
  (fun k y hk' hy hp=>by
   have yB:((k:Int)<(l.length:Int)):=by omega
   have e1:4=y:=by simpa using hp
   subst e1;exact⟨_,by simp[AK,yB,hy];rfl,_,rfl,by simp⟩)
  (by simp[AK])
 unfold lG;rcases h1 with⟨ha,h1⟩|⟨ha,o,h1,s,rfl,h2⟩
 ·rw[ha];simp at h1;simp[azF,ZN,h1]
 rw[ha];simp at h1;simp[azF,ZN,h1,-bP];exact h2
def sB(n:aO):Bool:=
 (n.op==1 ||(n.tab==0&&n.xX.isEmpty))&&(n.op==2 ||(!n.left&&(n.op==3 ||n.cond.isEmpty))) &&
 ((n.op==4 ||(n.keys.isEmpty&&n.yo.isEmpty))&&(n.op==5 ||n.items.isEmpty))&&(n.op==8 ||(n.ords.isEmpty&&n.limit==0))
theorem cw{α:Type}{l:List α}(h:¬l=[]):(0:Int)<l.length:=by
 have:l.length≠0:=fun e=>h (ahc e);omega
theorem bY{α:Type}{l:List α}(h:¬l=[]):0<l.length:=by
 have:=cw h;omega
theorem cP{α:Type}{l:List α}(h:¬l=[]):¬((l.length:Int)=0):=by
 have:=cw h;omega
theorem bN{α:Type}{l:List α}(h:¬l=[]):l.isEmpty=false:=by cases l with|nil=>exact absurd rfl h|cons=>rfl
theorem EC(n:aO):az I.qcf [n.a]=some (.bool (sB n)):=by
 rw[am amF rfl];obtain⟨op,a,b,tab,bk,xX,left,bc,cond,by',keys,bg,yo,bi,items,bo,ords,limit⟩:=n;unfold sB;simp only;by_cases h1:op=1
 ·subst h1;cases left with
  |true=>simp[axS,cB,aO.a]
  |false=>
  by_cases hz_cond:cond=[]
  rotate_left
  ·simp[axS,cB,aO.a,hz_cond,cw hz_cond,bY hz_cond,cP hz_cond,bN hz_cond]
  subst hz_cond;by_cases hz_keys:keys=[]
  rotate_left
  ·simp[axS,cB,aO.a,hz_keys,cw hz_keys,bY hz_keys,cP hz_keys,bN hz_keys]
  subst hz_keys;by_cases hz_aggs:yo=[]
  rotate_left
  ·simp[axS,cB,aO.a,hz_aggs,cw hz_aggs,bY hz_aggs,cP hz_aggs,bN hz_aggs]
  subst hz_aggs;by_cases hz_items:items=[]
  rotate_left
  ·simp[axS,cB,aO.a,hz_items,cw hz_items,bY hz_items,cP hz_items,bN hz_items]
  subst hz_items;by_cases hz_ords:ords=[]
  rotate_left
  ·simp[axS,cB,aO.a,hz_ords,cw hz_ords,bY hz_ords,cP hz_ords,bN hz_ords,al (cP hz_ords)]
  subst hz_ords;by_cases hz_limit:limit=0
  rotate_left
  ·simp[axS,cB,aO.a,hz_limit,aR hz_limit,al hz_limit]
  subst hz_limit;simp[axS,cB,aO.a]
 by_cases h2:op=2
 ·subst h2;by_cases hz_tab:tab=0
  rotate_left
  ·simp[axS,cB,aO.a,hz_tab,aR hz_tab,al hz_tab]
  subst hz_tab;by_cases hz_kinds:xX=[]
  rotate_left
  ·simp[axS,cB,aO.a,hz_kinds,cw hz_kinds,bY hz_kinds,cP hz_kinds,bN hz_kinds]
  subst hz_kinds;by_cases hz_keys:keys=[]
  rotate_left
  ·simp[axS,cB,aO.a,hz_keys,cw hz_keys,bY hz_keys,cP hz_keys,bN hz_keys]
  subst hz_keys;by_cases hz_aggs:yo=[]
  rotate_left
  ·simp[axS,cB,aO.a,hz_aggs,cw hz_aggs,bY hz_aggs,cP hz_aggs,bN hz_aggs]
  subst hz_aggs;by_cases hz_items:items=[]
  rotate_left
  ·simp[axS,cB,aO.a,hz_items,cw hz_items,bY hz_items,cP hz_items,bN hz_items]
  subst hz_items;by_cases hz_ords:ords=[]
  rotate_left
  ·simp[axS,cB,aO.a,hz_ords,cw hz_ords,bY hz_ords,cP hz_ords,bN hz_ords,al (cP hz_ords)]
  subst hz_ords;by_cases hz_limit:limit=0
  rotate_left
  ·simp[axS,cB,aO.a,hz_limit,aR hz_limit,al hz_limit]
  subst hz_limit;simp[axS,cB,aO.a]
 by_cases h3:op=3
 ·subst h3;by_cases hz_tab:tab=0
  rotate_left
  ·simp[axS,cB,aO.a,hz_tab,aR hz_tab,al hz_tab]
  subst hz_tab;by_cases hz_kinds:xX=[]
  rotate_left
  ·simp[axS,cB,aO.a,hz_kinds,cw hz_kinds,bY hz_kinds,cP hz_kinds,bN hz_kinds]
  subst hz_kinds;cases left with
  |true=>simp[axS,cB,aO.a]
  |false=>
  by_cases hz_keys:keys=[]
  rotate_left
  ·simp[axS,cB,aO.a,hz_keys,cw hz_keys,bY hz_keys,cP hz_keys,bN hz_keys]
  subst hz_keys;by_cases hz_aggs:yo=[]
  rotate_left
  ·simp[axS,cB,aO.a,hz_aggs,cw hz_aggs,bY hz_aggs,cP hz_aggs,bN hz_aggs]
  subst hz_aggs;by_cases hz_items:items=[]
  rotate_left
  ·simp[axS,cB,aO.a,hz_items,cw hz_items,bY hz_items,cP hz_items,bN hz_items]
  subst hz_items;by_cases hz_ords:ords=[]
  rotate_left
  ·simp[axS,cB,aO.a,hz_ords,cw hz_ords,bY hz_ords,cP hz_ords,bN hz_ords,al (cP hz_ords)]
  subst hz_ords;by_cases hz_limit:limit=0
  rotate_left
  ·simp[axS,cB,aO.a,hz_limit,aR hz_limit,al hz_limit]
  subst hz_limit;simp[axS,cB,aO.a]
 by_cases h4:op=4
 ·subst h4;by_cases hz_tab:tab=0
  rotate_left
  ·simp[axS,cB,aO.a,hz_tab,aR hz_tab,al hz_tab]
  subst hz_tab;by_cases hz_kinds:xX=[]
  rotate_left
  ·simp[axS,cB,aO.a,hz_kinds,cw hz_kinds,bY hz_kinds,cP hz_kinds,bN hz_kinds]
  subst hz_kinds;cases left with
  |true=>simp[axS,cB,aO.a]
  |false=>
  by_cases hz_cond:cond=[]
  rotate_left
  ·simp[axS,cB,aO.a,hz_cond,cw hz_cond,bY hz_cond,cP hz_cond,bN hz_cond]
  subst hz_cond;by_cases hz_items:items=[]
  rotate_left
  ·simp[axS,cB,aO.a,hz_items,cw hz_items,bY hz_items,cP hz_items,bN hz_items]
  subst hz_items;by_cases hz_ords:ords=[]
  rotate_left
  ·simp[axS,cB,aO.a,hz_ords,cw hz_ords,bY hz_ords,cP hz_ords,bN hz_ords,al (cP hz_ords)]
  subst hz_ords;by_cases hz_limit:limit=0
  rotate_left
  ·simp[axS,cB,aO.a,hz_limit,aR hz_limit,al hz_limit]
  subst hz_limit;simp[axS,cB,aO.a]
 by_cases h5:op=5
 ·subst h5;by_cases hz_tab:tab=0
  rotate_left
  ·simp[axS,cB,aO.a,hz_tab,aR hz_tab,al hz_tab]
  subst hz_tab;by_cases hz_kinds:xX=[]
  rotate_left
  ·simp[axS,cB,aO.a,hz_kinds,cw hz_kinds,bY hz_kinds,cP hz_kinds,bN hz_kinds]
  subst hz_kinds;cases left with
  |true=>simp[axS,cB,aO.a]
  |false=>
  by_cases hz_cond:cond=[]
  rotate_left
  ·simp[axS,cB,aO.a,hz_cond,cw hz_cond,bY hz_cond,cP hz_cond,bN hz_cond]
  subst hz_cond;by_cases hz_keys:keys=[]
  rotate_left
  ·simp[axS,cB,aO.a,hz_keys,cw hz_keys,bY hz_keys,cP hz_keys,bN hz_keys]
  subst hz_keys;by_cases hz_aggs:yo=[]
  rotate_left
  ·simp[axS,cB,aO.a,hz_aggs,cw hz_aggs,bY hz_aggs,cP hz_aggs,bN hz_aggs]
  subst hz_aggs;by_cases hz_ords:ords=[]
  rotate_left
  ·simp[axS,cB,aO.a,hz_ords,cw hz_ords,bY hz_ords,cP hz_ords,bN hz_ords,al (cP hz_ords)]
  subst hz_ords;by_cases hz_limit:limit=0
  rotate_left
  ·simp[axS,cB,aO.a,hz_limit,aR hz_limit,al hz_limit]
  subst hz_limit;simp[axS,cB,aO.a]
 by_cases h8:op=8
 ·subst h8;by_cases hz_tab:tab=0
  rotate_left
  ·simp[axS,cB,aO.a,hz_tab,aR hz_tab,al hz_tab]
  subst hz_tab;by_cases hz_kinds:xX=[]
  rotate_left
  ·simp[axS,cB,aO.a,hz_kinds,cw hz_kinds,bY hz_kinds,cP hz_kinds,bN hz_kinds]
  subst hz_kinds;cases left with
  |true=>simp[axS,cB,aO.a]
  |false=>
  by_cases hz_cond:cond=[]
  rotate_left
  ·simp[axS,cB,aO.a,hz_cond,cw hz_cond,bY hz_cond,cP hz_cond,bN hz_cond]
  subst hz_cond;by_cases hz_keys:keys=[]
  rotate_left
  ·simp[axS,cB,aO.a,hz_keys,cw hz_keys,bY hz_keys,cP hz_keys,bN hz_keys]
  subst hz_keys;by_cases hz_aggs:yo=[]
  rotate_left
  ·simp[axS,cB,aO.a,hz_aggs,cw hz_aggs,bY hz_aggs,cP hz_aggs,bN hz_aggs]
  subst hz_aggs;by_cases hz_items:items=[]
  rotate_left
  ·simp[axS,cB,aO.a,hz_items,cw hz_items,bY hz_items,cP hz_items,bN hz_items]
  subst hz_items;simp[axS,cB,aO.a]
 by_cases hz_tab:tab=0
 rotate_left
 ·simp[axS,cB,aO.a,h1,aR h1,al h1,h2,aR h2,al h2,h3,aR h3,al h3,h4,aR h4,al h4,h5,aR h5,al h5,h8,aR h8,al h8,hz_tab,aR hz_tab,al hz_tab]
 subst hz_tab;by_cases hz_kinds:xX=[]
 rotate_left
 ·simp[axS,cB,aO.a,h1,aR h1,al h1,h2,aR h2,al h2,h3,aR h3,al h3,h4,aR h4,al h4,h5,aR h5,al h5,h8,aR h8,al h8,hz_kinds,cw hz_kinds,bY hz_kinds,cP hz_kinds,bN hz_kinds]
 subst hz_kinds;cases left with
 |true=>simp[axS,cB,aO.a,h1,aR h1,al h1,h2,aR h2,al h2,h3,aR h3,al h3,h4,aR h4,al h4,h5,aR h5,al h5,h8,aR h8,al h8]
 |false=>
 by_cases hz_cond:cond=[]
 rotate_left
 ·simp[axS,cB,aO.a,h1,aR h1,al h1,h2,aR h2,al h2,h3,aR h3,al h3,h4,aR h4,al h4,h5,aR h5,al h5,h8,aR h8,al h8,hz_cond,cw hz_cond,bY hz_cond,cP hz_cond,bN hz_cond]
 subst hz_cond;by_cases hz_keys:keys=[]
 rotate_left
 ·simp[axS,cB,aO.a,h1,aR h1,al h1,h2,aR h2,al h2,h3,aR h3,al h3,h4,aR h4,al h4,h5,aR h5,al h5,h8,aR h8,al h8,hz_keys,cw hz_keys,bY hz_keys,cP hz_keys,bN hz_keys]
 subst hz_keys;by_cases hz_aggs:yo=[]
 rotate_left
 ·simp[axS,cB,aO.a,h1,aR h1,al h1,h2,aR h2,al h2,h3,aR h3,al h3,h4,aR h4,al h4,h5,aR h5,al h5,h8,aR h8,al h8,hz_aggs,cw hz_aggs,bY hz_aggs,cP hz_aggs,bN hz_aggs]
 subst hz_aggs;by_cases hz_items:items=[]
 rotate_left
 ·simp[axS,cB,aO.a,h1,aR h1,al h1,h2,aR h2,al h2,h3,aR h3,al h3,h4,aR h4,al h4,h5,aR h5,al h5,h8,aR h8,al h8,hz_items,cw hz_items,bY hz_items,cP hz_items,bN hz_items]
 subst hz_items;by_cases hz_ords:ords=[]
 rotate_left
 ·simp[axS,cB,aO.a,h1,aR h1,al h1,h2,aR h2,al h2,h3,aR h3,al h3,h4,aR h4,al h4,h5,aR h5,al h5,h8,aR h8,al h8,hz_ords,cw hz_ords,bY hz_ords,cP hz_ords,bN hz_ords,al (cP hz_ords)]
 subst hz_ords;by_cases hz_limit:limit=0
 rotate_left
 ·simp[axS,cB,aO.a,h1,aR h1,al h1,h2,aR h2,al h2,h3,aR h3,al h3,h4,aR h4,al h4,h5,aR h5,al h5,h8,aR h8,al h8,hz_limit,aR hz_limit,al hz_limit]
 subst hz_limit;simp[axS,cB,aO.a,h1,aR h1,al h1,h2,aR h2,al h2,h3,aR h3,al h3,h4,aR h4,al h4,h5,aR h5,al h5,h8,aR h8,al h8]
def D5(n:aO):Bool:=sB (if n.op=9 then { n with op:=1 } else if n.op=10∨n.op=11 then { n with op:=4 } else n)
theorem We(n:aO):az I.qcq [n.a]=some (.bool (D5 n)):=by
 rw[am ap2 rfl];have h0:=EC n;have h1:=EC { n with op:=1 };have h4:=EC { n with op:=4 };unfold D5;simp only[aO.a]at h0 h1 h4;by_cases c1:n.op=9
 ·rw[if_pos c1];simp[ayL,Pi,aO.a,c1,h1]
 rw[if_neg c1];by_cases c2:n.op=10
 ·rw[if_pos (.inl c2)];simp[ayL,Pi,aO.a,c2,h4]
 by_cases c3:n.op=11
 ·rw[if_pos (.inr c3)];simp[ayL,Pi,aO.a,c3,h4]
 rw[if_neg (fun h=>h.elim c2 c3)];simp[ayL,Pi,aO.a,al c1,al c2,al c3,h0]
def cg(l:List aO):Nat→Nat
 |0=>0
 |m+1=>
  match l[m]? with
  |none=>0
  |some n=>
   if qO n.op=0 then (if n.l=-1∧n.r=-1 then 1 else 0)
   else if qO n.op=1 then (if n.l=(m:Int)-1∧n.r=-1∧cg l m≠0 then cg l m+1 else 0)
   else if qO n.op=2 then
    if cg l m=0∨n.r≠(m:Int)-1∨n.l≠(m:Int)-1-cg l m then 0
    else if cg l (m-cg l m)=0 then 0 else cg l (m-cg l m)+cg l m+1
   else 0
termination_by m=>m
decreasing_by all_goals omega
theorem GP(l:List aO):∀m,cg l m≤m:=by
 intro m;induction m using Nat.strongRecOn with
 |_ m ih=>
  cases m with
  |zero=>simp[cg]
  |succ m=>
   have h1:=ih m (by omega);have h2:=ih (m-cg l m) (by omega);rw[cg];split
   ·omega
   repeat' split
   all_goals omega
theorem Hk(xQ:List aO)(hn:xQ.length≤most):∀m:Nat,∀b,m≤xQ.length→az I.qcs [.wh b (xQ.map aO.a),ac ((m:Int)-1)]=some (ac (cg xQ m)):=by
 intro m;induction m using Nat.strongRecOn with
 |_ m ih=>
  intro b hm;rw[am aqZ rfl];cases m with
  |zero=>simp[axX,mS,cg]
  |succ m=>
   have hmm:((m+1:Nat):Int)-1=(m:Int):=by omega
   rw[hmm];have yB:m<xQ.length:=by omega
   obtain⟨n,hnn⟩:∃n,xQ[m]=n:=⟨_,rfl⟩;have hn':xQ[m]?=some n:=by rw[←hnn];exact ad3 yB
   have hge:¬((xQ.length:Int)≤m):=by omega
   have hneg:¬((m:Int)<0):=by omega
   have hp:=YE n.op;have hw:IntKind.i64.wrap ((m:Int)-1)=(m:Int)-1:=bl (by unfold most at *;omega);have hnc:aw n.a=12:=rfl;rw[cg,hn'];simp only;have hle:=GP xQ m;have i1:=fun b=>ih m (by omega) b (by omega);have i2:=fun b=>ih (m-cg xQ m) (by omega) b (by omega);obtain⟨op,l,r,tab,bk,xX,left,bc,cond,by',keys,bg,yo,bi,items,bo,ords,limit⟩:=n;simp only at hp ⊢;generalize qO op=p at *;by_cases e0:p=0
   ·subst e0;by_cases hl:l=-1
    ·subst hl;by_cases hr:r=-1
     ·subst hr;simp[axX,mS,hge,hneg,hn',aO.a,hp]
     simp[axX,mS,hge,hneg,hn',aO.a,hp,hr,al hr]
    simp[axX,mS,hge,hneg,hn',aO.a,hp,hl,al hl]
   by_cases e1:p=1
   ·subst e1;by_cases z1:cg xQ m=0
    ·by_cases hl:l=(m:Int)-1
     ·subst hl;by_cases hr:r=-1
      ·subst hr;simp[axX,mS,hge,hneg,hn',aO.a,hp,hw,i1,z1]
      simp[axX,mS,hge,hneg,hn',aO.a,hp,hw,i1,z1,hr,al hr]
     simp[axX,mS,hge,hneg,hn',aO.a,hp,hw,i1,z1,hl,al hl]
    have z1':0<cg xQ m:=by omega
    have hw1:IntKind.i64.wrap ((cg xQ m:Int)+1)=(cg xQ m:Int)+1:=bl (by unfold most at *;omega);by_cases hl:l=(m:Int)-1
    ·subst hl;by_cases hr:r=-1
     ·subst hr;simp[axX,mS,hge,hneg,hn',aO.a,hp,hw,hw1,i1,z1,z1']
     simp[axX,mS,hge,hneg,hn',aO.a,hp,hw,hw1,i1,z1,z1',hr,al hr]
    simp[axX,mS,hge,hneg,hn',aO.a,hp,hw,hw1,i1,z1,z1',hl,al hl]
   by_cases e2:p=2
   ·subst e2;by_cases z1:cg xQ m=0
    ·simp[axX,mS,hge,hneg,hn',aO.a,hp,hw,i1,z1]
    have z1':¬((cg xQ m:Int)=0):=by omega
    generalize hs:cg xQ m=q at *;have hle2:=GP xQ (m-q);have hc2:((m-q:Nat):Int)=(m:Int)-q:=by omega
    rw[hc2]at i2;have hw2:IntKind.i64.wrap ((m:Int)-1-q)=(m:Int)-1-q:=bl (by unfold most at *;omega);have hsw:(m:Int)-q-1=(m:Int)-1-q:=by omega
    rw[hsw]at i2;generalize cg xQ (m-q)=f at *;have hw3:IntKind.i64.wrap ((f:Int)+q)=(f:Int)+q:=bl (by unfold most at *;omega);have hw4:IntKind.i64.wrap ((f:Int)+q+1)=(f:Int)+q+1:=bl (by unfold most at *;omega);by_cases hr:r=(m:Int)-1
    ·subst hr;by_cases hl:l=(m:Int)-1-q
     ·subst hl;by_cases z2:f=0
      ·subst z2;simp[axX,mS,hge,hneg,hn',aO.a,hp,hw,i1,z1,z1',al z1',hw2,i2]
      have z2':0<f:=by omega
      simp[axX,mS,hge,hneg,hn',aO.a,hp,hw,i1,z1,z1',al z1',hw2,i2,z2,z2',hw3,hw4]
     simp[axX,mS,hge,hneg,hn',aO.a,hp,hw,i1,z1,z1',al z1',hw2,hl,aR hl]
    simp[axX,mS,hge,hneg,hn',aO.a,hp,hw,i1,z1,z1',al z1',hw2,hr,aR hr]
   simp[axX,mS,hge,hneg,hn',aO.a,hp,e0,e1,e2,al e0,al e1,al e2]
theorem RM(t:Int):qO t=bD t:=by
 unfold qO gC bD
 repeat' split
 all_goals omega
def DW(l:List aO):Nat→List Nat→Prop
 |k,[]=>k=0
 |k,p::r=>k=p+1∧0<cg l k∧DW l (k-cg l k) r
theorem Km{l:List aO}{m:Nat}{n:aO}(hn:l[m]?=some n):cg l (m+1) =
   if bD n.op=0 then (if n.l=-1∧n.r=-1 then 1 else 0)
   else if bD n.op=1 then (if n.l=(m:Int)-1∧n.r=-1∧cg l m≠0 then cg l m+1 else 0)
   else if bD n.op=2 then
    if cg l m=0∨n.r≠(m:Int)-1∨n.l≠(m:Int)-1-cg l m then 0
    else if cg l (m-cg l m)=0 then 0 else cg l (m-cg l m)+cg l m+1
   else 0:=by
 rw[cg,hn];simp only[RM]
theorem F5{o0:List Nat}{p:Nat}:(o0++[p]).drop ((o0++[p]).length-(1:Int).toNat)=[p]∧(o0++[p]).take ((o0++[p]).length-1)=o0:=by
 have h1:(o0++[p]).length-(1:Int).toNat=o0.length:=by simp
 have h2:(o0++[p]).length-1=o0.length:=by simp
 rw[h1,h2,atD,atF];exact⟨rfl,rfl⟩
theorem HV{o0:List Nat}{p q:Nat}:(o0++[p,q]).drop ((o0++[p,q]).length-(2:Int).toNat)=[p,q]∧(o0++[p,q]).take ((o0++[p,q]).length-2)=o0:=by
 have h1:(o0++[p,q]).length-(2:Int).toNat=o0.length:=by simp
 have h2:(o0++[p,q]).length-2=o0.length:=by simp
 rw[h1,h2,atD,atF];exact⟨rfl,rfl⟩
theorem Qx{l:List aO}{k:Nat}{n:aO}(hn:l[k]?=some n){o ps:List Nat}(ht:DW l k o.reverse)(h:je n o=some ps) :
  DW l (k+1) (o.take (o.length-ps.length)++[k]).reverse∧iM n=true:=by
 have h1:=Km hn;unfold je at h;split at h
 ·cases h
 rename_i hc;have hb:iM n=true:=by
  cases hq:iM n
  ·exact absurd (.inr (.inr hq)) hc
  rfl
 have hc2:bD n.op≤o.length:=by
  have:¬((o.length:Int)<bD n.op):=fun h=>hc (.inr (.inl h));omega
 have hp0:0≤bD n.op:=by
  have:¬(bD n.op<0):=fun h=>hc (.inl h);omega
 have hpl:=xv n.op;clear hc;refine⟨?_,hb⟩;rcases (by omega:bD n.op=0∨bD n.op=1∨bD n.op=2) with hp|hp|hp
 ·rw[hp]at h;simp only[aus,auy,atZ]at h;split at h
  ·rename_i hlr;cases h;rw[if_pos hp,if_pos hlr]at h1;simp only[ak3,auy,atd,atg];refine⟨rfl,by rw[h1];decide,?_⟩;rw[h1];simpa using ht
  cases h
 ·rw[hp]at h hc2;obtain⟨o0,p,rfl⟩:∃o0 p,o=o0++[p]:=by
   rcases ar0 o with h|⟨o0,p,h⟩
   ·subst h;simp at hc2
   exact⟨o0,p,by simpa using h⟩
  rw[F5.1]at h;simp only at h;rw[atg]at ht;obtain⟨t1,t2,t3⟩:=ht;split at h
  ·rename_i hlr;cases h;rw[if_neg (show ¬bD n.op=0 by omega),if_pos hp,if_pos ⟨by omega,hlr.2,by omega⟩]at h1;simp only[aiG,ak3,apx];rw[F5.2,atg];refine⟨rfl,by rw[h1];omega,?_⟩;rw[h1,show k+1-(cg l k+1)=k-cg l k by omega];exact t3
  cases h
 rw[hp]at h hc2;obtain⟨o0,p,q,rfl⟩:∃o0 p q,o=o0++[p,q]:=by
  rcases ar0 o with h|⟨o1,q,h⟩
  ·subst h;simp at hc2
  rcases ar0 o1 with h'|⟨o0,p,h'⟩
  ·subst h' h;simp at hc2
  exact⟨o0,p,q,by rw[h,h'];simp⟩
 rw[HV.1]at h;simp only at h;rw[atg]at ht;obtain⟨t1,t2,t3,t4,t5⟩:=ht;split at h
 ·rename_i hlr;cases h
  rw[if_neg (show ¬bD n.op=0 by omega),if_neg (show ¬bD n.op=1 by omega),if_pos hp,if_neg (by
   rintro (h|h|h)
   ·omega
   ·exact h (by omega)
   exact h (by omega)),if_neg (show ¬cg l (k-cg l k)=0 by omega)]at h1
  simp only[aiG,ak3,apx];rw[HV.2,atg];refine⟨rfl,by rw[h1];omega,?_⟩;rw[h1,show k+1-(cg l (k-cg l k)+cg l k+1)=k-cg l k-cg l (k-cg l k) by omega];exact t5
 cases h
theorem Z0{l:List aO}{k:Nat}{n:aO}(hn:l[k]?=some n){o:List Nat}(ht:DW l k o.reverse)(hb:iM n=true)(hs:cg l (k+1)≠0):∃ps,je n o=some ps:=by
 have h1:=Km hn;have hpl:=xv n.op;unfold je;rcases (by omega:bD n.op=0∨bD n.op=1∨bD n.op=2∨bD n.op=-1) with hp|hp|hp|hp
 ·rw[if_pos hp]at h1;split at h1
  ·rename_i hlr;rw[if_neg (by
    rintro (h|h|h)
    ·omega
    ·omega
    rw[hb]at h;cases h),hp]
   simp only[aus,auy,atZ,if_pos hlr];exact⟨_,rfl⟩
  exact absurd h1 hs
 ·rw[if_neg (show ¬bD n.op=0 by omega),if_pos hp]at h1;split at h1
  ·rename_i hlr;rcases ar0 o with h|⟨o0,p,h⟩
   ·subst h;have:k=0:=ht;subst this;exact absurd (by simp[cg]) hlr.2.2
   rw[ava]at h;subst h;rw[atg]at ht;obtain⟨t1,t2,t3⟩:=ht;rw[if_neg (by
    rintro (h|h|h)
    ·omega
    ·rw[hp]at h;simp at h;omega
    rw[hb]at h;cases h),hp,F5.1]
   simp only;rw[if_pos ⟨by omega,hlr.2.1⟩];exact⟨_,rfl⟩
  exact absurd h1 hs
 ·rw[if_neg (show ¬bD n.op=0 by omega),if_neg (show ¬bD n.op=1 by omega),if_pos hp]at h1;split at h1
  ·exact absurd h1 hs
  rename_i z;split at h1
  ·exact absurd h1 hs
  rename_i z2;have y1:cg l k≠0:=fun h=>z (.inl h);have y2:n.r=(k:Int)-1:=att fun h=>z (.inr (.inl h));have y3:n.l=(k:Int)-1-cg l k:=att fun h=>z (.inr (.inr h));rcases ar0 o with h|⟨o1,q,h⟩
  ·subst h;have:k=0:=ht;subst this;exact absurd (by simp[cg]) y1
  rw[ava]at h;subst h;rw[atg]at ht;obtain⟨t1,t2,t3⟩:=ht;rcases ar0 o1 with h|⟨o0,p,h⟩
  ·subst h;have:k-cg l k=0:=t3;rw[this]at z2;exact absurd (by simp[cg]) z2
  rw[ava]at h;subst h;rw[atg]at t3;obtain⟨t4,t5,t6⟩:=t3;rw[at6,an7,ah5];rw[if_neg (by
   rintro (h|h|h)
   ·omega
   ·rw[hp]at h;simp at h;omega
   rw[hb]at h;cases h),hp,HV.1]
  simp only;rw[if_pos ⟨by omega,by omega⟩];exact⟨_,rfl⟩
 rw[if_neg (by omega),if_neg (by omega),if_neg (by omega)]at h1;exact absurd h1 hs
theorem lN{α:Type}(l:List α):(l.length==0)=l.isEmpty:=by cases l<;>rfl
theorem asG{α β:Type}(l:List α)(m:List β):(((l.length:Int)+m.length)==0)=(l.isEmpty&&m.isEmpty):=by
 cases l with
 |nil=>cases m with
  |nil=>rfl
  |cons y m=>simp;omega
 |cons x l=>simp;omega
theorem Yz(n:aO):D5 n=iM n:=by
 unfold D5 iM;rw[lN,lN,lN,lN,asG];by_cases h9:n.op=9
 ·rw[if_pos h9];unfold sB;simp[h9,atn]
 rw[if_neg h9];by_cases h10:n.op=10
 ·rw[if_pos (.inl h10)];unfold sB;simp[h10,atn]
 by_cases h11:n.op=11
 ·rw[if_pos (.inr h11)];unfold sB;simp[h11,atn]
 rw[if_neg (fun h=>h.elim h10 h11)];unfold sB;by_cases h1:n.op=1
 ·simp[h1,atn]
 by_cases h2:n.op=2
 ·simp[h2,atn]
 by_cases h3:n.op=3
 ·simp[h3,atn]
 by_cases h4:n.op=4
 ·simp[h4,atn]
 by_cases h5:n.op=5
 ·simp[h5,atn]
 by_cases h8:n.op=8
 ·simp[h8,atn]
 simp[al h1,al h2,al h3,al h4,al h5,al h8,al h9,al h10,al h11,atn]
theorem akA{l:List aO}{k:Nat}{n:aO}(hn:l[k]?=some n){o:List Nat}(ht:DW l k o.reverse):(je n o).isSome=(decide (0<cg l (k+1))&&D5 n):=by
 rw[Yz,arh];constructor
 ·intro h;obtain⟨ps,hp⟩:=atJ.1 h;obtain⟨t,hb⟩:=Qx hn ht hp;rw[atg]at t;obtain⟨_,t2,_⟩:=t;rw[hb];simpa using t2
 intro h;simp only[acz,ad7]at h;obtain⟨ps,hp⟩:=Z0 hn ht h.2 (by omega);rw[hp];rfl
def Nu(nk:Nat)(i:Nat)(a:aT)(P:List Int):List Int⊕Empty:=.inl (if a.tag=3 then P.set (nk+i) 4 else P)
def vL(nk:Nat):List aT→Nat→List Int→List Int
 |[],_,P=>P
 |a::l,i,P=>vL nk l (i+1) (if a.tag=3 then P.set (nk+i) 4 else P)
theorem DP(nk:Nat):∀(l:List aT) (i:Nat) (P:List Int),aV (Nu nk) l i P=.inl (vL nk l i P)
 |[],_,_=>rfl
 |a::l,i,P=>by
  simp only[aV,Nu,vL];exact DP nk l (i+1) _
theorem Jn(a ks:List Int)(n:aO):∀(m k:Nat),k+m=n.yo.length→vL ks.length (n.yo.drop k) k (tF a ks n k)=tF a ks n n.yo.length
 |0,k,h=>by
  have:k=n.yo.length:=by omega
  subst this;rw[atZ];rfl
 |m+1,k,h=>by
  have hk:k<n.yo.length:=by omega
  rw[atG hk];simp only[vL];have:=KA (a:=a) (ks:=ks) (n:=n) (ad3 hk);rw[←this];exact Jn a ks n m (k+1) (by omega)
def fw(l:List Int):Nat:=if l=[] then 0 else 1
theorem P1(n:aO)(bk:Bool)(xX:List Int)(hk:xX.length=n.keys.length+n.yo.length)(hn:xX.length≤8000) :
  az I.qcr [n.a,.wh bk (bd xX)]=some (.wh false (bd (vL n.keys.length n.yo 0 xX))):=by
 rw[am apw rfl];have hm:n.yo.length≤most:=by unfold most;omega
 have hnz:∀base σ m,fz false true base σ (m+3) n.a=n.a:=fun base σ m=>Ft.ft false true base σ m n rfl;have hnc:aw n.a=12:=rfl;have happ:append 1 (.sl 1 0 0 0) (xX.map (.int .i64)) [.arr 12 0 [n.a],.arr 1 0 []]=some (.sl 1 (fw xX) 0 xX.length,[.arr 12 0 [n.a],.arr 1 (fw xX) (xX.map (.int .i64))]):=by
  unfold fw;by_cases he:xX=[]
  ·subst he;simp[append]
  have h2:xX.length≤most:=by unfold most;omega
  simp[append,he,h2]
 have h:=cD (base:=2) (clr:=[5,6,10,11]) (b:=BF) n.yo
  (fun k (P:List Int)=>⟨[n.a,.wh bk (xX.map (.int .i64)),.ptr 0 0 0 0,.yz,.sl 1 (fw xX) 0 xX.length,.any,.any,.wh n.bg (n.yo.map aT.a),ac n.yo.length,ac k,.any,.any],[.arr 12 0 [n.a],.arr 1 (fw xX) (P.map (.int .i64))]⟩)
  (fun _ P=>P.length=xX.length) (Nu n.keys.length)
  (fun P=>(.ext 0,⟨[n.a,.wh bk (xX.map (.int .i64)),.ptr 0 0 0 0,.yz,.sl 1 (fw xX) 0 xX.length,.any,.any,.wh n.bg (n.yo.map aT.a),ac n.yo.length,ac n.yo.length,.bool false,.any],[.arr 12 0 [n.a],.arr 1 (fw xX) (P.map (.int .i64))]⟩))
  (fun (r:Empty) _=>r.elim)
  (fun k y P hk' hy hP=>by
   have yB:((k:Int)<(n.yo.length:Int)):=by omega
   have hw:IntKind.i64.wrap ((n.keys.length:Int)+(k:Int))=((n.keys.length+k:Nat):Int):=by rw[bl (by omega)];omega
   obtain⟨j,hj⟩:∃j,j=n.keys.length+k:=⟨_,rfl⟩;unfold Nu;rw[←hj]at hw ⊢;have hjl:j<xX.length:=by omega
   by_cases ht:y.tag=3
   ·simp[BF,yB,hy,aT.a,aO.a,ht,hw,hjl,hP,aA hk' hm,ar,ap,List.map_set]
   simp[BF,yB,hy,aT.a,aO.a,ht,al ht,hw,hjl,hP,aA hk' hm,ar,ap])
  (fun P _=>by simp[BF]) xX rfl
 rw[DP]at h;obtain⟨h1,h2⟩:=h;simp only[aO.a]at h2 happ;simp at h2 happ;have ht:∀P:List Int,P.length=xX.length→List.take xX.length (List.map (aa.int .i64) P)=List.map (aa.int .i64) P:=fun P hP=>aea (by simp[hP]);have ht':=ht _ h1;simp[aBl,aig,aO.a,happ,h2,ht',h1]
def Q6(a:List Int)(k:Nat)(x:Int)(out:List Int):List Int⊕Unit:=if x=(k:Int)∧a.getD k 0≠4 then .inl (out++[a.getD k 0]) else .inr ()
def Qh(a:List Int)(nk k:Nat)(g:aT)(out:List Int):List Int⊕Unit:=if pJ (a.getD (nk+k) 0) g=true then .inl (out++[if g.tag=3 then 2 else a.getD (nk+k) 0]) else .inr ()
abbrev yl(n:aO)(bk:Bool)(a:List Int)(ep:Nat)(out:List Int)(k e15:aa):List aa:=
 [n.a,.wh bk (a.map (.int .i64)),.ptr 0 0 0 0,.any,.any,.sl 1 ep 0 out.length,.any,.any,.any,.any,.any,.bool false,.wh n.by' (n.keys.map (.int .i64)),ac n.keys.length,k,e15,.any,.any,.any,.any,.any,.any,.any,.any,.any,.any,.any,.any,.any]
abbrev sG(n:aO)(bk:Bool)(a:List Int)(ep:Nat)(out:List Int)(k e20:aa):List aa:=
 [n.a,.wh bk (a.map (.int .i64)),.ptr 0 0 0 0,.any,.any,.sl 1 ep 0 out.length,.any,.any,.any,.any,.any,.bool false,.wh n.by' (n.keys.map (.int .i64)),ac n.keys.length,ac n.keys.length,.bool false,.any,.wh n.bg (n.yo.map aT.a),ac n.yo.length,k,e20,.any,.any,.any,.any,.any,.any,.any,.any]
abbrev Jk(n:aO)(ep:Nat)(out:List Int):ah:=[.arr 12 0 [n.a],.arr 1 ep (out.map (.int .i64))]
theorem akw(n:aO)(bk:Bool)(a:List Int)(hn:a.length≤8000)(hl:n.keys.length≤a.length) :
  (∃out,aV (Q6 a) n.keys 0 []=.inl out∧out.length=n.keys.length∧∃ep,aM code 2 [3,4,6,7,15,16] qW ⟨yl n bk a 0 [] (ac 0) .any,Jk n 0 []⟩ =
   some (.ext 0,⟨yl n bk a ep out (ac n.keys.length) (.bool false),Jk n ep out⟩)) ∨
  (aV (Q6 a) n.keys 0 []=.inr ()∧∃s,aM code 2 [3,4,6,7,15,16] qW ⟨yl n bk a 0 [] (ac 0) .any,Jk n 0 []⟩=some (.ret,s) ∧
   bF .pure [.env 3,.env 4] (some (.ret,s))=some (.tup [.wh false [],.bool false])):=by
 have hm:n.keys.length≤most:=by unfold most;omega
 have key:=eI (base:=2) (clr:=[3,4,6,7,15,16]) (b:=qW) n.keys
  (fun k (out:List Int) t=>out.length=k∧∃ep,t=⟨yl n bk a ep out (ac k) .any,Jk n ep out⟩)
  (Q6 a)
  (fun out o=>out.length=n.keys.length∧∃ep,o=(.ext 0,⟨yl n bk a ep out (ac n.keys.length) (.bool false),Jk n ep out⟩))
  (fun (_:Unit) o=>∃s,o=(.ret,s)∧bF .pure [.env 3,.env 4] (some (.ret,s))=some (.tup [.wh false [],.bool false]))
  (fun k y out t hk hy ht=>by
   obtain⟨ho,ep,rfl⟩:=ht;have yB:((k:Int)<(n.keys.length:Int)):=by omega
   have hl1:out.length+1≤most:=by unfold most;omega
   have hi:a[k]?=some (a.getD k 0):=by rw[ad4,ad3 (by omega)];rfl
   obtain⟨hil,hig⟩:=aaN.1 hi;unfold Q6;generalize a.getD k 0=z at *;by_cases hyk:y=(k:Int)
   ·subst hyk;by_cases hz:z=4
    ·subst hz;rw[if_neg (fun h=>h.2 rfl)];exact⟨_,by simp[qW,yB,hy,hi,hil,hig];rfl,_,rfl,by simp⟩
    rw[if_pos ⟨rfl,hz⟩];refine⟨⟨yl n bk a (ep+1) (out++[z]) (ac (k+1:Nat)) .any,Jk n (ep+1) (out++[z])⟩,?_,by simp[ho],ep+1,rfl⟩;simp[yl,Jk,qW,yB,hy,hi,hil,hig,al hz,append,hl1,aA hk hm,aH]
   rw[if_neg (fun h=>hyk h.1)];exact⟨_,by simp[qW,yB,hy,hyk,aR hyk];rfl,_,rfl,by simp⟩)
  (fun out t ht=>by
   obtain⟨ho,ep,rfl⟩:=ht;exact⟨_,by simp[qW],ho,ep,rfl⟩) [] _ ⟨rfl,0,rfl⟩
 rcases hf:aV (Q6 a) n.keys 0 [] with out|u
 ·rw[hf]at key;obtain⟨o,h1,h2,ep,rfl⟩:=key;exact .inl ⟨out,rfl,h2,ep,h1⟩
 rw[hf]at key;obtain⟨o,h1,s,rfl,h2⟩:=key;exact .inr ⟨rfl,s,h1,h2⟩
theorem ak5(n:aO)(bk:Bool)(a:List Int)(ep0:Nat)(out0:List Int)(hn:a.length≤8000)(hl:n.keys.length+n.yo.length=a.length)(ho0:out0.length=n.keys.length) :
  (∃out,aV (Qh a n.keys.length) n.yo 0 out0=.inl out∧∃ep,aM code 2 [3,4,8,9,10,20,21,22,23,24,25,26,27,28] jx ⟨sG n bk a ep0 out0 (ac 0) .any,Jk n ep0 out0⟩ =
   some (.ext 2,⟨sG n bk a ep out (ac n.yo.length) (.bool false),Jk n ep out⟩)) ∨
  (aV (Qh a n.keys.length) n.yo 0 out0=.inr ()∧∃s,aM code 2 [3,4,8,9,10,20,21,22,23,24,25,26,27,28] jx ⟨sG n bk a ep0 out0 (ac 0) .any,Jk n ep0 out0⟩=some (.ret,s) ∧
   bF .pure [.env 3,.env 4] (some (.ret,s))=some (.tup [.wh false [],.bool false])):=by
 have hm:n.yo.length≤most:=by unfold most;omega
 have hnz:∀base σ m,fz false true base σ (m+3) n.a=n.a:=fun base σ m=>Ft.ft false true base σ m n rfl;have key:=eI (base:=2) (clr:=[3,4,8,9,10,20,21,22,23,24,25,26,27,28]) (b:=jx) n.yo
  (fun k (out:List Int) t=>out.length=n.keys.length+k∧∃ep,t=⟨sG n bk a ep out (ac k) .any,Jk n ep out⟩)
  (Qh a n.keys.length)
  (fun out o=>∃ep,o=(.ext 2,⟨sG n bk a ep out (ac n.yo.length) (.bool false),Jk n ep out⟩))
  (fun (_:Unit) o=>∃s,o=(.ret,s)∧bF .pure [.env 3,.env 4] (some (.ret,s))=some (.tup [.wh false [],.bool false]))
  (fun k y out t hk hy ht=>by
   obtain⟨ho,ep,rfl⟩:=ht;have yB:((k:Int)<(n.yo.length:Int)):=by omega
   have hl1:out.length+1≤most:=by unfold most;omega
   have hw:IntKind.i64.wrap ((n.keys.length:Int)+(k:Int))=((n.keys.length+k:Nat):Int):=by rw[bl (by omega)];omega
   unfold Qh;obtain⟨j,hj⟩:∃j,j=n.keys.length+k:=⟨_,rfl⟩;rw[←hj]at hw ⊢;have hi:a[j]?=some (a.getD j 0):=by rw[ad4,ad3 (by omega)];rfl
   obtain⟨hil,hig⟩:=aaN.1 hi;generalize a.getD j 0=z at *;unfold pJ;obtain⟨t,b,e⟩:=y;simp only;by_cases he:e=[]
   ·subst he;by_cases t12:t=1∨t=2
    ·by_cases hz:z=2
     ·subst hz;have ht3:¬t=3:=by omega
      rw[if_pos (by simp[t12]),if_neg ht3];refine⟨⟨sG n bk a (ep+1) (out++[2]) (ac (k+1:Nat)) .any,Jk n (ep+1) (out++[2])⟩,?_,by simp[ho];omega,ep+1,rfl⟩;rcases t12 with h|h<;>subst h<;>simp[sG,Jk,jx,yB,hy,aT.a,aO.a,hw,hi,hil,hig,append,hl1,aA hk hm,ar,ap]
     rw[if_neg (by simp[t12,hz])];rcases t12 with h|h<;>subst h<;>exact⟨_,by simp[jx,yB,hy,aT.a,aO.a,hw,hi,hil,hig,aR hz];rfl,_,rfl,by simp⟩
    have n1:¬t=1:=fun h=>t12 (.inl h);have n2:¬t=2:=fun h=>t12 (.inr h);by_cases t3:t=3
    ·subst t3;by_cases hz:z=4
     ·subst hz;rw[if_pos (by simp),if_pos rfl];refine⟨⟨sG n bk a (ep+1) (out++[2]) (ac (k+1:Nat)) .any,Jk n (ep+1) (out++[2])⟩,?_,by simp[ho];omega,ep+1,rfl⟩;simp[sG,Jk,jx,yB,hy,aT.a,aO.a,hw,hi,hil,hig,append,hl1,aA hk hm,ar,ap]
     rw[if_neg (by simp[hz])];exact⟨_,by simp[jx,yB,hy,aT.a,aO.a,hw,hi,hil,hig,aR hz];rfl,_,rfl,by simp⟩
    by_cases t45:t=4∨t=5
    ·by_cases hz:z=4
     ·subst hz;rw[if_neg (by simp[t12,t3,t45])];rcases t45 with h|h<;>subst h<;>exact⟨_,by simp[jx,yB,hy,aT.a,aO.a,hw,hi,hil,hig];rfl,_,rfl,by simp⟩
     rw[if_pos (by simp[t12,t3,t45,hz]),if_neg t3];refine⟨⟨sG n bk a (ep+1) (out++[z]) (ac (k+1:Nat)) .any,Jk n (ep+1) (out++[z])⟩,?_,by simp[ho];omega,ep+1,rfl⟩;rcases t45 with h|h<;>subst h<;>simp[sG,Jk,jx,yB,hy,aT.a,aO.a,hw,hi,hil,hig,al hz,append,hl1,aA hk hm,ar,ap]
    have n4:¬t=4:=fun h=>t45 (.inl h);have n5:¬t=5:=fun h=>t45 (.inr h);rw[if_neg (by simp[t12,t3,t45])];exact⟨_,by simp[jx,yB,hy,aT.a,aO.a,hw,hi,hil,hig,al n1,al n2,al t3,al n4,al n5];rfl,_,rfl,by simp⟩
   have he2:=bY he;rw[if_neg (by simp[he])];exact⟨_,by simp[jx,yB,hy,aT.a,aO.a,hw,hi,hil,hig,he,he2];rfl,_,rfl,by simp⟩)
  (fun out t ht=>by
   obtain⟨ho,ep,rfl⟩:=ht;exact⟨_,by simp[jx],ep,rfl⟩) out0 _ ⟨by simp[ho0],ep0,rfl⟩
 rcases hf:aV (Qh a n.keys.length) n.yo 0 out0 with out|u
 ·rw[hf]at key;obtain⟨o,h1,ep,rfl⟩:=key;exact .inl ⟨out,rfl,ep,h1⟩
 rw[hf]at key;obtain⟨o,h1,s,rfl,h2⟩:=key;exact .inr ⟨rfl,s,h1,h2⟩
def xV(n:aO)(a:List Int):List Int×Bool:=
 if 3<n.keys.length∨12<n.yo.length∨n.keys.length+n.yo.length≠a.length∨a=[] then ([],false) else
 match aV (Q6 a) n.keys 0 [] with
 |.inr _=>([],false)
 |.inl o=>match aV (Qh a n.keys.length) n.yo 0 o with
  |.inl o'=>(o',true)
  |.inr _=>([],false)
theorem X9(n:aO)(bk:Bool)(a:List Int)(hn:a.length≤8000)(h1:n.keys.length≤kV)(h2:n.yo.length≤kV) :
  az I.qcn [n.a,.wh bk (bd a)]=some (.tup [.wh false (bd (xV n a).1),.bool (xV n a).2]):=by
 rw[am aqC rfl];have hnz:∀base σ m,fz true false base σ (m+3) n.a=n.a:=fun base σ m=>Ft.ft true false base σ m n rfl;have h1':n.keys.length≤4294967296:=h1;have h2':n.yo.length≤4294967296:=h2;have hw:IntKind.i64.wrap ((n.keys.length:Int)+(n.yo.length:Int))=(n.keys.length:Int)+n.yo.length:=bl (by omega);unfold xV;by_cases c1:3<n.keys.length
 ·rw[if_pos (.inl c1)];have c1':(3:Int)<n.keys.length:=by omega
  simp[aye,DY,aO.a,c1']
 have c1':¬(3:Int)<n.keys.length:=by omega
 by_cases c2:12<n.yo.length
 ·rw[if_pos (.inr (.inl c2))];have c2':(12:Int)<n.yo.length:=by omega
  simp[aye,DY,aO.a,c1',c2']
 have c2':¬(12:Int)<n.yo.length:=by omega
 by_cases c3:n.keys.length+n.yo.length=a.length
 ·by_cases c4:a=[]
  ·rw[if_pos (.inr (.inr (.inr c4)))];subst c4;have c3n:n.keys.length+n.yo.length=0:=c3;have k0:n.keys=[]:=ahc (by omega);have a0:n.yo=[]:=ahc (by omega);have hw0:IntKind.i64.wrap 0=0:=rfl;simp[aye,DY,aO.a,k0,a0,hw0]
  rw[if_neg (by
   rintro (h|h|h|h)
   ·exact c1 h
   ·exact c2 h
   ·exact h c3
   exact c4 h)]
  have c3':(n.keys.length:Int)+n.yo.length=a.length:=by omega
  have hwa:IntKind.i64.wrap (a.length:Int)=a.length:=bl (by omega);have c4':¬((a.length:Int)=0):=fun h=>c4 (ahc (by omega));rcases akw n bk a hn (by omega) with⟨o,f1,ho,ep,l1⟩|⟨f1,s,l1,v1⟩
  ·rw[f1];simp only;rcases ak5 n bk a ep o hn c3 ho with⟨o',f2,ep',l0⟩|⟨f2,s,l0,v0⟩
   ·rw[f2];simp only[yl,sG,Jk,aO.a]at l1 l0;simp at l1 l0;have ht:List.take o'.length (List.map (aa.int .i64) o')=List.map (aa.int .i64) o':=aea (by simp);simp[aye,DY,aO.a,c1',c2',hw,hwa,c3',c4,c4',al c4',l1,l0,ht]
   rw[f2];simp only[yl,sG,Jk,aO.a]at l1 l0;simp at l1 l0;simp[aye,DY,aO.a,c1',c2',hw,hwa,c3',c4,c4',al c4',l1,l0,-bP];exact v0
  rw[f1];simp only[yl,Jk,aO.a]at l1;simp at l1;simp[aye,DY,aO.a,c1',c2',hw,hwa,c3',c4,c4',al c4',l1,-bP];exact v1
 rw[if_pos (.inr (.inr (.inl c3)))];have c3':¬((n.keys.length:Int)+n.yo.length=a.length):=by omega
 simp[aye,DY,aO.a,c1',c2',hw,c3',aR c3']
theorem JO(a:List Int):∀(l:List Int) (k:Nat) (out:List Int),k+l.length≤a.length→aV (Q6 a) l k out=if dT a k l=true then .inl (out++(a.drop k).take l.length) else .inr ()
 |[],k,out,_=>by simp[aV,dT]
 |x::l,k,out,h=>by
  have hk:k<a.length:=by simp at h;omega
  have ih:=fun o=>JO a l (k+1) o (by simp at h;omega);simp only[aV,Q6];have hg:a.getD k 0=a[k]:=by rw[ad4,ad3 hk];rfl
  by_cases c:x=(k:Int)∧a.getD k 0≠4
  ·rw[if_pos c];simp only;rw[ih];have:(x==(k:Int)&&a.getD k 0 != 4)=true:=by
    rw[acz,afE,atU];exact c
   have e:dT a k (x::l)=dT a (k+1) l:=by
    show ((x==(k:Int)&&a.getD k 0 != 4)&&dT a (k+1) l)=_;rw[this,al5]
   rw[e,aiG,atG hk,List.take_succ_cons,hg];simp
  rw[if_neg c];have:(x==(k:Int)&&a.getD k 0 != 4)=false:=by
   rw[atN];intro h;simp only[acz,afE,atU,ne_eq]at h;exact c h
  have e:dT a k (x::l)=false:=by
   show ((x==(k:Int)&&a.getD k 0 != 4)&&dT a (k+1) l)=_;rw[this,avF]
  rw[e];simp
def zz(a:List Int):Nat→List aT→List Int
 |_,[]=>[]
 |i,g::r=>(if g.tag=3 then 2 else a.getD i 0)::zz a (i+1) r
theorem Kv(a:List Int)(nk:Nat):∀(l:List aT) (k:Nat) (out:List Int),aV (Qh a nk) l k out=if dU a (nk+k) l=true then .inl (out++zz a (nk+k) l) else .inr ()
 |[],k,out=>by simp[aV,dU,zz]
 |g::l,k,out=>by
  have ih:=fun o=>Kv a nk l (k+1) o;simp only[aV,Qh,zz];by_cases c:pJ (a.getD (nk+k) 0) g=true
  ·rw[if_pos c];simp only;have e:dU a (nk+k) (g::l)=dU a (nk+k+1) l:=by
    show (pJ (a.getD (nk+k) 0) g&&dU a (nk+k+1) l)=_;rw[c,al5]
   rw[ih,e,show nk+(k+1)=nk+k+1 by omega];simp
  rw[if_neg c];have:pJ (a.getD (nk+k) 0) g=false:=by simpa using c
  have e:dU a (nk+k) (g::l)=false:=by
   show (pJ (a.getD (nk+k) 0) g&&dU a (nk+k+1) l)=_;rw[this,avF]
  rw[e];simp
theorem Gd(a:List Int):∀(l:List aT) (A B:List Int),B.length=l.length→(∀j,j<B.length→a.getD (A.length+j) 0=B.getD j 0)→iF A.length l (A++B)=A++zz a A.length l
 |[],A,B,h,_=>by
  have:B=[]:=ahc h;subst this;simp[iF,zz]
 |g::l,A,B,h,hB=>by
  match B,h,hB with
  |b::B,h,hB=>
   have h0:a.getD A.length 0=b:=by have:=hB 0 (by simp);simpa using this
   simp only[iF,zz];rw[h0];have hset:(if g.tag=3 then (A++b::B).set A.length 2 else A++b::B)=(A++[if g.tag=3 then 2 else b])++B:=by
    split
    ·simp
    simp
   rw[hset];have hl:(A++[if g.tag=3 then 2 else b]).length=A.length+1:=by simp
   have ih:=Gd a l (A++[if g.tag=3 then 2 else b]) B (by simpa using h) (fun j hj=>by
    have:=hB (j+1) (by simp;omega);rw[hl];simpa [arJ,auf 1] using this)
   rw[hl]at ih;rw[ih];simp
theorem QZ(n:aO)(a:List Int)(h:a≠[]):xV n a=if (decide (n.keys.length≤3)&&decide (n.yo.length≤12)&&n.keys.length+n.yo.length==a.length)&&(dT a 0 n.keys&&dU a n.keys.length n.yo) then (iF n.keys.length n.yo a,true) else ([],false):=by
 unfold xV;by_cases c:3<n.keys.length∨12<n.yo.length∨n.keys.length+n.yo.length≠a.length∨a=[]
 ·rw[if_pos c];have:(decide (n.keys.length≤3)&&decide (n.yo.length≤12)&&n.keys.length+n.yo.length==a.length)=false:=by
   rw[atN];intro h';simp only[acz,ad7,afE]at h';rcases c with c|c|c|c
   ·omega
   ·omega
   ·exact c h'.2
   exact h c
  rw[this];rfl
 rw[if_neg c];have c3:n.keys.length+n.yo.length=a.length:=att fun h=>c (.inr (.inr (.inl h)));have c1:n.keys.length≤3:=by
  have:¬3<n.keys.length:=fun h=>c (.inl h);omega
 have c2:n.yo.length≤12:=by
  have:¬12<n.yo.length:=fun h=>c (.inr (.inl h));omega
 have:(decide (n.keys.length≤3)&&decide (n.yo.length≤12)&&n.keys.length+n.yo.length==a.length)=true:=by simp[c1,c2,c3]
 rw[this,al5,JO a n.keys 0 [] (by omega)];cases hk:dT a 0 n.keys with
 |false=>rfl
 |true=>
  rw[if_pos rfl];simp only[ah5,auu,al5];rw[Kv a n.keys.length n.yo 0];cases ha:dU a n.keys.length n.yo with
  |false=>rfl
  |true=>
   simp only[at9,ha,aml];have hl:(a.take n.keys.length).length=n.keys.length:=by rw[al4];omega
   have:=Gd a n.yo (a.take n.keys.length) (a.drop n.keys.length) (by rw[atj];omega) (fun j hj=>by
    rw[hl];simp[ad4,avz])
   rw[hl,avS]at this;rw[this]
def dO(l:List aO):Nat→Nat
 |0=>0
 |m+1=>
  match l[m]? with
  |none=>0
  |some n=>
   if gC n.op=0 then (if n.l=-1∧n.r=-1 then 1 else 0)
   else if gC n.op=1 then (if n.l=(m:Int)-1∧n.r=-1∧dO l m≠0 then dO l m+1 else 0)
   else if gC n.op=2 then
    if dO l m=0∨n.r≠(m:Int)-1∨n.l≠(m:Int)-1-dO l m then 0
    else if dO l (m-dO l m)=0 then 0 else dO l (m-dO l m)+dO l m+1
   else 0
termination_by m=>m
decreasing_by all_goals omega
theorem PZ(l:List aO):∀m,dO l m≤m:=by
 intro m;induction m using Nat.strongRecOn with
 |_ m ih=>
  cases m with
  |zero=>simp[dO]
  |succ m=>
   have h1:=ih m (by omega);have h2:=ih (m-dO l m) (by omega);rw[dO];split
   ·omega
   repeat' split
   all_goals omega
theorem abk(xQ:List aO)(hn:xQ.length≤most):∀m:Nat,∀b,m≤xQ.length→az I.qch [.agg [.wh b (xQ.map aO.a)],ac ((m:Int)-1)]=some (ac (dO xQ m)):=by
 intro m;induction m using Nat.strongRecOn with
 |_ m ih=>
  intro b hm;rw[am an6 rfl];cases m with
  |zero=>simp[axZ,pB,dO]
  |succ m=>
   have hmm:((m+1:Nat):Int)-1=(m:Int):=by omega
   rw[hmm];have yB:m<xQ.length:=by omega
   obtain⟨n,hnn⟩:∃n,xQ[m]=n:=⟨_,rfl⟩;have hn':xQ[m]?=some n:=by rw[←hnn];exact ad3 yB
   have hge:¬((xQ.length:Int)≤m):=by omega
   have hneg:¬((m:Int)<0):=by omega
   have hp:=J6 n.op;have hw:IntKind.i64.wrap ((m:Int)-1)=(m:Int)-1:=bl (by unfold most at *;omega);rw[dO,hn'];simp only;have hle:=PZ xQ m;have i1:=fun b=>ih m (by omega) b (by omega);have i2:=fun b=>ih (m-dO xQ m) (by omega) b (by omega);obtain⟨op,l,r,tab,bk,xX,left,bc,cond,by',keys,bg,yo,bi,items,bo,ords,limit⟩:=n;simp only at hp ⊢;generalize gC op=p at *;by_cases e0:p=0
   ·subst e0;by_cases hl:l=-1
    ·subst hl;by_cases hr:r=-1
     ·subst hr;simp[axZ,pB,hge,hneg,hn',aO.a,hp]
     simp[axZ,pB,hge,hneg,hn',aO.a,hp,hr,al hr]
    simp[axZ,pB,hge,hneg,hn',aO.a,hp,hl,al hl]
   by_cases e1:p=1
   ·subst e1;by_cases hl:l=(m:Int)-1
    ·subst hl;by_cases hr:r=-1
     ·subst hr;by_cases z1:dO xQ m=0
      ·simp[axZ,pB,hge,hneg,hn',aO.a,hp,hw,i1,z1]
      have z1':0<dO xQ m:=by omega
      have hw1:IntKind.i64.wrap ((dO xQ m:Int)+1)=(dO xQ m:Int)+1:=bl (by unfold most at *;omega);simp[axZ,pB,hge,hneg,hn',aO.a,hp,hw,hw1,i1,z1,z1']
     simp[axZ,pB,hge,hneg,hn',aO.a,hp,hw,hr,al hr]
    simp[axZ,pB,hge,hneg,hn',aO.a,hp,hw,hl,al hl]
   by_cases e2:p=2
   ·subst e2;by_cases hr:r=(m:Int)-1
    ·subst hr;by_cases z1:dO xQ m=0
     ·simp[axZ,pB,hge,hneg,hn',aO.a,hp,hw,i1,z1]
     have z1':0<dO xQ m:=by omega
     generalize hs:dO xQ m=q at *;have hle2:=PZ xQ (m-q);have hc2:((m-q:Nat):Int)=(m:Int)-q:=by omega
     rw[hc2]at i2;have hw2:IntKind.i64.wrap ((m:Int)-1-q)=(m:Int)-1-q:=bl (by unfold most at *;omega);have hsw:(m:Int)-q-1=(m:Int)-1-q:=by omega
     rw[hsw]at i2;generalize dO xQ (m-q)=f at *;have hw3:IntKind.i64.wrap ((f:Int)+q)=(f:Int)+q:=bl (by unfold most at *;omega);have hw4:IntKind.i64.wrap ((f:Int)+q+1)=(f:Int)+q+1:=bl (by unfold most at *;omega);by_cases hl:l=(m:Int)-1-q
     ·subst hl;by_cases z2:f=0
      ·subst z2;simp[axZ,pB,hge,hneg,hn',aO.a,hp,hw,i1,z1,z1',hw2,i2]
      have z2':0<f:=by omega
      simp[axZ,pB,hge,hneg,hn',aO.a,hp,hw,i1,z1,z1',hw2,i2,z2,z2',hw3,hw4]
     simp[axZ,pB,hge,hneg,hn',aO.a,hp,hw,i1,z1,z1',hw2,hl,al hl]
    simp[axZ,pB,hge,hneg,hn',aO.a,hp,hw,hr,al hr]
   simp[axZ,pB,hge,hneg,hn',aO.a,hp,e0,e1,e2,al e0,al e1,al e2]
theorem aao(n:EN)(b:Bool):az I.qbv [n.a,.wh b []]=some (.agg [.wh false [EN.a { n with l:=-1,r:=-1 }]]):=by
 rw[am amr rfl];obtain⟨t,l,r,c,w⟩:=n;have h:∀(e0 e1 e2 e3 e4:aa) (σ:ah),aM code 4 [5,6,7,8,12,13,14,15,16,17,18,19] M3 ⟨[e0,e1,e2,e3,e4,.any,.any,.any,.any,.wh b [],ac 0,ac 0,.any,.any,.any,.any,.any,.any,.any,.any],σ⟩ =
   some (.ext 0,⟨[e0,e1,e2,e3,e4,.any,.any,.any,.any,.wh b [],ac 0,ac 0,.bool false,.any,.any,.any,.any,.any,.any,.any],σ⟩):=fun e0 e1 e2 e3 e4 σ=>by
  rw[bj];simp[M3]
 simp[aBo,aha,EN.a,append,h,most]
theorem ZR{l:List aO}{k:Nat}{n:aO}{o ps:List Nat}(h:je n o=some ps)(ho:∀p∈o,p<k):∀p∈ps,p<k:=by
 unfold je at h;split at h
 ·cases h
 have hm:∀p∈o.drop (o.length-(bD n.op).toNat),p<k:=fun p hp=>ho p (asW hp);split at h
 ·split at h
  ·cases h;simp
  cases h
 ·rename_i p hd;rw[hd]at hm;split at h
  ·cases h;exact hm
  cases h
 ·rename_i p q hd;rw[hd]at hm;split at h
  ·cases h;exact hm
  cases h
 cases h
abbrev qB(σ:ah):Prop:=∀τ b,σ.length≤b→σ.map (ap b τ)=σ
def xy(σ τ:ah)(v:aa):aa×ah:=if τ.length=σ.length then (v,τ) else (aZ σ.length τ v,(τ.take σ.length).map (ap σ.length τ))
theorem bT{σ:ah}(h:qB σ)(o:Obj)(t:ah)(v:aa):xy σ (σ++o::t) v=(aZ σ.length (σ++o::t) v,σ):=by
 unfold xy;rw[if_neg (by simp)];rw[au3 rfl,h _ _ (aes _)]
def mj(σ:ah)(res:List Q2)(r:Option (Ex×St)):Option (aa×ah):=r.bind fun r=>match r.1 with
 |.ext _=>none
 |_=>(results r.2 res).map fun v=>xy σ r.2.st v
@[simp] theorem yx(σ:ah)(res:List Q2)(s:St):mj σ res (some (.ret,s))=(results s res).map fun v=>xy σ s.st v:=rfl
@[simp] theorem ad5(σ:ah)(res:List Q2)(s:St):mj σ res (some (.nrm,s))=(results s res).map fun v=>xy σ s.st v:=rfl
theorem iR{f:Nat}{g:aD}(h:code.fns f=.fn g)(hm:g.mode=.trunc)(args:List aa)(σ:ah) :
  bK code f args σ=mj σ g.res (run code g.body ⟨args.take g.np++List.replicate (g.nenv-g.np) .any,σ⟩):=by
 rw[vg good h];have he:enter g args σ=⟨args.take g.np++List.replicate (g.nenv-g.np) .any,σ⟩:=by unfold enter;rw[hm]
 rw[he];unfold mj;congr 1;funext r;obtain⟨e,s⟩:=r;unfold lP fo xy;rw[hm];cases e<;>rfl
def eu(R:aa)(l:List Int):Prop:=(R=.yz∧l=[])∨∃b,R=.wh b (l.map (.int .i64))
theorem Nl(b:Bool)(l:List Int):eu (.wh b (l.map (.int .i64))) l:=.inr ⟨b,rfl⟩
theorem XQ(n:aO)(hk:n.xX.length≤most)(σ:ah)(hσ:qB σ) :
  bK code I.qco [n.a] σ=some (.tup [.wh n.bk (n.xX.map (.int .i64)),.bool (gg n)],σ):=by
 rw[iR anr rfl];have hnc:aw n.a=12:=rfl;have key:=bB (base:=σ.length+1) (clr:=[5,9]) (b:=tg) n.xX
  (fun k (s:Bool)=>⟨[n.a,.ptr σ.length 0 0 0,.yz,.bool false,.bool s,.any,.wh n.bk (n.xX.map (.int .i64)),ac n.xX.length,ac k,.any],σ++[.arr 12 0 [n.a]]⟩)
  (fun _ _=>True) (fun s y=>s&&(decide (0≤y)&&decide (y≤4)))
  (fun s=>(.ext 0,⟨[n.a,.ptr σ.length 0 0 0,.yz,.bool false,.bool s,.any,.wh n.bk (n.xX.map (.int .i64)),ac n.xX.length,ac n.xX.length,.bool false],σ++[.arr 12 0 [n.a]]⟩))
  (fun k y s hk' hy _=>by
   have yB:((k:Int)<(n.xX.length:Int)):=by omega
   refine⟨?_,trivial⟩;cases s with
   |false=>simp[tg,yB,hy,aA hk' hk,aH]
   |true=>
    by_cases h1:0≤y
    ·by_cases h2:y≤4
     ·simp[tg,yB,hy,aA hk' hk,aH,h1,h2]
     simp[tg,yB,hy,aA hk' hk,aH,h1,h2]
    simp[tg,yB,hy,aA hk' hk,aH,h1])
  (fun s _=>by simp[tg])
 have hfold:∀(l:List Int) (s:Bool),l.foldl (fun s y=>s&&(decide (0≤y)&&decide (y≤4))) s=(s&&!(l.any fun k=>decide (k<0) ||decide (4<k))):=by
  intro l;induction l with
  |nil=>intro s;simp
  |cons y l ih=>
   intro s;rw[ahw,ih,aub];have e:(decide (0≤y)&&decide (y≤4))=!(decide (y<0) ||decide (4<y)):=by
    rw[arh];simp
   rw[e];cases s<;>cases (decide (y<0) ||decide (4<y))<;>simp
 have key2:=fun s=>(key s trivial).1;simp only[hfold,show ((0:Nat):Int)=0 from rfl]at key2;unfold gg;obtain⟨op,a,b,tab,bk,xX,left,bc,cond,by',keys,bg,yo,bi,items,bo,ords,limit⟩:=n;simp only[aO.a]at key2 hnc ⊢;have k1:=key2 true;have k0:=key2 false;by_cases t0:0≤tab
 ·by_cases t1:tab<30
  ·by_cases t2:xX=[]
   ·subst t2;simp at k0;simp[ayA,KI,t0,t1,k0,bT hσ,aZ,bQ]
   have t2':(1:Int)≤xX.length:=by
    have:xX.length≠0:=fun h=>t2 (ahc h);omega
   have t2'':0<xX.length:=by omega
   by_cases t3:xX.length≤16
   ·have t3':(xX.length:Int)≤16:=by omega
    simp at k1;simp[ayA,KI,t0,t1,t2',t2'',t3,t3',k1,bT hσ,aZ,bQ]
   have t3':¬(xX.length:Int)≤16:=by omega
   simp at k0;simp[ayA,KI,t0,t1,t2',t2'',t3,t3',k0,bT hσ,aZ,bQ]
  simp at k0;simp[ayA,KI,t0,t1,k0,bT hσ,aZ,bQ]
 simp at k0;simp[ayA,KI,t0,k0,bT hσ,aZ,bQ]
abbrev jJ(N:aa)(s:Nat)(A B e4 e5 e6 e7 e8 e9 e10 e11 e12 e13 e14 e15 e16 e17 e18 e19 e20 e21 e22 e23 e24 e25 e26 e27 e28 e29 e30 e31 e32 e33 e34 e35:aa):List aa:=
 [N,A,B,.ptr s 0 0 0,e4,e5,e6,e7,e8,e9,e10,e11,e12,e13,e14,e15,e16,e17,e18,e19,e20,e21,e22,e23,e24,e25,e26,e27,e28,e29,e30,e31,e32,e33,e34,e35]
abbrev C8(σ:ah)(N:aa)(ep:Nat)(out:List Int):ah:=σ++[.arr 12 0 [N],.arr 1 ep (out.map (.int .i64))]
theorem QC{α:Type}(p:α→Bool):∀(l:List α) (s:Bool),l.foldl (fun s y=>s&&p y) s=(s&&l.all p)
 |[],s=>by simp
 |y::l,s=>by rw[ahw,QC p l,aty,atn]
abbrev N1(l r tab:Int)(bk:Bool)(xX:List Int)(c5 c6 c7 c8 c9 c10 c11:aa):aa:=.agg [ac 1,ac l,ac r,ac tab,.wh bk (xX.map (.int .i64)),c5,c6,c7,c8,c9,c10,c11]
def acP(tab:Int)(xX:List Int):Bool:=!(xX.any fun k=>decide (k<1) ||decide (3<k))&&decide (0≤tab)&&decide (tab<4)&&decide (0<xX.length)&&decide (xX.length≤4)
theorem ak2(l r tab:Int)(bk:Bool)(xX:List Int)(c5 c6 c7 c8 c9 c10 c11 A B:aa)(hk:xX.length≤most)(σ:ah)(hσ:qB σ) :
  bK code I.qcj [N1 l r tab bk xX c5 c6 c7 c8 c9 c10 c11,A,B] σ=some (.tup [.wh bk (xX.map (.int .i64)),.bool (acP tab xX)],σ):=by
 rw[iR aaO rfl];have key:=bB (base:=σ.length+2) (clr:=[21]) (b:=tv) xX
  (fun k (s:Bool)=>⟨jJ (N1 l r tab bk xX c5 c6 c7 c8 c9 c10 c11) σ.length A B .yz (.bool false) (.sl (σ.length+1) 0 0 0) (.bool s) (ac k) .any .any .any .any .any .any .any .any .any .any (ac 1) (.bool true) .any .any .any .any .any .any .any .any .any .any .any .any .any .any .any,C8 σ (N1 l r tab bk xX c5 c6 c7 c8 c9 c10 c11) 0 []⟩)
  (fun _ _=>True) (fun s y=>s&&(decide (1≤y)&&decide (y≤3)))
  (fun s=>(.ext 1,⟨jJ (N1 l r tab bk xX c5 c6 c7 c8 c9 c10 c11) σ.length A B .yz (.bool false) (.sl (σ.length+1) 0 0 0) (.bool s) (ac xX.length) .any .any .any .any .any .any .any .any .any .any (ac 1) (.bool true) (.bool false) .any .any .any .any .any .any .any .any .any .any .any .any .any .any,C8 σ (N1 l r tab bk xX c5 c6 c7 c8 c9 c10 c11) 0 []⟩))
  (fun k y s hk' hy _=>by
   have yB:((k:Int)<(xX.length:Int)):=by omega
   refine⟨?_,trivial⟩;cases s with
   |false=>simp[jJ,C8,tv,yB,hy,aA hk' hk,aH]
   |true=>
    by_cases h1:1≤y
    ·by_cases h2:y≤3
     ·simp[jJ,C8,tv,yB,hy,aA hk' hk,aH,h1,h2]
     simp[jJ,C8,tv,yB,hy,aA hk' hk,aH,h1,h2]
    simp[jJ,C8,tv,yB,hy,aA hk' hk,aH,h1])
  (fun s _=>by simp[jJ,C8,tv])
 have key2:=fun s=>(key s trivial).1;simp only[QC,show ((0:Nat):Int)=0 from rfl]at key2;have k1:=key2 true;have e:(xX.all fun y=>decide (1≤y)&&decide (y≤3))=!(xX.any fun k=>decide (k<1) ||decide (3<k)):=by
  rw[at2];congr 1;funext y;rw[arh];simp
 rw[al5,e]at k1;unfold acP;simp only[jJ,C8]at k1;generalize (xX.any fun k=>decide (k<1) ||decide (3<k))=q at *;simp at k1;cases q with
 |true=>simp[ax0,pE,k1,bT hσ,aZ,bQ]
 |false=>
  by_cases t0:0≤tab
  ·by_cases t1:tab<4
   ·have t1':tab≤3:=by omega
    by_cases t2:xX=[]
    ·subst t2;simp at k1;simp[ax0,pE,k1,t0,t1,t1',bT hσ,aZ,bQ]
    have t2':(1:Int)≤xX.length:=by
     have:xX.length≠0:=fun h=>t2 (ahc h);omega
    have t2'':0<xX.length:=by omega
    by_cases t3:xX.length≤4
    ·have t3':(xX.length:Int)≤4:=by omega
     simp[ax0,pE,k1,t0,t1,t1',t2',t2'',t3,t3',bT hσ,aZ,bQ]
    have t3':¬(xX.length:Int)≤4:=by omega
    simp[ax0,pE,k1,t0,t1,t1',t2',t2'',t3,t3',bT hσ,aZ,bQ]
   have t1':¬tab≤3:=by omega
   simp[ax0,pE,k1,t0,t1,t1',bT hσ,aZ,bQ]
  simp[ax0,pE,k1,t0,bT hσ,aZ,bQ]
abbrev OP(a:List Int)(s:Nat×List Int×Bool)(e:kx):Nat×List Int×Bool:=(s.1+1,s.2.1++[(dm e.l a).1],s.2.2&&(dm e.l a).2==0)
theorem F3(a:List Int):∀(l:List kx) (s:Nat×List Int×Bool),l.foldl (OP a) s=(s.1+l.length,s.2.1++l.map (fun e=>(dm e.l a).1),s.2.2&&l.all fun e=>(dm e.l a).2==0)
 |[],s=>by simp
 |e::l,s=>by
  rw[ahw,F3 a l];simp[OP,atn,arJ,auf 1]
abbrev N5(c1 c2 c3 c4 c5 c6 c7 c8:aa)(bi:Bool)(items:List kx)(c10 c11:aa):aa:=.agg [ac 5,c1,c2,c3,c4,c5,c6,c7,c8,.wh bi (items.map kx.a),c10,c11]
theorem ak1(c1 c2 c3 c4 c5 c6 c7 c8:aa)(bi:Bool)(items:List kx)(c10 c11:aa)(ba:Bool)(a:List Int)(B:aa)(hi:items.length≤8000)(he:∀e∈items,e.l.length≤most)(hal:a.length≤8000)(σ:ah)(hσ:qB σ) :
  bK code I.qcj [N5 c1 c2 c3 c4 c5 c6 c7 c8 bi items c10 c11,.wh ba (bd a),B] σ=some (.tup [.wh false (bd (items.map fun e=>(dm e.l a).1)),.bool ((items.all fun e=>(dm e.l a).2==0)&&decide (1≤items.length)&&decide (items.length≤16))],σ):=by
 rw[iR aaO rfl];have hm:items.length≤most:=by unfold most;omega
 have key:=bB (base:=σ.length+2) (clr:=[14,15,29]) (b:=xC) items
  (fun k (s:Nat×List Int×Bool)=>⟨jJ (N5 c1 c2 c3 c4 c5 c6 c7 c8 bi items c10 c11) σ.length (.wh ba (bd a)) B .yz (.bool false) (.sl (σ.length+1) s.1 0 s.2.1.length) (.bool s.2.2) .any .any .any .any .any (ac k) .any .any .any .any .any (ac 5) (.bool false) .any (.bool false) (.bool false) (.bool false) .any .any .any (.bool true) .any .any .any .any .any .any .any,C8 σ (N5 c1 c2 c3 c4 c5 c6 c7 c8 bi items c10 c11) s.1 s.2.1⟩)
  (fun k s=>s.2.1.length=k) (OP a)
  (fun s=>(.ext 7,⟨jJ (N5 c1 c2 c3 c4 c5 c6 c7 c8 bi items c10 c11) σ.length (.wh ba (bd a)) B .yz (.bool false) (.sl (σ.length+1) s.1 0 s.2.1.length) (.bool s.2.2) .any .any .any .any .any (ac items.length) .any .any .any .any .any (ac 5) (.bool false) .any (.bool false) (.bool false) (.bool false) .any .any .any (.bool true) (.bool false) .any .any .any .any .any .any,C8 σ (N5 c1 c2 c3 c4 c5 c6 c7 c8 bi items c10 c11) s.1 s.2.1⟩))
  (fun k y s hk' hy hs=>by
   obtain⟨ep,out,ok⟩:=s;simp only at hs;have yB:((k:Int)<(items.length:Int)):=by omega
   have h5:out.length+1≤most:=by unfold most;omega
   have hkd:=fun b bk=>OG b y.l bk a (he y (aeb hy)) (by unfold most;omega);refine⟨?_,by simp[OP];omega⟩;unfold OP;generalize dm y.l a=q at *;obtain⟨kk,no⟩:=q;simp only at hkd ⊢;cases ok with
   |false=>simp[jJ,C8,xC,yB,hy,kx.a,hkd,append,h5,aA hk' hm,aH]
   |true=>
    by_cases h0:no=0
    ·simp[jJ,C8,xC,yB,hy,kx.a,hkd,append,h5,aA hk' hm,aH,h0]
    simp[jJ,C8,xC,yB,hy,kx.a,hkd,append,h5,aA hk' hm,aH,h0,al h0])
  (fun s _=>by simp[jJ,C8,xC]) (0,[],true) rfl
 have k1:=key.1;rw[F3]at k1;simp only[show ((0:Nat):Int)=0 from rfl,ah5,al5]at k1;have hl:(items.map fun e=>(dm e.l a).1).length=items.length:=by simp
 have hnn:items.length=0↔items=[]:=⟨fun h=>ahc h,fun h=>by rw[h];rfl⟩;generalize hK:(items.map fun e=>(dm e.l a).1)=K at *;generalize (items.all fun e=>(dm e.l a).2==0)=q at *;rw[hl]at k1;simp only[jJ,C8]at k1
 try simp only at k1
 have htk:List.take items.length (List.map (aa.int IntKind.i64) K)=List.map (aa.int IntKind.i64) K:=aea (by simp[hl]);simp at k1;have t1:(decide ((1:Int)≤items.length))=decide (1≤items.length):=by rw[arh];simp;omega
 have t2:(decide ((items.length:Int)≤16))=decide (items.length≤16):=by rw[arh];simp;omega
 by_cases c1:1≤items.length
 ·have c1':(1:Int)≤items.length:=by omega
  by_cases c2:items.length≤16
  ·have c2':(items.length:Int)≤16:=by omega
   cases q<;>simp[ax0,pE,k1,hl,htk,c1,c1',c2,c2',bT hσ,aZ,bQ]
  have c2':¬(items.length:Int)≤16:=by omega
  cases q<;>simp[ax0,pE,k1,hl,htk,c1,c1',c2,c2',bT hσ,aZ,bQ]
 have c1':¬(1:Int)≤items.length:=by omega
 cases q<;>simp[ax0,pE,k1,hl,htk,c1,c1',bT hσ,aZ,bQ]
abbrev jf(a:List Int)(s:Nat×List Int×Bool)(g:aT):Nat×List Int×Bool:=(s.1+1,s.2.1++[(lI a g).1],s.2.2&&(lI a g).2)
theorem Pn(a:List Int):∀(l:List aT) (s:Nat×List Int×Bool),l.foldl (jf a) s=(s.1+l.length,s.2.1++l.map (fun g=>(lI a g).1),s.2.2&&l.all fun g=>(lI a g).2)
 |[],s=>by simp
 |e::l,s=>by
  rw[ahw,Pn a l];simp[jf,atn,arJ,auf 1]
def aaQ(n:aO)(a:List Int):Bool:=(n.yo.all fun g=>(lI a g).2)&&decide (n.keys.length≤3)&&decide (n.yo.length≤12)&&decide (0<n.keys.length+n.yo.length)
theorem ard(n:aO)(ba:Bool)(a:List Int)(B:aa)(h1:n.op=4)(hk:n.keys.length≤8000)(hg:n.yo.length≤8000)(he:∀g∈n.yo,g.arg.length≤most)(hal:a.length≤8000)(σ:ah)(hσ:qB σ) :
  bK code I.qcj [n.a,.wh ba (bd a),B] σ=match fg a n.keys with
   |none=>some (.tup [.yz,.bool false],σ)
   |some ks=>some (.tup [.wh false (bd (ks++n.yo.map fun g=>(lI a g).1)),.bool (aaQ n a)],σ):=by
 rw[iR aaO rfl];have hkm:n.keys.length≤most:=by unfold most;omega
 have hgm:n.yo.length≤most:=by unfold most;omega
 have h:=cD (base:=σ.length+2) (clr:=[4,5,25,26]) (b:=wS) n.keys
  (fun k (s:Nat×List Int)=>⟨jJ n.a σ.length (.wh ba (bd a)) B .any .any (.sl (σ.length+1) s.1 0 s.2.length) (.bool true) .any (ac k) .any .any .any .any .any .any .any .any .any (ac 4) (.bool false) .any (.bool false) (.bool false) (.bool true) .any .any .any .any .any .any .any .any .any .any .any,C8 σ n.a s.1 s.2⟩)
  (fun k s=>s.2.length=k) (TG a)
  (fun s=>(.ext 3,⟨jJ n.a σ.length (.wh ba (bd a)) B .any .any (.sl (σ.length+1) s.1 0 s.2.length) (.bool true) .any (ac n.keys.length) .any .any .any .any .any .any .any .any .any (ac 4) (.bool false) .any (.bool false) (.bool false) (.bool true) (.bool false) .any .any .any .any .any .any .any .any .any .any,C8 σ n.a s.1 s.2⟩))
  (fun _ o=>∃s,o=(.ret,s)∧mj σ [.env 4,.env 5] (some (.ret,s))=some (.tup [.yz,.bool false],σ))
  (fun k x s hk' hy hs=>by
   obtain⟨ep,acc⟩:=s;simp only at hs;have yB:((k:Int)<(n.keys.length:Int)):=by omega
   have h5:acc.length+1≤most:=by unfold most;omega
   unfold TG;by_cases h1:0≤x
   ·by_cases h2:x<a.length
    ·rw[if_pos ⟨h1,h2⟩];refine⟨?_,by simp;omega⟩;have e1:¬(x<0):=by omega
     have e2:¬((a.length:Int)≤x):=by omega
     have e3:a[x.toNat]?=some (a.getD x.toNat 0):=by
      have:x.toNat < a.length:=by omega
      simp[ad4,this]
     generalize a.getD x.toNat 0=w at *;simp[jJ,C8,aO.a,wS,yB,hy,e1,e2,e3,h1,append,h5,aA hk' hkm,aH]
    rw[if_neg (fun h=>h2 h.2)];have e1:¬(x<0):=by omega
    have e2:((a.length:Int)≤x):=by omega
    exact⟨_,by simp[jJ,C8,aO.a,wS,yB,hy,e1,e2];rfl,_,rfl,by simp[bT hσ,aZ,bQ]⟩
   rw[if_neg (fun h=>h1 h.1)];have e1:(x<0):=by omega
   exact⟨_,by simp[jJ,C8,aO.a,wS,yB,hy,e1];rfl,_,rfl,by simp[bT hσ,aZ,bQ]⟩)
  (fun s hs=>by simp[jJ,C8,aO.a,wS]) (0,[]) rfl
 rw[B4]at h;have h2:=fun ks:List Int=>fun hks:ks.length=n.keys.length=>(bB (base:=σ.length+2) (clr:=[11,12,27]) (b:=EP) n.yo
  (fun k (s:Nat×List Int×Bool)=>⟨jJ n.a σ.length (.wh ba (bd a)) B .any .any (.sl (σ.length+1) s.1 0 s.2.1.length) (.bool s.2.2) .any (ac n.keys.length) (ac k) .any .any .any .any .any .any .any .any (ac 4) (.bool false) .any (.bool false) (.bool false) (.bool true) (.bool false) .any .any .any .any .any .any .any .any .any .any,C8 σ n.a s.1 s.2.1⟩)
  (fun k s=>s.2.1.length=n.keys.length+k) (jf a)
  (fun s=>(.ext 5,⟨jJ n.a σ.length (.wh ba (bd a)) B .any .any (.sl (σ.length+1) s.1 0 s.2.1.length) (.bool s.2.2) .any (ac n.keys.length) (ac n.yo.length) .any .any .any .any .any .any .any .any (ac 4) (.bool false) .any (.bool false) (.bool false) (.bool true) (.bool false) .any (.bool false) .any .any .any .any .any .any .any .any,C8 σ n.a s.1 s.2.1⟩))
  (fun k g s hk' hy hs=>by
   obtain⟨ep,acc,ok⟩:=s;simp only at hs;have yB:((k:Int)<(n.yo.length:Int)):=by omega
   have h5:acc.length+1≤most:=by unfold most;omega
   have hkd:=fun bk=>Je g bk a (he g (aeb hy)) (by unfold most;omega);refine⟨?_,by simp[jf];omega⟩;unfold jf;generalize lI a g=q at *;obtain⟨kk,may⟩:=q;simp only at hkd ⊢;cases ok<;>cases may<;>simp[jJ,C8,aO.a,EP,yB,hy,aT.a,hkd,append,h5,aA hk' hgm,aH])
  (fun s hs=>by simp[jJ,C8,aO.a,EP]) (n.keys.length,ks,true) hks).1
 simp only[Pn]at h2;cases hq:fg a n.keys with
 |none=>
  rw[hq]at h;obtain⟨o,h1',s,rfl,h3⟩:=h;obtain⟨op,l,r,tab,bk,xX,left,bc,cond,by',keys,bg,yo,bi,items,bo,ords,limit⟩:=n;simp only at h1;subst h1;simp only[jJ,C8,aO.a]at h1' ⊢;simp only[show ((0:Nat):Int)=0 from rfl]at h1';simp at h1';simp[ax0,pE,h1',-yx];exact h3
 |some ks=>
  rw[hq]at h;obtain⟨_,h1'⟩:=h;have hks:=iD hq;have h2':=h2 ks hks;unfold aaQ;generalize (n.yo.all fun g=>(lI a g).2)=q at *;generalize hG:(n.yo.map fun g=>(lI a g).1)=G at *;have hGl:G.length=n.yo.length:=by rw[←hG];simp
  obtain⟨op,l,r,tab,bk,xX,left,bc,cond,by',keys,bg,yo,bi,items,bo,ords,limit⟩:=n;simp only at h1 hks hGl hk hg;subst h1;simp only[jJ,C8,aO.a]at h1' h2' ⊢;simp only[show ((0:Nat):Int)=0 from rfl,ah5,apx,al5,hks]at h1' h2';have htk:List.take (keys.length+yo.length) (List.map (aa.int IntKind.i64) (ks++G))=List.map (aa.int IntKind.i64) (ks++G):=aea (by simp[hks,hGl]);simp[hks,hGl,-List.map_append]at h1' h2';by_cases c1:keys.length≤3
  ·have c1':(keys.length:Int)≤3:=by omega
   by_cases c2:yo.length≤12
   ·have c2':(yo.length:Int)≤12:=by omega
    by_cases c3:0<keys.length+yo.length
    ·have c3':(0:Int)<keys.length+yo.length:=by omega
     cases q<;>simp[ax0,pE,h1',h2',hks,hGl,htk,c1,c1',c2,c2',c3,c3',bT hσ,aZ,bQ,-List.map_append]
    have c3':¬(0:Int)<keys.length+yo.length:=by omega
    cases q<;>simp[ax0,pE,h1',h2',hks,hGl,htk,c1,c1',c2,c2',c3,c3',bT hσ,aZ,bQ,-List.map_append]
   have c2':¬(yo.length:Int)≤12:=by omega
   cases q<;>simp[ax0,pE,h1',h2',hks,hGl,htk,c1,c1',c2,c2',bT hσ,aZ,bQ,-List.map_append]
  have c1':¬(keys.length:Int)≤3:=by omega
  cases q<;>simp[ax0,pE,h1',h2',hks,hGl,htk,c1,c1',bT hσ,aZ,bQ,-List.map_append]
inductive NK where
 |n (x:aO)
 |sc
 |pr (at':Int) (a:List Int)
def kz(x:Int):kx:=⟨false,[if 0<x then ⟨2,-1,-1,x-1,aq⟩ else ⟨1,-1,-1,0,aq⟩]⟩
def QQ:aO:=⟨1,-1,-1,0,false,[1,2,3],false,false,[],false,[],false,[],false,[],false,[],0⟩
def F8(p:Int)(a:List Int):aO:=⟨5,p,-1,0,false,[],false,false,[],false,[],false,[],false,a.map kz,false,[],0⟩
def NK.x:NK→aO
 |.n x=>x
 |.sc=>QQ
 |.pr p a=>F8 p a
def NK.a:NK→aa
 |.n x=>x.a
 |.sc=>N1 (-1) (-1) 0 false [1,2,3] (.bool false) .yz .yz .yz .yz .yz (.int .i64 0)
 |.pr p a=>N5 (.int .i64 p) (.int .i64 (-1)) (.int .i64 0) .yz (.bool false) .yz .yz .yz false (a.map kz) .yz (.int .i64 0)
instance:Nc NK.a 12 true:=⟨fun y=>by cases y<;>rfl,fun y=>by cases y<;>rfl⟩
theorem MF(base:Nat)(σ:ah)(m:Nat)(k:NK):fz false true base σ (m+3) k.a=k.a:=by
 cases k with
 |n x=>exact Ft.ft (f:=aO.a) false true base σ m x rfl
 |sc=>simp[NK.a]
 |pr p a=>simp[NK.a]
theorem Vs(base:Nat)(σ:ah)(m:Nat)(k:NK):fz true false base σ (m+3) k.a=k.x.a:=by
 cases k with
 |n x=>exact Ft.ft (f:=aO.a) true false base σ m x rfl
 |sc=>simp[NK.a,NK.x,QQ,aO.a]
 |pr p a=>simp[NK.a,NK.x,F8,aO.a]
@[simp] theorem ah2(base:Nat)(σ:ah)(m:Nat)(l:List NK):List.map (fz true false base σ (m+3)∘NK.a) l=List.map aO.a (l.map NK.x):=by
 rw[aqS];exact aj6 fun y _=>Vs base σ m y
structure I4 (σ:ah) (id ep:Nat) (xQ:List NK):Prop where
 firm:qB σ
 lt:id<σ.length
 at':σ[id]?=some (.arr 12 ep (xQ.map NK.a))
 len:xQ.length≤most
abbrev LV(id ep len:Nat):aa:=.agg [.sl id ep 0 len]
theorem I4.get{σ:ah}{id ep:Nat}{xQ:List NK}(h:I4 σ id ep xQ)(τ:ah):(σ++τ)[id]?=some (.arr 12 ep (xQ.map NK.a)):=by
 rw[arw h.lt,h.at']
theorem qB.app{σ:ah}(h:qB σ)(t:ah)(ht:∀τ b,σ.length+t.length≤b→t.map (ap b τ)=t):qB (σ++t):=fun τ b hb=>by
 rw[aog]at hb;rw[arz,h τ b (by omega),ht τ b hb]
theorem I4.app{σ:ah}{id ep:Nat}{xQ:List NK}(h:I4 σ id ep xQ)(m:Nat)(n:NK):I4 (σ++[.arr 1 0 [LV id ep m],.arr 12 0 [n.a]]) id ep xQ:=
 ⟨h.firm.app _ fun τ b hb=>by
  have:=h.lt;have h1:id<b:=by omega
  have hnz:∀m,fz false true b τ (m+3) n.a=n.a:=fun m=>MF b τ m n;simp[ap,aZ,bQ,hnz,h1],by have:=h.lt;simp;omega,h.get _,h.len⟩
def adZ(σ:ah)(L:aa)(x:Int)(R:aa):Prop:=(x=-1∧R=.yz)∨(0≤x∧∃b,∃l:List Int,R=.wh b (l.map (.int .i64))∧bK code I.qce [L,ac x] σ=some (.tup [R,.bool true],σ))
theorem tA{σ:ah}{id ep:Nat}{xQ:List NK}(h:I4 σ id ep xQ){p:Nat}{n:NK}(hp:xQ[p]?=some n)(hs:dO (xQ.map NK.x) (p+1)≠0)(ho:sB n.x=true){RA RB R:aa}{ok:Bool}{l:List Int}
  (hA:adZ (σ++[.arr 1 0 [LV id ep xQ.length],.arr 12 0 [n.a]]) (LV id ep xQ.length) n.x.l RA) (hB:adZ (σ++[.arr 1 0 [LV id ep xQ.length],.arr 12 0 [n.a]]) (LV id ep xQ.length) n.x.r RB)
  (hk:bK code I.qcj [n.a,RA,RB] (σ++[.arr 1 0 [LV id ep xQ.length],.arr 12 0 [n.a]])=some (.tup [R,.bool ok],σ++[.arr 1 0 [LV id ep xQ.length],.arr 12 0 [n.a]])) (hR:eu R l) (h8:n.x.op=8→p+1=xQ.length) :
  bK code I.qce [LV id ep xQ.length,ac p] σ=some (if 16<l.length then .tup [.yz,.bool false] else .tup [R,.bool ok],σ):=by
 rw[iR aom rfl];have yB:p<xQ.length:=(aaN.1 hp).1;have hsz:=fun b=>abk (xQ.map NK.x) (by rw[ajk];exact h.len) (p+1) b (by rw[ajk];omega);have hpp:((p+1:Nat):Int)-1=(p:Int):=by omega
 rw[hpp]at hsz;simp only[aqS]at hsz;have hnx:∀a:NK,aw a.x.a=aw a.a:=fun a=>by cases a<;>rfl
 have hsz0:((dO (xQ.map NK.x) (p+1):Int)==0)=false:=by rw[atv];omega
 have hown:=EC n.x;rw[ho]at hown;have hget:=h.get;have hlt':=h.lt;have htk:List.take xQ.length (List.map NK.a xQ)=List.map NK.a xQ:=aea (by simp);have hw:IntKind.i64.wrap ((xQ.length:Int)-1)=(xQ.length:Int)-1:=bl (by have:=h.len;unfold most at this;omega);have h8':n.x.op=8→((p:Int) != (xQ.length:Int)-1)=false:=fun h=>by
  have:=h8 h;simp;omega
 have hfr:=h.firm;have hc0:(cellsOf n.a)[0]?=some (ac n.x.op):=by cases n<;>rfl
 have hc1:(cellsOf n.a)[1]?=some (ac n.x.l):=by cases n<;>rfl
 have hc2:(cellsOf n.a)[2]?=some (ac n.x.r):=by cases n<;>rfl
 have hnn:aw n.a=12∧isAgg n.a=true:=⟨Nc.nc n,Nc.ag n⟩;have hnz:=MF;have hns:=Vs;have hg:xQ[p]=n:=(aaN.1 hp).2;have hl16:(decide ((16:Int)<(l.length:Int)))=decide (16<l.length):=by rw[arh];simp;omega
 generalize dO (xQ.map NK.x) (p+1)=z at *;generalize n.x.op=op at *;generalize n.x.l=x at *;generalize n.x.r=y at *;have hop:∀q:Bool,(((op==8)&&((p:Int) != (xQ.length:Int)-1)) ||q)=q:=fun q=>by
  by_cases h:op=8
  ·rw[h8' h];simp
  simp[h]
 have hX:∀(R':aa),eu R' l→bK code I.qcj [n.a,RA,RB] (σ++[.arr 1 0 [LV id ep xQ.length],.arr 12 0 [n.a]])=some (.tup [R',.bool ok],σ++[.arr 1 0 [LV id ep xQ.length],.arr 12 0 [n.a]]) →
   mj σ ayi.res (run code ayi.body ⟨List.take ayi.np [LV id ep xQ.length,ac p]++List.replicate (ayi.nenv-ayi.np) .any,σ⟩)=some (if 16<l.length then .tup [.yz,.bool false] else .tup [R',.bool ok],σ):=by
  clear hk hR h8;intro R' hR' hk';by_cases c16:16<l.length
  ·have c16':(16:Int)<l.length:=by omega
   rw[if_pos c16];rcases hR' with⟨rfl,rfl⟩|⟨b,rfl⟩
   ·exact absurd c16 (by simp)
   rcases hA with⟨rfl,rfl⟩|⟨hx,ba,la,rfl,hA⟩<;>rcases hB with⟨rfl,rfl⟩|⟨hy,bb,lb,rfl,hB⟩<;>by_cases o8:op=8<;>(try (have h9:=h8' o8))<;>(try subst o8) <;>
    simp[ayi,abE,hget,yB,htk,hsz,hsz0,hp,hg,hown,hc0,hc1,hc2,hnn,hnz,hns,hnx,hw,bT hfr,aZ,bQ, *]
  have c16':¬(16:Int)<l.length:=by omega
  rw[if_neg c16];rcases hR' with⟨rfl,rfl⟩|⟨b,rfl⟩<;>rcases hA with⟨rfl,rfl⟩|⟨hx,ba,la,rfl,hA⟩<;>rcases hB with⟨rfl,rfl⟩|⟨hy,bb,lb,rfl,hB⟩<;>by_cases o8:op=8<;>(try (have h9:=h8' o8))<;>(try subst o8) <;>
   simp[ayi,abE,hget,yB,htk,hsz,hsz0,hp,hg,hown,hc0,hc1,hc2,hnn,hnz,hns,hnx,hw,bT hfr,aZ,bQ, *]
 exact hX R hR hk
theorem Cw{l:List aO}{m:Nat}{n:aO}(hn:l[m]?=some n):dO l (m+1) =
   if gC n.op=0 then (if n.l=-1∧n.r=-1 then 1 else 0)
   else if gC n.op=1 then (if n.l=(m:Int)-1∧n.r=-1∧dO l m≠0 then dO l m+1 else 0)
   else if gC n.op=2 then
    if dO l m=0∨n.r≠(m:Int)-1∨n.l≠(m:Int)-1-dO l m then 0
    else if dO l (m-dO l m)=0 then 0 else dO l (m-dO l m)+dO l m+1
   else 0:=by
 rw[dO,hn]
theorem QR{xQ:List NK}{p:Nat}(hp:xQ[p]?=some .sc):dO (xQ.map NK.x) (p+1)=1:=by
 rw[Cw (n:=QQ) (by rw[ate,hp];rfl)];simp[QQ,gC]
theorem Qb{xQ:List NK}{p:Nat}{a:List Int}(hp:xQ[p]?=some .sc)(hq:xQ[p+1]?=some (.pr p a)):dO (xQ.map NK.x) (p+1+1)=2:=by
 rw[Cw (n:=F8 p a) (by rw[ate,hq];rfl),QR hp];simp[F8,gC]
theorem SH{σ:ah}{id ep:Nat}{xQ:List NK}(h:I4 σ id ep xQ){p:Nat}(hp:xQ[p]?=some .sc) :
  bK code I.qce [LV id ep xQ.length,ac p] σ=some (.tup [.wh false ([1,2,3].map (.int .i64)),.bool true],σ):=by
 have h2:=h.app xQ.length .sc;have hk:=ak2 (-1) (-1) 0 false [1,2,3] (.bool false) .yz .yz .yz .yz .yz (ac 0) .yz .yz (by simp[most]) _ h2.firm;rw[show acP 0 [1,2,3]=true by decide]at hk;have:=tA h hp (by rw[QR hp];decide) (by decide) (RA:=.yz) (RB:=.yz) (.inl ⟨rfl,rfl⟩) (.inl ⟨rfl,rfl⟩) hk (Nl _ _) (fun h=>by simp[NK.x,QQ]at h);simpa using this
theorem Jz{x:Int}(h0:0≤x)(h3:x≤3):dm (kz x).l [1,2,3]=(x,0):=by
 have:x=0∨x=1∨x=2∨x=3:=by omega
 rcases this with rfl|rfl|rfl|rfl<;>decide
structure ae7 (a:List Int):Prop where
 pos:1≤a.length
 most:a.length≤16
 in':∀x∈a,0≤x∧x≤3
theorem SO{σ:ah}{id ep:Nat}{xQ:List NK}(h:I4 σ id ep xQ){p:Nat}{a:List Int}(hp:xQ[p]?=some .sc)(hq:xQ[p+1]?=some (.pr p a))(ha:ae7 a) :
  bK code I.qce [LV id ep xQ.length,ac ((p+1:Nat):Int)] σ=some (.tup [.wh false (a.map (.int .i64)),.bool true],σ):=by
 have h2:=h.app xQ.length (.pr p a)
 have hk:=ak1 (ac p) (ac (-1)) (ac 0) .yz (.bool false) .yz .yz .yz false (a.map kz) .yz (ac 0) false [1,2,3] .yz (by rw[ajk];have:=ha.most;omega) (fun e he=>by
  obtain⟨x,_,rfl⟩:=afJ.1 he;simp[kz,most]) (by simp) _ h2.firm
 have e1:((a.map kz).map fun e=>(dm e.l [1,2,3]).1)=a:=by
  rw[aqS]
  conv=>rhs;rw[←List.map_id a]
  refine aj6 fun x hx=>?_;have:=Jz (ha.in' x hx).1 (ha.in' x hx).2;simp[this]
 have e2:((a.map kz).all fun e=>(dm e.l [1,2,3]).2==0)=true:=by
  rw[afz];intro e he;obtain⟨x,hx,rfl⟩:=afJ.1 he;rw[Jz (ha.in' x hx).1 (ha.in' x hx).2];rfl
 rw[e1,e2,ajk,ar6 ha.pos,ar6 ha.most]at hk;have hsc:=SH h2 hp;have:=tA h hq (by rw[Qb hp hq];decide) (by simp[NK.x,F8,sB]) (RA:=.wh false ([1,2,3].map (.int .i64))) (RB:=.yz) (.inr ⟨by simp[NK.x,F8],false,[1,2,3],rfl,hsc⟩) (.inl ⟨rfl,rfl⟩) hk (Nl _ _) (fun h=>by simp[NK.x,F8]at h);rw[if_neg (by have:=ha.most;omega)]at this;exact this
theorem Jd{σ:ah}{id ep:Nat}{n:aO}{a:List Int}(h:I4 σ id ep [.sc,.pr 0 a,.n n])(ha:ae7 a)(hl:n.l=1)(hr:n.r=-1)(hp:gC n.op=1)(ho:sB n=true){R:aa}{ok:Bool}{l:List Int}
  (hk:∀τ,qB τ→bK code I.qcj [n.a,.wh false (a.map (.int .i64)),.yz] τ=some (.tup [R,.bool ok],τ)) (hR:eu R l) :
  bK code I.qce [LV id ep 3,ac 2] σ=some (if 16<l.length then .tup [.yz,.bool false] else .tup [R,.bool ok],σ):=by
 have h2:=h.app 3 (.n n);have s2:=Qb (xQ:=[.sc,.pr 0 a,.n n]) (p:=0) (a:=a) rfl rfl;have hA:=SO h2 (p:=0) (a:=a) rfl rfl ha;have:=tA h (p:=2) (n:=.n n) rfl (by
  rw[Cw (n:=n) rfl,hp,s2];simp[hl,hr]) ho (RA:=.wh false (a.map (.int .i64))) (RB:=.yz) (.inr ⟨by simp only[NK.x,hl];decide,false,a,rfl,by simp only[NK.x,hl];exact hA⟩) (.inl ⟨hr,rfl⟩) (hk _ h2.firm) hR (fun _=>rfl)
 exact this
@[simp] theorem amL{α:Type}(σ t:List α)(k:Nat):(σ++t).take (σ.length+k)=σ++t.take k:=by
 rw[List.take_append,aea (by omega)];simp
@[simp] theorem anN(b:Nat)(τ:ah):aZ b τ∘NK.a=NK.a:=funext fun k=>MF b τ 17 k
def Sc(c:aa):Prop:=c=.lst [ac 1,ac 2,ac 3]∨c=.wh false [ac 1,ac 2,ac 3]
abbrev aiU(c:aa):aa:=.agg [ac 1,ac (-1),ac (-1),ac 0,c,.bool false,.yz,.yz,.yz,.yz,.yz,ac 0]
abbrev ahN(p:Nat)(c:aa):aa:=.agg [ac 5,ac p,ac (-1),ac 0,.yz,.bool false,.yz,.yz,.yz,c,.yz,ac 0]
abbrev u0(n:aO)(pv:aa)(s plen i:Nat)(e6 e7 e8 e9 e10 e11 e15 e16 e17 e18 e19 e20 e21 e22:aa):List aa:=
 [n.a,pv,.ptr s 0 0 0,.any,.any,.ptr (s+1) 0 0 0,e6,e7,e8,e9,e10,e11,pv,ac plen,ac i,e15,e16,e17,e18,e19,e20,e21,e22]
abbrev Z4(σ:ah)(N:aO)(ep:Nat)(xQ:List NK):ah:=σ++[.arr 12 0 [N.a],.arr 1 0 [LV (σ.length+2) ep xQ.length],.arr 12 ep (xQ.map NK.a)]
abbrev eg(σ:ah)(N:aO)(ep:Nat)(xQ:List NK)(c:aa)(items:List kx):ah:=
 σ++[.arr 12 0 [N.a],.arr 1 0 [LV (σ.length+2) ep xQ.length],.arr 12 ep (xQ.map NK.a),.arr 12 0 [aiU c],.arr 12 0 [ahN xQ.length (.sl (σ.length+5) items.length 0 items.length)],.arr 1 items.length (items.map kx.a)]
theorem Uj(σ:ah)(hσ:qB σ)(n N:aO)(pv:aa)(hpv:∀b τ m,σ.length≤b→fz false true b τ (m+1) pv=pv)(plen i ep:Nat)(xQ:List NK)(b:Bool)(k:List Int)(hk:k.length≤16)(hin:∀x∈k,0≤x∧x≤3)(c:aa)(hc:Sc c) :
  ∃c',Sc c'∧aM code (σ.length+6) [10,11,20,21] xr ⟨u0 n pv σ.length plen i (ac i) (.wh b (k.map (.int .i64))) (.ptr (σ.length+3) 0 0 0) (.ptr (σ.length+4) 0 0 0) .any .any (.bool true) (.bool false) (.wh b (k.map (.int .i64))) (ac k.length) (ac 0) .any .any .any,eg σ N ep xQ c []⟩ =
   some (.ext 2,⟨u0 n pv σ.length plen i (ac i) (.wh b (k.map (.int .i64))) (.ptr (σ.length+3) 0 0 0) (.ptr (σ.length+4) 0 0 0) .any .any (.bool true) (.bool false) (.wh b (k.map (.int .i64))) (ac k.length) (ac k.length) (.bool false) .any .any,eg σ N ep xQ c' (k.map kz)⟩):=by
 have hm:k.length≤most:=by unfold most;omega
 have hσ':∀τ,σ.map (ap (σ.length+6) τ)=σ:=fun τ=>hσ τ _ (by omega);have hnz:∀(N:aO) base σ m,fz false true base σ (m+3) N.a=N.a:=fun N base σ m=>Ft.ft false true base σ m N rfl;have hpv':=fun τ m=>hpv (σ.length+6) τ m (by omega);have hnn:aw N.a=12:=rfl;have key:=eI (ρ:=Empty) (base:=σ.length+6) (clr:=[10,11,20,21]) (b:=xr) k
  (fun j (items:List kx) t=>items.length=j∧∃c,Sc c∧t=⟨u0 n pv σ.length plen i (ac i) (.wh b (k.map (.int .i64))) (.ptr (σ.length+3) 0 0 0) (.ptr (σ.length+4) 0 0 0) .any .any (.bool true) (.bool false) (.wh b (k.map (.int .i64))) (ac k.length) (ac j) .any .any .any,eg σ N ep xQ c items⟩)
  (fun _ x items=>.inl (items++[kz x]))
  (fun items o=>∃c,Sc c∧o=(.ext 2,⟨u0 n pv σ.length plen i (ac i) (.wh b (k.map (.int .i64))) (.ptr (σ.length+3) 0 0 0) (.ptr (σ.length+4) 0 0 0) .any .any (.bool true) (.bool false) (.wh b (k.map (.int .i64))) (ac k.length) (ac k.length) (.bool false) .any .any,eg σ N ep xQ c items⟩))
  (fun r _=>r.elim)
  (fun j x items t hj hy ht=>by
   obtain⟨hl,c,hc,rfl⟩:=ht;have yB:((j:Int)<(k.length:Int)):=by omega
   have h5:items.length+1≤most:=by unfold most;omega
   have hM:=fun bq=>aao (if 0<x then ⟨2,0,0,x-1,aq⟩ else ⟨1,0,0,0,aq⟩) bq;have hM':az I.qbv [EN.a (if 0<x then ⟨2,0,0,x-1,aq⟩ else ⟨1,0,0,0,aq⟩),.wh false []]=some (kz x).a:=by
    rw[hM];unfold kz kx.a;by_cases h:0<x<;>simp[h]
   have hI:(kz x).a=.agg [.wh false [EN.a (if 0<x then ⟨2,-1,-1,x-1,aq⟩ else ⟨1,-1,-1,0,aq⟩)]]:=by
    unfold kz kx.a;by_cases h:0<x<;>simp[h]
   simp only;refine⟨⟨u0 n pv σ.length plen i (ac i) (.wh b (k.map (.int .i64))) (.ptr (σ.length+3) 0 0 0) (.ptr (σ.length+4) 0 0 0) .any .any (.bool true) (.bool false) (.wh b (k.map (.int .i64))) (ac k.length) (ac (j+1:Nat)) .any .any .any,eg σ N ep xQ (.wh false [ac 1,ac 2,ac 3]) (items++[kz x])⟩,?_,by simp[hl],_,.inr rfl,rfl⟩;by_cases hx:0<x
   ·have hw:IntKind.i64.wrap (x-1)=x-1:=by
     have:=hin x (aeb hy);exact bl (by omega)
    simp only[if_pos hx]at hM' hI;simp only[EN.a,aq]at hM' hI;rcases hc with rfl|rfl<;>simp[u0,eg,xr,yB,hy,hx,hw,hM',hI,append,h5,aA hj hm,ar,ap,aZ,bQ,hσ',hnz,hnn,hpv']
   simp only[if_neg hx]at hM' hI;simp only[EN.a,aq]at hM' hI;rcases hc with rfl|rfl<;>simp[u0,eg,xr,yB,hy,hx,hM',hI,append,h5,aA hj hm,ar,ap,aZ,bQ,hσ',hnz,hnn,hpv'])
  (fun items t ht=>by
   obtain⟨hl,c,hc,rfl⟩:=ht;exact⟨_,by simp[xr],c,hc,rfl⟩) [] _ ⟨rfl,c,hc,rfl⟩
 rw[zH]at key;obtain⟨o,h1,c',h2,rfl⟩:=key;rw[ah5]at h1;exact⟨c',h2,h1⟩
@[simp] theorem apX(b:Nat)(τ:ah)(m:Nat)(x:Int):fz false false b τ (m+3) (kz x).a=(kz x).a:=by simp[kz,kx.a]
@[simp] theorem aqs(b:Nat)(τ:ah)(m:Nat):fz false false b τ (m+3)∘kx.a∘kz=kx.a∘kz:=funext fun x=>by simp[kz,kx.a]
@[simp] theorem afY(xs:List aa):cellsOf (.lst xs)=[.lst xs]:=rfl
def aen(i p:Nat)(N:aO):aO:=if i=0 then { N with l:=p } else { N with r:=p }
abbrev og(p:Nat)(k:List Int):List NK:=[.sc,.pr p k]
theorem Ta(σ:ah)(hσ:qB σ)(n N:aO)(pid pep plen i ep:Nat)(ks:List aa)(hpid:pid<σ.length)(hget:σ[pid]?=some (.arr 1 pep ks))(hi:i<plen)(hpl:plen≤2)(xQ:List NK)(hN:xQ.length≤16)(b:Bool)(k:List Int)(hki:ks[i]?=some (.wh b (k.map (.int .i64))))(hk:k.length≤16)(hs:lG k=false)(hin:∀x∈k,0≤x∧x≤3) :
  bM (σ.length+3) [3,4,6,7,8,9,10,11,15,16,17,18,19,20,21,22] mw (run code mw ⟨u0 n (.sl pid pep 0 plen) σ.length plen i .any .any .any .any .any .any .any .any .any .any .any .any .any .any,Z4 σ N ep xQ⟩) =
   aM code (σ.length+3) [3,4,6,7,8,9,10,11,15,16,17,18,19,20,21,22] mw ⟨u0 n (.sl pid pep 0 plen) σ.length plen (i+1) .any .any .any .any .any .any .any .any .any .any .any .any .any .any,Z4 σ (aen i (xQ.length+1) N) (ep+1) (xQ++og xQ.length k)⟩:=by
 have hg:∀τ,(σ++τ)[pid]?=some (.arr 1 pep ks):=fun τ=>by rw[arw hpid,hget]
 have yB:((i:Int)<(plen:Int)):=by omega
 have hpv:∀b τ m,σ.length≤b→fz false true b τ (m+1) (.sl pid pep 0 plen)=.sl pid pep 0 plen:=fun b τ m hb=>by
  have:pid<b:=by omega
  simp[this]
 have hsum:=fun b=>Py b k (by unfold most;omega);rw[hs]at hsum;have hσ':∀τ,σ.map (ap (σ.length+3) τ)=σ:=fun τ=>hσ τ _ (by omega);have hnz:∀(N:aO) base σ m,fz false true base σ (m+3) N.a=N.a:=fun N base σ m=>Ft.ft false true base σ m N rfl;have hnn:aw N.a=12:=rfl;have hil:(ks[i]?).isSome:=by rw[hki];rfl
 have hpvz:=fun τ m=>hpv (σ.length+3) τ m (by omega);have h5:xQ.length+2≤most:=by unfold most;omega
 have hwl:IntKind.i64.wrap ((xQ.length:Int)+2-1)=(xQ.length:Int)+1:=by rw[bl (by omega)];omega
 obtain⟨c',hc',hin'⟩:=Uj σ hσ n N (.sl pid pep 0 plen) hpv plen i ep xQ b k hk hin (.lst [ac 1,ac 2,ac 3]) (.inl rfl);simp[u0,eg,aiU,ahN,aO.a]at hin';have hpr:∀m,[aa.int .i64 5,ac xQ.length]=m→True:=fun _ _=>trivial;have hw1:IntKind.i64.wrap 1=1:=by decide
 have hwi:IntKind.i64.wrap ((i:Int)+1)=(i:Int)+1:=bl (by omega);unfold aen;by_cases h0:i=0
 ·subst h0;simp only[show ((0:Nat):Int)=0 from rfl]at hin';rcases hc' with rfl|rfl<;>simp[u0,Z4,mw,yB,hi,hg,hki,hsum,hnn,append,h5,hin',hwl,ar,ap,aZ,bQ,hσ',hnz,hpvz,hw1,hwi,NK.a,aO.a,N1,N5,LV]
 have h0':((i:Int)==0)=false:=by rw[atv];omega
 rcases hc' with rfl|rfl<;>simp[u0,Z4,mw,yB,hi,hg,hki,hsum,hnn,append,h5,hin',hwl,ar,ap,aZ,bQ,hσ',hnz,hpvz,hw1,hwi,NK.a,aO.a,N1,N5,LV,h0,h0']
@[local simp] theorem w0:IntKind.i64.wrap 0=0:=by decide
@[local simp] theorem w2:IntKind.i64.wrap 2=2:=by decide
@[local simp] theorem w4:IntKind.i64.wrap 4=4:=by decide
abbrev aeT:List Nat:=[3,4,6,7,8,9,10,11,15,16,17,18,19,20,21,22]
abbrev eO(n:aO)(pv:aa)(s plen i:Nat)(e15:aa):List aa:=u0 n pv s plen i .any .any .any .any .any .any e15 .any .any .any .any .any .any .any
theorem aaJ(σ:ah)(n N:aO)(pv:aa)(plen ep:Nat)(xQ:List NK) :
  aM code (σ.length+3) aeT mw ⟨eO n pv σ.length plen plen .any,Z4 σ N ep xQ⟩=some (.ext 0,⟨eO n pv σ.length plen plen (.bool false),Z4 σ N ep xQ⟩):=by
 rw[bj];simp[u0,mw]
theorem aag(σ:ah)(hσ:qB σ)(n N:aO)(pid pep plen i ep:Nat)(ks:List aa)(hpid:pid<σ.length)(hget:σ[pid]?=some (.arr 1 pep ks))(hi:i<plen)(xQ:List NK)(b:Bool)(k:List Int)(hki:ks[i]?=some (.wh b (k.map (.int .i64))))(hk:k.length≤16)(hs:lG k=true) :
  ∃s,aM code (σ.length+3) aeT mw ⟨eO n (.sl pid pep 0 plen) σ.length plen i .any,Z4 σ N ep xQ⟩=some (.ret,s)∧mj σ [.env 3,.env 4] (some (.ret,s))=some (.tup [.yz,.bool false],σ):=by
 have hg:∀τ,(σ++τ)[pid]?=some (.arr 1 pep ks):=fun τ=>by rw[arw hpid,hget]
 have yB:((i:Int)<(plen:Int)):=by omega
 have hsum:=fun b=>Py b k (by unfold most;omega);rw[hs]at hsum;rw[bj];exact⟨_,by simp[u0,Z4,mw,yB,hi,hg,hki,hsum];rfl,by simp[bT hσ,aZ,bQ]⟩
theorem XR(σ:ah)(hσ:qB σ)(N:aO)(ep:Nat)(xQ:List NK)(m:Nat)(hn:xQ.length≤most)(hm:m=xQ.length):I4 (σ++[.arr 12 0 [N.a],.arr 1 0 [LV (σ.length+2) ep m],.arr 12 ep (xQ.map NK.a)]) (σ.length+2) ep xQ:=
 ⟨hσ.app _ fun τ b hb=>by
  simp only[aiG,ak3]at hb;have h1:σ.length+2<b:=by omega
  have hnz:∀(N:aO) base σ m,fz false true base σ (m+3) N.a=N.a:=fun N base σ m=>Ft.ft false true base σ m N rfl;simp[ap,aZ,bQ,hnz,h1],by simp,by simp,hn⟩
def ae9(R:aa)(ok:Bool)(l:List Int):aa:=if 16<l.length then .tup [.yz,.bool false] else .tup [R,.bool ok]
theorem amC(σ:ah)(hσ:qB σ)(n:aO)(pid pep:Nat)(b:Bool)(a:List Int)(hpid:pid<σ.length)(hget:σ[pid]?=some (.arr 1 pep [.wh b (a.map (.int .i64))]))(ha:ae7 a)(hs:lG a=false)(hr:n.r=-1)(hp:gC n.op=1)(ho:sB n=true){R:aa}{ok:Bool}{l:List Int}
  (hk:∀τ,qB τ→bK code I.qcj [aO.a { n with l:=1 },.wh false (a.map (.int .i64)),.yz] τ=some (.tup [R,.bool ok],τ)) (hR:eu R l) :
  bK code I.qcp [n.a,.sl pid pep 0 1] σ=some (ae9 R ok l,σ):=by
 rw[iR aiB rfl];have hL:=XR σ hσ { n with l:=1 } 2 [.sc,.pr 0 a,.n { n with l:=1 }] 3 (by simp[most]) rfl;have hK:=Jd (n:={ n with l:=1 }) hL ha rfl hr hp ho hk hR;have hE:=Ta σ hσ n n pid pep 1 0 0 _ hpid hget (by omega) (by omega) [] (by simp) b a rfl ha.most hs ha.in';have hE2:=aaJ σ n (aen 0 1 n) (.sl pid pep 0 1) 1 1 [.sc,.pr 0 a];have hE3:=(bj _ _ _ _).trans (hE.trans hE2);have e:aen 0 1 n={ n with l:=1 }:=rfl;rw[e]at hE3;simp only[Z4,show ((0:Nat):Int)=0 from rfl]at hE3;simp[eO,aeT,u0,Z4,LV]at hE3;simp[NK.a,LV]at hK;unfold ae9;have hnn:aw n.a=12∧isAgg n.a=true:=⟨rfl,rfl⟩;have hnn':aw (aO.a { n with l:=1 })=12∧isAgg (aO.a { n with l:=1 })=true:=⟨rfl,rfl⟩;have hg:∀τ,(σ++τ)[pid]?=some (.arr 1 pep [.wh b (a.map (.int .i64))]):=fun τ=>by rw[arw hpid,hget]
 by_cases h:16<l.length
 ·rw[if_pos h]at hK ⊢;simp[ay8,U4,hE3,hnn,hnn',hg,NK.a,append,most,hK,bT hσ,aZ,bQ]
 rw[if_neg h]at hK ⊢;rcases hR with⟨rfl,rfl⟩|⟨b,rfl⟩<;>simp[ay8,U4,hE3,hnn,hnn',hg,NK.a,append,most,hK,bT hσ,aZ,bQ]
theorem alv(σ:ah)(hσ:qB σ)(n:aO)(pid pep:Nat)(b:Bool)(a:List Int)(hpid:pid<σ.length)(hget:σ[pid]?=some (.arr 1 pep [.wh b (a.map (.int .i64))]))(hal:a.length≤16)(hs:lG a=true) :
  bK code I.qcp [n.a,.sl pid pep 0 1] σ=some (.tup [.yz,.bool false],σ):=by
 rw[iR aiB rfl];obtain⟨s,hE,hE2⟩:=aag σ hσ n n pid pep 1 0 0 _ hpid hget (by omega) [] b a rfl hal hs
 try simp only[show ((0:Nat):Int)=0 from rfl]at hE
 simp[eO,aeT,u0,Z4,LV]at hE;have hnn:aw n.a=12∧isAgg n.a=true:=⟨rfl,rfl⟩;have hg:∀τ,(σ++τ)[pid]?=some (.arr 1 pep [.wh b (a.map (.int .i64))]):=fun τ=>by rw[arw hpid,hget]
 simp[ay8,U4,hE,hnn,hg,-yx];exact hE2
def Dv(xQ:List aO)(n:aO):List (List Int)→Option (List Int)
 |[]=>if n.op=1 then (if Z1 n then some n.xX else none) else if n.op=9 then (if gg n then some n.xX else none) else none
 |[a]=>
  if n.op=3 then (if Ll n.cond a then some a else none)
  else if n.op=4 then ((fg a n.keys).bind fun ks=>if ei n a then some (ks++n.yo.map fun g=>(jM a g).2) else none)
  else if n.op=5 then ((B8 a n.items).bind fun ks=>if 0<ks.length then some ks else none)
  else if n.op=6 then some a
  else if n.op=8 then (if sortF n a then some a else none)
  else if n.op=10 then ((fg a n.keys).bind fun ks=>if ei n a then some (ks++n.yo.map (rp a)) else none)
  else if n.op=11 then (xQ[n.l.toNat]?).bind fun m=>if jr n m a&&(dT a 0 n.keys&&dU a n.keys.length n.yo) then some (iF n.keys.length n.yo a) else none
  else none
 |[a,b]=>
  if n.op=2 then (if Ll n.cond (a++b) then some (a++b) else none)
  else if n.op=7 then (if a.length=b.length then mr a b else none)
  else none
 |_=>none
theorem akC(xQ:List aO)(n:aO)(ps:List (eJ Int)):(ya xQ n ps).map (·.l)=Dv xQ n (ps.map (·.l)):=by
 match ps with
 |[]=>
  simp only[ya,Dv,ajo];split<;>(try split)<;>(try split)<;>rfl
 |[a]=>
  simp only[ya,Dv,af6,ajo];split
  ·split<;>rfl
  split
  ·cases fg a.l n.keys<;>simp only[auT,al7,auY];split<;>rfl
  split
  ·cases B8 a.l n.items<;>simp only[auT,al7,auY];split<;>rfl
  split
  ·rfl
  split
  ·split<;>rfl
  split
  ·cases fg a.l n.keys<;>simp only[auT,al7,auY];split<;>rfl
  split
  ·cases xQ[n.l.toNat]?<;>simp only[auT,al7,auY];split<;>rfl
  rfl
 |[a,b]=>
  simp only[ya,Dv,af6,ajo];split
  ·split<;>rfl
  split
  ·split
   ·cases mr a.l b.l<;>rfl
   rfl
  rfl
 |_::_::_::_=>rfl
def oZ(xQ:List aO)(i:Nat)(n:aO)(xX:List (List Int))(opn:List Nat):Option (List Int×List Nat):=
 match je n opn with
 |none=>none
 |some ps=>
  if (ps.any fun p=>(n.op != 11)&&lG (xX.getD p []))=true∨mu n i xQ.length=false then none else
  match Dv xQ n (ps.map fun p=>xX.getD p []) with
  |none=>none
  |some res=>if 16<res.length then none else some (res,opn.take (opn.length-ps.length)++[i])
theorem adX(xX:List (eJ Int))(p:Nat):(xX.getD p sn).l=(xX.map (·.l)).getD p []:=by
 rw[ad4,ad4,ate];cases xX[p]?<;>rfl
theorem acy(xQ:List aO)(i:Nat)(n:aO)(xX:List (eJ Int))(opn:List Nat):(fV xQ i n xX opn).map (fun p=>(p.1.l,p.2))=oZ xQ i n (xX.map (·.l)) opn:=by
 unfold fV oZ;cases je n opn with
 |none=>rfl
 |some ps=>
  simp only;have e:(ps.any fun p=>(n.op != 11)&&lG (xX.getD p sn).l)=ps.any fun p=>(n.op != 11)&&lG ((xX.map (·.l)).getD p []):=by
   congr 1;funext p;rw[adX]
  rw[e];split
  ·rfl
  have ho:=akC xQ n (ps.map fun p=>xX.getD p sn);rw[aqS]at ho;have e2:(ps.map ((·.l)∘fun p=>xX.getD p sn))=ps.map fun p=>(xX.map (·.l)).getD p []:=aj6 fun p _=>adX xX p;rw[e2]at ho;rw[←ho];cases ya xQ n (ps.map fun p=>xX.getD p sn) with
  |none=>rfl
  |some r=>
   simp only[atH];split<;>rfl
def Tc(xQ:List aO):List aO→Nat→List (List Int)→List Nat→(List (List Int)×List Nat)⊕Nat
 |[],_,k,o=>.inl (k,o)
 |n::r,i,k,o=>match oZ xQ i n k o with
  |none=>.inr i
  |some (x,o')=>Tc xQ r (i+1) (k++[x]) o'
theorem WL(xQ:List aO):∀(l:List aO) (i:Nat) (k:List (eJ Int)) (o:List Nat),Tc xQ l i (k.map (·.l)) o=match YH xQ l i k o with
  |.inl (k',o')=>.inl (k'.map (·.l),o')
  |.inr j=>.inr j
 |[],i,k,o=>rfl
 |n::l,i,k,o=>by
  have h:=acy xQ i n k o;simp only[YH,Tc];rw[←h];cases fV xQ i n k o with
  |none=>rfl
  |some q=>
   simp only[atH];have:=WL xQ l (i+1) (k++[q.1]) q.2;rw[arz,af6,ajo]at this;exact this
def Iy(ok:Bool)(l:List Int):Option (List Int):=if ok=true∧l.length≤16 then some l else none
theorem PD(a:List Int):∀(l:List kx),B8 a l=if (l.all fun e=>(dm e.l a).2==0)=true then some (l.map fun e=>(dm e.l a).1) else none
 |[]=>rfl
 |e::l=>by
  simp only[B8,aty,af6];rw[PD a l];by_cases h:(dm e.l a).2=0
  ·rw[if_pos h,h];simp only[atT,al5];split<;>rfl
  rw[if_neg h,al h];rfl
theorem ae5(a:List Int)(l:List aT):(l.all fun g=>(lI a g).2)=l.all fun g=>(jM a g).1:=by
 congr 1;funext g;exact (Ou a g).1
theorem afQ(a:List Int)(l:List aT)(h:(l.all fun g=>(jM a g).1)=true):(l.map fun g=>(lI a g).1)=l.map fun g=>(jM a g).2:=aj6 fun g hg=>(Ou a g).2 (afz.1 h g hg)
theorem Xg(n:aO)(a:List Int):aaQ n a=ei n a:=by
 unfold aaQ ei;rw[ae5];cases (n.yo.all fun g=>(jM a g).1)<;>simp[atn]
theorem XL(n:aO)(a ks:List Int)(hks:fg a n.keys=some ks):Iy (aaQ n a) (ks++n.yo.map fun g=>(lI a g).1)=if ei n a then some (ks++n.yo.map fun g=>(jM a g).2) else none:=by
 unfold Iy;rw[Xg];cases h:ei n a with
 |false=>rw[if_neg (by simp)];rfl
 |true=>
  have h':=h;unfold ei at h';simp only[acz,ad7]at h';have hl:=iD hks;rw[if_pos ⟨rfl,by simp;omega⟩,afQ a n.yo h'.2];rfl
abbrev jV:List Nat:=[1,2,4,5,6,7,8,9,10,15,16,17,18,19,20,21,22,23,24,25]
abbrev IS(bn:Bool)(xQ:List aO)(k:Nat)(out:List (eJ Int)):St:=
 ⟨[.wh bn (xQ.map aO.a),.any,.any,.sl 0 k 0 k,.any,.any,.any,.any,.any,.any,.any,.bool false,.wh bn (xQ.map aO.a),ac xQ.length,ac k,.any,.any,.any,.any,.any,.any,.any,.any,.any,.any,.any,.any],[.arr 1 k (out.map (eJ.c (.int .i64)))]⟩
def HM(bn:Bool)(xQ:List aO)(k:Nat)(out:List (eJ Int))(t:Option (Ex×St)):Option (List Int)→Prop
 |none=>∃s,t=some (.ret,s)∧bF .pure [.env 1,.env 2] (some (.ret,s))=some (.tup [.wh false [],.int .i64 k])
 |some r=>∃b,t=aM code 1 jV ej (IS bn xQ (k+1) (out++[⟨b,r⟩]))
noncomputable abbrev Oa(bn:Bool)(xQ:List aO)(k:Nat)(out:List (eJ Int)):Option (Ex×St):=bM 1 jV ej (run code ej (IS bn xQ k out))
def NX(σ:ah)(n:aO)(pv:aa):Option (List Int)→Prop
 |none=>∃R,(R=.yz∨∃b,∃l:List Int,R=.wh b (l.map (.int .i64)))∧bK code I.qcp [n.a,pv] σ=some (.tup [R,.bool false],σ)
 |some r=>∃b,bK code I.qcp [n.a,pv] σ=some (.tup [.wh b (r.map (.int .i64)),.bool true],σ)
theorem R6{σ:ah}{n:aO}{pv R:aa}{ok:Bool}{l:List Int}(h:bK code I.qcp [n.a,pv] σ=some (ae9 R ok l,σ))(hR:eu R l)(hl:ok=true→0<l.length):NX σ n pv (Iy ok l):=by
 unfold ae9 at h;unfold Iy;by_cases c:16<l.length
 ·rw[if_pos c]at h;rw[if_neg (by omega)];exact⟨_,.inl rfl,h⟩
 rw[if_neg c]at h;cases ok with
 |false=>
  rw[if_neg (by simp)];rcases hR with⟨rfl,_⟩|⟨b,rfl⟩
  ·exact⟨_,.inl rfl,h⟩
  exact⟨_,.inr ⟨b,l,rfl⟩,h⟩
 |true=>
  rw[if_pos ⟨rfl,by omega⟩];rcases hR with⟨_,rfl⟩|⟨b,rfl⟩
  ·exact absurd (hl rfl) (by simp)
  exact⟨b,h⟩
structure gE (bn:Bool) (xQ:List aO) (k:Nat) (n:aO) (out:List (eJ Int)):Prop where
 len:xQ.length≤60
 at':xQ[k]?=some n
 out:out.length=k
 size:0<cg xQ (k+1)
 own:D5 n=true
theorem gE.facts{bn:Bool}{xQ:List aO}{k:Nat}{n:aO}{out:List (eJ Int)}(h:gE bn xQ k n out) :
  k<xQ.length∧xQ[k]?=some n∧((k:Int)<(xQ.length:Int))∧(∀b,az I.qcs [.wh b (xQ.map aO.a),ac k]=some (ac (cg xQ (k+1))))∧((0:Int)<(cg xQ (k+1):Int))∧az I.qcq [n.a]=some (.bool true) ∧
  ((k:Int) != IntKind.i64.wrap ((xQ.length:Int)-1))=(k != xQ.length-1)∧IntKind.i64.wrap ((k:Int)+1)=((k+1:Nat):Int)∧k+1≤most∧List.take k (List.map (eJ.c (aa.int .i64)) out)=List.map (eJ.c (aa.int .i64)) out:=by
 have yB:=(aaN.1 h.at').1;have hl:=h.len;have ho:=h.out;have hs:=h.size;refine⟨yB,h.at',by omega,fun b=>?_,by omega,?_,?_,?_,by unfold most;omega,aea (by simp;omega)⟩
 ·have:=Hk xQ (by unfold most;omega) (k+1) b (by omega);rw[show ((k+1:Nat):Int)-1=(k:Int) by omega]at this;exact this
 ·have:=We n;rw[h.own]at this;exact this
 ·rw[bl (by omega),arh];simp only[atU,ne_eq];omega
 rw[bl (by omega)];omega
theorem af4(bn:Bool)(xQ:List aO)(hN:xQ.length≤60)(k:Nat)(n:aO)(hn:xQ[k]?=some n)(out:List (eJ Int))(hk:out.length=k)(h:(decide (0<cg xQ (k+1))&&D5 n)=false):HM bn xQ k out (Oa bn xQ k out) none:=by
 have yB:=(aaN.1 hn).1;have hlt':((k:Int)<(xQ.length:Int)):=by omega
 have hsz:=fun b=>Hk xQ (by unfold most;omega) (k+1) b (by omega);rw[show ((k+1:Nat):Int)-1=(k:Int) by omega]at hsz;have hown:=We n;obtain⟨op,a,b,tab,bk,xX,left,bc,cond,by',keys,bg,yo,bi,items,bo,ords,limit⟩:=n;by_cases hs:0<cg xQ (k+1)
 ·have hs':(0:Int)<(cg xQ (k+1):Int):=by omega
  rw[ar6 hs,al5]at h;rw[h]at hown;simp only[aO.a]at hown;by_cases o8:op=8
  ·subst o8;exact⟨_,by simp[Oa,IS,jV,ej,hlt',hn,aO.a,hsz,hs,hs',hown];rfl,by simp⟩
  by_cases o10:op=10
  ·subst o10;exact⟨_,by simp[Oa,IS,jV,ej,hlt',hn,aO.a,hsz,hs,hs',hown];rfl,by simp⟩
  exact⟨_,by simp[Oa,IS,jV,ej,hlt',hn,aO.a,hsz,hs,hs',hown,o8,o10,al o8,al o10];rfl,by simp⟩
 have hs':¬(0:Int)<(cg xQ (k+1):Int):=by omega
 by_cases o8:op=8
 ·subst o8;exact⟨_,by simp[Oa,IS,jV,ej,hlt',hn,aO.a,hsz,hs,hs'];rfl,by simp⟩
 by_cases o10:op=10
 ·subst o10;exact⟨_,by simp[Oa,IS,jV,ej,hlt',hn,aO.a,hsz,hs,hs'];rfl,by simp⟩
 exact⟨_,by simp[Oa,IS,jV,ej,hlt',hn,aO.a,hsz,hs,hs',o8,o10,al o8,al o10];rfl,by simp⟩
theorem apv{bn:Bool}{xQ:List aO}{k:Nat}{n:aO}{out:List (eJ Int)}(h:gE bn xQ k n out)(h9:n.op=9)(hl:n.l=-1)(hr:n.r=-1)(hkn:n.xX.length≤most) :
  HM bn xQ k out (Oa bn xQ k out) (if gg n then some n.xX else none):=by
 obtain⟨f1,f2,f3,f4,f5,f6,f7,f8,f9,f10⟩:=h.facts;have f0:=h.size;have ho:=h.out;have hF:qB [.arr 1 k (out.map (eJ.c (.int .i64))),.arr 12 0 [n.a],.arr 1 0 []]:=fun τ b _=>by
  have hnz:∀(N:aO) base σ m,fz false true base σ (m+3) N.a=N.a:=fun N base σ m=>Ft.ft false true base σ m N rfl;simp[ap,aZ,bQ,hnz]
 have hI:=XQ n hkn _ hF;obtain⟨op,a,b,tab,bk,xX,left,bc,cond,by',keys,bg,yo,bi,items,bo,ords,limit⟩:=n;simp only at h9 hl hr;subst h9 hl hr;generalize gg _=q at *;simp only[aO.a]at *;cases q with
 |false=>exact⟨_,by simp[Oa,IS,jV,ej,aO.a,f2,f3,f4,f5,f0,f6,hI];rfl,by simp⟩
 |true=>
  rw[if_pos rfl];refine⟨bk,?_⟩;simp[Oa,IS,jV,ej,eJ.c,aO.a,f2,f3,f4,f5,f0,f6,f8,f9,f10,hI,append,ho,ar,ap,aZ,bQ]
theorem aeK(k ep:Nat)(out:List (eJ Int))(n g:aO)(ps:List (eJ Int)):qB [.arr 1 k (out.map (eJ.c (.int .i64))),.arr 12 0 [n.a],.arr 1 ep (ps.map (eJ.c (.int .i64))),.arr 12 0 [g.a]]:=fun τ b _=>by
 have hnz:∀(N:aO) base σ m,fz false true base σ (m+3) N.a=N.a:=fun N base σ m=>Ft.ft false true base σ m N rfl;simp[ap,aZ,bQ,hnz]
abbrev aeZ(k ep:Nat)(out:List (eJ Int))(n:aO)(ps:List (eJ Int)):ah:=[.arr 1 k (out.map (eJ.c (.int .i64))),.arr 12 0 [n.a],.arr 1 ep (ps.map (eJ.c (.int .i64)))]
def Jx(n:aO)(i len:Nat)(o:Option (List Int)):Option (List Int):=if mu n i len=true then o else none
theorem akG{bn:Bool}{xQ:List aO}{k:Nat}{n:aO}{out:List (eJ Int)}(h:gE bn xQ k n out)(h10:n.op=10){p:Nat}(hl:n.l=p)(hr:n.r=-1){s:eJ Int}(hp:out[p]?=some s){o:Option (List Int)}(hO:NX (aeZ k 1 out n [s]++[.arr 12 0 [aO.a { n with op:=4 }]]) { n with op:=4 } (.sl 2 1 0 1) o)(hlen:∀r,o=some r→r.length=n.keys.length+n.yo.length∧r.length≤8000) :
  HM bn xQ k out (Oa bn xQ k out) (Jx n k xQ.length (o.map (vL n.keys.length n.yo 0))):=by
 obtain⟨f1,f2,f3,f4,f5,f6,f7,f8,f9,f10⟩:=h.facts;have f0:=h.size;have ho:=h.out;have hpk:p<k:=by have:=(aaN.1 hp).1;omega
 have hpe:∀hh:p<out.length,out[p]'hh=s:=fun hh=>(aaN.1 hp).2;have hpm:(List.map (eJ.c (.int .i64)) out)[p]?=some (.wh s.b (s.l.map (.int .i64))):=by rw[ate,hp];rfl
 have hp1:(1:Nat)≤most:=by simp[most]
 have hP:=fun r hr b=>P1 n b r (hlen r hr).1 (hlen r hr).2;unfold Jx mu;obtain⟨op,a0,b0,tab,bk,xX,left,bc,cond,by',keys,bg,yo,bi,items,bo,ords,limit⟩:=n;simp only at h10 hl hr;subst h10 hl hr;simp only[aO.a]at *;cases o with
 |none=>
  obtain⟨R,hR,hI⟩:=hO;rw[auY,ite_self];rcases hR with rfl|⟨b,l,rfl⟩<;>simp only[aO.a,aeZ,af6,ajo,eJ.c,an7,ah5]at hI<;>exact⟨_,by simp[Oa,IS,jV,ej,aO.a,eJ.c,f2,f3,f4,f5,f0,f6,hI,append,hp1,ho,hpk,hpm,hpe,hp];rfl,by simp⟩
 |some r=>
  obtain⟨b,hI⟩:=hO;have hP':=hP r rfl;simp only[aO.a,aeZ,af6,ajo,eJ.c,an7,ah5]at hI;cases hq:(k != xQ.length-1) with
  |true=>
   rw[hq]at f7;rw[if_neg (by simp)];exact⟨_,by simp[Oa,IS,jV,ej,aO.a,eJ.c,f2,f3,f4,f5,f0,f6,f7,hI,hP',append,hp1,ho,hpk,hpm,hpe,hp];rfl,by simp⟩
  |false=>
   rw[hq]at f7;rw[if_pos (by simp)];refine⟨false,?_⟩;simp[Oa,IS,jV,ej,aO.a,eJ.c,f2,f3,f4,f5,f0,f6,f7,f8,f9,f10,hI,hP',append,hp1,ho,hpk,hpm,hpe,hp,ar,ap,aZ,bQ]
theorem alw{bn:Bool}{xQ:List aO}{k:Nat}{n:aO}{out:List (eJ Int)}(h:gE bn xQ k n out)(h11:n.op=11){p:Nat}(hl:n.l=p)(hr:n.r=-1){s:eJ Int}(hp:out[p]?=some s){m:aO}(hm:xQ[p]?=some m)(hs:s.l.length≤8000)(hk1:n.keys.length≤kV)(hk2:n.yo.length≤kV) :
  HM bn xQ k out (Oa bn xQ k out) (if (xV n s.l).2=true∧m.op=9 then some (xV n s.l).1 else none):=by
 obtain⟨f1,f2,f3,f4,f5,f6,f7,f8,f9,f10⟩:=h.facts;have f0:=h.size;have ho:=h.out;have hpk:p<k:=by have:=(aaN.1 hp).1;omega
 have hpe:∀hh:p<out.length,out[p]'hh=s:=fun hh=>(aaN.1 hp).2;have hpm:(List.map (eJ.c (.int .i64)) out)[p]?=some (.wh s.b (s.l.map (.int .i64))):=by rw[ate,hp];rfl
 have hp1:(1:Nat)≤most:=by simp[most]
 have hI:=fun b=>X9 n b s.l hs hk1 hk2;generalize xV n s.l=F at *;obtain⟨r,ok⟩:=F;obtain⟨op,a0,b0,tab,bk,xX,left,bc,cond,by',keys,bg,yo,bi,items,bo,ords,limit⟩:=n;obtain⟨mop,ma0,mb0,mtab,mbk,mkinds,mleft,mbc,mcond,mby',mkeys,mbg,maggs,mbi,mitems,mbo,mords,mlimit⟩:=m;simp only at h11 hl hr;subst h11 hl hr;simp only[aO.a]at *;cases ok with
 |false=>
  rw[if_neg (by simp)];exact⟨_,by simp[Oa,IS,jV,ej,aO.a,eJ.c,f2,f3,f4,f5,f0,f6,hI,append,hp1,ho,hpk,hpm,hpe,hp,hm];rfl,by simp⟩
 |true=>
  by_cases hm9:mop=9
  ·subst hm9;rw[if_pos ⟨rfl,rfl⟩];refine⟨false,?_⟩;simp[Oa,IS,jV,ej,aO.a,eJ.c,f2,f3,f4,f5,f0,f6,f8,f9,f10,hI,append,hp1,ho,hpk,hpm,hpe,hp,hm,ar,ap,aZ,bQ]
  rw[if_neg (fun h=>hm9 h.2)];exact⟨_,by simp[Oa,IS,jV,ej,aO.a,eJ.c,f2,f3,f4,f5,f0,f6,hI,append,hp1,ho,hpk,hpm,hpe,hp,hm,hm9,al hm9];rfl,by simp⟩
theorem agG{xX:List Int}(h:xX.any zm=false):∀x∈xX,Fk x:=fun x hx=>by
 have:zm x=false:=by
  cases hq:zm x
  ·rfl
  exact absurd (arL.2 ⟨x,hx,hq⟩) (by rw[h];simp)
 unfold zm at this;simp at this;exact⟨by omega,by omega⟩
theorem DR{e:List EN}{xX:List Int}(h:(dm e xX).2=0):Fk (dm e xX).1:=by
 unfold dm at h ⊢;by_cases c1:si e=false
 ·rw[if_pos c1]at h;cases h
 rw[if_neg c1]at h ⊢;by_cases c2:xX.any zm=true
 ·rw[if_pos c2]at h;cases h
 rw[if_neg c2]at h ⊢;by_cases c3:((fu e).any fun c=>decide ((xX.length:Int)≤c))=true
 ·rw[if_pos c3]at h;cases h
 rw[if_neg c3]at h ⊢;have hks:=agG (by simpa using c2);obtain⟨a,o,_,_,_,_,hp⟩:=ME hks (by simpa using c1) e.length (aes _);unfold Cg at hp;rw[atd]at hp;unfold jg at h ⊢;rcases hp with⟨own,_,_,h3,h4⟩|⟨_,h4⟩
 ·rw[h4];simp only;cases o with
  |nil=>exact (⟨by decide,by decide⟩:Fk 0)
  |cons p r=>exact wE h3 p
 rw[h4]at h;cases h
structure Good (a:List Int):Prop where
 pos:1≤a.length
 most:a.length≤16
 in':∀x∈a,0≤x∧x≤4
theorem Good.fine{a:List Int}(h:Good a)(hs:lG a=false):ae7 a:=⟨h.pos,h.most,fun x hx=>by
 have:=h.in' x hx;have h4:x≠4:=fun e=>by
  have:lG a=true:=arL.2 ⟨x,hx,by rw[e];rfl⟩;rw[hs]at this;cases this
 omega⟩
abbrev fy(a:List Int):Prop:=∀x∈a,0≤x∧x≤4
theorem adE{a:List Int}{g:aT}(h:(jM a g).1=true):0≤(jM a g).2∧(jM a g).2≤4:=by
 unfold jM at h ⊢;by_cases h1:g.tag=1
 ·rw[if_pos h1];exact (⟨by decide,by decide⟩:(0:Int)≤2∧(2:Int)≤4)
 rw[if_neg h1]at h ⊢;simp only[acz,afE]at h;have:=DR h.1.1.1;unfold Fk at this;by_cases h45:g.tag=4∨g.tag=5
 ·simp only[if_pos h45];omega
 simp only[if_neg h45];decide
theorem Wb{a l ks:List Int}(h:fg a l=some ks)(ha:fy a):fy ks:=by
 unfold fg at h;split at h
 ·rename_i hall;cases h;intro x hx;obtain⟨k,hk,rfl⟩:=afJ.1 hx;have:=afz.1 hall k hk;simp only[acz,ad7]at this;have yB:k.toNat < a.length:=by omega
  rw[ad4,ad3 yB];exact ha _ (agL _)
 cases h
theorem Jp:∀(l:List aT) (i:Nat) (a:List Int),fy a→fy (iF i l a)
 |[],i,a,h=>h
 |g::l,i,a,h=>by
  rw[iF];refine Jp l (i+1) _ ?_;split
  ·intro x hx;rcases aua hx with h1|rfl
   ·exact h x h1
   exact⟨by decide,by decide⟩
  exact h
theorem O6:∀{a b r:List Int},mr a b=some r→fy a→fy b→fy r
 |[],b,r,h,_,_=>by cases b<;>cases h<;>intro x hx<;>cases hx
 |_::_,[],r,h,_,_=>by cases h
 |k::a,o::b,r,h,ha,hb=>by
  rw[mr]at h;by_cases c:o≠0∧o≠(if k=0 then o else k)
  ·rw[if_pos c]at h;cases h
  rw[if_neg c]at h;cases hu:mr a b with
  |none=>rw[hu]at h;cases h
  |some r'=>
   rw[hu]at h;cases h;intro x hx;rcases arm.1 hx with rfl|hx
   ·split
    ·exact hb o (by simp)
    exact ha k (by simp)
   exact O6 hu (fun y hy=>ha y (aer _ hy)) (fun y hy=>hb y (aer _ hy)) x hx
theorem Qc{xQ:List aO}{n:aO}{ps:List (List Int)}(hp:∀a∈ps,Good a){r:List Int}(h:Dv xQ n ps=some r)(hl:r.length≤16):Good r:=by
 match ps,hp,h with
 |[],_,h=>
  simp only[Dv]at h;split at h
  ·split at h
   ·rename_i hs;cases h;unfold Z1 at hs;simp only[acz,ad7,as9]at hs;refine⟨by omega,hl,fun x hx=>?_⟩;have hq:(decide (x<1) ||decide (3<x))=false:=by
     cases hc:(decide (x<1) ||decide (3<x))
     ·rfl
     exact absurd (arL.2 ⟨x,hx,hc⟩) (by rw[hs.1.1.1.1];simp)
    simp at hq;omega
   cases h
  split at h
  ·split at h
   ·rename_i hs;cases h;unfold gg at hs;simp only[acz,ad7,as9]at hs;refine⟨by omega,hl,fun x hx=>?_⟩;have hq:(decide (x<0) ||decide (4<x))=false:=by
     cases hc:(decide (x<0) ||decide (4<x))
     ·rfl
     exact absurd (arL.2 ⟨x,hx,hc⟩) (by rw[hs.1.1.1.1];simp)
    simp at hq;omega
   cases h
  cases h
 |[a],hp,h=>
  have ha:=hp a (by simp);simp only[Dv]at h;split at h
  ·split at h
   ·cases h;exact ha
   cases h
  split at h
  ·cases hk:fg a n.keys with
   |none=>rw[hk]at h;cases h
   |some ks=>
    rw[hk]at h;simp only[al7]at h;split at h
    ·rename_i hg;cases h;unfold ei at hg;simp only[acz,ad7]at hg;refine⟨by rw[aog,ajk,iD hk];omega,hl,fun x hx=>?_⟩;rcases aoS.1 hx with hx|hx
     ·exact Wb hk ha.in' x hx
     obtain⟨g,hgm,rfl⟩:=afJ.1 hx;exact adE (afz.1 hg.2 g hgm)
    cases h
  split at h
  ·rw[PD]at h;split at h
   ·rename_i hi;simp only[al7]at h;split at h
    ·cases h;refine⟨by omega,hl,fun x hx=>?_⟩;obtain⟨e,he,rfl⟩:=afJ.1 hx;have:=DR (e:=e.l) (xX:=a) (by simpa using afz.1 hi e he);unfold Fk at this;omega
    cases h
   cases h
  split at h
  ·cases h;exact ha
  split at h
  ·split at h
   ·cases h;exact ha
   cases h
  split at h
  ·cases hk:fg a n.keys with
   |none=>rw[hk]at h;cases h
   |some ks=>
    rw[hk]at h;simp only[al7]at h;split at h
    ·rename_i hg;cases h;unfold ei at hg;simp only[acz,ad7]at hg;refine⟨by rw[aog,ajk,iD hk];omega,hl,fun x hx=>?_⟩;rcases aoS.1 hx with hx|hx
     ·exact Wb hk ha.in' x hx
     obtain⟨g,hgm,rfl⟩:=afJ.1 hx;have:=adE (afz.1 hg.2 g hgm);unfold rp;split
     ·omega
     exact this
    cases h
  split at h
  ·cases hm:xQ[n.l.toNat]? with
   |none=>rw[hm]at h;cases h
   |some m=>
    rw[hm]at h;simp only[al7]at h;split at h
    ·cases h;refine⟨by rw[tS];exact ha.pos,hl,Jp _ _ _ ha.in'⟩
    cases h
  cases h
 |[a,b],hp,h=>
  have ha:=hp a (by simp);have hb:=hp b (by simp);simp only[Dv]at h;split at h
  ·split at h
   ·cases h;refine⟨by rw[aog];have:=ha.pos;omega,hl,fun x hx=>?_⟩;rcases aoS.1 hx with hx|hx
    ·exact ha.in' x hx
    exact hb.in' x hx
   cases h
  split at h
  ·split at h
   ·refine⟨by rw[FK h];exact ha.pos,hl,O6 h ha.in' hb.in'⟩
   cases h
  cases h
 |_::_::_::_,_,h=>cases h
def Is(o:Option (List Int)):Option (List Int):=o.bind fun r=>if 16<r.length then none else some r
theorem Y5{n:aO}{o ps:List Nat}(h:je n o=some ps) :
  (ps=[]∧n.l=-1∧n.r=-1∧bD n.op=0)∨(∃p,ps=[p]∧n.l=(p:Int)∧n.r=-1∧bD n.op=1∧p∈o)∨(∃p q,ps=[p,q]∧n.l=(p:Int)∧n.r=(q:Int)∧bD n.op=2∧p∈o∧q∈o):=by
 unfold je at h;split at h
 ·cases h
 rename_i hc;have hpl:=xv n.op;have h0:0≤bD n.op:=by
  have:¬bD n.op<0:=fun h=>hc (.inl h);omega
 have h1:bD n.op≤o.length:=by
  have:¬((o.length:Int)<bD n.op):=fun h=>hc (.inr (.inl h));omega
 have hm:∀p∈o.drop (o.length-(bD n.op).toNat),p∈o:=fun p hp=>asW hp;have hl:(o.drop (o.length-(bD n.op).toNat)).length=(bD n.op).toNat:=by rw[atj];omega
 split at h
 ·rename_i hd;rw[hd]at hl;split at h
  ·rename_i hlr;cases h;exact .inl ⟨rfl,hlr.1,hlr.2,by simp at hl;omega⟩
  cases h
 ·rename_i p hd;rw[hd]at hm hl;split at h
  ·rename_i hlr;cases h;exact .inr (.inl ⟨p,rfl,hlr.1,hlr.2,by simp at hl;omega,hm p (by simp)⟩)
  cases h
 ·rename_i p q hd;rw[hd]at hm hl;split at h
  ·rename_i hlr;cases h;exact .inr (.inr ⟨p,q,rfl,hlr.1,hlr.2,by simp at hl;omega,hm p (by simp),hm q (by simp)⟩)
  cases h
 cases h
theorem Yt{xQ:List aO}{k:Nat}{n:aO}{xX:List (List Int)}{opn:List Nat}(h:je n opn=some [])(h8:n.op≠8)(h10:n.op≠10):(oZ xQ k n xX opn).map (·.1)=Is (Dv xQ n []):=by
 unfold oZ Is;rw[h];have hr:mu n k xQ.length=true:=by unfold mu;rw[al h8,al h10];rfl
 simp only[auR,hr,ajo];rw[if_neg (by simp)];cases Dv xQ n [] with
 |none=>rfl
 |some r=>simp only[al7];split<;>rfl
theorem aaX{xQ:List aO}{k:Nat}{n:aO}{xX:List (List Int)}{opn:List Nat}{p:Nat}{a:List Int}(h:je n opn=some [p])(ha:xX.getD p []=a):(oZ xQ k n xX opn).map (·.1)=Jx n k xQ.length (if ((n.op != 11)&&lG a)=true then none else Is (Dv xQ n [a])):=by
 unfold oZ Is Jx;rw[h];simp only[aub,auR,avM,af6,ajo,ha];cases hs:((n.op != 11)&&lG a) with
 |true=>
  simp only[aml,true_or];rw[ite_self];rfl
 |false=>
  cases hr:mu n k xQ.length with
  |false=>simp
  |true=>
   rw[if_neg (by simp)];simp only[aml,ai1,ali];cases Dv xQ n [a] with
   |none=>rfl
   |some r=>simp only[al7];split<;>rfl
theorem aaM{σ:ah}(hσ:qB σ)(n:aO){pid pep:Nat}{s:eJ Int}(hpid:pid<σ.length)(hget:σ[pid]?=some (.arr 1 pep [.wh s.b (s.l.map (.int .i64))]))(hG:Good s.l)(hr:n.r=-1)(hp:gC n.op=1)(ho:sB n=true){R:aa}{ok:Bool}{l:List Int}
  (hk:∀τ,qB τ→bK code I.qcj [aO.a { n with l:=1 },.wh false (s.l.map (.int .i64)),.yz] τ=some (.tup [R,.bool ok],τ)) (hR:eu R l) (hl:ok=true→0<l.length) :
  NX σ n (.sl pid pep 0 1) (if lG s.l=true then none else Iy ok l):=by
 cases hs:lG s.l with
 |true=>exact⟨_,.inl rfl,alv σ hσ n pid pep s.b s.l hpid hget hG.most hs⟩
 |false=>
  rw[if_neg (by simp)];exact R6 (amC σ hσ n pid pep s.b s.l hpid hget (hG.fine hs) hs hr hp ho hk hR) hR hl
structure PG (xQ:List aO) (k:Nat) (out:List (eJ Int)) (opn:List Nat):Prop where
 len:out.length=k
 tile:DW xQ k opn.reverse
 lt:∀p∈opn,p<k
 good:∀x∈out,Good x.l
theorem QH(n:aO)(a:List Int)(h4:n.op=4)(hF:NFit n)(hk:n.keys.length≤8000)(hg:n.yo.length≤8000)(ha:a.length≤8000):∃R ok l,eu R l∧(ok=true→0<l.length)∧(∀τ,qB τ→bK code I.qcj [n.a,.wh false (a.map (.int .i64)),.yz] τ=some (.tup [R,.bool ok],τ)) ∧
  Iy ok l=(fg a n.keys).bind fun ks=>if ei n a then some (ks++n.yo.map fun g=>(jM a g).2) else none:=by
 have hm:kV≤most:=by decide
 have h:=fun τ hτ=>ard n false a .yz h4 hk hg (fun g hg=>als (hF.args g hg) hm) ha τ hτ;cases hq:fg a n.keys with
 |none=>
  rw[hq]at h;exact⟨.yz,false,[],.inl ⟨rfl,rfl⟩,fun h=>(by cases h),h,rfl⟩
 |some ks=>
  rw[hq]at h;refine⟨_,_,_,Nl false _,fun hok=>?_,h,?_⟩
  ·rw[Xg]at hok;unfold ei at hok;simp only[acz,ad7]at hok;rw[aog,ajk,iD hq];exact hok.1.2
  rw[XL n a ks hq];rfl
structure lO (n:aO):Prop extends NFew n where
 keys':n.keys.length≤8000
 aggs':n.yo.length≤8000
 items':n.items.length≤8000
theorem akk{bn:Bool}{xQ:List aO}(hN:xQ.length≤60){k:Nat}{n:aO}(hn:xQ[k]?=some n)(hF:lO n){out:List (eJ Int)}{opn:List Nat}(hI:PG xQ k out opn) :
  HM bn xQ k out (Oa bn xQ k out) ((oZ xQ k n (out.map (·.l)) opn).map (·.1)):=by
 have hm:kV≤most:=by decide
 have hpi:=akA hn hI.tile;have yB:=(aaN.1 hn).1;cases hpre:je n opn with
 |none=>
  rw[hpre]at hpi;have e:oZ xQ k n (out.map (·.l)) opn=none:=by unfold oZ;rw[hpre]
  rw[e];exact af4 bn xQ hN k n hn out hI.len hpi.symm
 |some ps=>
  rw[hpre]at hpi;have hso:=hpi.symm;simp only[Option.isSome_some,acz,ad7]at hso;have hR:gE bn xQ k n out:=⟨hN,hn,hI.len,hso.1,hso.2⟩;have hown:=hso.2;rcases Y5 hpre with⟨rfl,hl,hr,hp⟩|⟨p,rfl,hl,hr,hp,hpo⟩|⟨p,q,rfl,hl,hr,hp,hpo,hqo⟩
  ·
   have h19:n.op=1∨n.op=9:=by
    unfold bD at hp;split at hp
    ·assumption
    split at hp
    ·cases hp
    split at hp<;>cases hp
   rcases h19 with h1|h9
   ·exact absurd hF.few (by omega)
   rw[Yt hpre (by omega) (by omega)];have e:Dv xQ n []=if gg n=true then some n.xX else none:=by simp only[Dv];rw[if_neg (by omega),if_pos h9]
   have e2:Is (Dv xQ n [])=if gg n=true then some n.xX else none:=by
    rw[e];unfold Is;cases hi:gg n with
    |false=>rfl
    |true=>
     unfold gg at hi;simp only[acz,ad7]at hi;simp only[aml,al7];rw[if_neg (by omega)]
   rw[e2];exact apv hR h9 hl hr (als hF.xX hm)
  ·
   have hpk:=hI.lt p hpo;obtain⟨s,hs⟩:∃s,out[p]?=some s:=⟨_,ad3 (by rw[hI.len];exact hpk)⟩;have hG:=hI.good s (aeb hs);have hgd:(out.map (·.l)).getD p []=s.l:=by rw[ad4,ate,hs];rfl
   rw[aaX hpre hgd];have hsl:s.l.length≤8000:=by have:=hG.most;omega
   by_cases h11:n.op=11
   ·have hm':xQ[p]?=some xQ[p]:=ad3 (by omega);have e:Dv xQ n [s.l]=if (xV n s.l).2=true∧xQ[p].op=9 then some (xV n s.l).1 else none:=by
     simp only[Dv];rw[if_neg (by omega),if_neg (by omega),if_neg (by omega),if_neg (by omega),if_neg (by omega),if_neg (by omega),if_pos h11,hl,show ((p:Int)).toNat=p by omega,hm',QZ n s.l (fun h=>by have:=hG.pos;rw[h]at this;simp at this)];simp only[al7];unfold jr;cases (dT s.l 0 n.keys&&dU s.l n.keys.length n.yo) with
     |false=>simp
     |true=>
      by_cases h9:xQ[p].op=9
      ·rw[h9];simp only[atT,al5,auq];cases (decide (n.keys.length≤3)&&decide (n.yo.length≤12)&&n.keys.length+n.yo.length==s.l.length)<;>simp
      rw[al h9];simp[h9]
    have e2:Is (Dv xQ n [s.l])=Dv xQ n [s.l]:=by
     have hg:=fun r hr=>Qc (xQ:=xQ) (n:=n) (ps:=[s.l]) (fun a ha=>by rw[arq.1 ha];exact hG) (r:=r) hr;rw[e];unfold Is;split
     ·simp only[al7];rw[if_neg];rename_i hc;have hf:=hc.1;rw[QZ n s.l (fun h=>by have:=hG.pos;rw[h]at this;simp at this)]at hf ⊢;split at hf
      ·rename_i hx;rw[if_pos hx];simp only;rw[tS];have:=hG.most;omega
      cases hf
     rfl
    have hr8:Jx n k xQ.length (if ((n.op != 11)&&lG s.l)=true then none else Is (Dv xQ n [s.l]))=Dv xQ n [s.l]:=by
     unfold Jx mu;rw[h11,e2];rfl
    rw[hr8,e];exact alw hR h11 hl hr hs hm' hsl hF.keys hF.yo
   have h11':(n.op != 11)=true:=by simp[h11]
   rw[h11',al5];by_cases h10:n.op=10
   ·have hown4:sB { n with op:=4 }=true:=by
     unfold D5 at hown;rw[if_neg (by omega),if_pos (.inl h10)]at hown;exact hown
    have hF4:NFit { n with op:=4,l:=1 }:=⟨hF.xX,hF.cond,hF.keys,hF.yo,hF.args,hF.items,hF.exprs,hF.ords⟩;obtain⟨R,ok,l,hRL,hpos,hk,hans⟩:=QH { n with op:=4,l:=1 } s.l rfl hF4 hF.keys' hF.aggs' hsl;have hO:=aaM (aeK k 1 out n { n with op:=4 } [s]) { n with op:=4 } (pid:=2) (pep:=1) (s:=s) (by simp) rfl hG hr rfl hown4 hk hRL hpos;have hO':NX (aeZ k 1 out n [s]++[.arr 12 0 [aO.a { n with op:=4 }]]) { n with op:=4 } (.sl 2 1 0 1) (if lG s.l=true then none else Iy ok l):=hO;have hans':Iy ok l=(fg s.l n.keys).bind fun ks=>if ei n s.l then some (ks++n.yo.map fun g=>(jM s.l g).2) else none:=hans
    have key:∀r,Iy ok l=some r→∃ks,fg s.l n.keys=some ks∧ei n s.l=true∧r=ks++n.yo.map fun g=>(jM s.l g).2:=fun r hr=>by
     rw[hans']at hr;cases hq:fg s.l n.keys with
     |none=>rw[hq]at hr;cases hr
     |some ks=>
      rw[hq]at hr;simp only[al7]at hr;split at hr
      ·cases hr;exact⟨ks,rfl,by assumption,rfl⟩
      cases hr
    have hlen:∀r,(if lG s.l=true then none else Iy ok l)=some r→r.length=n.keys.length+n.yo.length∧r.length≤8000:=fun r hr=>by
     split at hr
     ·cases hr
     obtain⟨ks,k1,k2,rfl⟩:=key r hr;unfold ei at k2;simp only[acz,ad7]at k2;rw[aog,ajk,iD k1];omega
    have hfin:=akG hR h10 hl hr hs hO' hlen;have e:(if lG s.l=true then none else Iy ok l).map (vL n.keys.length n.yo 0)=if lG s.l=true then none else Is (Dv xQ n [s.l]):=by
     split
     ·rfl
     have eo:Dv xQ n [s.l]=(fg s.l n.keys).bind fun ks=>if ei n s.l then some (ks++n.yo.map (rp s.l)) else none:=by
      simp only[Dv];rw[if_neg (by omega),if_neg (by omega),if_neg (by omega),if_neg (by omega),if_neg (by omega),if_pos h10]
     rw[eo,hans'];cases hq:fg s.l n.keys with
     |none=>rfl
     |some ks=>
      simp only[al7];cases ha:ei n s.l with
      |false=>rfl
      |true=>
       simp only[aml,atH];unfold Is;simp only[al7];have ha':=ha;unfold ei at ha';simp only[acz,ad7]at ha';have hkl:=iD hq;rw[if_neg (by rw[aog,ajk];omega)];have hs18:=Jn s.l ks n n.yo.length 0 (by omega);have e0:tF s.l ks n 0=ks++n.yo.map fun g=>(jM s.l g).2:=by simp[tF]
       have e1:tF s.l ks n n.yo.length=ks++n.yo.map (rp s.l):=by simp[tF]
       rw[e0,e1,auu,hkl]at hs18;rw[hs18]
    rw[e]at hfin;exact hfin
   exfalso;rcases hF.few with h|h|h
   ·rw[h]at hp;exact absurd hp (by decide)
   ·exact h10 h
   exact h11 h
  exfalso;rcases hF.few with h|h|h<;>(rw[h]at hp;exact absurd hp (by decide))
theorem adx{l:List aO}{k:Nat}{r:List Nat}(hk:0<k)(h:DW l k r):cg l k=k↔r.length=1:=by
 have hle:=GP l k
 match r,h with
 |[],h=>have:k=0:=h;omega
 |[p],h=>
  obtain⟨_,h2,h3⟩:=h;have:k-cg l k=0:=h3;exact⟨fun _=>rfl,fun _=>by omega⟩
 |p::q::r,h=>
  obtain⟨_,h2,h3⟩:=h;obtain⟨h4,_,_⟩:=h3;exact⟨fun h=>by omega,fun h=>by simp at h⟩
theorem UB{xQ:List aO}{k:Nat}{n:aO}(hn:xQ[k]?=some n){out:List (eJ Int)}{opn o':List Nat}{x:List Int}(hI:PG xQ k out opn)(h:oZ xQ k n (out.map (·.l)) opn=some (x,o'))(b:Bool):PG xQ (k+1) (out++[⟨b,x⟩]) o':=by
 unfold oZ at h;cases hp:je n opn with
 |none=>rw[hp]at h;cases h
 |some ps=>
  rw[hp]at h;simp only at h;split at h
  ·cases h
  cases ho:Dv xQ n (ps.map fun p=>(out.map (·.l)).getD p []) with
  |none=>rw[ho]at h;cases h
  |some r=>
   rw[ho]at h;simp only at h;split at h
   ·cases h
   rename_i hw;cases h;refine⟨by simp[hI.len],(Qx hn hI.tile hp).1,fun p hp'=>?_,fun y hy=>?_⟩
   ·rcases aoS.1 hp' with h|h
    ·have:=hI.lt p (akt h);omega
    rw[arq.1 h];omega
   rcases aoS.1 hy with h|h
   ·exact hI.good y h
   rw[arq.1 h];show Good x;refine Qc (fun a ha=>?_) ho (by omega);obtain⟨p,hpp,rfl⟩:=afJ.1 ha;have yB:=ZR (l:=xQ) (k:=k) hp hI.lt p hpp;have hlt':p<out.length:=by rw[hI.len];exact yB
   have hg:out[p]?=some out[p]:=ad3 hlt';rw[ad4,ate,hg];exact hI.good _ (agL _)
def lA(xQ:List aO)(k:Nat)(n:aO)(s:List (List Int)×List Nat):(List (List Int)×List Nat)⊕Nat:=
 match oZ xQ k n s.1 s.2 with
 |none=>.inr k
 |some (x,o')=>.inl (s.1++[x],o')
theorem PI(xQ:List aO):∀(l:List aO) (i:Nat) (s:List (List Int)×List Nat),aV (lA xQ) l i s=Tc xQ l i s.1 s.2
 |[],i,s=>rfl
 |n::l,i,s=>by
  simp only[aV,Tc,lA];cases oZ xQ i n s.1 s.2 with
  |none=>rfl
  |some q=>exact PI xQ l (i+1) _
abbrev akE(bn:Bool)(xQ:List aO)(out:List (eJ Int)):St:=
 ⟨[.wh bn (xQ.map aO.a),.any,.any,.sl 0 xQ.length 0 xQ.length,.any,.any,.any,.any,.any,.any,.any,.bool false,.wh bn (xQ.map aO.a),ac xQ.length,ac xQ.length,.bool false,.any,.any,.any,.any,.any,.any,.any,.any,.any,.any,.any],[.arr 1 xQ.length (out.map (eJ.c (.int .i64)))]⟩
theorem agZ(bn:Bool)(xQ:List aO)(hN:xQ.length≤60)(hF:∀n∈xQ,lO n) :
  match Tc xQ xQ 0 [] [] with
  |.inl (L,o)=>∃out,out.length=xQ.length∧DW xQ xQ.length o.reverse∧aM code 1 jV ej (IS bn xQ 0 [])=some (.ext 0,akE bn xQ out)
  |.inr i=>∃s,aM code 1 jV ej (IS bn xQ 0 [])=some (.ret,s)∧bF .pure [.env 1,.env 2] (some (.ret,s))=some (.tup [.wh false [],.int .i64 i]):=by
 have key:=eI (base:=1) (clr:=jV) (b:=ej) xQ
  (fun k (s:List (List Int)×List Nat) t=>∃out:List (eJ Int),out.map (·.l)=s.1∧PG xQ k out s.2∧t=IS bn xQ k out)
  (lA xQ)
  (fun s o=>∃out:List (eJ Int),PG xQ xQ.length out s.2∧o=(.ext 0,akE bn xQ out))
  (fun i o=>∃s,o=(.ret,s)∧bF .pure [.env 1,.env 2] (some (.ret,s))=some (.tup [.wh false [],ac i]))
  (fun k n s t hk hn ht=>by
   obtain⟨L,opn⟩:=s;obtain⟨out,rfl,hI,rfl⟩:=ht;have hs:=akk (bn:=bn) hN hn (hF n (aeb hn)) hI;unfold lA;simp only at hI ⊢;cases hq:oZ xQ k n (out.map (·.l)) opn with
   |none=>
    rw[hq]at hs;obtain⟨s,h1,h2⟩:=hs;exact⟨_,h1,s,rfl,h2⟩
   |some q=>
    obtain⟨x,o'⟩:=q;rw[hq]at hs;obtain⟨b,h1⟩:=hs;exact⟨_,h1,out++[⟨b,x⟩],by simp,UB hn hI hq b,rfl⟩)
  (fun s t ht=>by
   obtain⟨out,_,hI,rfl⟩:=ht;exact⟨_,by simp[IS,ej],out,hI,rfl⟩) ([],[]) _ ⟨[],rfl,⟨rfl,rfl,by simp,by simp⟩,rfl⟩
 rw[PI]at key;cases hq:Tc xQ xQ 0 [] [] with
 |inl q=>
  obtain⟨L,o⟩:=q;rw[hq]at key;obtain⟨_,h1,out,hI,rfl⟩:=key;exact⟨out,hI.len,hI.tile,h1⟩
 |inr i=>
  rw[hq]at key;obtain⟨_,h1,s,rfl,h2⟩:=key;exact⟨s,h1,h2⟩
def abj(xQ:List aO):Int:=match fZ xQ with
 |.inl _=>-1
 |.inr i=>i
theorem Ye(bn:Bool)(xQ:List aO)(hF:∀n∈xQ,lO n)(hN:xQ.length≤most):∃X,az I.qcl [.wh bn (xQ.map aO.a)]=some (.tup [X,ac (abj xQ)]):=by
 rw[am apC rfl];unfold abj fZ;by_cases h1:xQ.length<1
 ·have h1':((xQ.length:Int)<1):=by omega
  rw[if_pos (.inl h1)];exact⟨_,by simp[ayr,JQ,h1'];rfl⟩
 by_cases h2:60<xQ.length
 ·have h1':¬((xQ.length:Int)<1):=by omega
  have h2':((60:Int)<xQ.length):=by omega
  rw[if_pos (.inr h2)];exact⟨_,by simp[ayr,JQ,h1',h2'];rfl⟩
 rw[if_neg (fun h=>h.elim h1 h2)];have h1':¬((xQ.length:Int)<1):=by omega
 have h2':¬((60:Int)<xQ.length):=by omega
 have hl:=agZ bn xQ (by omega) hF;have hk:=WL xQ xQ 0 [] [];rw[ajo]at hk;rw[hk]at hl;have hw:IntKind.i64.wrap ((xQ.length:Int)-1)=(xQ.length:Int)-1:=bl (by omega);have hsz:=fun b=>Hk xQ hN xQ.length b (aes _);cases hg:YH xQ xQ 0 [] [] with
 |inr i=>
  rw[hg]at hl;obtain⟨s,h3,h4⟩:=hl;simp only[IS,jV]at h3;simp only[show ((0:Nat):Int)=0 from rfl]at h3;simp at h3;exact⟨_,by simp[ayr,JQ,h1',h2',h3,-bP];exact h4⟩
 |inl q=>
  obtain⟨ks,o⟩:=q;rw[hg]at hl;obtain⟨out,hlen,ht,h3⟩:=hl;simp only[IS,akE,jV]at h3;simp only[show ((0:Nat):Int)=0 from rfl]at h3;simp at h3;have he:=adx (by omega) ht;rw[List.length_reverse]at he;simp only;by_cases ho:o.length=1
  ·rw[if_pos ho];have hs:=he.2 ho;rw[hs]at hsz;exact⟨_,by simp[ayr,JQ,h1',h2',h3,hw,hsz];rfl⟩
  rw[if_neg ho];have hs:cg xQ xQ.length≠xQ.length:=fun h=>ho (he.1 h);have hs':((cg xQ xQ.length:Int) != (xQ.length:Int))=true:=by simp;omega
  have hc:((xQ.length-1:Nat):Int)=(xQ.length:Int)-1:=by omega
  exact⟨_,by simp[ayr,JQ,h1',h2',h3,hw,hsz,hs,hs',hc];rfl⟩

instance:Nc (fun r=>aa.wh true (bZ r)) 1 false:=⟨fun _=>rfl,fun _=>rfl⟩
theorem alK(mo:Int)(b c:Bool)(L:List aa)(ep:Nat)(rs:av)(hn:rs.length≤most) :
  aM code 2 [4,5,6,10,11,12,13] Ag ⟨[.wh b L,ac mo,.yz,.sl 0 0 0 0,.any,.any,.any,.sl 1 ep 0 rs.length,ac rs.length,ac 0,.any,.any,.any,.any],[.arr 1 0 [],.arr 1 ep (ce true rs)]⟩ =
   some (.ext 0,⟨[.wh b L,ac mo,.yz,.sl 0 rs.length 0 rs.length,.any,.any,.any,.sl 1 ep 0 rs.length,ac rs.length,ac rs.length,.bool false,.any,.any,.any],[.arr 1 rs.length (ce false (rs.map kR)),.arr 1 ep (ce true rs)]⟩):=by
 have:=bU (base:=2) (clr:=[4,5,6,10,11,12,13]) (b:=Ag) (fun k=>⟨[.wh b L,ac mo,.yz,.sl 0 k 0 k,.any,.any,.any,.sl 1 ep 0 rs.length,ac rs.length,ac k,.any,.any,.any,.any],[.arr 1 k (ce false ((rs.map kR).take k)),.arr 1 ep (ce true rs)]⟩) rs.length
  (.ext 0,⟨[.wh b L,ac mo,.yz,.sl 0 rs.length 0 rs.length,.any,.any,.any,.sl 1 ep 0 rs.length,ac rs.length,ac rs.length,.bool false,.any,.any,.any],[.arr 1 rs.length (ce false (rs.map kR)),.arr 1 ep (ce true rs)]⟩)
  (fun k hk=>by
   have h1:=Yj (b:=true) hk;have yB:((k:Int)<(rs.length:Int)):=by omega
   have h3:=QV true rs[k];have hk':k<(rs.map kR).length:=by simpa using hk
   have h4:min k rs.length=k:=by omega
   have h5:k+1≤most:=by omega
   have h6:=Tm hk';have h6':(rs.map kR)[k]=kR rs[k]:=by simp
   rw[h6']at h6;have h9:(ce false ((rs.map kR).take k)).take k=ce false ((rs.map kR).take k):=aea (by simp;omega);have h8:=fun top base σ n=>QM ((rs.map kR).take k) top base σ n;have h10:=Le ((rs.map kR).take k) 2;have h11:=ack ((rs.map kR).take k) 2;have h0:=fun e0 e1 e2 e3 e4 e7 e8 e9 e10 A B=>anT e0 e1 e2 e3 e4 e7 e8 e9 e10 A B (rs[k].take 17) (by simp;unfold most;omega);have h12:(bZ (kR rs[k])).take (kR rs[k]).length=bZ (kR rs[k]):=aea (by simp);have h13:=afd (kR rs[k]);have h14:(rs[k].take 17).length=(kR rs[k]).length:=by simp[kR]
   have h15:((rs[k].take 17).map El)=kR rs[k]:=rfl;have h16:∀base σ n,(ce true rs).map (fz false true base σ (n+1))=ce true rs:=fun base σ n=>by
    unfold ce;rw[aqS];exact aj6 fun r _=>by simp
   have h17:∀σ,(ce true rs).map (aZ 2 σ)=ce true rs:=fun σ=>h16 2 σ 19;have h18:∀(base:Nat) (σ:ah) (n:Nat),(∀a,a∈ce true rs→aw (fz false true base σ (n+1) a)=aw a)↔True:=fun base σ n=>⟨fun _=>trivial,fun _ a ha=>by
    obtain⟨r,_,rfl⟩:=afJ.1 ha;simp⟩
   rw[h15]at h0;generalize hR:rs[k].take 17=R at *;rw[h14]at h0;simp[Ag,h1,Sy,yB,hk,h3,h4,h5,h0,h6,h8,h9,h10,h11,h12,h13,h14,h16,h17,h18,append,aA hk hn,ar,ap])
  (by simp[Ag];exact congrArg (ce false) (aea (by simp)))
 simpa [show ce false []=[] from rfl] using this
theorem TF(mo:Nat)(h0:mo≠0)(hm:mo≤1000)(b:Bool)(rs:av):az I.qae [.wh b (ce true rs),ac (mo:Int)]=some (.wh false (ce false (((rs.take mo).map kR)))):=by
 rw[am aq8 rfl];obtain⟨ep,hc⟩:=aej (enc:=fun r=>.wh true (bZ r)) b rs mo h0 hm [.arr 1 0 []];change bK code I.qz [.wh b (ce true rs),ac (mo:Int)] _=some (_,[.arr 1 0 []]++[.arr 1 ep (ce true (rs.take mo))]) at hc;have hl:=alK mo b true (ce true rs) ep (rs.take mo) (by simp;unfold most;omega);have h8:=fun rs top base σ n=>QM rs top base σ n;have h9:(ce false ((rs.take mo).map kR)).take (rs.take mo).length=ce false ((rs.take mo).map kR):=aea (by simp)
 skip
 generalize rs.take mo=R at *;simp at hc;simp[aAf,ahJ,hc,hl,h8,h9,Xx]
theorem UH(mo:Nat)(h0:mo≠0)(hm:mo≤1000)(b:Bool)(rs:av):az I.qae [.wh b (ce true rs),ac (mo:Int)]=some (.wh false (((rs.take mo).map kR).map aG)):=TF mo h0 hm b rs
end Go.AM
namespace Go.AM
theorem fe.sl_inv{a:Bool}{cs:List Sh}{x:aa}(h:fe (.sl a cs) x):∃xs,x=.wh true xs∧xs.length≤maxLen∧(∀x∈xs,isAgg x=a∧(cellsOf x).length=cs.length∧aw x=cs.length) ∧
  ∀x∈xs,∀i (h:i<cs.length) (h':i<(cellsOf x).length),fe cs[i] (cellsOf x)[i]:=by
 cases h with
 |sl h1 h2 h3=>exact⟨_,rfl,h1,h2,h3⟩
theorem Zr{α:Type}(f:α→aa):∀{l:List aa},(∀x∈l,∃a,x=f a)→∃m:List α,l=m.map f
 |[],_=>⟨[],rfl⟩
 |x::l,h=>by
  obtain⟨a,rfl⟩:=h x (aoQ ..);obtain⟨m,rfl⟩:=Zr f fun y hy=>h y (aer _ hy);exact⟨a::m,rfl⟩
theorem AF{cs:List Sh}{x:aa}(h:isAgg x=true∧(cellsOf x).length=cs.length∧aw x=cs.length)(h':∀i (h:i<cs.length) (h':i<(cellsOf x).length),fe cs[i] (cellsOf x)[i]) :
  ∃ys,x=.agg ys∧ys.length=cs.length∧∀i (h:i<cs.length) (h':i<ys.length),fe cs[i] ys[i]:=by
 cases x with
 |agg ys=>exact⟨ys,rfl,h.2.1,h'⟩
 |_=>cases h.1
theorem OV{s:Sh}{x:aa}(h:isAgg x=false∧(cellsOf x).length=[s].length∧aw x=[s].length)(h':∀i (h:i < [s].length) (h':i<(cellsOf x).length),fe [s][i] (cellsOf x)[i]):fe s x:=by
 have hc:cellsOf x=[x]:=by
  cases x with
  |agg ys=>cases h.1
  |_=>rfl
 have:=h' 0 (by simp) (by rw[hc];simp);simpa only [hc,ata] using this
end Go.AM
namespace Go.AM
theorem aeo{α:Type}{cs:List Sh}{f:α→aa}(hd:∀ys:List aa,ys.length=cs.length→(∀i (h:i<cs.length) (h':i<ys.length),fe cs[i] ys[i])→∃a,aa.agg ys=f a){x:aa}(h:fe (.sl true cs) x):∃l:List α,x=.wh true (l.map f):=by
 obtain⟨xs,rfl,hn,h1,h2⟩:=h.sl_inv;obtain⟨m,rfl⟩:=Zr f (l:=xs) fun x hx=>by
  obtain⟨ys,rfl,hl,hy⟩:=AF (h1 x hx) (h2 x hx);exact hd ys hl hy
 exact⟨m,rfl⟩
theorem PE{x:aa}(h:fe (.sl false [.int .i64]) x):∃l:List Int,x=.wh true (l.map (.int .i64)):=by
 obtain⟨xs,rfl,hn,h1,h2⟩:=h.sl_inv;obtain⟨m,rfl⟩:=Zr (.int .i64) (l:=xs) fun x hx=>by
  obtain⟨a,rfl,_⟩:=(OV (h1 x hx) (h2 x hx)).int_inv;exact⟨a,rfl⟩
 exact⟨m,rfl⟩
abbrev io:List Sh:=[.int .i64,.int .i64,.int .i64,.int .i64,.int .i64,.int .i64,.int .u64,.str]
abbrev ky:List Sh:=[.sl true io]
abbrev kJ:List Sh:=[.int .i64,.sl true io]
abbrev lB:List Sh:=[.int .i64,.bool]
theorem akb(ys:List aa)(hl:ys.length=lB.length)(hy:∀i (h:i<lB.length) (h':i<ys.length),fe lB[i] ys[i]):∃a,aa.agg ys=Ei a:=by
 match ys,hl,hy with
 |[y0,y1],_,hy=>
  obtain⟨v0,rfl,_⟩:=(hy 0 (by simp) (by simp)).int_inv;obtain⟨v1,rfl⟩:=(hy 1 (by simp) (by simp)).bool_inv;exact⟨(v0,v1),rfl⟩
abbrev gW:List Sh:=[.int .i64,.int .i64,.int .i64,.int .i64,.sl false [.int .i64],.bool,.sl true io,.sl false [.int .i64],.sl true kJ,.sl true ky,.sl true lB,.int .i64]
end Go.AM
namespace Go.AM
theorem Lw{α:Type}(f:α→aa)(p:α→Prop):∀{l:List aa},(∀x∈l,∃a,x=f a∧p a)→∃m:List α,l=m.map f∧∀a∈m,p a
 |[],_=>⟨[],rfl,by simp⟩
 |x::l,h=>by
  obtain⟨a,rfl,ha⟩:=h x (aoQ ..);obtain⟨m,rfl,hm⟩:=Lw f p fun y hy=>h y (aer _ hy);exact⟨a::m,rfl,fun b hb=>by
   rcases arm.1 hb with rfl|h
   ·exact ha
   exact hm b h⟩
theorem aja{n:Int}(h:(Lit.int .i64 n).wf=true):rg n:=by
 simp[Lit.wf,IntKind.min,IntKind.max,IntKind.signed,IntKind.bits]at h;unfold rg;omega
theorem vB{α:Type}{cs:List Sh}{f:α→aa}{p:α→Prop}(hd:∀ys:List aa,ys.length=cs.length→(∀i (h:i<cs.length) (h':i<ys.length),fe cs[i] ys[i])→∃a,aa.agg ys=f a∧p a){x:aa}(h:fe (.sl true cs) x):∃l:List α,x=.wh true (l.map f)∧∀a∈l,p a:=by
 obtain⟨xs,rfl,hn,h1,h2⟩:=h.sl_inv;obtain⟨m,rfl,hm⟩:=Lw f p (l:=xs) fun x hx=>by
  obtain⟨ys,rfl,hl,hy⟩:=AF (h1 x hx) (h2 x hx);exact hd ys hl hy
 exact⟨m,rfl,hm⟩
theorem R4(ys:List aa)(hl:ys.length=io.length)(hy:∀i (h:i<io.length) (h':i<ys.length),fe io[i] ys[i]):∃a,aa.agg ys=EN.a a∧rg a.v.n:=by
 match ys,hl,hy with
 |[y0,y1,y2,y3,y4,y5,y6,y7],_,hy=>
  obtain⟨v0,rfl,_⟩:=(hy 0 (by simp) (by simp)).int_inv;obtain⟨v1,rfl,_⟩:=(hy 1 (by simp) (by simp)).int_inv;obtain⟨v2,rfl,_⟩:=(hy 2 (by simp) (by simp)).int_inv;obtain⟨v3,rfl,_⟩:=(hy 3 (by simp) (by simp)).int_inv;obtain⟨v4,rfl,_⟩:=(hy 4 (by simp) (by simp)).int_inv;obtain⟨v5,rfl,h5⟩:=(hy 5 (by simp) (by simp)).int_inv;obtain⟨v6,rfl,_⟩:=(hy 6 (by simp) (by simp)).int_inv;obtain⟨v7,rfl,_⟩:=(hy 7 (by simp) (by simp)).str_inv;exact⟨⟨v0,v1,v2,v3,⟨v4,v5,v6,v7⟩⟩,rfl,aja h5⟩
theorem alI(ys:List aa)(hl:ys.length=ky.length)(hy:∀i (h:i<ky.length) (h':i<ys.length),fe ky[i] ys[i]):∃a,aa.agg ys=kx.a a∧xO a.l:=by
 match ys,hl,hy with
 |[y0],_,hy=>
  obtain⟨v0,rfl,h0⟩:=vB R4 (hy 0 (by simp) (by simp));exact⟨⟨true,v0⟩,rfl,h0⟩
theorem akV(ys:List aa)(hl:ys.length=kJ.length)(hy:∀i (h:i<kJ.length) (h':i<ys.length),fe kJ[i] ys[i]):∃a,aa.agg ys=aT.a a∧xO a.arg:=by
 match ys,hl,hy with
 |[y0,y1],_,hy=>
  obtain⟨v0,rfl,_⟩:=(hy 0 (by simp) (by simp)).int_inv;obtain⟨v1,rfl,h1⟩:=vB R4 (hy 1 (by simp) (by simp));exact⟨⟨v0,true,v1⟩,rfl,h1⟩
structure iv (n:aO):Prop where
 cond:xO n.cond
 yo:∀a∈n.yo,xO a.arg
 items:∀a∈n.items,xO a.l
theorem alW(ys:List aa)(hl:ys.length=gW.length)(hy:∀i (h:i<gW.length) (h':i<ys.length),fe gW[i] ys[i]):∃a,aa.agg ys=aO.a a∧iv a:=by
 match ys,hl,hy with
 |[y0,y1,y2,y3,y4,y5,y6,y7,y8,y9,y10,y11],_,hy=>
  obtain⟨v0,rfl,_⟩:=(hy 0 (by simp) (by simp)).int_inv;obtain⟨v1,rfl,_⟩:=(hy 1 (by simp) (by simp)).int_inv;obtain⟨v2,rfl,_⟩:=(hy 2 (by simp) (by simp)).int_inv;obtain⟨v3,rfl,_⟩:=(hy 3 (by simp) (by simp)).int_inv;obtain⟨v4,rfl⟩:=PE (hy 4 (by simp) (by simp));obtain⟨v5,rfl⟩:=(hy 5 (by simp) (by simp)).bool_inv;obtain⟨v6,rfl,h6⟩:=vB R4 (hy 6 (by simp) (by simp));obtain⟨v7,rfl⟩:=PE (hy 7 (by simp) (by simp));obtain⟨v8,rfl,h8⟩:=vB akV (hy 8 (by simp) (by simp));obtain⟨v9,rfl,h9⟩:=vB alI (hy 9 (by simp) (by simp));obtain⟨v10,rfl⟩:=aeo akb (hy 10 (by simp) (by simp));obtain⟨v11,rfl,_⟩:=(hy 11 (by simp) (by simp)).int_inv;exact⟨⟨v0,v1,v2,v3,true,v4,v5,true,v6,true,v7,true,v8,true,v9,true,v10,v11⟩,rfl,h6,h8,h9⟩
theorem aaZ{x:aa}(h:JP (true,gW) x):∃n:aO,x=n.a∧iv n:=by
 obtain⟨ys,rfl,hl,hy⟩:=AF (cs:=gW) ⟨h.1,h.2.1,h.2.2.1⟩ h.2.2.2;exact alW ys hl hy
theorem abd{rs:av}(h:FT rs)(k:Nat):FT ((rs.take k).map kR):=fun r hr v hv=>by
 obtain⟨q,hq,rfl⟩:=afJ.1 hr;obtain⟨w,hw,rfl⟩:=afJ.1 (show v∈(q.take 17).map El from hv);exact h q (akt hq) w (akt hw)
theorem CY{e:List EN}(h:xO e):xO (tG e):=fun n hn=>by
 obtain⟨y,hy,rfl⟩:=afJ.1 (show n∈(e.take 60).map Iz from hn);exact h y (akt hy)
theorem afP{n:aO}(h:iv n):iv (jG n) where
 cond:=CY h.cond
 yo:=fun a ha=>by
  obtain⟨y,hy,rfl⟩:=afJ.1 (show a∈(n.yo.take 14).map J3 from ha);exact CY (h.yo y (akt hy))
 items:=fun a ha=>by
  obtain⟨y,hy,rfl⟩:=afJ.1 (show a∈(n.items.take 17).map MX from ha);exact CY (h.items y (akt hy))
end Go.AM
namespace Go.AM
open P
theorem ajQ{n:Int}(h:(Lit.int .u64 n).wf=true):nv n:=by
 simp[Lit.wf,IntKind.min,IntKind.max,IntKind.signed,IntKind.bits]at h;unfold nv;omega
theorem agH{x:aa}(h:fe (.sl true [.int .i64,.int .i64,.int .u64,.str]) x):∃r:aJ,x=.wh true (bZ r)∧∀v∈r,rg v.n∧nv v.u:=by
 obtain⟨xs,rfl,_,h1,h2⟩:=h.sl_inv;obtain⟨r,rfl,hr⟩:=Lw aE.a (fun v=>rg v.n∧nv v.u) (l:=xs) fun x hx=>by
  obtain⟨ys,rfl,hl,hy⟩:=AF (h1 x hx) (h2 x hx)
  match ys,hl,hy with
  |[t,u,v,w],_,hy=>
   obtain⟨a,rfl,_⟩:=(hy 0 (by simp) (by simp)).int_inv;obtain⟨b,rfl,hb⟩:=(hy 1 (by simp) (by simp)).int_inv;obtain⟨c,rfl,hc⟩:=(hy 2 (by simp) (by simp)).int_inv;obtain⟨d,rfl,_⟩:=(hy 3 (by simp) (by simp)).str_inv;exact⟨⟨a,b,c,d⟩,rfl,aja hb,ajQ hc⟩
 exact⟨r,rfl,hr⟩
theorem aaL{x:aa}(h:fe (.sl false [.sl true [.int .i64,.int .i64,.int .u64,.str]]) x):∃rs:av,x=.wh true (ce true rs)∧FT rs∧SD rs:=by
 obtain⟨xs,rfl,_,h1,h2⟩:=h.sl_inv;obtain⟨rs,rfl,hr⟩:=Lw (fun r=>.wh true (bZ r)) (fun r=>∀v∈r,rg v.n∧nv v.u) (l:=xs) fun x hx=>agH (OV (h1 x hx) (h2 x hx));exact⟨rs,rfl,fun r h v hv=>(hr r h v hv).1,fun r h v hv=>(hr r h v hv).2⟩
theorem YL{rs:av}(h:SD rs)(k:Nat):SD ((rs.take k).map kR):=fun r hr v hv=>by
 obtain⟨q,hq,rfl⟩:=afJ.1 hr;obtain⟨w,hw,rfl⟩:=afJ.1 (show v∈(q.take 17).map El from hv);exact h q (akt hq) w (akt hw)
theorem alp(l:List aO):cF (fZ l)=decide (abj l<0):=by
 unfold abj;cases fZ l with
 |inl _=>rfl
 |inr i=>simp[cF]
theorem akR{k:List Int}(h:k.length≤kV):lO (zG k) where
 xX:=h
 cond:=by simp[zG,iK,kV]
 keys:=by simp[zG,iK,kV]
 yo:=by simp[zG,iK,kV]
 args:=by simp[zG,iK]
 items:=by simp[zG,iK,kV]
 exprs:=by simp[zG,iK]
 ords:=by simp[zG,iK,kV]
 keys':=by simp[zG,iK]
 aggs':=by simp[zG,iK]
 items':=by simp[zG,iK]
 few:=.inl rfl
structure mX (n:aO):Prop extends NFit n where
 keys':n.keys.length≤8000
 aggs':n.yo.length≤8000
 items':n.items.length≤8000
theorem ae2(n:aO):mX (jG n) where
 toNFit:=Ia n
 keys':=by simp[jG];omega
 aggs':=by simp[jG];omega
 items':=by simp[jG];omega
theorem Yd(n:aO)(op:Int)(b:Bool)(rs:av)(hop:op=10∨op=11)(hN:mX n)(hn:rs.length≤8000)(hm:∀r∈rs,r.length≤100):az I.qcu [n.a,ac op,.wh b (rs.map aG)]=some (.bool (fR n op rs)):=by
 refine S1 n op b rs hn (fun r hr=>by have:=hm r hr;unfold kV;omega) (abj [zG (cZ rs),fA n]) (by rw[←Te];exact alp _) fun ho bn=>Ye bn [zG (cZ rs),fA n] (fun x hx=>?_) (by simp[most]);rcases arm.1 hx with rfl|hx
 ·refine akR ?_;unfold cZ;rw[ajk,auL];cases rs with
  |nil=>simp
  |cons r rs=>have:=hm r (by simp);simp only[List.headD_cons];unfold kV;omega
 rw[arq.1 hx];exact⟨⟨⟨hN.xX,hN.cond,hN.keys,hN.yo,hN.args,hN.items,hN.exprs,hN.ords⟩,.inr (by rw[←ho]at hop;exact hop)⟩,hN.keys',hN.aggs',hN.items'⟩
theorem Kw{n:aO}{rs:av}(hne:rs≠[])(hn:rs.length≤8000)(hg:FT rs)(hm:∀r∈rs,r.length≤most)(h3:n.keys.length≤3)(h12:n.yo.length≤12)(hh:∀r∈rs,yF r n.keys=true)(ha:iW n)(ht:∀a∈n.yo,1≤a.tag∧a.tag≤5)(b:Bool) :
  az I.qcy [n.a,.wh b (rs.map aG)]=some (.tup [.wh false ((ix n rs).1.map aG),ac (ix n rs).2]):=by
 refine QT n b rs hn hg hm (by omega) (fun r hr=>(ED (hh r hr)).2) (by omega) (fun a haa=>⟨(ha a haa).1,(ha a haa).2,(ht a haa).1,(ht a haa).2⟩) (fun g hgm=>?_) (by have:=mK n.keys rs;omega);obtain⟨h1,h2,a,_,h4⟩:=eh hgm;exact⟨by omega,fun r hr=>hg r (h1 r hr),by rw[h4,gL];omega⟩
theorem Th(n:aO)(hn:iv n)(rs:av)(hr:FT rs)(hu:SD rs):az I.qt [n.a,.wh true (ce true rs)]=some (.bool true):=by
 have hM:=afP hn;have hrow:=UH 30 (by decide) (by decide) true rs;have hgR:=abd hr 30;have huR:=YL hu 30;have hlen:((rs.take 30).map kR).length≤30:=by simp;omega
 have hrl:∀r∈(rs.take 30).map kR,r.length≤17:=fun r hr=>by
  obtain⟨y,_,rfl⟩:=afJ.1 hr;simp[kR];omega
 have hm32:∀r∈(rs.take 30).map kR,r.length≤kV:=fun r hr=>by have:=hrl r hr;unfold kV;omega
 have hmost:∀r∈(rs.take 30).map kR,r.length≤most:=fun r hr=>by have:=hrl r hr;unfold most;omega
 have hag:iW (jG n):=fun a ha=>⟨by have:=(Ia n).args a ha;exact als this (by decide),hM.yo a ha⟩;have hfit:=Ia n;have hk6:(jG n).keys.length≤6:=by simp[jG];omega
 have ha14:(jG n).yo.length≤14:=by simp[jG];omega
 have hsm:=ae2 n;have x1:∀base σ m,fz true false base σ (m+3) n.a=n.a:=fun base σ m=>Ft.ft true false base σ m n rfl;have x2:∀base σ m,fz false true base σ (m+3) n.a=n.a:=fun base σ m=>Ft.ft false true base σ m n rfl;have hnd:∀b,az I.qac [.wh b [n.a],ac 1]=some (.wh false [(jG n).a]):=fun b=>by simpa using Tn b [n] 1 (by decide) (by decide)
 generalize (rs.take 30).map kR=R at *;generalize jG n=M at *;have htag:fR M 11 R=true→∀a∈M.yo,1≤a.tag∧a.tag≤5:=fun hq a ha=>by
  have h:=A9 hq;obtain⟨g,hg⟩:=atc _ (tR (ym:=M.keys) h.ne);obtain⟨i,hi⟩:=avg.1 ha;have:=FE h hgR huR hg hi;exact⟨this.t1,this.t5⟩
 refine Qz (M:=M) (R:=R) ?_;exact {
  x1:=x1
  x2:=x2
  x3:=⟨rfl,rfl⟩
  xQ:=hnd
  rows:=hrow
  part:=fun b=>Yv M b R hfit hag hgR hm32
  fin:=fun b=>aeQ M b R hfit hm32 fun hq g hg i a hi=>agk (A9 hq) hgR huR hg hi
  asked:=fun op hop b=>Yd M op b R hop hsm (by omega) (fun r hr=>by have:=hrl r hr;omega)
  part20:=fun hq b=>by
   rcases hq with hq|hq
   ·have h:=A9 hq;have hp:=LO h.op h.xX;exact Kw h.ne h.len hgR hmost hp.k3 hp.a12 (Kf h).2 hag (fun a ha=>⟨(bI hp a ha).tag1,(bI hp a ha).tag5⟩) b
   have h:=A9 hq;have hp:=GN h.op h.xX;exact Kw h.ne h.len hgR hmost hp.k3 hp.a12 (wz h).2.1 hag (htag hq) b
  fin20:=fun hq b=>by
   have h:=A9 hq;have hp:=GN h.op h.xX;have hk3:=hp.k3;have ha12:=hp.a12;obtain⟨_,hh,hw⟩:=wz h;refine YU M b R h.len hmost (by omega) (fun r hr=>(ED (hh r hr)).2) (by omega) (fun g hgm=>?_) (by have:=mK M.keys R;omega) (tR h.ne);obtain⟨h1,h2,a,_,h4⟩:=eh hgm;exact⟨by omega,by rw[h4,gL];omega,fun r hr=>hw r (h1 r hr),fun i a hi=>FE h hgR huR hgm hi⟩
  eq10:=fun hq=>P9 (A9 hq) hag hgR
  eq11:=fun hq=>Yo (A9 hq) hgR huR
  wide:=by omega
  len:=hlen
  row:=hrl }
end Go.AM
