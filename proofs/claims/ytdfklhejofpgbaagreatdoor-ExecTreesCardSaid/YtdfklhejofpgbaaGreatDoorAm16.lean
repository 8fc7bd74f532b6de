/- Part of the proof. -/
import Derived.Test.YtdfklhejofpgbaaGreatDoorAm15
set_option linter.unusedVariables false
set_option linter.unusedSimpArgs false
namespace Go.AM
open P
set_option maxHeartbeats 4000000
set_option maxRecDepth 4000
def FN(v:bW):bW:={ v with s:=v.s.take 41 }
def oS(r:b8):b8:=(r.take 17).map FN
def Cy(R:b8)(i:Nat):b8:=(R.take i).map FN++R.drop i
theorem Tl(R:b8):Cy R 0=R:=by simp[Cy]
theorem WP(R:b8):Cy R R.length=R.map FN:=by simp[Cy]
theorem KN(R:b8)(i:Nat):(Cy R i).length=R.length:=by simp[Cy];omega
theorem Wo{R:b8}{i:Nat}(h:i<R.length):(da (Cy R i))[i]?=some R[i].a:=by
 unfold Cy da;rw[dy,bQ (by simp;omega)];simp[show i-min i R.length=0 by omega,h]
theorem Vu{R:b8}{i:Nat}(h:i<R.length):(da (Cy R i)).set i (FN R[i]).a=da (Cy R (i+1)):=by
 have e1:R.drop i=R[i]::R.drop (i+1):=dP h;have e2:R.take (i+1)=R.take i++[R[i]]:=cw h;unfold Cy da;rw[e1,e2];simp only[dy,bG,bh];rw[gJ _ _ (by simp;omega)];simp[show i-min i R.length=0 by omega]
theorem agK(e0 e1 e2 e3 e4 e7 e8 e9 e10:ap)(A B:Obj)(R:b8)(hn:R.length≤most) :
  cq code 3 [6,13] wg ⟨[e0,e1,e2,e3,e4,.sl 2 0 0 R.length,.any,e7,e8,e9,e10,.int .i64 R.length,.int .i64 0,.any],[A,B,.arr 4 0 (da R)]⟩ =
   some (.ext 2,⟨[e0,e1,e2,e3,e4,.sl 2 0 0 R.length,.any,e7,e8,e9,e10,.int .i64 R.length,.int .i64 R.length,.bool false],[A,B,.arr 4 0 (da (R.map FN))]⟩):=by
 have:=cL (base:=3) (clr:=[6,13]) (b:=wg) (fun i=>⟨[e0,e1,e2,e3,e4,.sl 2 0 0 R.length,.any,e7,e8,e9,e10,.int .i64 R.length,.int .i64 i,.any],[A,B,.arr 4 0 (da (Cy R i))]⟩) R.length
  (.ext 2,⟨[e0,e1,e2,e3,e4,.sl 2 0 0 R.length,.any,e7,e8,e9,e10,.int .i64 R.length,.int .i64 R.length,.bool false],[A,B,.arr 4 0 (da (R.map FN))]⟩)
  (fun i hi=>by
   have hlt:((i:Int)<(R.length:Int)):=by omega
   have h1:=Wo hi;have h2:=Vu hi;unfold FN bW.a at h2;unfold bW.a at h1;have h3:=KN R i;simp only at h2;by_cases hs:41<R[i].s.length
   ·have is:((41:Int)<R[i].s.length):=by omega
    have is':(41:Nat)≤R[i].s.length:=by omega
    simp[wg,hlt,h1,h2,hi,is,is',aX hi hn,bY]
   have is:¬((41:Int)<R[i].s.length):=by omega
   rw[av (by omega)]at h2;simp[wg,hlt,h1,h2,hi,is,aX hi hn,bY])
  (by simp[wg,WP])
 simpa [Tl] using this
theorem Ny{b:Bool}{rs:aQ}{k:Nat}(h:k<(cI b rs).length):(cI b rs)[k]=.aa b (da (rs[k]'(by simpa using h))):=by simp[cI]
end Go.AM
namespace Go.AM
open P
set_option maxHeartbeats 64000000
set_option maxRecDepth 40000
attribute [local simp] aW bK
section
def fO{α:Type}(f:α→α)(l:List α)(i:Nat):List α:=(l.take i).map f++l.drop i
section
variable {α:Type} (f:α→α)
theorem zL(l:List α):fO f l 0=l:=by simp[fO]
theorem Do(l:List α):fO f l l.length=l.map f:=by simp[fO]
theorem CP{l:List α}{i:Nat}{y:α}(enc:α→ap)(h:l[i]?=some y):((fO f l i).map enc)[i]?=some (enc y):=by
 obtain⟨hl,hy⟩:=al.1 h;unfold fO;rw[dy,bQ (by simp;omega)];simp[show i-min i l.length=0 by omega,hl,hy]
theorem Dh{l:List α}{i:Nat}{y:α}(enc:α→ap)(h:l[i]?=some y):((fO f l i).map enc).set i (enc (f y))=(fO f l (i+1)).map enc:=by
 obtain⟨hl,hy⟩:=al.1 h;have e1:l.drop i=y::l.drop (i+1):=by rw[←hy];exact dP hl
 have e2:l.take (i+1)=l.take i++[y]:=by rw[←hy];exact cw hl
 unfold fO;rw[e1,e2];simp only[dy,bG,bh];rw[gJ _ _ (by simp;omega)];simp[show i-min i l.length=0 by omega]
end
def D9(e:EN):EN:={ e with v:=FN e.v }
def um(l:List EN):List EN:=(l.take 60).map D9
theorem O8(e0:ap)(A B:Obj)(R:List EN)(hn:R.length≤most) :
  cq code 4 [4,5,8] wP ⟨[e0,.ptr 0 0 0 0,.ptr 1 0 0 0,.ptr 3 0 0 0,.any,.any,ar R.length,ar 0,.any],[A,B,.arr 8 0 (R.map EN.a),.arr 1 0 [.agg [.sl 2 0 0 R.length]]]⟩ =
   some (.ext 0,⟨[e0,.ptr 0 0 0 0,.ptr 1 0 0 0,.ptr 3 0 0 0,.any,.any,ar R.length,ar R.length,.bool false],[A,B,.arr 8 0 ((R.map D9).map EN.a),.arr 1 0 [.agg [.sl 2 0 0 R.length]]]⟩):=by
 have h:=ea (base:=4) (clr:=[4,5,8]) (b:=wP) R (fun i (_:Unit)=>⟨[e0,.ptr 0 0 0 0,.ptr 1 0 0 0,.ptr 3 0 0 0,.any,.any,ar R.length,ar i,.any],[A,B,.arr 8 0 ((fO D9 R i).map EN.a),.arr 1 0 [.agg [.sl 2 0 0 R.length]]]⟩)
  (fun _ _=>True) (fun _ _=>()) (fun _=>(.ext 0,⟨[e0,.ptr 0 0 0 0,.ptr 1 0 0 0,.ptr 3 0 0 0,.any,.any,ar R.length,ar R.length,.bool false],[A,B,.arr 8 0 ((R.map D9).map EN.a),.arr 1 0 [.agg [.sl 2 0 0 R.length]]]⟩))
  (fun i y _ hi hy _=>by
   have ak:((i:Int)<(R.length:Int)):=by omega
   have h1:=CP D9 EN.a hy;have h2:=Dh D9 EN.a hy;rw[←h2];obtain⟨hlm,h1⟩:=al.1 h1;have hlm':i<R.length:=hi;obtain⟨t,l,r,c,⟨k,n,u,s⟩⟩:=y;generalize (fO D9 R i).map EN.a=M at *;simp only[EN.a,D9,FN]at h1 ⊢;refine⟨?_,trivial⟩;by_cases hs:41<s.length
   ·have is:((41:Int)<(s.length:Int)):=by omega
    have is':(41:Nat)≤s.length:=by omega
    simp[wP,ak,h1,hlm,hlm',is,is',aX hi hn,aE]
   have is:¬((41:Int)<(s.length:Int)):=by omega
   have e3:s.take 41=s:=av (by omega);simp[wP,ak,h1,hlm,hlm',is,e3,aX hi hn,aE])
  (fun _ _=>by simp[wP,Do]) () trivial
 have h:=h.1;rw[zL]at h;simpa using h
theorem xB(b:Bool)(l:List EN):aK I.qag [.agg [.aa b (l.map EN.a)]]=some (.agg [.aa false ((um l).map EN.a)]):=by
 rw[aA agy rfl];have hc:=UB (enc:=EN.a) b l 60 (by decide) (by decide);have hn:(l.take 60).length≤most:=by simp;unfold most;omega
 unfold um;generalize l.take 60=R at hc hn ⊢;have hl:=fun A B e0=>O8 e0 A B R hn;have hlen:(R.map D9).length=R.length:=by simp
 generalize R.map D9=R' at hl hlen ⊢;have htk:List.take R.length (R'.map EN.a)=R'.map EN.a:=by rw[←hlen];exact lF R' EN.a
 simp at hc hl;simp[aqs,acJ,hc,hl,hlen,htk]
end
def Gv(g:cC):cC:=⟨g.tag,false,um g.arg⟩
def GZ(e:jM):jM:=⟨false,um e.l⟩
def pd(n:bL):bL:={ n with bk:=false,af:=n.af.take 17,bc:=false,cond:=um n.cond,by':=false,keys:=n.keys.take 6,bg:=false,ai:=(n.ai.take 14).map Gv,bi:=false,items:=(n.items.take 17).map GZ,bo:=false,ords:=n.ords.take 5 }
abbrev FF(n:bL)(ep2 m2 ep3 m3:Nat):Obj:=.arr 12 0 [.agg [ar n.op,ar n.l,ar n.r,ar n.tab,.aa false ((n.af.take 17).map (.int .i64)),.bool n.left,.aa n.bc (n.cond.map EN.a),.aa false ((n.keys.take 6).map (.int .i64)),.sl 2 ep2 0 m2,.sl 3 ep3 0 m3,.aa false ((n.ords.take 5).map jl),ar n.limit]]
theorem ND(e0 e1 e2 e3 e4 e10 e11 e12 e13 e18 e19 e20 e21:ap)(h:∀x∈[e0,e1,e2,e3,e4,e10,e11,e12,e13,e18,e19,e20,e21],∀σ,fz false true 4 σ 20 x=x)(L:List bL)(ep:Nat)(n:bL)(ep2 ep3:Nat)(G:List cC)(I:List jM)(hn:G.length≤most) :
  cq code 4 [6,7,17] zA ⟨[e0,e1,e2,e3,e4,.ptr 1 0 0 0,.any,.any,.any,.any,e10,e11,e12,e13,.sl 2 ep2 0 G.length,ar G.length,ar 0,.any,e18,e19,e20,e21],[.arr 12 ep (L.map bL.a),FF n ep2 G.length ep3 I.length,.arr 2 ep2 (G.map cC.a),.arr 1 ep3 (I.map jM.a)]⟩ =
   some (.ext 2,⟨[e0,e1,e2,e3,e4,.ptr 1 0 0 0,.any,.any,.any,.any,e10,e11,e12,e13,.sl 2 ep2 0 G.length,ar G.length,ar G.length,.bool false,e18,e19,e20,e21],[.arr 12 ep (L.map bL.a),FF n ep2 G.length ep3 I.length,.arr 2 ep2 ((G.map Gv).map cC.a),.arr 1 ep3 (I.map jM.a)]⟩):=by
 have hk:=ea (base:=4) (clr:=[6,7,17]) (b:=zA) G (fun i (_:Unit)=>⟨[e0,e1,e2,e3,e4,.ptr 1 0 0 0,.any,.any,.any,.any,e10,e11,e12,e13,.sl 2 ep2 0 G.length,ar G.length,ar i,.any,e18,e19,e20,e21],[.arr 12 ep (L.map bL.a),FF n ep2 G.length ep3 I.length,.arr 2 ep2 ((fO Gv G i).map cC.a),.arr 1 ep3 (I.map jM.a)]⟩)
  (fun _ _=>True) (fun _ _=>()) (fun _=>(.ext 2,⟨[e0,e1,e2,e3,e4,.ptr 1 0 0 0,.any,.any,.any,.any,e10,e11,e12,e13,.sl 2 ep2 0 G.length,ar G.length,ar G.length,.bool false,e18,e19,e20,e21],[.arr 12 ep (L.map bL.a),FF n ep2 G.length ep3 I.length,.arr 2 ep2 ((G.map Gv).map cC.a),.arr 1 ep3 (I.map jM.a)]⟩))
  (fun i y _ hi hy _=>by
   have ak:((i:Int)<(G.length:Int)):=by omega
   have h1:=CP Gv cC.a hy;have h2:=Dh Gv cC.a hy;obtain⟨hlm,h1⟩:=al.1 h1;obtain⟨t,bb,arg⟩:=y;have hs:=fun b=>xB b arg;simp at h;refine⟨?_,trivial⟩;have hlm':i<G.length:=hi;have hset:∀x,List.map (ec 4 x) (List.map cC.a (fO Gv G (i+1)))=List.map cC.a (fO Gv G (i+1)):=fun x=>by simp
   rw[←h2]at hset;rw[←h2];generalize (fO Gv G i).map cC.a=M at *;simp only[cC.a,Gv]at h1 hset ⊢;simp[zA,ak,h1,hlm,hlm',hs,aX hi hn,aE,aH,h,hset,FF])
  (fun _ _=>by simp[zA,Do]) () trivial
 have hk:=hk.1;rw[zL]at hk;simpa using hk
theorem ML(e0 e1 e2 e3 e4 e10 e11 e12 e13 e14 e15 e16 e17:ap)(h:∀x∈[e0,e1,e2,e3,e4,e10,e11,e12,e13,e14,e15,e16,e17],∀σ,fz false true 4 σ 20 x=x)(L:List bL)(ep:Nat)(n:bL)(ep2 ep3:Nat)(G:List cC)(I:List jM)(hn:I.length≤most) :
  cq code 4 [8,9,21] zX ⟨[e0,e1,e2,e3,e4,.ptr 1 0 0 0,.any,.any,.any,.any,e10,e11,e12,e13,e14,e15,e16,e17,.sl 3 ep3 0 I.length,ar I.length,ar 0,.any],[.arr 12 ep (L.map bL.a),FF n ep2 G.length ep3 I.length,.arr 2 ep2 (G.map cC.a),.arr 1 ep3 (I.map jM.a)]⟩ =
   some (.ext 4,⟨[e0,e1,e2,e3,e4,.ptr 1 0 0 0,.any,.any,.any,.any,e10,e11,e12,e13,e14,e15,e16,e17,.sl 3 ep3 0 I.length,ar I.length,ar I.length,.bool false],[.arr 12 ep (L.map bL.a),FF n ep2 G.length ep3 I.length,.arr 2 ep2 (G.map cC.a),.arr 1 ep3 ((I.map GZ).map jM.a)]⟩):=by
 have hk:=ea (base:=4) (clr:=[8,9,21]) (b:=zX) I (fun i (_:Unit)=>⟨[e0,e1,e2,e3,e4,.ptr 1 0 0 0,.any,.any,.any,.any,e10,e11,e12,e13,e14,e15,e16,e17,.sl 3 ep3 0 I.length,ar I.length,ar i,.any],[.arr 12 ep (L.map bL.a),FF n ep2 G.length ep3 I.length,.arr 2 ep2 (G.map cC.a),.arr 1 ep3 ((fO GZ I i).map jM.a)]⟩)
  (fun _ _=>True) (fun _ _=>()) (fun _=>(.ext 4,⟨[e0,e1,e2,e3,e4,.ptr 1 0 0 0,.any,.any,.any,.any,e10,e11,e12,e13,e14,e15,e16,e17,.sl 3 ep3 0 I.length,ar I.length,ar I.length,.bool false],[.arr 12 ep (L.map bL.a),FF n ep2 G.length ep3 I.length,.arr 2 ep2 (G.map cC.a),.arr 1 ep3 ((I.map GZ).map jM.a)]⟩))
  (fun i y _ hi hy _=>by
   have ak:((i:Int)<(I.length:Int)):=by omega
   have h1:=CP GZ jM.a hy;have h2:=Dh GZ jM.a hy;obtain⟨hlm,h1⟩:=al.1 h1;obtain⟨bb,arg⟩:=y;have hs:=fun b=>xB b arg;simp at h;refine⟨?_,trivial⟩;have hlm':i<I.length:=hi;have hset:∀x,List.map (ec 4 x) (List.map jM.a (fO GZ I (i+1)))=List.map jM.a (fO GZ I (i+1)):=fun x=>by simp
   rw[←h2]at hset;rw[←h2];generalize (fO GZ I i).map jM.a=M at *;simp only[jM.a,GZ]at h1 hset ⊢;simp[zX,ak,h1,hlm,hlm',hs,aX hi hn,aE,aH,h,hset,FF])
  (fun _ _=>by simp[zX,Do]) () trivial
 have hk:=hk.1;rw[zL]at hk;simpa using hk
theorem aeN(l:List cC)(top:Bool)(base:Nat)(σ:ay)(m:Nat):List.map (fz false top base σ (m+3)) ((l.map Gv).map cC.a)=(l.map Gv).map cC.a:=by
 rw[cE,cE,cE];exact bx fun y _=>by simp[cC.a,Gv]
theorem aey(l:List jM)(top:Bool)(base:Nat)(σ:ay)(m:Nat):List.map (fz false top base σ (m+3)) ((l.map GZ).map jM.a)=(l.map GZ).map jM.a:=by
 rw[cE,cE,cE];exact bx fun y _=>by simp[jM.a,GZ]
theorem aab(g:cC)(fl top:Bool)(base:Nat)(σ:ay)(m:Nat):aC (fz fl top base σ (m+1) (cC.a g))=aC (cC.a g):=by simp[cC.a]
theorem aeo(g:jM)(fl top:Bool)(base:Nat)(σ:ay)(m:Nat):aC (fz fl top base σ (m+1) (jM.a g))=aC (jM.a g):=by simp[jM.a]
theorem M3(b:Bool)(l:List bL)(mo:Nat)(L:List bL)(ep:Nat)(hL:L.length≤most)(i:Nat)(n:bL)(hi:i<L.length)(hy:L[i]?=some n) :
  dK 1 [4,5,6,7,8,9,13,14,15,16,17,18,19,20,21] tP (run code tP ⟨[.aa b (l.map bL.a),ar (mo:Int),.aj,.sl 0 ep 0 L.length,.any,.any,.any,.any,.any,.any,.sl 0 ep 0 L.length,ar L.length,ar i,.any,.any,.any,.any,.any,.any,.any,.any,.any],[.arr 12 ep ((fO pd L i).map bL.a)]⟩) =
  cq code 1 [4,5,6,7,8,9,13,14,15,16,17,18,19,20,21] tP ⟨[.aa b (l.map bL.a),ar (mo:Int),.aj,.sl 0 ep 0 L.length,.any,.any,.any,.any,.any,.any,.sl 0 ep 0 L.length,ar L.length,ar (i+1:Nat),.any,.any,.any,.any,.any,.any,.any,.any,.any],[.arr 12 ep ((fO pd L (i+1)).map bL.a)]⟩:=by
 have ak:((i:Int)<(L.length:Int)):=by omega
 have h1:=CP pd bL.a hy;have h2:=Dh pd bL.a hy;obtain⟨hlm,h1⟩:=al.1 h1;have hck:=WR (enc:=.int .i64) n.bk n.af 17 (by decide) (by decide);have hcy:=WR (enc:=.int .i64) n.by' n.keys 6 (by decide) (by decide)
 have hco:=Zw (enc:=jl) n.bo n.ords 5 (by decide) (by decide);obtain⟨ep2,hca⟩:=aeb (enc:=cC.a) n.bg n.ai 14 (by decide) (by decide) [.arr 12 ep ((fO pd L i).map bL.a),.arr 12 0 [n.a]];obtain⟨ep3,hci⟩:=ZM (enc:=jM.a) n.bi n.items 17 (by decide) (by decide) [.arr 12 ep ((fO pd L i).map bL.a),.arr 12 0 [n.a],.arr 2 ep2 ((n.ai.take 14).map cC.a)];have hl1:=ND (.aa b (l.map bL.a)) (ar (mo:Int)) .aj (.sl 0 ep 0 L.length) (ar i) (.sl 0 ep 0 L.length) (ar L.length) (ar i) (.bool true) .any .any .any .any (by simp) (fO pd L i) ep n ep2 ep3 (n.ai.take 14) (n.items.take 17) (by simp;unfold most;omega);have hl2:=ML (.aa b (l.map bL.a)) (ar (mo:Int)) .aj (.sl 0 ep 0 L.length) (ar i) (.sl 0 ep 0 L.length) (ar L.length) (ar i) (.bool true) (.sl 2 ep2 0 (n.ai.take 14).length) (ar (n.ai.take 14).length) (ar (n.ai.take 14).length) (.bool false) (by simp) (fO pd L i) ep n ep2 ep3 ((n.ai.take 14).map Gv) (n.items.take 17) (by simp;unfold most;omega);have hs:=xB n.bc n.cond;have hfa:=aeN (n.ai.take 14);have hfi:=aey (n.items.take 17);have hla:((n.ai.take 14).map Gv).length=(n.ai.take 14).length:=by simp
 have hli:((n.items.take 17).map GZ).length=(n.items.take 17).length:=by simp
 have hM:∀σ,List.map (ec 1 σ) ((fO pd L i).map bL.a)=(fO pd L i).map bL.a:=fun σ=>by simp
 rw[←h2];have hown:(pd n).a=.agg [ar n.op,ar n.l,ar n.r,ar n.tab,.aa false ((n.af.take 17).map (.int .i64)),.bool n.left,.aa false ((um n.cond).map EN.a),.aa false ((n.keys.take 6).map (.int .i64)),.aa false (((n.ai.take 14).map Gv).map cC.a),.aa false (((n.items.take 17).map GZ).map jM.a),.aa false ((n.ords.take 5).map jl),ar n.limit]:=rfl;rw[hown];generalize (n.ai.take 14).map Gv=G' at *;generalize (n.items.take 17).map GZ=I' at *;generalize (fO pd L i).map bL.a=M at *;have htG:List.take (n.ai.take 14).length (G'.map cC.a)=G'.map cC.a:=by rw[←hla];exact lF G' cC.a
 have htI:List.take (n.items.take 17).length (I'.map jM.a)=I'.map jM.a:=by rw[←hli];exact lF I' jM.a
 rw[hla]at hl2;simp only[bL.a]at h1 hca hci;simp[FF,-List.length_take]at hck hcy hco hca hci hl1 hl2;simp[tP,ak,h1,hlm,hi,hck,hcy,hco,hca,hci,hl1,hl2,hs,aX hi hL,aE,aH,hM,hfa,hfi,hla,hli,htG,htI,aab,aeo,-List.length_take]
theorem YF(l:List bL)(fl top:Bool)(base:Nat)(σ:ay)(m:Nat):List.map (fz fl top base σ (m+3)) ((l.map pd).map bL.a)=(l.map pd).map bL.a:=by
 rw[cE,cE,cE];exact bx fun y _=>by simp[bL.a,pd]
theorem afz(g:bL)(fl top:Bool)(base:Nat)(σ:ay)(m:Nat):aC (fz fl top base σ (m+1) (bL.a g))=aC (bL.a g):=by simp[bL.a]
theorem N8(b:Bool)(l:List bL)(mo:Nat)(h0:mo≠0)(hm:mo≤1000):aK I.qad [.aa b (l.map bL.a),ar (mo:Int)]=some (.aa false (((l.take mo).map pd).map bL.a)):=by
 rw[aA ajq rfl];obtain⟨ep,hc⟩:=Xd (enc:=bL.a) b l mo h0 hm [];have hL:(l.take mo).length≤most:=by simp;unfold most;omega
 generalize l.take mo=L at hc hL ⊢;have h:=ea (base:=1) (clr:=[4,5,6,7,8,9,13,14,15,16,17,18,19,20,21]) (b:=tP) L (fun i (_:Unit)=>⟨[.aa b (l.map bL.a),ar (mo:Int),.aj,.sl 0 ep 0 L.length,.any,.any,.any,.any,.any,.any,.sl 0 ep 0 L.length,ar L.length,ar i,.any,.any,.any,.any,.any,.any,.any,.any,.any],[.arr 12 ep ((fO pd L i).map bL.a)]⟩)
  (fun _ _=>True) (fun _ _=>()) (fun _=>(.ext 0,⟨[.aa b (l.map bL.a),ar (mo:Int),.aj,.sl 0 ep 0 L.length,.any,.any,.any,.any,.any,.any,.sl 0 ep 0 L.length,ar L.length,ar L.length,.bool false,.any,.any,.any,.any,.any,.any,.any,.any],[.arr 12 ep ((L.map pd).map bL.a)]⟩))
  (fun i n _ hi hy _=>⟨M3 b l mo L ep hL i n hi hy,trivial⟩)
  (fun _ _=>by simp[tP,Do]) () trivial
 have h:=h.1;rw[zL]at h;have hfz:=YF L;have hlen:(L.map pd).length=L.length:=by simp
 generalize L.map pd=L' at *;have htk:List.take L.length (L'.map bL.a)=L'.map bL.a:=by rw[←hlen];exact lF L' bL.a
 simp at hc h;simp[arJ,acU,hc,h,hlen,htk,hfz,afz]
instance:Nc (fun r=>ap.aa true (da r)) 1 false:=⟨fun _=>rfl,fun _=>rfl⟩
theorem ae8(mo:Int)(b c:Bool)(L:List ap)(ep:Nat)(rs:aQ)(hn:rs.length≤most) :
  cq code 2 [4,5,6,10,11,12,13] An ⟨[.aa b L,ar mo,.aj,.sl 0 0 0 0,.any,.any,.any,.sl 1 ep 0 rs.length,ar rs.length,ar 0,.any,.any,.any,.any],[.arr 1 0 [],.arr 1 ep (cI true rs)]⟩ =
   some (.ext 0,⟨[.aa b L,ar mo,.aj,.sl 0 rs.length 0 rs.length,.any,.any,.any,.sl 1 ep 0 rs.length,ar rs.length,ar rs.length,.bool false,.any,.any,.any],[.arr 1 rs.length (cI false (rs.map oS)),.arr 1 ep (cI true rs)]⟩):=by
 have:=cL (base:=2) (clr:=[4,5,6,10,11,12,13]) (b:=An) (fun k=>⟨[.aa b L,ar mo,.aj,.sl 0 k 0 k,.any,.any,.any,.sl 1 ep 0 rs.length,ar rs.length,ar k,.any,.any,.any,.any],[.arr 1 k (cI false ((rs.map oS).take k)),.arr 1 ep (cI true rs)]⟩) rs.length
  (.ext 0,⟨[.aa b L,ar mo,.aj,.sl 0 rs.length 0 rs.length,.any,.any,.any,.sl 1 ep 0 rs.length,ar rs.length,ar rs.length,.bool false,.any,.any,.any],[.arr 1 rs.length (cI false (rs.map oS)),.arr 1 ep (cI true rs)]⟩)
  (fun k hk=>by
   have h1:=wO (b:=true) hk;have ak:((k:Int)<(rs.length:Int)):=by omega
   have h3:=Mp true rs[k];have hk':k<(rs.map oS).length:=by simpa using hk
   have h4:min k rs.length=k:=by omega
   have h5:k+1≤most:=by omega
   have h6:=Fb hk';have h6':(rs.map oS)[k]=oS rs[k]:=by simp
   rw[h6']at h6;have h9:(cI false ((rs.map oS).take k)).take k=cI false ((rs.map oS).take k):=av (by simp;omega);have h8:=fun top base σ n=>Ag ((rs.map oS).take k) top base σ n;have h10:=zd ((rs.map oS).take k) 2;have h11:=Lo ((rs.map oS).take k) 2;have h0:=fun e0 e1 e2 e3 e4 e7 e8 e9 e10 A B=>agK e0 e1 e2 e3 e4 e7 e8 e9 e10 A B (rs[k].take 17) (by simp;unfold most;omega);have h12:(da (oS rs[k])).take (oS rs[k]).length=da (oS rs[k]):=av (by simp);have h13:=RY (oS rs[k]);have h14:(rs[k].take 17).length=(oS rs[k]).length:=by simp[oS]
   have h15:((rs[k].take 17).map FN)=oS rs[k]:=rfl;have h16:∀base σ n,(cI true rs).map (fz false true base σ (n+1))=cI true rs:=fun base σ n=>by
    unfold cI;rw[cE];exact bx fun r _=>by simp
   have h17:∀σ,(cI true rs).map (ec 2 σ)=cI true rs:=fun σ=>h16 2 σ 19;have h18:∀(base:Nat) (σ:ay) (n:Nat),(∀a,a∈cI true rs→aC (fz false true base σ (n+1) a)=aC a)↔True:=fun base σ n=>⟨fun _=>trivial,fun _ a ha=>by
    obtain⟨r,_,rfl⟩:=aU.1 ha;simp⟩
   rw[h15]at h0;generalize hR:rs[k].take 17=R at *;rw[h14]at h0;simp[An,h1,Ny,ak,hk,h3,h4,h5,h0,h6,h8,h9,h10,h11,h12,h13,h14,h16,h17,h18,append,aX hk hn,aE,aH])
  (by simp[An];exact congrArg (cI false) (av (by simp)))
 simpa [show cI false []=[] from rfl] using this
theorem NJ(mo:Nat)(h0:mo≠0)(hm:mo≤1000)(b:Bool)(rs:aQ):aK I.qaf [.aa b (cI true rs),ar (mo:Int)]=some (.aa false (cI false (((rs.take mo).map oS)))):=by
 rw[aA ahS rfl];obtain⟨ep,hc⟩:=aad (enc:=fun r=>.aa true (da r)) b rs mo h0 hm [.arr 1 0 []];change cA code I.qz [.aa b (cI true rs),ar (mo:Int)] _=some (_,[.arr 1 0 []]++[.arr 1 ep (cI true (rs.take mo))]) at hc;have hl:=ae8 mo b true (cI true rs) ep (rs.take mo) (by simp;unfold most;omega);have h8:=fun rs top base σ n=>Ag rs top base σ n;have h9:(cI false ((rs.take mo).map oS)).take (rs.take mo).length=cI false ((rs.take mo).map oS):=av (by simp)
 skip
 generalize rs.take mo=R at *;simp at hc;simp[ary,abi,hc,hl,h8,h9,we]
theorem O4(mo:Nat)(h0:mo≠0)(hm:mo≤1000)(b:Bool)(rs:aQ):aK I.qaf [.aa b (cI true rs),ar (mo:Int)]=some (.aa false (((rs.take mo).map oS).map aD)):=NJ mo h0 hm b rs
def iA(n:Int):bW:=⟨2,n,0,[]⟩
def gi(b:Bool):bW:=⟨1,if b then 1 else 0,0,[]⟩
@[simp] theorem alE(k n u:Int)(s:List UInt8):aK I.qib [.agg [ar k,ar n,.int .u64 u,.str s]]=some (ar (if oC ⟨k,n,u,s⟩ then 0 else 120)):=nX ⟨k,n,u,s⟩
@[simp] theorem alt(k n u:Int)(s:List UInt8):aK I.qin [.agg [ar k,ar n,.int .u64 u,.str s]]=some (.bool (jS ⟨k,n,u,s⟩)):=tN ⟨k,n,u,s⟩
@[simp] theorem amg:aK I.qik []=some cu.a:=by
 rw[aA ak3 rfl];simp[aq5,acg,bW.a,cu]
@[simp] theorem amZ(n:Int):aK I.qif [ar n]=some (iA n).a:=by
 rw[aA ajw rfl];simp[aq0,abv,bW.a,iA]
@[simp] theorem aer(b:Bool):aK I.qia [.bool b]=some (gi b).a:=by
 rw[aA ajN rfl];cases b<;>simp[aqt,abw,bW.a,gi]
def Zg:Option ap→Int×Bool
 |some (.tup [.int _ n,.bool b])=>(n,b)
 |_=>(0,false)
theorem Dc{r:Option ap}(h:∃n b,r=some (.tup [ar n,.bool b])):r=some (.tup [ar (Zg r).1,.bool (Zg r).2]):=by
 obtain⟨n,b,rfl⟩:=h;rfl
noncomputable def iL(f:Nat)(n m:Int):Int×Bool:=Zg (aK f [ar n,ar m])
@[simp] theorem afR(n m:Int):aK I.qb [ar n,ar m]=some (.tup [ar (iL I.qb n m).1,.bool (iL I.qb n m).2]):=
 Dc ⟨_,_,by rw[aA aev rfl];simp[an6,ae1,intBits];exact⟨rfl,rfl⟩⟩
@[simp] theorem afE(n m:Int):aK I.qk [ar n,ar m]=some (.tup [ar (iL I.qk n m).1,.bool (iL I.qk n m).2]):=
 Dc ⟨_,_,by rw[aA aeZ rfl];simp[apI,afG,intBits];exact⟨rfl,rfl⟩⟩
def ED(kind:Int)(l:b8):Int:=if l.all oC then (if l.all fun v=>v.k==0 ||v.k==kind then 0 else 2) else 120
def TC(kind:Int)(_:Nat)(v:bW)(e:Int):Int⊕Unit:=if oC v then .inl (if v.k==0 ||v.k==kind then e else 2) else .inr ()
theorem La(kind:Int):∀(m:b8) k (e:Int),aV (TC kind) m k e=if m.all oC then .inl (if m.all fun v=>v.k==0 ||v.k==kind then e else 2) else .inr ()
 |[],_,_=>rfl
 |a::m,k,e=>by
  cases ho:oC a<;>cases hk:(a.k==0 ||a.k==kind)<;>simp only[aV,TC,ho,hk,La kind m,eL]<;>simp<;>intros<;>(split<;>rfl)
theorem KU(kind:Int)(b:Bool)(l:b8)(hn:l.length≤most):aK I.qm [ar kind,.aa b (l.map bW.a)]=some (ar (ED kind l)):=by
 rw[aA al8 rfl];have h:=cT (base:=0) (clr:=[2,4,8,9,10]) (b:=D4) l
  (fun k (e:Int)=>⟨[ar kind,.aa b (l.map bW.a),.any,ar e,.any,.aa b (l.map bW.a),ar l.length,ar k,.any,.any,.any],[]⟩) (fun _ _=>True)
  (TC kind)
  (fun e=>(.ext 0,⟨[ar kind,.aa b (l.map bW.a),.any,ar e,.any,.aa b (l.map bW.a),ar l.length,ar l.length,.bool false,.any,.any],[]⟩))
  (fun (_:Unit) o=>∃s,o=(.ret,s)∧dO .pure [.env 2] (some (.ret,s))=some (ar 120))
  (fun k v e hk hv _=>by
   have ak:((k:Int)<(l.length:Int)):=by omega
   unfold TC;cases ho:oC v
   ·exact⟨_,by simp[D4,ak,hv,ho,bW.a,TC];rfl,_,rfl,by simp⟩
   cases h0:v.k==0<;>cases h1:v.k==kind<;>simp[D4,TC,ak,hv,ho,bW.a,Y3,h0,h1,aX hk hn,aE])
  (fun e _=>by simp[D4]) 0 trivial
 rw[La]at h;unfold ED;cases ha:l.all oC<;>simp only[ha]at h
 ·obtain⟨_,h1,s,rfl,h2⟩:=h;simp at h1;simp[apH,aee,h1,-dV];exact h2
 have h1:=h.2;simp at h1;simp[apH,aee,h1]
def rg(n:Int):Prop:=-9223372036854775808≤n∧n<9223372036854775808
def rgU(n:Int):Prop:=0≤n∧n<18446744073709551616
theorem CW(n:Int):rg (IntKind.i64.wrap n):=by
 unfold rg;simp[IntKind.wrap,IntKind.bits,IntKind.signed];split<;>omega
theorem Dg{r:Option ap}(h:∃n b,r=some (.tup [ar n,.bool b])∧rg n):rg (Zg r).1:=by
 obtain⟨n,b,rfl,h⟩:=h;exact h
theorem Uj(n m:Int):rg (iL I.qb n m).1:=
 Dg ⟨_,_,by rw[aA aev rfl];simp[an6,ae1,intBits];first|exact⟨rfl,rfl⟩|exact rfl,CW _⟩
theorem LP(n m:Int):rg (iL I.qk n m).1:=
 Dg ⟨_,_,by rw[aA aeZ rfl];simp[apI,afG,intBits];first|exact⟨rfl,rfl⟩|exact rfl,CW _⟩
@[simp] theorem Ow(n:Int):∃u,aK I.qq [ar n]=some (.int .u64 u):=by
 rw[aA ald rfl];by_cases h:n<0
 ·exact⟨_,by simp[aoF,WN,h];rfl⟩
 exact⟨_,by simp[aoF,WN,h];rfl⟩
theorem KS(u:Int)(b:Bool):∃n t,aK I.qp [.int .u64 u,.bool b]=some (.tup [ar n,.bool t])∧rg n:=by
 rw[aA amK rfl];cases b
 ·exact⟨_,_,by simp[apw,aeY];first|exact⟨rfl,rfl⟩|exact rfl,CW _⟩
 exact⟨_,_,by simp[apw,aeY];first|exact⟨rfl,rfl⟩|exact rfl,CW _⟩
theorem Zd(a b:Int):∃n t,aK I.qex [.int .u64 a,.int .u64 b]=some (.tup [.int .u64 n,.int .u64 t]):=by
 rw[aA ajV rfl];exact⟨_,_,by simp[aqC,ade,intBits,shift];exact⟨rfl,rfl⟩⟩
theorem RP(n m:Int):∃x b,aK I.qh [ar n,ar m]=some (.tup [ar x,.bool b])∧rg x:=by
 rw[aA akD rfl];obtain⟨a,ha⟩:=Ow n;obtain⟨b,hb⟩:=Ow m;obtain⟨c,d,hc⟩:=Zd a b;obtain⟨x,t,hs,hr⟩:=KS d (decide (n<0) != decide (m<0));simp[bne]at hs;cases t
 ·exact⟨_,_,by simp[an7,afP,ha,hb,hc,hs,bne];first|exact⟨rfl,rfl⟩|exact rfl,hr⟩
 exact⟨_,_,by simp[an7,afP,ha,hb,hc,hs,bne];first|exact⟨rfl,rfl⟩|exact rfl,hr⟩
@[simp] theorem ad3(n m:Int):aK I.qh [ar n,ar m]=some (.tup [ar (iL I.qh n m).1,.bool (iL I.qh n m).2]):=
 let ⟨x,b,h,_⟩:=RP n m;Dc ⟨x,b,h⟩
theorem Wk(n m:Int):rg (iL I.qh n m).1:=Dg (RP n m)
theorem Yp(n:Int)(h:n≠0)(hr:rg n):∃u,aK I.qq [ar n]=some (.int .u64 u)∧u≠0:=by
 rw[aA ald rfl];unfold rg at hr;by_cases h:n<0
 ·exact⟨_,by simp[aoF,WN,h];rfl,by simp[IntKind.wrap,IntKind.bits,IntKind.signed];omega⟩
 exact⟨_,by simp[aoF,WN,h];rfl,by simp[IntKind.wrap,IntKind.bits,IntKind.signed];omega⟩
theorem R5(n m:Int)(hm:rg m):∃x b,aK I.qe [ar n,ar m]=some (.tup [ar x,.bool b])∧rg x:=by
 rw[aA akk rfl];by_cases h:m=0
 ·subst h;exact⟨_,_,by simp[an4,adZ];first|exact⟨rfl,rfl⟩|exact rfl,by simp[rg]⟩
 obtain⟨a,ha⟩:=Ow n;obtain⟨b,hb,hb0⟩:=Yp m h hm;obtain⟨x,t,hs,hr⟩:=KS (IntKind.u64.wrap (a.tdiv b)) (decide (n<0) != decide (m<0));simp[bne]at hs;exact⟨_,_,by simp[an4,adZ,bE h,ha,hb,hb0,bne,hs];first|exact⟨rfl,rfl⟩|exact rfl,hr⟩
theorem aeH(n m:Int)(hm:rg m):aK I.qe [ar n,ar m]=some (.tup [ar (iL I.qe n m).1,.bool (iL I.qe n m).2]):=
 let ⟨x,b,h,_⟩:=R5 n m hm;Dc ⟨x,b,h⟩
theorem Ui(n m:Int)(hm:rg m):rg (iL I.qe n m).1:=Dg (R5 n m hm)
def eP(to:Int→Int→Int×Bool)(a b:bW):bW×Int:=
 if ED 2 [a,b]=0 then (if a.k=0∨b.k=0 then (cu,0) else if (to a.n b.n).2 then (iA (to a.n b.n).1,0) else (cu,140)) else (cu,ED 2 [a,b])
theorem al2(kind:Int)(b:Bool)(v w:bW):aK I.qm [ar kind,.aa b [v.a,w.a]]=some (ar (ED kind [v,w])):=KU kind b [v,w] (by simp[most])
theorem aeG(kind:Int)(b:Bool)(v:bW):aK I.qm [ar kind,.aa b [v.a]]=some (ar (ED kind [v])):=KU kind b [v] (by simp[most])
theorem Z4(f:Nat)(hp:aT f)(to:Int→Int→Int×Bool)(a b:bW)(hf:aK f [ar a.n,ar b.n]=some (.tup [ar (to a.n b.n).1,.bool (to a.n b.n).2])) :
  aK I.qn [a.a,b.a,.fn f [] []]=some (.tup [(eP to a b).1.a,ar (eP to a b).2]):=by
 rw[aA ame rfl];have h1:=fun t=>al2 2 t a b;obtain⟨k,n,u,s⟩:=a;obtain⟨k',n',u',s'⟩:=b;simp only[uZ]at *;unfold eP;by_cases h0:ED 2 [⟨k,n,u,s⟩,⟨k',n',u',s'⟩]=0
 ·rw[h0]at h1 ⊢;by_cases hk:k=0
  ·subst hk;simp[aoK,VL,h1,cu,uZ]
  by_cases hk':k'=0
  ·subst hk';simp[aoK,VL,h1,bE hk,hk,cu,uZ]
  rcases hr:to n n' with⟨m,t⟩;rw[hr]at hf;cases t<;>simp[aoK,VL,h1,bE hk,bE hk',hk,hk',hr,hp _ _,hf,cu,uZ,iA]
 simp[aoK,VL,h1,h0,eo h0,cu,uZ]
theorem ai8(a b:bW):aK I.qa [a.a,b.a]=some (.tup [(eP (iL I.qb) a b).1.a,ar (eP (iL I.qb) a b).2]):=by
 rw[aA agt rfl];have h:=Z4 I.qb al4 (iL I.qb) a b (afR _ _);simp only[bW.a]at *;simp[an8,ahE,h]
theorem abH(a b:bW):aK I.qj [a.a,b.a]=some (.tup [(eP (iL I.qk) a b).1.a,ar (eP (iL I.qk) a b).2]):=by
 rw[aA aiD rfl];have h:=Z4 I.qk amm (iL I.qk) a b (afE _ _);simp only[bW.a]at *;simp[aqO,aiy,h]
theorem ajm(a b:bW):aK I.qg [a.a,b.a]=some (.tup [(eP (iL I.qh) a b).1.a,ar (eP (iL I.qh) a b).2]):=by
 rw[aA ais rfl];have h:=Z4 I.qh al6 (iL I.qh) a b (ad3 _ _);simp only[bW.a]at *;simp[aoa,ai3,h]
theorem agQ(a b:bW)(hb:rg b.n):aK I.qd [a.a,b.a]=some (.tup [(eP (iL I.qe) a b).1.a,ar (eP (iL I.qe) a b).2]):=by
 rw[aA ag9 rfl];have h:=Z4 I.qe amA (iL I.qe) a b (aeH _ _ hb);simp only[bW.a]at *;simp[an9,akO,h]
theorem ajx(a:bW):aK I.qi [a.a]=some (.tup [(eP (iL I.qk) (iA 0) a).1.a,ar (eP (iL I.qk) (iA 0) a).2]):=by
 rw[aA akl rfl];have h:=abH (iA 0) a;simp only[bW.a]at *;simp[aoc,akT,h,bW.a]
def u0(x:Int):bW:=⟨4,x/18446744073709551616,x%18446744073709551616,[]⟩
theorem Z2(x:Int):oC (u0 x)=true:=by simp[oC,vl,u0]
theorem U9:oC cu=true:=by decide
theorem VO(v:bW)(h:rg v.n):aK I.qr [v.a]=some (u0 v.n).a:=by
 rw[aA amd rfl];unfold rg at h;have e1:v.n.fdiv 9223372036854775808=v.n/18446744073709551616:=by
  rw[Int.fdiv_eq_ediv_of_nonneg _ (by decide)];omega
 simp only[bW.a,u0];simp[aqI,ahh,shift,IntKind.wrap,IntKind.bits,IntKind.signed,e1]
theorem Ri{x y c:Int}(hx:rgU x)(hy:rgU y)(hc:0≤c∧c≤1)(σ:ay) :
  cA code I.math_bits_Add64 [.int .u64 x,.int .u64 y,.int .u64 c] σ=some (.tup [.int .u64 ((x+y+c)%18446744073709551616),.int .u64 ((x+y+c)/18446744073709551616)],σ):=by
 refine nZ fg (k:=0) (n:=0) rfl ?_;have hp:code.prims=prims:=rfl;rw[hp];simp only[prims,Fa];rw[if_pos ⟨hx.1,hx.2,hy.1,hy.2,hc.1,hc.2⟩]
theorem JC(B:BitVec 64):IntKind.i64.wrap (B.toNat:Int)=B.toInt:=by
 rw[BitVec.toInt_eq_toNat_cond];have:=B.isLt;simp[IntKind.wrap,IntKind.bits,IntKind.signed];split<;>split<;>omega
theorem AN{a:Int}(h:rg a):(BitVec.ofInt 64 a).msb=decide (a<0):=by
 rw[BitVec.msb_eq_toInt,BitVec.toInt_ofInt];have:a.bmod (2^64)=a:=by
  unfold rg at h;rw[Int.bmod_def];split<;>omega
 rw[this]
def SW(a b:Int):Int:=IntKind.i64.wrap ((BitVec.ofInt 64 a ^^^ BitVec.ofInt 64 b).toNat:Int)
def Y9(a b:Int):Int:=IntKind.i64.wrap ((BitVec.ofInt 64 a &&& BitVec.ofInt 64 b).toNat:Int)
theorem Wz(a b:Int):intBits .xor .i64 a b=some (SW a b):=rfl
theorem Vj(a b:Int):intBits .and .i64 a b=some (Y9 a b):=rfl
theorem aiv{a b h:Int}(ha:rg a)(hb:rg b)(hh:rg h) :
  Y9 (SW a h) (SW b h)<0↔((decide (a<0) ^^ decide (h<0))&&(decide (b<0) ^^ decide (h<0)))=true:=by
 unfold Y9 SW;rw[JC,JC,JC,BitVec.ofInt_toInt,BitVec.ofInt_toInt];have:∀B:BitVec 64,B.toInt<0↔B.msb=true:=fun B=>by rw[BitVec.msb_eq_toInt];simp
 rw[this,BitVec.msb_and,BitVec.msb_xor,BitVec.msb_xor,AN ha,AN hb,AN hh]
def sz(x:Int):Prop:=-1267650600228229401496703205376≤x∧x≤1267650600228229401496703205376
theorem afO{x y:Int}(hx:sz x)(hy:sz y):aK I.qo [(u0 x).a,(u0 y).a]=some (.tup [(u0 (x+y)).a,ar 0]):=by
 rw[aA amu rfl];unfold sz at hx hy;have h1:=Ri (x:=x%18446744073709551616) (y:=y%18446744073709551616) (c:=0) (by unfold rgU;omega) (by unfold rgU;omega) (by omega);have h2:=Ri (x:=IntKind.u64.wrap (x/18446744073709551616)) (y:=IntKind.u64.wrap (y/18446744073709551616)) (c:=(x%18446744073709551616+y%18446744073709551616)/18446744073709551616)
  (by simp[rgU,IntKind.wrap,IntKind.bits,IntKind.signed];omega) (by simp[rgU,IntKind.wrap,IntKind.bits,IntKind.signed];omega) (by omega)
 have e:IntKind.i64.wrap ((IntKind.u64.wrap (x/18446744073709551616)+IntKind.u64.wrap (y/18446744073709551616)+(x%18446744073709551616+y%18446744073709551616)/18446744073709551616)%18446744073709551616)=(x+y)/18446744073709551616:=by
  simp[IntKind.wrap,IntKind.bits,IntKind.signed];omega
 have e2:(x%18446744073709551616+y%18446744073709551616)%18446744073709551616=(x+y)%18446744073709551616:=by omega
 have h3:¬(Y9 (SW (x/18446744073709551616) ((x+y)/18446744073709551616)) (SW (y/18446744073709551616) ((x+y)/18446744073709551616))<0):=by
  rw[aiv (by unfold rg;omega) (by unfold rg;omega) (by unfold rg;omega)];by_cases a:x/18446744073709551616<0<;>by_cases b:y/18446744073709551616<0<;>by_cases c:(x+y)/18446744073709551616<0<;>simp[a,b,c]<;>omega
 simp only[Int.add_zero]at h1;simp only[bW.a,u0];simp[arz,aiA,h1,h2,e,e2,Wz,Vj,h3]
def GQ:Option Int→bW
 |none=>cu
 |some x=>u0 x
def szO(s:Option Int):Prop:=sz (s.getD 0)
def Gl(s:Option Int)(v:bW):Option Int:=if v.k=0 then s else some (s.getD 0+v.n)
def PL(v:bW):Int:=if oC v=false then 120 else if v.k=0∨v.k=2 then 0 else 2
theorem UM(s:Option Int):ED 4 [GQ s]=0:=by
 unfold ED;cases s<;>simp[GQ,U9,Z2]<;>simp[cu,u0]
theorem aiq(v:bW):ED 2 [v]=PL v:=by
 unfold ED PL;cases h:oC v<;>simp[h]
theorem ajh(s:Option Int)(v:bW)(hs:szO s)(hv:rg v.n) :
  aK I.ql [(GQ s).a,v.a]=some (.tup [(if PL v=0 then GQ (Gl s v) else cu).a,ar (PL v)]):=by
 rw[aA agJ rfl];have h1:=fun b=>aeG 4 b (GQ s);have h2:=fun b=>aeG 2 b v;rw[UM]at h1;rw[aiq]at h2;have h3:=VO v hv;unfold PL at *;by_cases ho:oC v=true
 ·rw[ho]at h2 ⊢;simp only[dY,cz]at h2 ⊢;by_cases hk0:v.k=0
  ·simp[hk0]at h2;unfold Gl;rw[if_pos hk0];generalize GQ s=S at *;simp only[bW.a]at *;simp[aow,TL,h1,h2,hk0];rw[hk0]at h2;simp[h2]
  by_cases hk2:v.k=2
  ·simp[hk2]at h2;unfold Gl;rw[if_neg hk0];cases s with
   |none=>
    simp only[GQ,Option.getD_none,Int.zero_add]at *;simp only[bW.a,cu]at *;rw[hk2]at h2 h3 ⊢;simp[aow,TL,h1,h2,h3]
   |some x=>
    have h4:=afO (x:=x) (y:=v.n) hs (by unfold rg at hv;unfold sz;omega);simp only[GQ,cJ]at *;simp only[bW.a]at *;rw[hk2]at h2 h3 ⊢;have hx:(u0 x).k=4:=rfl;simp only[hx]at h1 h4 ⊢;simp[aow,TL,h1,h2,h3,h4]
  have hk:¬(v.k=0∨v.k=2):=by omega
  rw[if_neg hk]at h2;generalize GQ s=S at *;simp only[bW.a,cu]at *;simp[aow,TL,h1,h2,hk]
 have ho:oC v=false:=by simpa using ho
 rw[if_pos ho]at h2;generalize GQ s=S at *;simp only[bW.a,cu]at *;simp[aow,TL,h1,h2,ho]
def Ma:Option Int→bW×Int
 |none=>(cu,0)
 |some x=>if -9223372036854775808≤x∧x<9223372036854775808 then (iA x,0) else (cu,140)
theorem akb(s:Option Int)(hs:szO s):aK I.qf [(GQ s).a]=some (.tup [(Ma s).1.a,ar (Ma s).2]):=by
 rw[aA amp rfl];have h1:=fun b=>aeG 4 b (GQ s);rw[UM]at h1;cases s with
 |none=>
  simp only[GQ,Ma]at *;simp only[bW.a,cu]at *;simp[an5,WW,h1]
 |some x=>
  have hx:(u0 x).k=4:=rfl;have hr:rg (IntKind.i64.wrap (u0 x).u):=by
   unfold rg;simp[IntKind.wrap,IntKind.bits,IntKind.signed];split<;>omega
  have h3:=VO (iA (IntKind.i64.wrap (u0 x).u)) hr;have ha:(u0 x).a=.agg [ar 4,ar (x/18446744073709551616),.int .u64 (x%18446744073709551616),.str []]:=rfl;simp only[GQ,Ma]at *;unfold szO sz at hs;simp only[cJ]at hs;have e:(u0 x).u=x%18446744073709551616:=rfl;rw[e]at hr h3;rw[ha]at h1 ⊢;have hm:∀n,IntKind.i64.wrap n=IntKind.i64.wrap n:=fun _=>rfl;by_cases hrx:-9223372036854775808≤x∧x<9223372036854775808
  ·have hw:IntKind.i64.wrap (x%18446744073709551616)=x:=by
    simp[IntKind.wrap,IntKind.bits,IntKind.signed];split<;>omega
   rw[hw]at h3;rw[if_pos hrx];simp only[iA]at *;simp only[bW.a,u0]at *;simp[an5,WW,h1,h3,hw,iA,bW.a]
  rw[if_neg hrx];have hw:rg (IntKind.i64.wrap (x%18446744073709551616)):=hr;generalize hg:IntKind.i64.wrap (x%18446744073709551616)=w at *;have hxw:x≠w:=fun h=>hrx (by rw[h];exact hw);have hne:w/18446744073709551616≠x/18446744073709551616∨w%18446744073709551616≠x%18446744073709551616:=by omega
  simp only[iA]at *;simp only[bW.a,u0]at *;by_cases hq:w/18446744073709551616=x/18446744073709551616
  ·have hq2:w%18446744073709551616≠x%18446744073709551616:=by omega
   simp[an5,WW,h1,h3,hg,iA,bW.a,hq,bE hq2,cu]
  simp[an5,WW,h1,h3,hg,iA,bW.a,bE hq,cu]
def RD(v w:bW):Int:=if jS v=true∧jS w=true then lex (sw v.k w.k) (lex (sw v.n w.n) (yi v.s w.s)) else 0
theorem Or3(b:Bool)(a c d:Int):aK I.qar [.aa b [ar a,ar c,ar d]]=some (ar (lex a (lex c d))):=by
 rw[aA WH rfl];unfold lex;by_cases ha:a=0
 ·by_cases hc:c=0
  ·by_cases hd:d=0
   ·subst ha hc hd;simp[aoe,sY,lK,dq,aE,IntKind.wrap,IntKind.bits,IntKind.signed]
   subst ha hc;simp[aoe,sY,lK,dq,aE,IntKind.wrap,IntKind.bits,IntKind.signed,eo hd]
  subst ha;simp[aoe,sY,lK,dq,aE,IntKind.wrap,IntKind.bits,IntKind.signed,eo hc,hc]
 simp[aoe,sY,lK,dq,aE,IntKind.wrap,IntKind.bits,IntKind.signed,eo ha,ha]
theorem Uk(s t:List UInt8)(σ:ay):cA code I.internal_bytealg_abigen_runtime_cmpstring [.str s,.str t] σ=some (ar (yi s t),σ):=by
 refine nZ fg (k:=3) (n:=0) rfl ?_;have hp:code.prims=prims:=rfl;rw[hp];simp only[prims,ol,yi];by_cases h1:Op.bytesLess s t=true
 ·simp[h1]
 by_cases h2:s=t
 ·subst h2;simp[h1]
 simp[h1,h2]
theorem Oi(s t:List UInt8):aK I.qdw [.str s,.str t]=some (ar (yi s t)):=by
 rw[aA akq rfl];simp[ark,abA,Uk]
theorem NY(s t:List UInt8):aK I.qhx [.str s,.str t]=some (ar (yi s t)):=by
 rw[aA ail rfl];simp[arG,abu,Oi]
theorem N2(v w:bW):aK I.qic [v.a,w.a]=some (ar (RD v w)):=by
 rw[aA alc rfl];obtain⟨k,n,u,s⟩:=v;obtain⟨k',n',u',s'⟩:=w;simp only[uZ];unfold RD;cases h1:jS ⟨k,n,u,s⟩<;>cases h2:jS ⟨k',n',u',s'⟩<;>simp[ap8,aao,h1,h2,GK,Hp,NY,Or3]
theorem T8(b:Bool)(v:bW):aK I.qis [.aa b [v.a]]=some (ar (if oC v then 0 else 120)):=by
 rw[aA abP rfl];obtain⟨k,n,u,s⟩:=v;simp only[uZ];cases h1:oC ⟨k,n,u,s⟩<;>simp[apB,XQ,Je,dq,aE,IntKind.wrap,IntKind.bits,IntKind.signed,h1]
theorem Nf(b:Bool)(v w:bW):aK I.qis [.aa b [v.a,w.a]]=some (ar (if oC v&&oC w then 0 else 120)):=by
 rw[aA abP rfl];obtain⟨k,n,u,s⟩:=v;obtain⟨k',n',u',s'⟩:=w;simp only[uZ];cases h1:oC ⟨k,n,u,s⟩<;>cases h2:oC ⟨k',n',u',s'⟩<;>simp[apB,XQ,Je,dq,aE,IntKind.wrap,IntKind.bits,IntKind.signed,h1,h2]
def xj(is:Int→Bool)(v w:bW):bW×Int:=
 if (oC v&&oC w)=false then (cu,120) else if v.k=4∨w.k=4∨v.k≠0∧w.k≠0∧v.k≠w.k then (cu,2) else if v.k=0∨w.k=0 then (cu,0) else (gi (is (RD v w)),0)
theorem Vv(f:Nat)(hp:aT f)(is:Int→Bool)(v w:bW)(hf:∀c,aK f [ar c]=some (.bool (is c))) :
  aK I.qiq [v.a,w.a,.fn f [] []]=some (.tup [(xj is v w).1.a,ar (xj is v w).2]):=by
 rw[aA aka rfl];have h1:=fun b=>Nf b v w;have h2:=N2 v w;unfold xj;cases ho:(oC v&&oC w)
 ·rw[ho]at h1;simp only[bW.a,cu]at *;simp[aoh,xf,h1]
 rw[ho]at h1;generalize RD v w=c at *;obtain⟨k,n,u,s⟩:=v;obtain⟨k',n',u',s'⟩:=w;simp only[uZ]at *;simp only[dY,cz];by_cases a1:k=4
 ·subst a1;by_cases a4:k'=0
  ·subst a4;simp[aoh,xf,h1,cu,bW.a]
  simp[aoh,xf,h1,cu,bW.a,bE a4]
 by_cases a3:k=0
 ·subst a3;by_cases a2:k'=4
  ·subst a2;simp[aoh,xf,h1,cu,bW.a]
  simp[aoh,xf,h1,cu,bW.a,bE a2,a2]
 by_cases a2:k'=4
 ·subst a2;simp[aoh,xf,h1,cu,bW.a,bE a1,a1,bE a3,a3]
 by_cases a4:k'=0
 ·subst a4;simp[aoh,xf,h1,cu,bW.a,bE a1,a1,bE a3,a3]
 by_cases a5:k=k'
 ·subst a5;simp[aoh,xf,h1,bE a1,a1,bE a3,a3,h2,hp _ _,hf,gi,bW.a]
 simp[aoh,xf,h1,cu,bW.a,bE a1,a1,bE a3,a3,bE a2,a2,bE a4,a4,eo a5,a5]
@[simp] theorem Vr(c:Int):aK I.qie [ar c]=some (.bool (c==0)):=by
 rw[aA abJ rfl];simp[ap4,acS]
@[simp] theorem YY(c:Int):aK I.qih [ar c]=some (.bool (decide (c<0))):=by
 rw[aA adn rfl];simp[arC,adL]
abbrev IU:=xj (fun c=>c==0)
abbrev EY:=xj (fun c=>decide (c<0))
theorem Qo(a b:bW):aK I.qid [a.a,b.a]=some (.tup [(IU a b).1.a,ar (IU a b).2]):=by
 rw[aA ac1 rfl];have h:=Vv I.qie ai2 (fun c=>c==0) a b Vr;simp only[bW.a]at *;simp[arA,aaq,h]
theorem OJ(a b:bW):aK I.qig [a.a,b.a]=some (.tup [(EY a b).1.a,ar (EY a b).2]):=by
 rw[aA aap rfl];have h:=Vv I.qih ahW (fun c=>decide (c<0)) a b YY;simp only[bW.a]at *;simp[arS,adQ,h]
def mx(v:bW):Int:=if v.k=0 then 1 else IntKind.i64.wrap (2*v.n)
@[simp] theorem alz(k n u:Int)(s:List UInt8):aK I.qit [.agg [ar k,ar n,.int .u64 u,.str s]]=some (ar (mx ⟨k,n,u,s⟩)):=by
 rw[aA aig rfl];unfold mx;by_cases h:k=0
 ·subst h;simp[apG,T9]
 simp[apG,T9,bE h,h]
theorem Eu{v:bW}(ho:oC v=true)(hk:¬1<v.k):mx v=0∨mx v=1∨mx v=2:=by
 obtain⟨k,n,u,s⟩:=v;unfold oC vl at ho;unfold mx;simp only at *;by_cases h1:k=1
 ·subst h1;by_cases h2:n≠0∧n≠1
  ·rw[if_pos rfl,if_pos h2]at ho;simp at ho
  have:n=0∨n=1:=by omega
  rcases this with rfl|rfl
  ·left;rfl
  right;right;rfl
 by_cases h0:k=0
 ·simp[h0]
 rw[if_neg h1,if_neg (by omega),if_neg h0,if_neg (by omega),if_neg (by omega)]at ho;simp[h0]at ho
def tD(n:Int):bW:=if n=0 then gi false else if n=1 then cu else gi true
def ny(to:Int→Int→Int)(v w:bW):bW×Int:=
 if (oC v&&oC w)=false then (cu,120) else if 1<v.k∨1<w.k then (cu,2) else (tD (to (mx v) (mx w)),0)
def Ct(v:bW):bW×Int:=if oC v=false then (cu,120) else if 1<v.k then (cu,2) else (tD (2-mx v),0)
@[simp] theorem aet(b:Bool)(n m:Int):aK I.qhz [.aa b [ar n,ar m]]=some (ar (min n m)):=by
 rw[aA aa4 rfl];simp[ap7,acO];split<;>omega
@[simp] theorem aks(b:Bool)(n m:Int):aK I.qim [.aa b [ar n,ar m]]=some (ar (max n m)):=by
 rw[aA abr rfl];simp[ap0,adT];split<;>omega
@[simp] theorem al1(b:Bool)(n:Int):aK I.qij [.aa b [ar n]]=some (ar (IntKind.i64.wrap (2-n))):=by
 rw[aA ajo rfl];simp[aq8,abZ]
theorem Lz(f:Nat)(hp:aT f)(to:Int→Int→Int)(b:Bool)(v w:bW)(hf:∀b n m,aK f [.aa b [ar n,ar m]]=some (ar (to n m)))
  (ht:∀n m,(n=0∨n=1∨n=2)→(m=0∨m=1∨m=2)→to n m=0∨to n m=1∨to n m=2) :
  aK I.qir [.fn f [] [],.aa b [v.a,w.a]]=some (.tup [(ny to v w).1.a,ar (ny to v w).2]):=by
 rw[aA acq rfl];have h1:=fun b=>Nf b v w;unfold ny;cases ho:(oC v&&oC w)
 ·rw[ho]at h1;simp only[bW.a,cu]at *;simp[aom,Cd,h1]
 rw[ho]at h1;simp only[aq]at ho;simp only[dY,cz];by_cases a1:1<v.k
 ·obtain⟨k,n,u,s⟩:=v;simp only[bW.a,cu]at *;simp[aom,Cd,h1,wb,dq,aE,IntKind.wrap,IntKind.bits,IntKind.signed,a1]
 have t1:=Eu ho.1 a1;by_cases a2:1<w.k
 ·obtain⟨k,n,u,s⟩:=v;obtain⟨k',n',u',s'⟩:=w;simp only[bW.a,cu]at *;simp[aom,Cd,h1,wb,dq,aE,IntKind.wrap,IntKind.bits,IntKind.signed,a1,a2,append,most,aH]
 have t2:=Eu ho.2 a2;have t3:=ht _ _ t1 t2;obtain⟨k,n,u,s⟩:=v;obtain⟨k',n',u',s'⟩:=w;simp only[bW.a,cu]at *;generalize hA:mx ⟨k,n,u,s⟩=A at *;generalize hB:mx ⟨k',n',u',s'⟩=B at *;have hf':=hf false A B;have hf2:=hf true A B;rcases t3 with t3|t3|t3<;>rw[t3]at hf' hf2 ⊢ <;>
  simp[aom,Cd,h1,wb,dq,aE,IntKind.wrap,IntKind.bits,IntKind.signed,a1,a2,append,most,aH,hA,hB,hp _ _,hf',hf2,tD,gi,cu]
theorem ace(v:bW):aK I.qii [v.a]=some (.tup [(Ct v).1.a,ar (Ct v).2]):=by
 have key:∀b,aK I.qir [.fn I.qij [] [],.aa b [v.a]]=some (.tup [(Ct v).1.a,ar (Ct v).2]):=fun b=>by
  rw[aA acq rfl];have h1:=fun b=>T8 b v;unfold Ct;cases ho:oC v
  ·rw[ho]at h1;simp only[bW.a,cu]at *;simp[aom,Cd,h1]
  rw[ho]at h1;simp only[dY,cz];by_cases a1:1<v.k
  ·obtain⟨k,n,u,s⟩:=v;simp only[bW.a,cu]at *;simp[aom,Cd,h1,wb,dq,aE,IntKind.wrap,IntKind.bits,IntKind.signed,a1]
  have t1:=Eu ho a1;obtain⟨k,n,u,s⟩:=v;simp only[bW.a,cu]at *;generalize hA:mx ⟨k,n,u,s⟩=A at *;rcases t1 with rfl|rfl|rfl <;>
   simp[aom,Cd,h1,wb,dq,aE,IntKind.wrap,IntKind.bits,IntKind.signed,a1,append,most,aH,hA,tD,gi,cu]
 rw[aA abq rfl];simp only[bW.a]at *;simp[are,abD,key]
theorem agp(v w:bW):aK I.qhy [v.a,w.a]=some (.tup [(ny min v w).1.a,ar (ny min v w).2]):=by
 rw[aA abn rfl];have h:=fun b=>Lz I.qhz ah5 min b v w aet (fun n m h1 h2=>by omega);simp only[bW.a]at *;simp[arU,acQ,h]
theorem ams(v w:bW):aK I.qil [v.a,w.a]=some (.tup [(ny max v w).1.a,ar (ny max v w).2]):=by
 rw[aA abt rfl];have h:=fun b=>Lz I.qim aje max b v w aks (fun n m h1 h2=>by omega);simp only[bW.a]at *;simp[aqa,aa8,h]
abbrev Jf(f:Nat):ap:=.fn f [] []
abbrev TE(f:Nat)(x:ap):ap:=.fn f [] [.cptr false x 0]
def KY:List (ap×ap):=
 [(ar 4,TE I.qdj (Jf I.qi)),(ar 5,TE I.qdj (Jf I.qii)),(ar 6,TE I.qdo (.bool true)),(ar 7,TE I.qdo (.bool false)),
  (ar 12,Jf I.qa),(ar 13,Jf I.qj),(ar 14,Jf I.qg),(ar 15,Jf I.qd),(ar 16,Jf I.qid),(ar 17,TE I.qdm (Jf I.qid)),
  (ar 18,Jf I.qig),(ar 20,TE I.qdv (Jf I.qig)),(ar 19,TE I.qdm (TE I.qdv (Jf I.qig))),(ar 21,TE I.qdm (Jf I.qig)),
  (ar 22,Jf I.qhy),(ar 23,Jf I.qil)]
theorem ad4:aK I.qdh []=some (.imap false KY):=fA (n:=40) (show dl code 40 I.qdh [] []=some (.imap false KY,[]) by kernel_rfl)
def GB(g:ap)(F:bW→bW→bW×Int)(ok:bW→Prop):Prop:=∀a b σ,ok b→dS code g [a.a,b.a] σ=some (.tup [(F a b).1.a,ar (F a b).2],σ)
theorem kO{f:Nat}(hp:aT f){F:bW→bW→bW×Int}{ok:bW→Prop}(h:∀a b,ok b→aK f [a.a,b.a]=some (.tup [(F a b).1.a,ar (F a b).2])):GB (Jf f) F ok:=fun a b σ hb=>by
 have:=h a b hb;simp[hp _ _,this]
abbrev okA(_:bW):Prop:=True
theorem Me{f:Nat}(hp:aT f){F:bW→bW×Int}(h:∀a,aK f [a.a]=some (.tup [(F a).1.a,ar (F a).2])):GB (TE I.qdj (Jf f)) (fun a _=>F a) okA:=fun a b σ _=>by
 have h:=h a;have:aK I.qdj [a.a,b.a,.cptr false (Jf f) 0]=some (.tup [(F a).1.a,ar (F a).2]):=by
  rw[aA ahl rfl];simp only[bW.a]at *;simp[arM,acd,hp _ _,h]
 simp[this]
theorem Sg(is:Bool):GB (TE I.qdo (.bool is)) (fun a _=>(gi ((a.k==0)==is),0)) okA:=fun a b σ _=>by
 have:aK I.qdo [a.a,b.a,.cptr false (.bool is) 0]=some (.tup [(gi ((a.k==0)==is)).a,ar 0]):=by
  rw[aA aiZ rfl];simp only[bW.a];simp[apX,aaH,neg,gi,bW.a]
 simp[this]
theorem S1{f:Nat}(hp:aT f){F:bW→bW→bW×Int}(h:∀a b,aK f [a.a,b.a]=some (.tup [(F a b).1.a,ar (F a b).2]))(a b:bW) :
  aK I.qdv [a.a,b.a,.cptr false (Jf f) 0]=some (.tup [(F b a).1.a,ar (F b a).2]):=by
 have h:=h b a;rw[aA ak8 rfl];simp only[bW.a]at *;simp[aqo,aax,hp _ _,h]
def Cr(p:bW×Int):bW×Int:=if p.2=0 then Ct p.1 else p
theorem afN{g:ap}{F:bW→bW→bW×Int}(hg:GB g F okA)(hn:aC g=1∧isAgg g=false)(hz:∀fl top base σ n,fz fl top base σ (n+4) g=g)(a b:bW) :
  aK I.qdm [a.a,b.a,.cptr false g 0]=some (.tup [(Cr (F a b)).1.a,ar (Cr (F a b)).2]):=by
 have h:=fun σ=>hg a b σ trivial;rw[aA akK rfl];have h2:=ace (F a b).1;unfold Cr;generalize F a b=p at *;obtain⟨v,no⟩:=p;simp only at *;by_cases h0:no=0
 ·subst h0;simp only[bW.a,cW]at *;simp[aph,V3,h,h2,hn]
 simp only[bW.a,if_neg h0]at *;simp[aph,V3,h,eo h0,hn]
noncomputable def Gp(t:Int)(a b:bW):bW×Int:=
 if t=4 then eP (iL I.qk) (iA 0) a else if t=5 then Ct a else if t=6 then (gi ((a.k==0)==true),0) else if t=7 then (gi ((a.k==0)==false),0)
 else if t=12 then eP (iL I.qb) a b else if t=13 then eP (iL I.qk) a b else if t=14 then eP (iL I.qh) a b else if t=15 then eP (iL I.qe) a b
 else if t=16 then IU a b else if t=17 then Cr (IU a b) else if t=18 then EY a b else if t=20 then EY b a else if t=19 then Cr (EY b a) else if t=21 then Cr (EY a b)
 else if t=22 then ny min a b else ny max a b
theorem aeh(t:Int)(h:1≤cF t):∃g,lookup (ar t) KY=some (some g)∧GB g (Gp t) (fun b=>rg b.n):=by
 have ht:t=4∨t=5∨t=6∨t=7∨t=12∨t=13∨t=14∨t=15∨t=16∨t=17∨t=18∨t=19∨t=20∨t=21∨t=22∨t=23:=by
  unfold cF at h;repeat' split at h
  all_goals omega
 have w:∀{g F},GB g F okA→GB g F (fun b=>rg b.n):=fun h a b σ _=>h a b σ trivial;have tl:GB (TE I.qdv (Jf I.qig)) (fun a b=>EY b a) okA:=fun a b σ _=>by
  have:=S1 XF OJ a b;simp[this]
 have nt:∀{g F},GB g F okA→(aC g=1∧isAgg g=false)→(∀fl top base σ n,fz fl top base σ (n+4) g=g)→GB (TE I.qdm g) (fun a b=>Cr (F a b)) okA:=fun h h1 h2 a b σ _=>by
  have:=afN h h1 h2 a b;simp[this]
 rcases ht with rfl|rfl|rfl|rfl|rfl|rfl|rfl|rfl|rfl|rfl|rfl|rfl|rfl|rfl|rfl|rfl
 ·exact⟨_,rfl,w (Me alW ajx)⟩
 ·exact⟨_,rfl,w (Me ah8 ace)⟩
 ·exact⟨_,rfl,w (Sg true)⟩
 ·exact⟨_,rfl,w (Sg false)⟩
 ·exact⟨_,rfl,w (kO amT fun a b _=>ai8 a b)⟩
 ·exact⟨_,rfl,w (kO amj fun a b _=>abH a b)⟩
 ·exact⟨_,rfl,w (kO amO fun a b _=>ajm a b)⟩
 ·exact⟨_,rfl,kO al3 fun a b h=>agQ a b h⟩
 ·exact⟨_,rfl,w (kO aar fun a b _=>Qo a b)⟩
 ·exact⟨_,rfl,w (nt (kO aar fun a b _=>Qo a b) ⟨rfl,rfl⟩ (fun _ _ _ _ _=>by simp))⟩
 ·exact⟨_,rfl,w (kO XF fun a b _=>OJ a b)⟩
 ·exact⟨_,rfl,w (nt tl ⟨rfl,rfl⟩ (fun _ _ _ _ _=>by simp))⟩
 ·exact⟨_,rfl,w tl⟩
 ·exact⟨_,rfl,w (nt (kO XF fun a b _=>OJ a b) ⟨rfl,rfl⟩ (fun _ _ _ _ _=>by simp))⟩
 ·exact⟨_,rfl,w (kO air fun a b _=>agp a b)⟩
 exact⟨_,rfl,w (kO ajI fun a b _=>ams a b)⟩
def Iv(v:bW):Prop:=jS v=true∧rg v.n
theorem mu:Iv cu:=⟨by decide,by simp[cu,rg]⟩
theorem Da(b:Bool):Iv (gi b):=by cases b<;>exact⟨by decide,by simp[gi,rg]⟩
theorem N4{n:Int}(h:rg n):Iv (iA n):=⟨by simp[iA,jS,oC,vl],h⟩
theorem KO(n:Int):Iv (tD n):=by
 unfold tD;repeat' split
 all_goals first|exact Da _|exact mu
theorem M9{to:Int→Int→Int×Bool}{a b:bW}(h:rg (to a.n b.n).1):Iv (eP to a b).1:=by
 unfold eP;repeat' split
 all_goals first|exact mu|exact N4 h
theorem U3(a:bW):Iv (Ct a).1:=by
 unfold Ct;repeat' split
 all_goals first|exact mu|exact KO _
theorem wz(is:Int→Bool)(a b:bW):Iv (xj is a b).1:=by
 unfold xj;repeat' split
 all_goals first|exact mu|exact Da _
theorem MK(to:Int→Int→Int)(a b:bW):Iv (ny to a b).1:=by
 unfold ny;repeat' split
 all_goals first|exact mu|exact KO _
theorem JZ{p:bW×Int}(h:Iv p.1):Iv (Cr p).1:=by
 unfold Cr;split
 ·exact U3 _
 exact h
theorem mE{c:Prop}[Decidable c]{p q:bW×Int}(h1:Iv p.1)(h2:Iv q.1):Iv (if c then p else q).1:=by split;exact h1;exact h2
theorem ad2(t:Int)(a b:bW)(hb:rg b.n):Iv (Gp t a b).1:=by
 unfold Gp;exact mE (M9 (LP _ _)) (mE (U3 _) (mE (Da _) (mE (Da _) (mE (M9 (Uj _ _)) (mE (M9 (LP _ _)) (mE (M9 (Wk _ _)) (mE (M9 (Ui _ _ hb)) (mE (wz _ _ _) (mE (JZ (wz _ _ _)) (mE (wz _ _ _) (mE (wz _ _ _) (mE (JZ (wz _ _ _)) (mE (JZ (wz _ _ _)) (mE (MK _ _ _) (MK _ _ _)))))))))))))))
noncomputable def oU(r:b8)(n:EN)(l:b8):bW×Int:=
 if n.tag=1 then (n.v,0) else if n.tag=2 then (r.getD n.col.toNat cu,0) else
 let p:=Gp n.tag (l.getD 0 cu) (l.getD (l.length-1) cu)
 (p.1,if p.2≠0∧p.2≠140 then 201 else p.2)
theorem Yf(n:EN)(b:Bool)(l:b8)(br:Bool)(r:b8)(hl:l.length=(cF n.tag).toNat)(hI:∀v∈l,Iv v)(h0:0≤cF n.tag)(hc:n.tag=2→0≤n.col∧n.col<r.length) :
  aK I.qdc [n.a,.aa b (l.map bW.a),.cptr true (.aa br (r.map bW.a)) 0,.cptr true (.imap false KY) 0]=some (.tup [(oU r n l).1.a,ar (oU r n l).2]):=by
 rw[aA aj6 rfl];unfold oU;by_cases h1:n.tag=1
 ·rw[if_pos h1];simp only[EN.a,h1,bW.a];simp[aoz,Hu]
 rw[if_neg h1];by_cases h2:n.tag=2
 ·rw[if_pos h2];obtain⟨c1,c2⟩:=hc h2;have c3:n.col.toNat < r.length:=by omega
  have c4:r.getD n.col.toNat cu=r[n.col.toNat]:=by simp[List.getD,c3]
  rw[c4];simp only[EN.a,h2];simp[aoz,Hu,c1,c2,c3]
 rw[if_neg h2];have hp:1≤cF n.tag:=by
  unfold cF at h0 ⊢;rw[if_neg (by omega)]at h0 ⊢
  repeat' split
  all_goals first|omega|(exfalso;repeat' split at h0;all_goals omega)
 obtain⟨g,hg1,hg2⟩:=aeh n.tag hp;have hle:=s5 n.tag;have hl1:1≤l.length:=by omega
 have hlast:l.length-1<l.length:=by omega
 have hA:l.getD 0 cu=l[0]:=by rw[au,am hl1];rfl
 have hB:l.getD (l.length-1) cu=l[l.length-1]:=by rw[au,am hlast];rfl
 have hi:=hI l[l.length-1] (aF _);have hg3:=fun σ=>hg2 l[0] l[l.length-1] σ hi.2;have hw:IntKind.i64.wrap ((l.length:Int)-1)=((l.length-1:Nat):Int):=by rw[fj (by omega)];omega
 have hw2:((l.length:Int)-1).toNat=l.length-1:=by omega
 have e0:l[0]?=some l[0]:=am hl1;have e1:l[l.length-1]?=some l[l.length-1]:=am hlast;rw[hA,hB];generalize l[0]=x at *;generalize l[l.length-1]=y at *;generalize Gp n.tag x y=p at *;obtain⟨w,no⟩:=p;simp only at *;simp only[bW.a]at hg3;by_cases n0:no=0
 ·subst n0;simp only[EN.a];simp[aoz,Hu,bE h1,bE h2,hg1,hg3,e0,e1,hw,hw2,gG,bW.a]
 by_cases n1:no=140
 ·subst n1;simp only[EN.a];simp[aoz,Hu,bE h1,bE h2,hg1,hg3,e0,e1,hw,hw2,gG,bW.a]
 simp only[EN.a];simp[aoz,Hu,bE h1,bE h2,hg1,hg3,e0,e1,hw,hw2,gG,bW.a,eo n0,eo n1,n0,n1]
noncomputable def dM(e:List EN)(r:b8):bW×Int:=
 if zU e=false then (cu,200) else if (jt e).any (fun c=>decide ((r.length:Int)≤c) || !jS (r.getD c.toNat cu)) then (cu,2) else oF cu (oU r) e
def Ng(r:b8):Prop:=∀v∈r,rg v.n
def tc(e:List EN):Prop:=∀n∈e,rg n.v.n
theorem MJ{e:List EN}{r:b8}(hr:Ng r)(hE:tc e)(hany:∀c∈jt e,c<r.length∧jS (r.getD c.toNat cu)=true)(n:EN)(hn:n∈e)(l:b8)(hl:l.length=(cF n.tag).toNat)(hc:f9 n=true)(hI:∀y∈l,Iv y):Iv (oU r n l).1:=by
 unfold oU;by_cases h1:n.tag=1
 ·rw[if_pos h1];unfold f9 at hc;rw[if_pos h1]at hc;simp at hc;exact⟨hc.1,hE n hn⟩
 rw[if_neg h1];by_cases h2:n.tag=2
 ·rw[if_pos h2];obtain⟨c1,c2⟩:=qF hc h2;obtain⟨d1,d2⟩:=hany _ (ww hn h2);refine⟨d2,?_⟩;have ak:n.col.toNat < r.length:=by omega
  rw[au,am ak];exact hr _ (aF _)
 rw[if_neg h2];refine ad2 _ _ _ ?_;rw[au];cases hq:l[l.length-1]? with
 |none=>exact mu.2
 |some y=>exact (hI y (aw hq)).2
theorem F4{e:List EN}(ho:zU e=true){n:EN}(h:n∈e):f9 n=true:=by
 obtain⟨k,hk⟩:=List.getElem?_of_mem h;obtain⟨ak,_⟩:=al.1 hk;obtain⟨a,o,h1⟩:=PQ ho (k:=k) (by omega);obtain⟨a',o',_,_,_,_,hc,_⟩:=sK ho hk h1;exact hc
theorem Dz(b:Bool)(e:List EN)(br:Bool)(r:b8)(hn:e.length≤most)(hr:Ng r)(hE:tc e) :
  aK I.qdb [.agg [.aa b (e.map EN.a)],.aa br (r.map bW.a)]=some (.tup [(dM e r).1.a,ar (dM e r).2]):=by
 rw[aA agr rfl];have hc:=fun b=>rK b e hn;simp only[Co,xV]at hc;unfold dM;cases ho:zU e with
 |false=>
  rw[ho]at hc;simp[apc,Rm,hc,cu,bW.a]
 |true=>
  rw[ho]at hc;have hC:=fun b=>Hl b e hn ho;have hcl:=Lx e;have h2:=lD (base:=3) (clr:=[5,7,13,14]) (b:=wJ) (jt e)
   (fun k=>⟨[.agg [.aa b (e.map EN.a)],.aa br (r.map bW.a),.ptr 0 0 0 0,.ptr 1 0 0 0,.ptr 2 0 0 0,.any,ar 0,.any,.any,.bool false,.aa false (aZ (jt e)),ar (jt e).length,ar k,.any,.any],[.arr 1 0 [.agg [.aa b (e.map EN.a)]],.arr 1 0 [.aa br (r.map bW.a)],.arr 4 0 [.agg [ar 0,ar 0,.int .u64 0,.str []]]]⟩)
   (fun c=>decide ((r.length:Int)≤c) || !jS (r.getD c.toNat cu))
   (.ext 0,⟨[.agg [.aa b (e.map EN.a)],.aa br (r.map bW.a),.ptr 0 0 0 0,.ptr 1 0 0 0,.ptr 2 0 0 0,.any,ar 0,.any,.any,.bool false,.aa false (aZ (jt e)),ar (jt e).length,ar (jt e).length,.bool false,.any],[.arr 1 0 [.agg [.aa b (e.map EN.a)]],.arr 1 0 [.aa br (r.map bW.a)],.arr 4 0 [.agg [ar 0,ar 0,.int .u64 0,.str []]]]⟩)
   (fun o=>∃s,o=(.ret,s)∧dO .pure [.cell true 4 4,.env 5] (some (.ret,s))=some (.tup [cu.a,ar 2]))
   (fun k y hk' hy hp=>by
    have ak:((k:Int)<((jt e).length:Int)):=by omega
    obtain⟨n,hne,ht,rfl⟩:=Ht (aw hy);obtain⟨c1,c2⟩:=qF (F4 ho hne) ht;simp only[eQ,eW,gv]at hp;obtain⟨hp1,hp2⟩:=hp;have hlt2:n.col.toNat < r.length:=by omega
    rw[au,am hlt2]at hp2;simp only[cJ]at hp2;simp[wJ,ak,hy,hp1,c1,hlt2,tN,hp2,aX hk' (aI hcl hn),bY])
   (fun k y hk' hy hp=>by
    have ak:((k:Int)<((jt e).length:Int)):=by omega
    obtain⟨n,hne,ht,rfl⟩:=Ht (aw hy);obtain⟨c1,c2⟩:=qF (F4 ho hne) ht;by_cases hp1:(r.length:Int)≤n.col
    ·exact⟨_,by simp[wJ,ak,hy,hp1];rfl,_,rfl,by simp[cu,bW.a]⟩
    have hp2:jS (r.getD n.col.toNat cu)=false:=by simpa [hp1] using hp
    have hlt2:n.col.toNat < r.length:=by omega
    rw[au,am hlt2]at hp2;simp only[cJ]at hp2;exact⟨_,by simp[wJ,ak,hy,hp1,c1,hlt2,tN,hp2];rfl,_,rfl,by simp[cu,bW.a]⟩)
   (by simp[wJ])
  rcases h2 with⟨hb,h2⟩|⟨hb,o,h2,s,rfl,h3⟩
  ·rw[hb];have hany:∀c∈jt e,c<r.length∧jS (r.getD c.toNat cu)=true:=fun c hc=>by
    have:=bR.1 hb c hc;simp only[cK,aL,cN,not_or,gT]at this;exact⟨by omega,this.2⟩
   have hover:=fun b=>Xi b e hn ho (.fn I.qdc [] [.cptr true (.aa br (r.map bW.a)) 0,.cptr true (.imap false KY) 0]) (fun fl top base σ h=>by cases fl<;>cases top<;>simp at h ⊢) (oU r) Iv
    (fun n hne l hl hcn hI _=>MJ hr hE hany n hne l hl hcn hI)
    (fun n hne l hl hcn hI σ x hx=>by
     obtain⟨k,hk⟩:=List.getElem?_of_mem hne;obtain⟨ak,_⟩:=al.1 hk;obtain⟨a,o,h1⟩:=PQ ho (k:=k) (by omega);obtain⟨a',o',_,_,h0,_,_,_⟩:=sK ho hk h1;have hk1:=Yf n true l br r hl hI h0 (fun ht=>by
      obtain⟨h1,h2⟩:=qF hcn ht;exact⟨h1,(hany _ (ww hne ht)).1⟩)
     have hna:fz true false 0 σ 20 n.a=n.a:=Fx.fx true false 0 σ 17 n;simp only[po]at hx;simp[hx,hna,hk1])
   simp at h2;simp[apc,Rm,hc,hC,h2,ad4,hover,bW.a]
  rw[hb];simp at h2;simp[apc,Rm,hc,hC,h2,-dV];exact h3
theorem G0{α σ ρ:Type}{g:Nat→α→σ→σ⊕ρ}{l:List α}(uL:Nat→σ→Prop)(hstep:∀k y s s',l[k]?=some y→uL k s→g k y s=.inl s'→uL (k+1) s'){s s':σ}(h0:uL 0 s)(h:aV g l 0 s=.inl s'):uL l.length s':=by
 have key:∀(m:List α) k s,l.drop k=m→k≤l.length→uL k s→aV g m k s=.inl s'→uL l.length s':=by
  intro m;induction m with
  |nil=>
   intro k s hd hk hi hf;have:k=l.length:=by
    have:=congrArg List.length hd;simp at this;omega
   subst this;cases hf;exact hi
  |cons y m ih=>
   intro k s hd hk hi hf;have ak:k<l.length:=by
    have:=congrArg List.length hd;simp at this;omega
   have hy:l[k]?=some y:=by
    have:=congrArg (·[0]?) hd;simpa using this
   have hm:l.drop (k+1)=m:=by
    have:=congrArg List.tail hd;simpa [dD] using this
   simp only[aV]at hf;cases hg:g k y s with
   |inl t=>
    rw[hg]at hf;exact ih (k+1) t hm (by omega) (hstep k y s t hy hi hg) hf
   |inr r=>rw[hg]at hf;cases hf
 exact key l 0 s (by simp) (bP _) h0 h
theorem MA{β:Type}{z:β}{eP:EN→List β→β×Int}{e:List EN}(ho:zU e=true)(Iv:β→Prop)(hIv:∀n∈e,∀l:List β,l.length=(cF n.tag).toNat→f9 n=true→(∀y∈l,Iv y)→(eP n l).2=0→Iv (eP n l).1)(h:(oF z eP e).2=0) :
  Iv (oF z eP e).1∨∃no,no≠0∧oF z eP e=(z,no):=by
 unfold oF at *;cases hf:aV (lP eP) e 0 [] with
 |inr no=>
  rw[hf]at h;simp only at h;subst h;exfalso;have key:∀(m:List EN) k st,aV (lP eP) m k st≠.inr 0:=by
   intro m;induction m with
   |nil=>intro k st h;cases h
   |cons n m ih=>
    intro k st h;simp only[aV]at h;unfold lP at h;split at h
    ·rename_i hg;exact ih _ _ h
    rename_i r hg;split at hg
    ·cases hg
    rename_i h0;injection hg with hg;subst hg;injection h with h;exact h0 h
  exact key _ _ _ hf
 |inl st=>
  left;have:=G0 (l:=e) (fun k st=>(∀y∈st,Iv y)∧∃a o,fN (e.take k) 0 [] []=some (a,o)∧st.length=o.length) (fun k n st st' hy hi hg=>by
   obtain⟨hiv,a,o,hf,hlo⟩:=hi;obtain⟨a',o',hf',hs,h1,h2,h3,h4⟩:=sK ho hy hf;have hd:(st.drop (st.length-(cF n.tag).toNat)).length=(cF n.tag).toNat:=by rw[dE];omega
   have htl:(st.take (st.length-(cF n.tag).toNat)).length=st.length-(cF n.tag).toNat:=by rw[bO];omega
   unfold lP at hg;split at hg
   ·rename_i h0;cases hg;have hx:=hIv n (aw hy) _ hd h3 (fun y hy'=>hiv y (cQ hy')) h0;exact⟨fun y hy'=>(bT.1 hy').elim (fun h=>hiv y (bv h)) (fun h=>by rw[ce.1 h];exact hx),a',o',hf',by simp[htl,h4,hlo]⟩
   cases hg) ⟨by simp,[],[],by simp[fN],rfl⟩ hf
  obtain⟨hiv,a,o,h1,h2⟩:=this;rw[cn]at h1;rw[C3 ho h1]at h2
  match st,h2 with
  |[x],_=>exact hiv x (ce.2 rfl)
theorem QA{e:List EN}{r:b8}(hr:Ng r)(hE:tc e)(h:(dM e r).2=0):Iv (dM e r).1:=by
 unfold dM at *;cases ho:zU e with
 |false=>exact mu
 |true=>
  rw[ho]at h;simp only[dY,cz]at h ⊢;split
  ·exact mu
  rename_i hb;rw[if_neg hb]at h;have hany:∀c∈jt e,c<r.length∧jS (r.getD c.toNat cu)=true:=fun c hc=>by
   have:=bR.1 (fT.2 hb) c hc;simp only[cK,aL,cN,not_or,gT]at this;exact⟨by omega,this.2⟩
  rcases MA (z:=cu) ho Iv (fun n hne l hl hcn hI _=>MJ hr hE hany n hne l hl hcn hI) h with h1|⟨no,h0,h1⟩
  ·exact h1
  rw[h1];exact mu
def Ku(v:bW):Bool:=decide (v=gi true)
theorem Q0(v:bW):aK I.qio [v.a]=some (.bool (Ku v)):=by
 rw[aA aja rfl];have hB:=aer true;have e1:∀w:bW,eqa false [0,0,0,2] v.a w.a=some (.bool (decide (v=w))):=fun w=>by
  obtain⟨k,n,u,s⟩:=v;obtain⟨k',n',u',s'⟩:=w;simp[eqa,bW.a]
  try (by_cases h1:k=k'<;>by_cases h2:n=n'<;>by_cases h3:u=u'<;>by_cases h4:s=s'<;>simp[h1,h2,h3,h4])
 have e2:=e1 (gi true);unfold Ku;generalize decide (v=gi true)=b at *;obtain⟨k,n,u,s⟩:=v;simp only[gi,bW.a]at *;simp at hB e2;simp[aru,aa6,hB,e2]
theorem Qy(bc:Bool)(e:List EN)(r:b8)(hn:e.length≤most)(hr:Ng r)(hE:tc e):aK I.qcj [.agg [.aa bc (e.map EN.a)],aD r]=some (.tup [.bool (Ku (dM e r).1),.bool ((dM e r).2==0)]):=by
 rw[aA ahc rfl];have hV:=fun c=>Dz c e false r hn hr hE;have hT:=Q0 (dM e r).1;have hrx:aD r=.aa false (r.map bW.a):=rfl;generalize dM e r=p at *;obtain⟨v,no⟩:=p;simp only[bW.a]at hV hT ⊢;simp[arv,acm,hrx,hV,hT,bW.a]
theorem Oy{rs:aQ}(hn:rs.length≤most)(c:b8→b8→Int)(F:ap)(g:Nat)(cap:List ap)(hW:Aq c)(hz:∀r q,c r q=0→r=q)(hR:∀r q,-1≤c r q∧c r q≤1)
  {σ:ay} {id ep:Nat} (h:σ[id]?=some (.arr 1 ep (rs.map aD))) (hF:fS (σ.set id .dead) F=.fn g [] cap) (hcall:∀r∈rs,∀q∈rs,cA code g (aD r::aD q::cap) []=some (ar (c r q),[])) :
  cA code 67 [.sl id ep 0 rs.length,F] σ=some (.any,σ.set id (.arr 1 ep ((dL c rs).map aD))):=by
 have hk:∀x∈rs.map aD,∃r,r∈rs∧x=aD r:=fun x hx=>by
  obtain⟨r,h1,h2⟩:=aU.1 hx;exact⟨r,h1,h2.symm⟩
 have ha:∀r,nB (aD r)=r:=fun r=>yO false r;obtain⟨n,hf⟩:=q7 (F:=fun n (x:ap)=>∀y∈rs.map aD,dl code n g (x::y::cap) []=some (ar (c (nB x) (nB y)),[]))
  (fun n m x hnm h y hy=>(fw fg _ _ _).le hnm (h y hy)) (rs.map aD) (fun x hx=>by
   obtain⟨n,hn⟩:=q7 (F:=fun n (y:ap)=>dl code n g (x::y::cap) []=some (ar (c (nB x) (nB y)),[]))
    (fun n m y hnm h=>(fw fg _ _ _).le hnm h) (rs.map aD) (fun y hy=>by
     obtain⟨r,hr,rfl⟩:=hk x hx;obtain⟨q,hq,rfl⟩:=hk y hy;rw[ha,ha];exact (mH (fw fg _ _ _) _).1 (hcall r hr q hq))
   exact⟨n,fun y hy=>hn y hy⟩)
 have hc:∀r q,r∈rs→q∈rs→iO (dl code n) (.fn g [] cap) (aD r) (aD q)=some (c r q):=fun r q hr hq=>by
  have:=hf (aD r) (aU.2 ⟨r,hr,rfl⟩) (aD q) (aU.2 ⟨q,hq,rfl⟩);unfold iO qV;rw[ha,ha]at this;simp[this]
 have hO:sP (iO (dl code n) (.fn g [] cap)) (rs.map aD)=true:=by
  rw[lI];refine⟨fun x hx y hy=>?_,fun x hx y hy a b e1 e2=>?_,fun x hx y hy e=>?_,fun x hx=>?_,fun x hx y hy z hz' a b d e1 e2 e3 h1 h2=>?_⟩
  ·obtain⟨r,hr,rfl⟩:=hk x hx;obtain⟨q,hq,rfl⟩:=hk y hy;have:=hR r q;exact⟨_,hc r q hr hq,by omega,by omega⟩
  ·obtain⟨r,hr,rfl⟩:=hk x hx;obtain⟨q,hq,rfl⟩:=hk y hy;rw[hc r q hr hq]at e1;rw[hc q r hq hr]at e2;cases e1;cases e2;exact hW.anti r q
  ·obtain⟨r,hr,rfl⟩:=hk x hx;obtain⟨q,hq,rfl⟩:=hk y hy;rw[hc r q hr hq]at e;rw[hz r q (cB e)]
  ·obtain⟨r,hr,rfl⟩:=hk x hx;rw[hc r r hr hr,hW.self]
  obtain⟨r,hr,rfl⟩:=hk x hx;obtain⟨q,hq,rfl⟩:=hk y hy;obtain⟨s,hs,rfl⟩:=hk z hz';rw[hc r q hr hq]at e1;rw[hc q s hq hs]at e2;rw[hc r s hr hs]at e3;cases e1;cases e2;cases e3;exact hW.lt_le h1 (Int.le_of_lt h2)
 refine nZ fg (k:=1) (n:=n) rfl ?_;have hp:code.prims 1 (dl code n)=mn (dl code n):=rfl;rw[hp];have h9:(rs.map aD).take rs.length=rs.map aD:=av (by simp);have h10:((rs.map aD).all fun x=>same (fS (σ.set id .dead) x) x&&aC x==1&&!isAgg x&&!js x)=true:=by
  rw[aG];intro x hx;obtain⟨r,hr,rfl⟩:=hk x hx;simp only[aD];simp[js]
 simp only[mn,h,gW,h9];have h13:eU (mg (iO (dl code n) (.fn g [] cap))) (rs.map aD)=(dL c rs).map aD:=by
  refine ux fun r hr q hq=>?_;unfold mg;rw[hc r q hr hq]
 rw[if_pos ⟨by trivial,by simp,hn,h10,by rw[hF];exact hO,by rw[hF];rfl⟩,hF,h13];have h12:(rs.map aD).drop (0+rs.length)=[]:=jd (by simp);rw[h12];simp
def sg(ah:List Int)(r q:b8):Int:=lex (ez (lA r ah) (lA q ah)) (ez r q)
theorem ZP(ah:List Int):Aq (sg ah):=(pA.on fun r=>lA r ah).lex pA
theorem SQ{ah:List Int}{r q:b8}(h:sg ah r q=0):r=q:=sU (sX h).2
theorem Nm(ah:List Int)(r q:b8):-1≤sg ah r q∧sg ah r q≤1:=pL (qR _ _) (qR _ _)
theorem Or2(b:Bool)(a c:Int):aK I.qar [.aa b [ar a,ar c]]=some (ar (lex a c)):=by
 rw[aA WH rfl];unfold lex;by_cases ha:a=0
 ·by_cases hc:c=0
  ·subst ha hc;simp[aoe,sY,lK,dq,aE,IntKind.wrap,IntKind.bits,IntKind.signed]
  subst ha;simp[aoe,sY,lK,dq,aE,IntKind.wrap,IntKind.bits,IntKind.signed,eo hc]
 simp[aoe,sY,lK,dq,aE,IntKind.wrap,IntKind.bits,IntKind.signed,eo ha,ha]
theorem QC(b b':Bool)(r q:b8)(hr:r.length≤most):aK I.qgh [.aa b (r.map bW.a),.aa b' (q.map bW.a)]=some (ar (ez r q)):=yn b b' r q hr
theorem wk(r:b8)(ah:List Int):(lA r ah).length=ah.length:=by simp[lA]
theorem SD(t bc:Bool)(ah:List Int)(r q:b8)(hc:ah.length≤16)(hl:r.length≤most)(hr:∀c∈ah,0≤c∧c<r.length)(hq:∀c∈ah,0≤c∧c<q.length) :
  aK I.qfw [aD r,aD q,.cptr t (.aa bc (kR ah)) 0]=some (ar (sg ah r q)):=by
 rw[aA aiF rfl];have h1:=fun bc=>sH bc r ah hc hr;have h2:=fun bc=>sH bc q ah hc hq;have h3:=fun b b'=>QC b b' (lA r ah) (lA q ah) (by rw[wk];unfold most;omega);have h4:=fun b b'=>QC b b' r q hl;have h5:=fun b=>Or2 b (ez (lA r ah) (lA q ah)) (ez r q);simp only[aD]at *;unfold sg;cases t<;>simp[aqT,aaX,h1,h2,h3,h4,h5]
theorem K7(v w:bW):eqa true [0,0,0,2] v.a w.a=some (.bool (!decide (v=w))):=by
 obtain⟨k,n,u,s⟩:=v;obtain⟨k',n',u',s'⟩:=w;simp only[uZ];by_cases h1:k=k'
 ·by_cases h2:n=n'
  ·by_cases h3:u=u'
   ·by_cases h4:s=s'
    ·subst h1 h2 h3 h4;simp
    have h4':(s==s')=false:=by simp[h4]
    subst h1 h2 h3;simp[h4,h4']
   subst h1 h2;simp[bE h3,h3]
  subst h1;simp[bE h2,h2]
 simp[bE h1,h1]
theorem VW{α:Type}[DecidableEq α]:∀{r q:List α},r.length=q.length→((r.zip q).any fun p=>!decide (p.1=p.2))=!decide (r=q)
 |[],[],_=>rfl
 |a::r,b::q,h=>by
  have ih:=VW (r:=r) (q:=q) (by simpa using h);rw[gz,fW,ih];by_cases e:a=b
  ·subst e;simp
  simp[e]
theorem T6(b b':Bool)(r q:b8)(hr:r.length≤most):aK I.qhl [.aa b (r.map bW.a),.aa b' (q.map bW.a)]=some (.bool (decide (r=q))):=by
 rw[aA abl rfl];by_cases hl:r.length=q.length
 ·have h:=lD (base:=0) (clr:=[2,3,7,8]) (b:=rz) (r.zip q)
   (fun k=>⟨[.aa b (r.map bW.a),.aa b' (q.map bW.a),.any,.any,.bool false,ar r.length,ar k,.any,.any],[]⟩) (fun p=>!decide (p.1=p.2))
   (.ext 0,⟨[.aa b (r.map bW.a),.aa b' (q.map bW.a),.any,.any,.bool false,ar r.length,ar r.length,.bool false,.any],[]⟩)
   (fun o=>∃s,o=(.ret,s)∧dO .pure [.env 2] (some (.ret,s))=some (.bool false))
   (fun k p hk hy hp=>by
    have hk':k<r.length:=by simp at hk;omega
    have hk2:k<q.length:=by omega
    have hz:p=(r[k],q[k]):=by
     have:=al.1 hy;obtain⟨_,h2⟩:=this;rw[List.getElem_zip]at h2;exact h2.symm
    subst hz;have ak:((k:Int)<(r.length:Int)):=by omega
    have e:=K7 r[k] q[k];have hd:decide (r[k]=q[k])=true:=by simpa using hp
    rw[hd]at e;have g1:r[k]?=some r[k]:=am hk';have g2:q[k]?=some q[k]:=am hk2;generalize r[k]=x at *;generalize q[k]=y at *;simp[rz,ak,g1,g2,-eqa,e,aX hk' hr,bY])
   (fun k p hk hy hp=>by
    have hk':k<r.length:=by simp at hk;omega
    have hk2:k<q.length:=by omega
    have hz:p=(r[k],q[k]):=by
     have:=al.1 hy;obtain⟨_,h2⟩:=this;rw[List.getElem_zip]at h2;exact h2.symm
    subst hz;have ak:((k:Int)<(r.length:Int)):=by omega
    have e:=K7 r[k] q[k];have hd:decide (r[k]=q[k])=false:=by simpa using hp
    rw[hd]at e;have g1:r[k]?=some r[k]:=am hk';have g2:q[k]?=some q[k]:=am hk2;generalize r[k]=x at *;generalize q[k]=y at *;exact⟨_,by simp[rz,ak,g1,g2,-eqa,e];rfl,_,rfl,by simp⟩)
   (by simp[rz,hl])
  rw[VW hl]at h;have hl':(r.length:Int)=q.length:=by omega
  rcases h with⟨ha,h⟩|⟨ha,o,h,s,rfl,h2⟩
  ·simp at ha h;rw[show decide (r=q)=true by simpa using ha];simp[aoL,LG,hl];rw[hl]at h;rw[h];simp
  have hd:decide (r=q)=false:=by simpa using ha
  rw[hd];simp at h;rw[hl]at h;simp[aoL,LG,hl,h,-dV];exact h2
 have hd:decide (r=q)=false:=by
  rw[eW];intro e;exact hl (by rw[e])
 have hl':¬(r.length:Int)=q.length:=by omega
 rw[hd];simp[aoL,LG,hl',eo hl']
theorem Kn(b b':Bool)(r q:b8)(hr:r.length≤most):aK I.qgd [.aa b (r.map bW.a),.aa b' (q.map bW.a)]=some (.bool (decide (r=q))):=by
 rw[aA ada rfl];have h:=fun b b'=>T6 b b' r q hr;simp[apO,Vm,h]
def eJ(ah:List Int)(r q:b8):Bool:=decide (lA r ah=lA q ah)
theorem TG(t bc:Bool)(ah:List Int)(r q:b8)(hc:ah.length≤16)(hr:∀c∈ah,0≤c∧c<r.length)(hq:∀c∈ah,0≤c∧c<q.length) :
  aK I.qfx [aD r,aD q,.cptr t (.aa bc (kR ah)) 0]=some (.bool (eJ ah r q)):=by
 rw[aA agm rfl];have h1:=fun bc=>sH bc r ah hc hr;have h2:=fun bc=>sH bc q ah hc hq;have h3:=fun b b'=>Kn b b' (lA r ah) (lA q ah) (by rw[wk];unfold most;omega);simp only[aD]at *;unfold eJ;cases t<;>simp[aqh,aaI,h1,h2,h3]
@[simp] theorem amC(l site:Nat)(env args:List ap)(σ:ay):dS code (.yld l site env) args σ=if jc σ l then cA code site (.frs l []::env++args) σ else none:=rfl
@[simp] theorem agc(l:Nat)(env:List ap)(r:ap×ay):Qu l env (some r)=jC l env r.2:=rfl
def eS(g:b8×aQ):ap:=.agg [aD g.1,.aa false (g.2.map aD)]
instance:Nc eS 2 true:=⟨fun _=>rfl,fun _=>rfl⟩
instance:Fx eS:=⟨fun fl top base σ n y=>by
 cases fl<;>simp[eS,aD]⟩
abbrev VN(b bc:Bool)(rs:aQ)(ah:List Int):List ap:=
 [.aa b (rs.map aD),.aa bc (kR ah),.ptr 0 0 0 0,.aj,ar 0,ar 0,.sl 1 0 0 rs.length,.fn 65 [] [.ptr 0 0 0 0],.ptr 2 0 0 0,.any,.bool false,.fn 145 [] [.ptr 4 0 0 0,.ptr 5 0 0 0],.any]
abbrev Gg(bc:Bool)(ah:List Int)(S:aQ)(ep:Nat)(C:List ap)(off:Nat)(o:Obj)(r:List Obj):ay:=
 .arr 1 0 [.aa bc (kR ah)]::.arr 1 0 (S.map aD)::.arr 1 0 [.sl 3 ep 0 C.length]::.arr 2 ep C::.arr 1 0 [.sl 1 0 off (S.length-off)]::.arr 1 0 [.fn 65 [] [.ptr 0 0 0 0]]::o::r
theorem YS(b bc:Bool)(rs:aQ)(ah:List Int)(S:aQ)(ep:Nat)(G:List (b8×aQ))(off k:Nat)(a:b8)(hk:1≤k)(ho:off+k≤S.length)(ha:S[off]?=some a)(hn:S.length≤8000)(hG:G.length≤8000)
  (hc:ah.length≤16) (hr:∀c∈ah,0≤c∧c<a.length) :
  cA code 63 (.frs 6 []::(VN b bc rs ah++[.sl 1 0 off k])) (Gg bc ah S ep (G.map eS) off (.pend false none) []) =
   some (.bool true,Gg bc ah S (ep+1) (G.map eS++[.agg [.aa false ((lA a ah).map bW.a),.sl 7 0 0 k]]) off (.pend false none) [.arr 1 0 (((S.drop off).take k).map aD)]):=by
 rw[mW fg (g:=qC) rfl];have ht:∀bc,aK I.qgn [aD a,.aa bc (kR ah)]=some (.aa false ((lA a ah).map bW.a)):=fun bc=>sH bc a ah hc hr;have ak:off<S.length:=by omega
 have hx:∀σ:ay,σ[1]?=some (.arr 1 0 (S.map aD))→fS σ (.sl 1 0 off k)=.aa true (((S.drop off).take k).map aD):=fun σ h=>by
  have ho':off+k≤(S.map aD).length:=by simpa using ho
  simp[h,ho,←List.map_drop,←List.map_take]
 have he:∀σ:ay,σ[1]?=some (.arr 1 0 (S.map aD))→gd σ (.sl 1 0 off k)=(((S.drop off).take k).map aD).isEmpty:=fun σ h=>by
  simp only[gd,rd,sliceAt,h];have:¬off+k=0:=by omega
  simp[ho,←List.map_drop,←List.map_take];cases (S.drop off).take k<;>simp
 have hlen:((S.drop off).take k).length=k:=by rw[bO,dE];omega
 have hcl:=uY (enc:=aD) true ((S.drop off).take k) (by rw[hlen];unfold most;omega);have hcall:=fun σ h=>ug ac8 rfl (hx σ h) (he σ h);rw[hcl]at hcall;have hcc:=fun o o'=>hcall (Gg bc ah S ep (G.map eS) off o o') rfl;have hm:G.length+1≤most:=by unfold most;omega
 have hg:S[off]=a:=by
  have:=am ak;rw[ha]at this;exact (cB this).symm
 generalize (S.drop off).take k=X at *;have hXl:X.length=k:=hlen;subst hXl;have h0:(0:Nat)<X.length:=by omega
 simp[Gg]at hcc;simp[qC,uC,vY,jQ,gU,eR,ak,hg,h0,ht,hcc,append,hm,Gg,VN]
theorem zZ{α:Type}{p:α→Bool}:∀{l:List α} {k:Nat} {y:α},l[k]?=some y→k<(l.takeWhile p).length→p y=true
 |[],k,y,h,_=>by simp at h
 |a::l,0,y,h,hk=>by
  simp at h;subst h;by_cases hp:p a=true
  ·exact hp
  simp[gl,hp]at hk
 |a::l,k+1,y,h,hk=>by
  by_cases hp:p a=true
  ·rw[gl,if_pos hp]at hk;exact zZ (l:=l) (k:=k) (by simpa using h) (by simpa using hk)
  simp[gl,hp]at hk
theorem xc{α:Type}{p:α→Bool}:∀{l:List α} {y:α},l[(l.takeWhile p).length]?=some y→p y=false
 |[],y,h=>by simp at h
 |a::l,y,h=>by
  by_cases hp:p a=true
  ·rw[gl,if_pos hp]at h;exact xc (l:=l) (by simpa using h)
  have hp':p a=false:=by simpa using hp
  rw[gl,if_neg hp]at h;simp at h;subst h;exact hp'
abbrev yG(b bc:Bool)(rs:aQ)(ah:List Int):ap:=.yld 6 63 (VN b bc rs ah)
theorem Yr(b bc:Bool)(rs:aQ)(ah:List Int)(S:aQ)(ep:Nat)(C:List ap)(off:Nat)(a:b8)(t:aQ)(hS:S.drop off=a::t)(hn:S.length≤8000)
  (hc:ah.length≤16) (hr:∀r∈S,∀c∈ah,0≤c∧c<r.length) :
  cq code 7 [5] wG ⟨[yG b bc rs ah,.ptr 4 0 0 0,.ptr 5 0 0 0,ar 1,.bool true,.any,.any],Gg bc ah S ep C off (.pend false none) []⟩ =
   some (.ext 2,⟨[yG b bc rs ah,.ptr 4 0 0 0,.ptr 5 0 0 0,ar (((t.takeWhile (eJ ah a)).length:Int)+1),.bool true,.bool false,.any],Gg bc ah S ep C off (.pend false none) []⟩):=by
 have hlen:(S.drop off).length=t.length+1:=by rw[hS];rfl
 rw[dE]at hlen;have ak:off<S.length:=by omega
 have ha:S[off]?=some a:=by
  have:=congrArg (·[0]?) hS;simpa using this
 have haS:a∈S:=aw ha;have hm:∀k y,t[k]?=some y→S[off+(k+1)]?=some y:=fun k y h=>by
  have:=congrArg (·[k+1]?) hS;simp at this;rw[this,h]
 have hal:∀y∈S,∀tt bc,aK I.qfx [aD a,aD y,.cptr tt (.aa bc (kR ah)) 0]=some (.bool (eJ ah a y)):=fun y hy tt bc=>TG tt bc ah a y hc (hr a haS) (hr y hy);have hle:(t.takeWhile (eJ ah a)).length≤t.length:=by
  have:=fI (l:=t) (eJ ah a);exact this.length_le
 have e0:S.length-off=t.length+1:=hlen;have hgoff:∀h:off<S.length,S[off]'h=a:=fun h=>by
  have:=am h;rw[ha]at this;exact (cB this).symm
 have h:=cL (base:=7) (clr:=[5]) (b:=wG) (fun k=>⟨[yG b bc rs ah,.ptr 4 0 0 0,.ptr 5 0 0 0,ar ((k:Int)+1),.bool true,.any,.any],Gg bc ah S ep C off (.pend false none) []⟩) (t.takeWhile (eJ ah a)).length
  (.ext 2,⟨[yG b bc rs ah,.ptr 4 0 0 0,.ptr 5 0 0 0,ar (((t.takeWhile (eJ ah a)).length:Int)+1),.bool true,.bool false,.any],Gg bc ah S ep C off (.pend false none) []⟩)
  (fun k hk=>by
   have hkt:k<t.length:=by omega
   have hy:=am hkt;have hyS:=hm k _ hy;have hp:=zZ hy hk;have hmem:t[k]∈S:=aw hyS;have hal':=hal t[k] hmem;rw[hp]at hal';have i1:((k:Int)+1<(t.length:Int)+1):=by omega
   have i2:¬((k:Int)+1<0):=by omega
   have i3:((k:Int)+1).toNat=k+1:=by omega
   have i4:off+(k+1)<S.length:=by omega
   have i5:(0:Int)≤(k:Int)+1:=by omega
   have w:IntKind.i64.wrap ((k:Int)+1+1)=(k:Int)+1+1:=fj (by omega);have hg:S[off+(k+1)]'i4=t[k]:=by
    have:=am i4;rw[hyS]at this;exact (cB this).symm
   simp[wG,Gg,e0,i1,i2,i3,i5,hkt,ak,i4,hgoff,hg,hal',w,bY])
  (by
   by_cases hend:(t.takeWhile (eJ ah a)).length=t.length
   ·rw[hend];simp[wG,Gg,e0]
   have hkt:(t.takeWhile (eJ ah a)).length<t.length:=by omega
   have hy:=am hkt;have hyS:=hm _ _ hy;have hp:=xc hy;generalize (t.takeWhile (eJ ah a)).length=k at *;have hmem:t[k]∈S:=aw hyS;have hal':=hal t[k] hmem;rw[hp]at hal';have i1:((k:Int)+1<(t.length:Int)+1):=by omega
   have i3:((k:Int)+1).toNat=k+1:=by omega
   have i4:off+(k+1)<S.length:=by omega
   have i5:(0:Int)≤(k:Int)+1:=by omega
   have hg:S[off+(k+1)]'i4=t[k]:=by
    have:=am i4;rw[hyS]at this;exact (cB this).symm
   simp[wG,Gg,e0,i1,i3,i5,hkt,ak,i4,hgoff,hg,hal'])
 simpa using h
def ru(ah:List Int):Nat→aQ→List (b8×aQ)
 |0,_=>[]
 |_+1,[]=>[]
 |n+1,a::t=>(lA a ah,a::t.takeWhile (eJ ah a))::ru ah n (t.dropWhile (eJ ah a))
theorem tw(fl top:Bool)(base:Nat)(σ:ay)(n l s:Nat)(e:List ap):fz fl top base σ (n+1) (.yld l s e)=if (decide (l<base)&&top)=true then .yld l s (e.map (fz fl top base σ n)) else .any:=by
 simp only[fz]
theorem ZR(b bc:Bool)(rs:aQ)(ah:List Int)(S:aQ)(hn:S.length≤8000)(hc:ah.length≤16)(hr:∀r∈S,∀c∈ah,0≤c∧c<r.length) :
  ∀(n off ep:Nat) (G:List (b8×aQ)),off≤S.length→S.length-off≤n→G.length≤off→∃ep',
  cq code 7 [3,4,5,6] yX ⟨[yG b bc rs ah,.ptr 4 0 0 0,.ptr 5 0 0 0,.any,.any,.any,.any],Gg bc ah S ep (G.map eS) off (.pend false none) []⟩ =
   some (.ext 0,⟨[yG b bc rs ah,.ptr 4 0 0 0,.ptr 5 0 0 0,.any,.bool false,.any,.any],Gg bc ah S ep' ((G++ru ah n (S.drop off)).map eS) S.length (.pend false none) []⟩):=by
 intro n;induction n with
 |zero=>
  intro off ep G h1 h2 h3;obtain rfl:off=S.length:=by omega
  refine⟨ep,?_⟩;rw[dq];simp[yX,Gg,ru]
 |succ n ih=>
  intro off ep G h1 h2 h3;cases hS:S.drop off with
  |nil=>
   have:S.length-off=0:=by have:=congrArg List.length hS;simpa using this
   obtain rfl:off=S.length:=by omega
   refine⟨ep,?_⟩;rw[dq];simp[yX,Gg,ru]
  |cons a t=>
   have hlen:(S.drop off).length=t.length+1:=by rw[hS];rfl
   rw[dE]at hlen;have ak:off<S.length:=by omega
   have ha:S[off]?=some a:=by
    have:=congrArg (·[0]?) hS;simpa using this
   have haS:a∈S:=aw ha;have hi:=Yr b bc rs ah S ep (G.map eS) off a t hS hn hc hr;have hle:(t.takeWhile (eJ ah a)).length≤t.length:=(fI (l:=t) (eJ ah a)).length_le;have hR:=YS b bc rs ah S ep G off ((t.takeWhile (eJ ah a)).length+1) a (by omega) (by omega) ha hn (by omega) hc (hr a haS);have hX:(S.drop off).take ((t.takeWhile (eJ ah a)).length+1)=a::t.takeWhile (eJ ah a):=by
    rw[hS,List.take_succ_cons];congr 1;have:=fI (l:=t) (eJ ah a);exact (List.prefix_iff_eq_take.1 this).symm
   have hD:S.drop (off+((t.takeWhile (eJ ah a)).length+1))=t.dropWhile (eJ ah a):=by
    rw[←List.drop_drop,hS,List.drop_succ_cons];have e:=List.takeWhile_append_dropWhile (p:=eJ ah a) (l:=t);generalize List.takeWhile (eJ ah a) t=A at *;generalize List.dropWhile (eJ ah a) t=B at *;rw[←e,List.drop_left]
   rw[hX]at hR;obtain⟨ep',hind⟩:=ih (off+((t.takeWhile (eJ ah a)).length+1)) (ep+1) (G++[(lA a ah,a::t.takeWhile (eJ ah a))]) (by omega) (by omega) (by simp;omega);rw[hD]at hind;refine⟨ep',?_⟩;have hfin:(G++ru ah (n+1) (a::t)).map eS=((G++[(lA a ah,a::t.takeWhile (eJ ah a))])++ru ah n (t.dropWhile (eJ ah a))).map eS:=by
    simp[ru]
   rw[hfin,←hind,dq];have hXl:(a::t.takeWhile (eJ ah a)).length=(t.takeWhile (eJ ah a)).length+1:=rfl;generalize a::t.takeWhile (eJ ah a)=X at *;generalize (t.takeWhile (eJ ah a)).length=m at *;have e0:S.length-off=t.length+1:=hlen;have i1:((0:Int)<(t.length:Int)+1):=by omega
   have i2:¬((m:Int)+1<0):=by omega
   have i3:((m:Int)+1).toNat=m+1:=by omega
   have i5:(0:Int)≤(m:Int)+1:=by omega
   have i6:(m:Int)+1≤(t.length:Int)+1:=by omega
   have i7:m+1≤t.length+1:=by omega
   have i8:t.length+1-(m+1)=S.length-(off+(m+1)):=by omega
   simp only[Gg,e0,cf,bV,bj,bu,bS]at hi hR;simp only[VN,cM,b9]at hR;have htk:(X.map aD).take (m+1)=X.map aD:=av (by simp[hXl]);have hnx:∀fl top base σ n,(∀y,y∈X.map aD→aC (fz fl top base σ (n+3) y)=aC y)↔True:=fun fl top base σ n=>⟨fun _=>trivial,fun _ y hy=>by
    obtain⟨r,_,rfl⟩:=aU.1 hy;simp⟩
   simp[yX,Gg,e0,i1,i2,i3,i5,i6,i7,hi,hR,jc,aE,aH,tw,eS,hXl,i8,htk,hnx,-List.mem_map];rfl
def ey(ah:List Int)(rs:aQ):List (b8×aQ):=ru ah rs.length (dL (sg ah) rs)
theorem SS(x y:ap)(hx:aC x=1∧isAgg x=false)(hy:aC y=1∧isAgg y=false)(σ:ay):cA code I.qgk [x,y] σ=some (.fn 145 [] [.ptr σ.length 0 0 0,.ptr (σ.length+1) 0 0 0],σ++[.arr 1 0 [x],.arr 1 0 [y]]):=by
 rw[bp aku rfl];simp[aqR,aba,hx,hy]
theorem Bl(ah:List Int):∀(n:Nat) (S:aQ),(ru ah n S).length≤S.length
 |0,_=>bP _
 |n+1,[]=>aM _
 |n+1,a::t=>by
  have h1:=Bl ah n (t.dropWhile (eJ ah a));have h2:(t.dropWhile (eJ ah a)).length≤t.length:=(List.dropWhile_suffix (l:=t) (eJ ah a)).length_le;simp only[ru,bj];omega
theorem vW(ah:List Int)(rs:aQ):(ey ah rs).length≤rs.length:=by
 have:=Bl ah rs.length (dL (sg ah) rs);rw[gj]at this;exact this
theorem zm(b bc:Bool)(rs:aQ)(ah:List Int)(hn:rs.length≤8000)(hr:∀r∈rs,lc r=true)(hh:∀r∈rs,EK r ah=true)(hc:ah.length≤16)(h0:∀c∈ah,0≤c) :
  aK I.qfv [.aa b (rs.map aD),.aa bc (kR ah)]=some (.tup [.aa false ((ey ah rs).map eS),ar 0]):=by
 rw[aA ahw rfl];have hm:rs.length≤most:=by unfold most;omega
 have h1:=fun b bc=>XR b bc rs ah hn hr hc h0 hh;have h2:=fun b=>Lp b rs hm hr;have hin:∀r∈rs,∀c∈ah,0≤c∧c<r.length:=fun r h=>(Yj (hh r h)).2;have hl:∀r∈rs,r.length≤most:=fun r h=>by
  have:=ZV (hr r h);unfold most;omega
 have h3:=Oy hm (sg ah) (.fn 66 [] [.ptr 0 0 0 0]) 66 [.cptr true (.aa bc (kR ah)) 0] (ZP ah) (fun r q h=>SQ h) (Nm ah)
  (σ:=[.arr 1 0 [.aa bc (kR ah)],.arr 1 0 (rs.map aD)]) (id:=1) (ep:=0) rfl (by simp) (fun r h1 q h2=>by
   have:=SD true bc ah r q hc (hl r h1) (hin r h1) (hin q h2);simp[this])
 have hS:∀r∈dL (sg ah) rs,r∈rs:=fun r h=>(kA rs).mem_iff.1 h;have hSl:=gj (sg ah) rs;obtain⟨ep',h4⟩:=ZR b bc rs ah (dL (sg ah) rs) (by rw[hSl];exact hn) hc (fun r h=>hin r (hS r h)) rs.length 0 0 [] (bP _) (by rw[hSl];omega) (bP _);simp only[gW,b9,bh]at h4;have hG:ru ah rs.length (dL (sg ah) rs)=ey ah rs:=rfl;rw[hG]at h4;have hGl:=vW ah rs;have hrun:∀σ:ay,cA code 64 [.sl 1 0 0 rs.length,.fn 65 [] [.ptr 0 0 0 0]] σ=some (.fn 145 [] [.ptr σ.length 0 0 0,.ptr (σ.length+1) 0 0 0],σ++[.arr 1 0 [.sl 1 0 0 rs.length],.arr 1 0 [.fn 65 [] [.ptr 0 0 0 0]]]):=fun σ=>SS _ _ ⟨rfl,rfl⟩ ⟨rfl,rfl⟩ σ;have hit:cA code 145 [yG b bc rs ah,.ptr 4 0 0 0,.ptr 5 0 0 0] (Gg bc ah (dL (sg ah) rs) 0 [] 0 (.pend false none) []) =
   some (.tup [],Gg bc ah (dL (sg ah) rs) ep' ((ey ah rs).map eS) (dL (sg ah) rs).length (.pend false none) []):=by
  rw[bp akL rfl];simp[arb,acE,h4]
 rw[hSl]at hit;generalize ey ah rs=G at *;generalize dL (sg ah) rs=S at *;simp[yG,VN,Gg,hSl]at hit h3;simp[aqE,adJ,h1,h2,h3,hrun,hit,jC];rintro _ x y _ rfl;simp[eS]
def vb(rs:aQ):Prop:=∀r∈rs,Ng r
noncomputable def EE(e:List EN)(_:Nat)(r:b8)(s:Nat×Int×b8):(Nat×Int×b8)⊕Unit:=
 if (dM e r).2=140 then .inl (s.1,140,s.2.2) else if (dM e r).2=0 then .inl (if (dM e r).1.k=0 then s else (s.1+1,s.2.1,s.2.2++[(dM e r).1])) else .inr ()
noncomputable def Od(e:List EN)(r:b8):Bool:=(dM e r).2 != 0&&(dM e r).2 != 140
noncomputable def A2(e:List EN)(r:b8):Bool:=(dM e r).2==140
noncomputable def AP(e:List EN)(r:b8):b8:=if (dM e r).2=0∧(dM e r).1.k≠0 then [(dM e r).1] else []
noncomputable def kD(e:List EN)(rs:aQ):b8×Int:=
 if rs.any (Od e) then ([],2) else (rs.flatMap (AP e),if rs.any (A2 e) then 140 else 0)
theorem wS(e:List EN):∀(m:aQ) k ep f acc,∃ep',aV (EE e) m k (ep,f,acc)=if m.any (Od e) then .inr () else .inl (ep',if m.any (A2 e) then 140 else f,acc++m.flatMap (AP e))
 |[],k,ep,f,acc=>⟨ep,by simp[aV]⟩
 |r::m,k,ep,f,acc=>by
  by_cases h1:(dM e r).2=140
  ·obtain⟨ep',h⟩:=wS e m (k+1) ep 140 acc;refine⟨ep',?_⟩;simp only[aV,EE,if_pos h1,h];simp[Od,A2,AP,h1]
  by_cases h2:(dM e r).2=0
  ·by_cases h3:(dM e r).1.k=0
   ·obtain⟨ep',h⟩:=wS e m (k+1) ep f acc;refine⟨ep',?_⟩;simp only[aV,EE,if_neg h1,if_pos h2,if_pos h3,h];simp[Od,A2,AP,h2,h3]
   obtain⟨ep',h⟩:=wS e m (k+1) (ep+1) f (acc++[(dM e r).1]);refine⟨ep',?_⟩;simp only[aV,EE,if_neg h1,if_pos h2,if_neg h3,h];simp[Od,A2,AP,h2,h3]
  refine⟨0,?_⟩;simp only[aV,EE,if_neg h1,if_neg h2];simp[Od,h1,h2]
theorem afJ(a:cC)(b:Bool)(rs:aQ)(hn:rs.length≤most)(ha:a.arg.length≤most)(hr:vb rs)(hE:tc a.arg) :
  aK I.qbd [a.a,.aa b (rs.map aD)]=some (.tup [.aa false ((kD a.arg rs).1.map bW.a),ar (kD a.arg rs).2]):=by
 rw[aA aho rfl];have hev:∀c,∀r∈rs,aK I.qdb [.agg [.aa c (a.arg.map EN.a)],aD r]=some (.tup [(dM a.arg r).1.a,ar (dM a.arg r).2]):=fun c r h=>Dz c a.arg false r ha (hr r h) hE;have h:=cT (base:=2) (clr:=[3,4,7,8,9,13,14,15,16]) (b:=tu) rs
  (fun k (s:Nat×Int×b8)=>⟨[a.a,.aa b (rs.map aD),.ptr 0 0 0 0,.any,.any,.sl 1 s.1 0 s.2.2.length,ar s.2.1,.any,.any,.any,.aa b (rs.map aD),ar rs.length,ar k,.any,.any,.any,.any],[.arr 2 0 [a.a],.arr 4 s.1 (s.2.2.map bW.a)]⟩)
  (fun k s=>s.2.2.length≤k) (EE a.arg)
  (fun s=>(.ext 0,⟨[a.a,.aa b (rs.map aD),.ptr 0 0 0 0,.any,.any,.sl 1 s.1 0 s.2.2.length,ar s.2.1,.any,.any,.any,.aa b (rs.map aD),ar rs.length,ar rs.length,.bool false,.any,.any,.any],[.arr 2 0 [a.a],.arr 4 s.1 (s.2.2.map bW.a)]⟩))
  (fun (_:Unit) o=>∃s,o=(.ret,s)∧dO .pure [.env 3,.env 4] (some (.ret,s))=some (.tup [.aa false [],ar 2]))
  (fun k r s hk hy hi=>by
   obtain⟨ep,f,acc⟩:=s;simp only at hi;have ak:((k:Int)<(rs.length:Int)):=by omega
   have h2:=fun c=>hev c r (aw hy);have hl1:acc.length+1≤most:=by omega
   unfold EE;generalize dM a.arg r=p at *;obtain⟨⟨vk,vn,vu,vs⟩,no⟩:=p;simp only[uZ,cC.a]at *;by_cases c1:no=140
   ·subst c1;exact⟨by simp[tu,ak,hy,h2,aX hk hn,aE,aH],by simp only;omega⟩
   by_cases c2:no=0
   ·subst c2;by_cases c3:vk=0
    ·subst c3;exact⟨by simp[tu,ak,hy,h2,aX hk hn,aE,aH],by simp only;simp;omega⟩
    simp only[if_neg c3];exact⟨by simp[tu,ak,hy,h2,c3,eo c3,append,hl1,aX hk hn,aE,aH,bW.a],by simp;omega⟩
   simp only[if_neg c1,if_neg c2];exact⟨_,by simp[tu,ak,hy,h2,bE c1,eo c2];rfl,_,rfl,by simp⟩)
  (fun s _=>by simp[tu]) (0,0,[]) (aM _)
 obtain⟨ep',hf⟩:=wS a.arg rs 0 0 0 [];rw[hf]at h;unfold kD;cases ho:rs.any (Od a.arg) with
 |true=>
  rw[ho]at h;simp only[cW]at h ⊢;obtain⟨o,h1,s,rfl,h2⟩:=h;simp only[cC.a]at *;simp at h1;simp[apA,VY,h1,-dV];exact h2
 |false=>
  rw[ho]at h;simp only[bC,cz,b9]at h ⊢;have h1:=h.2;generalize rs.flatMap (AP a.arg)=acc at *;generalize (if rs.any (A2 a.arg)=true then (140:Int) else 0)=f at *;simp only[cC.a]at *;simp at h1;simp[apA,VY,h1]
def KP(c:bW→bW→Int)(m:bW)(l:b8):bW:=l.foldl (fun m v=>if c v m<0 then v else m) m
theorem Kz(c:bW→bW→Int):∀(l:b8) (m:bW),KP c m l=m∨KP c m l∈l
 |[],m=>.inl rfl
 |v::l,m=>by
  rcases Kz c l (if c v m<0 then v else m) with h|h
  ·have e:KP c m (v::l)=KP c (if c v m<0 then v else m) l:=rfl;rw[e,h];split<;>simp
  exact .inr (aO _ h)
theorem SP(b:Bool)(v:bW)(l:b8)(f:ap)(c:bW→bW→Int)(hs:xl f)(hn:l.length+1≤most)(hf:∀x∈v::l,∀y∈v::l,∀σ,dS code f [x.a,y.a] σ=some (ar (c x y),σ)) :
  aK I.qhw [.aa b ((v::l).map bW.a),f]=some (KP c v l).a:=by
 rw[aA akI rfl];have hs0:=hs [];have h:=ea (base:=2) (clr:=[6,7]) (b:=Ak) l
  (fun k (m:bW)=>⟨[.aa b ((v::l).map bW.a),f,.ptr 0 0 0 0,.ptr 1 0 0 0,ar ((k:Int)+1),.bool false,.any,.any],[.arr 4 0 [cu.a],.arr 4 0 [m.a]]⟩)
  (fun _ m=>m∈v::l) (fun m x=>if c x m<0 then x else m)
  (fun m=>(.ext 0,⟨[.aa b ((v::l).map bW.a),f,.ptr 0 0 0 0,.ptr 1 0 0 0,ar ((l.length:Int)+1),.bool false,.bool false,.any],[.arr 4 0 [cu.a],.arr 4 0 [m.a]]⟩))
  (fun k x m hk hy hm=>by
   have hx:x∈v::l:=aO _ (aw hy);have h2:=hf x hx m hm;have ak:((k:Int)+1<(l.length:Int)+1):=by omega
   have hnn:¬((k:Int)+1<0):=by omega
   have hw:IntKind.i64.wrap ((k:Int)+1+1)=(k:Int)+1+1:=fj (by unfold most at hn;omega);have ht:((k:Int)+1).toNat=k+1:=by omega
   have h0:(0:Int)≤(k:Int)+1:=by omega
   by_cases hc:c x m<0
   ·refine⟨?_,by simp only[if_pos hc];exact hx⟩;simp[Ak,ak,hy,h2,hc,hw,ht,h0,aE,aH]
   refine⟨?_,by simp only[if_neg hc];exact hm⟩;simp[Ak,ak,hy,h2,hc,hw,ht,h0,aE,aH])
  (fun m _=>by simp[Ak]) v (by simp)
 have h:=h.1;unfold KP;generalize l.foldl (fun m x=>if c x m<0 then x else m) v=m at *;have hlen:¬((l.length:Int)+1<1):=by omega
 simp[cu,bW.a]at h;simp only[bW.a];simp[aqQ,abU,hs0,hlen,h,bW.a]
def LR(c:bW→bW→Int)(m:bW)(l:b8):bW:=l.foldl (fun m v=>if 0<c v m then v else m) m
theorem M2(c:bW→bW→Int):∀(l:b8) (m:bW),LR c m l=m∨LR c m l∈l
 |[],m=>.inl rfl
 |v::l,m=>by
  rcases M2 c l (if 0<c v m then v else m) with h|h
  ·have e:LR c m (v::l)=LR c (if 0<c v m then v else m) l:=rfl;rw[e,h];split<;>simp
  exact .inr (aO _ h)
theorem SL(b:Bool)(v:bW)(l:b8)(f:ap)(c:bW→bW→Int)(hs:xl f)(hn:l.length+1≤most)(hf:∀x∈v::l,∀y∈v::l,∀σ,dS code f [x.a,y.a] σ=some (ar (c x y),σ)) :
  aK I.qhv [.aa b ((v::l).map bW.a),f]=some (LR c v l).a:=by
 rw[aA aiO rfl];have hs0:=hs [];have h:=ea (base:=2) (clr:=[6,7]) (b:=zW) l
  (fun k (m:bW)=>⟨[.aa b ((v::l).map bW.a),f,.ptr 0 0 0 0,.ptr 1 0 0 0,ar ((k:Int)+1),.bool false,.any,.any],[.arr 4 0 [cu.a],.arr 4 0 [m.a]]⟩)
  (fun _ m=>m∈v::l) (fun m x=>if 0<c x m then x else m)
  (fun m=>(.ext 0,⟨[.aa b ((v::l).map bW.a),f,.ptr 0 0 0 0,.ptr 1 0 0 0,ar ((l.length:Int)+1),.bool false,.bool false,.any],[.arr 4 0 [cu.a],.arr 4 0 [m.a]]⟩))
  (fun k x m hk hy hm=>by
   have hx:x∈v::l:=aO _ (aw hy);have h2:=hf x hx m hm;have ak:((k:Int)+1<(l.length:Int)+1):=by omega
   have hnn:¬((k:Int)+1<0):=by omega
   have hw:IntKind.i64.wrap ((k:Int)+1+1)=(k:Int)+1+1:=fj (by unfold most at hn;omega);have ht:((k:Int)+1).toNat=k+1:=by omega
   have h0:(0:Int)≤(k:Int)+1:=by omega
   by_cases hc:0<c x m
   ·refine⟨?_,by simp only[if_pos hc];exact hx⟩;simp[zW,ak,hy,h2,hc,hw,ht,h0,aE,aH]
   refine⟨?_,by simp only[if_neg hc];exact hm⟩;simp[zW,ak,hy,h2,hc,hw,ht,h0,aE,aH])
  (fun m _=>by simp[zW]) v (by simp)
 have h:=h.1;unfold LR;generalize l.foldl (fun m x=>if 0<c x m then x else m) v=m at *;have hlen:¬((l.length:Int)+1<1):=by omega
 simp[cu,bW.a]at h;simp only[bW.a];simp[arO,ac7,hs0,hlen,h,bW.a]
def SB(l:b8):Option Int:=l.foldl Gl none
theorem YV{k:Nat}{s:Option Int}{v:bW}(hs:-(9223372036854775808*(k:Int))≤s.getD 0∧s.getD 0≤9223372036854775808*(k:Int))(hv:rg v.n) :
  -(9223372036854775808*((k+1:Nat):Int))≤(Gl s v).getD 0∧(Gl s v).getD 0≤9223372036854775808*((k+1:Nat):Int):=by
 unfold rg at hv;unfold Gl;split
 ·omega
 simp only[cJ];omega
theorem UK{k:Nat}{s:Option Int}(hk:k≤most)(hs:-(9223372036854775808*(k:Int))≤s.getD 0∧s.getD 0≤9223372036854775808*(k:Int)):szO s:=by
 unfold most at hk;unfold szO sz;omega
theorem akX(b:Bool)(l:b8)(hn:l.length≤1048576)(hv:∀v∈l,PL v=0∧rg v.n):aK I.qc [.aa b (l.map bW.a)]=some (.tup [(Ma (SB l)).1.a,ar (Ma (SB l)).2]):=by
 rw[aA amU rfl];have hm:l.length≤most:=by unfold most;omega
 have h:=ea (base:=2) (clr:=[2,4,5,6,11,12]) (b:=Ka) l
  (fun k (s:Option Int)=>⟨[.aa b (l.map bW.a),.ptr 0 0 0 0,.any,.ptr 1 0 0 0,.any,.any,.any,.bool false,.aa b (l.map bW.a),ar l.length,ar k,.any,.any],[.arr 4 0 [cu.a],.arr 4 0 [(GQ s).a]]⟩)
  (fun k s=>-(9223372036854775808*(k:Int))≤s.getD 0∧s.getD 0≤9223372036854775808*(k:Int)) Gl
  (fun s=>(.ext 0,⟨[.aa b (l.map bW.a),.ptr 0 0 0 0,.any,.ptr 1 0 0 0,.any,.any,.any,.bool false,.aa b (l.map bW.a),ar l.length,ar l.length,.bool false,.any],[.arr 4 0 [cu.a],.arr 4 0 [(GQ s).a]]⟩))
  (fun k v s hk hy hs=>by
   have ak:((k:Int)<(l.length:Int)):=by omega
   obtain⟨h1,h2⟩:=hv v (aw hy);refine⟨?_,YV hs h2⟩;have h3:=ajh s v (UK (by omega) hs) h2;rw[h1]at h3;simp only[cW]at h3;generalize GQ s=S at *;generalize GQ (Gl s v)=S' at *;simp only[bW.a]at h3;simp[Ka,ak,hy,h3,aX hk hm,aE,aH,bW.a])
  (fun s _=>by simp[Ka]) none (by simp)
 obtain⟨h1,h2⟩:=h;have h3:=akb (SB l) (UK hm h2);unfold SB at *;generalize l.foldl Gl none=s at *;have hgt:¬((1048576:Int)<l.length):=by omega
 generalize GQ s=S at *;simp only[GQ]at *;simp only[bW.a,cu]at *;simp at h1;simp[aob,ahz,hgt,h1,h3,bW.a,cu]
@[simp] theorem al5(k n u:Int)(s:List UInt8):aK I.qbc [.agg [ar k,ar n,.int .u64 u,.str s]]=some (.bool (!(k==2))):=by
 rw[aA ajB rfl];simp[aqZ,adu,bne]
def JM(l:b8):bW:=match l with
 |[]=>cu
 |v::r=>KP mI v r
def wq(l:b8):bW:=match l with
 |[]=>cu
 |v::r=>LR mI v r
noncomputable def vd(tag:Int)(e:List EN)(rs:aQ):bW×Int:=
 if tag=1 then (iA rs.length,0) else if (kD e rs).2=2 then (cu,2) else if tag=3∧(kD e rs).1.any (fun v=>!(v.k==2))=true then (cu,2)
 else if (kD e rs).2≠0 then (cu,(kD e rs).2) else if tag=2 then (iA (kD e rs).1.length,0) else if tag=3 then Ma (SB (kD e rs).1)
 else if tag=4 then (JM (kD e rs).1,0) else (wq (kD e rs).1,0)
theorem KM{e:List EN}{rs:aQ}(hr:vb rs)(hE:tc e):∀v∈(kD e rs).1,Iv v:=by
 intro v hv;unfold kD at hv;split at hv
 ·cases hv
 obtain⟨r,hr',hv⟩:=jJ.1 hv;unfold AP at hv;split at hv
 ·rename_i h;rw[ce.1 hv];exact QA (hr r hr') hE h.1
 cases hv
theorem Sw(e:List EN)(rs:aQ):(kD e rs).1.length≤rs.length:=by
 unfold kD;split
 ·simp
 simp only;rename_i h;clear h;induction rs with
 |nil=>simp
 |cons r rs ih=>
  rw[fY,bV,bj];have:(AP e r).length≤1:=by unfold AP;split<;>simp
  omega
theorem Ro{v:bW}(h:Iv v):oC v=true:=by
 have:=h.1;unfold jS at this;simp at this;exact this.1
theorem BZ(a:cC)(b:Bool)(rs:aQ)(hn:rs.length≤8000)(ha:a.arg.length≤most)(hr:vb rs)(hE:tc a.arg) :
  aK I.qbb [a.a,.aa b (rs.map aD)]=some (.tup [(vd a.tag a.arg rs).1.a,ar (vd a.tag a.arg rs).2]):=by
 rw[aA ajM rfl];have hm:rs.length≤most:=by unfold most;omega
 have h1:=fun b=>afJ a b rs hm ha hr hE;have hI:=KM (e:=a.arg) (rs:=rs) hr hE;have hl:=Sw a.arg rs;unfold vd;generalize kD a.arg rs=q at *;obtain⟨l,f⟩:=q;simp only at *
 have hC:=fun b=>oQ (enc:=bW.a) (b:=b) (l:=l) (f:=.fn I.qbc [] []) (p:=fun v=>!(v.k==2)) (by omega) (fun _=>⟨rfl,rfl⟩) (fun σ=>by simp) (fun v _=>by
  obtain⟨k,n,u,s⟩:=v;simp[uZ])
 by_cases t1:a.tag=1
 ·rw[if_pos t1];simp only[cC.a,t1,iA,bW.a];simp[aog,vN,iA,bW.a]
 rw[if_neg t1];by_cases f2:f=2
 ·rw[if_pos f2];subst f2;simp only[cC.a,bW.a,cu]at *;simp[aog,vN,bE t1,h1]
 rw[if_neg f2];by_cases t3:a.tag=3
 ·by_cases ho:l.any (fun v=>!(v.k==2))=true
  ·rw[if_pos ⟨t3,ho⟩];simp only[ho]at hC;simp only[cC.a,t3]at *;simp[aog,vN,h1,bE f2,hC,cu,bW.a]
  rw[if_neg (fun h=>ho h.2)];have ho':=fT.2 ho;simp only[ho']at hC;by_cases f0:f=0
  ·subst f0
   have hA:=fun b=>akX b l (by omega) (fun v hv=>by
    have h2:=hI v hv;have h3:=bR.1 ho' v hv;simp at h3;refine⟨?_,h2.2⟩;unfold PL;rw[Ro h2];simp[h3])
   simp only[cC.a,t3]at *;simp[aog,vN,h1,hC,hA,bW.a]
  rw[if_pos f0];simp only[cC.a,t3]at *;simp[aog,vN,h1,hC,bE f2,eo f0,cu,bW.a]
 rw[if_neg (fun h=>t3 h.1)];by_cases f0:f=0
 ·subst f0;rw[if_neg (by simp)];by_cases t2:a.tag=2
  ·rw[if_pos t2];simp only[cC.a,t2]at *;simp[aog,vN,h1,iA,bW.a]
  rw[if_neg t2,if_neg t3];cases l with
  |nil=>
   simp only[cC.a,JM,wq]at *;simp[aog,vN,bE t1,bE t2,bE t3,h1,cu,bW.a]
  |cons v l=>
   have hlen:((l.length:Int)+1==0)=false:=by rw[gm];omega
   have hlen2:¬((l.length:Int)+1=0):=by omega
   have hcmp:∀x∈v::l,∀y∈v::l,∀σ,dS code (.fn I.qbx [] []) [x.a,y.a] σ=some (ar (mI x y),σ):=fun x hx y hy σ=>by
    have:=tW x y (Ro (hI x hx)) (Ro (hI y hy));simp[this]
   simp only[bj]at hl;have hMin:=fun b=>SP b v l (.fn I.qbx [] []) mI (fun σ=>by simp) (by omega) hcmp;have hMax:=fun b=>SL b v l (.fn I.qbx [] []) mI (fun σ=>by simp) (by omega) hcmp;simp only[JM,wq];generalize KP mI v l=vm at *;generalize LR mI v l=vM at *;simp only[bG,bW.a]at hMin hMax;by_cases t4:a.tag=4
   ·rw[if_pos t4];simp only[cC.a,t4]at *;simp[aog,vN,h1,hMin,hlen,hlen2,bW.a]
   rw[if_neg t4];simp only[cC.a]at *;simp[aog,vN,bE t1,bE t2,bE t3,bE t4,h1,hMax,hlen,hlen2,bW.a]
 rw[if_pos f0];simp only[cC.a]at *;simp[aog,vN,bE t1,bE t3,bE f2,eo f0,h1,cu,bW.a]
def xo(tag:Int)(e:List EN)(rs:aQ):Bool:=decide (1≤tag)&&decide (tag≤5)&&rs.all lc&&(if tag=1 then e.length==0 else zU e)
noncomputable def sI(tag:Int)(e:List EN)(rs:aQ):bW×Int:=if xo tag e rs=true then vd tag e rs else (cu,2)
theorem Ly(a:cC)(b:Bool)(rs:aQ)(hn:rs.length≤8000)(ha:a.arg.length≤most)(hr:vb rs)(hE:tc a.arg) :
  aK I.qaw [a.a,.aa b (rs.map aD)]=some (.tup [(sI a.tag a.arg rs).1.a,ar (sI a.tag a.arg rs).2]):=by
 rw[aA aiQ rfl];have h1:=fun b=>BZ a b rs hn ha hr hE;have h2:=fun b=>Ch b false rs hn;simp only[JY]at h2;have h3:=fun b=>rK b a.arg ha;simp only[Co,xV]at h3;unfold sI xo;by_cases t1:1≤a.tag
 ·by_cases t5:a.tag≤5
  ·cases hR:rs.all lc with
   |false=>
    rw[hR]at h2;by_cases e1:a.tag=1
    ·simp only[cC.a,e1]at *;simp[aok,yQ,h2,cu,bW.a]
    simp only[cC.a]at *;simp[aok,yQ,t1,t5,bE e1,h2,cu,bW.a]
   |true=>
    rw[hR]at h2;by_cases e1:a.tag=1
    ·obtain⟨tag,ab,arg⟩:=a;simp only at *;subst e1;cases arg with
     |nil=>
      simp only[cC.a,bh]at *;simp[aok,yQ,h2,h1,bW.a]
     |cons n r=>
      have e3:((r.length:Int)+1==0)=false:=by rw[gm];omega
      simp only[cC.a]at *;simp[aok,yQ,h2,cu,bW.a,e3]
    cases ho:zU a.arg with
    |false=>
     rw[ho]at h3;simp only[cC.a]at *;simp[aok,yQ,t1,t5,bE e1,e1,h2,h3,cu,bW.a]
    |true=>
     rw[ho]at h3;simp only[cC.a]at *;simp[aok,yQ,t1,t5,bE e1,e1,h2,h3,h1,bW.a]
  have e1:¬a.tag=1:=by omega
  simp only[cC.a]at *;simp[aok,yQ,t1,t5,bE e1,cu,bW.a]
 have e1:¬a.tag=1:=by omega
 simp only[cC.a]at *;simp[aok,yQ,t1,bE e1,cu,bW.a]


theorem uf{α σ ρ:Type}{base:Nat}{clr:List Nat}{b:az}(l:List α)(R:Nat→σ→St→Prop)(g:Nat→α→σ→σ⊕ρ)(E:σ→Ex×St→Prop)(Q:ρ→Ex×St→Prop)
  (hstep:∀k y s t,k<l.length→l[k]?=some y→R k s t→match g k y s with
   |.inl s'=>∃t',dK base clr b (run code b t)=cq code base clr b t'∧R (k+1) s' t'
   |.inr r=>∃o,dK base clr b (run code b t)=some o∧Q r o)
  (hend:∀s t,R l.length s t→∃o,dK base clr b (run code b t)=some o∧E s o) (s:σ) (t:St) (h:R 0 s t) :
  match aV g l 0 s with
   |.inl s'=>∃o,cq code base clr b t=some o∧E s' o
   |.inr r=>∃o,cq code base clr b t=some o∧Q r o:=by
 have key:∀(m:List α) k s t,l.drop k=m→k≤l.length→R k s t→match aV g m k s with
   |.inl s'=>∃o,cq code base clr b t=some o∧E s' o
   |.inr r=>∃o,cq code base clr b t=some o∧Q r o:=by
  intro m;induction m with
  |nil=>
   intro k s t hd hk hi;have:k=l.length:=by
    have:=congrArg List.length hd;simp at this;omega
   subst this;simp only[aV];obtain⟨o,h1,h2⟩:=hend s t hi;exact⟨o,by rw[cg];exact h1,h2⟩
  |cons y m ih=>
   intro k s t hd hk hi;have ak:k<l.length:=by
    have:=congrArg List.length hd;simp at this;omega
   have hy:l[k]?=some y:=by
    have:=congrArg (·[0]?) hd;simpa using this
   have hm:l.drop (k+1)=m:=by
    have:=congrArg List.tail hd;simpa [dD] using this
   have hs:=hstep k y s t ak hy hi;rw[cg];simp only[aV];cases hg:g k y s with
   |inl s'=>
    rw[hg]at hs;obtain⟨t',h1,h2⟩:=hs;simp only;rw[h1];exact ih (k+1) s' t' hm (by omega) h2
   |inr r=>
    rw[hg]at hs;exact hs
 exact key l 0 s t (by simp) (bP _) h
structure Zz (n:bL) (DO:ap) (eP:Nat→cC→aQ→bW×Int) (rows:aQ):Prop where
 fz:∀base σ m,fz false true base σ (m+5) DO=DO
 nc:aC DO=1∧isAgg DO=false
 go:∀(i:Nat) a σ,n.ai[i]?=some a→dS code DO [ar i,a.a,.aa false (rows.map aD)] σ=some (.tup [(eP i a rows).1.a,ar (eP i a rows).2],σ)
def ph(eP:Nat→cC→aQ→bW×Int)(rows:aQ)(i:Nat)(a:cC)(vals:b8):b8⊕Unit:=
 if (eP i a rows).2=0 then .inl (vals++[(eP i a rows).1]) else .inr ()
abbrev jZ(b:Bool)(rs:aQ)(n:bL)(one:Bool)(DO:ap)(e9 e10 e11 e12 e13 e14 e16 e17 e18 e19 e20 e21:ap):List ap:=
 [.aa b (rs.map aD),n.a,.bool one,DO,.ptr 0 0 0 0,.ptr 1 0 0 0,.ptr 2 0 0 0,.ptr 3 0 0 0,.ptr 4 0 0 0,e9,e10,e11,e12,e13,e14,.fn 280 [] [.ptr 6 0 0 0,.ptr 7 0 0 0,.ptr 8 0 0 0],e16,e17,e18,e19,e20,e21]
abbrev kx(b:Bool)(rs:aQ)(n:bL)(one:Bool)(DO r2 r3:ap)(ep:Nat)(C:List ap)(o:Obj)(r:List Obj):ay:=
 .arr 12 0 [n.a]::.arr 1 0 [DO]::.arr 1 0 [r2]::.arr 1 0 [r3]::.arr 1 0 [.sl 5 ep 0 C.length]::.arr 1 ep C::.arr 1 0 [.aa b (rs.map aD)]::.arr 1 0 [.aa n.by' (kR n.keys)]::.arr 1 0 [.bool one]::o::r
theorem adY(b:Bool)(rs:aQ)(n:bL)(one:Bool)(DO:ap)(eP:Nat→cC→aQ→bW×Int)(g:b8×aQ)(hD:Zz n DO eP g.2)(ep:Nat)(O:aQ)(hn:n.ai.length≤8000)(hk:g.1.length≤8000)(e11 e12 e13 e14 e21:ap) :
  (∃vals,aV (ph eP g.2) n.ai 0 g.1=.inl vals∧∃ep2 e11' e12' e13' e14' e19 e20 e21',cq code 13 [20] lL ⟨jZ b rs n one DO (.ptr 11 0 0 0) (.sl 12 0 0 g.1.length) e11 e12 e13 e14 (eS g) (.aa n.bg (n.ai.map cC.a)) (ar n.ai.length) (ar 0) .any e21,kx b rs n one DO .aj (ar 0) ep (O.map aD) (.pend true none) [.arr 2 0 [eS g],.arr 2 0 [eS g],.arr 4 0 (g.1.map bW.a)]⟩ =
    some (.ext 2,⟨jZ b rs n one DO (.ptr 11 0 0 0) (.sl 12 ep2 0 vals.length) e11' e12' e13' e14' (eS g) (.aa n.bg (n.ai.map cC.a)) (ar n.ai.length) e19 e20 e21',kx b rs n one DO .aj (ar 0) ep (O.map aD) (.pend true none) [.arr 2 0 [eS g],.arr 2 0 [eS g],.arr 4 ep2 (vals.map bW.a)]⟩)) ∨
  (aV (ph eP g.2) n.ai 0 g.1=.inr ()∧∃env τ,cq code 13 [20] lL ⟨jZ b rs n one DO (.ptr 11 0 0 0) (.sl 12 0 0 g.1.length) e11 e12 e13 e14 (eS g) (.aa n.bg (n.ai.map cC.a)) (ar n.ai.length) (ar 0) .any e21,kx b rs n one DO .aj (ar 0) ep (O.map aD) (.pend true none) [.arr 2 0 [eS g],.arr 2 0 [eS g],.arr 4 0 (g.1.map bW.a)]⟩=some (.ret,⟨env,kx b rs n one DO .aj (ar 140) ep (O.map aD) (.pend true none) τ⟩)):=by
 have hm:n.ai.length≤most:=by unfold most;omega
 have key:=uf (base:=13) (clr:=[20]) (b:=lL) n.ai
  (fun k (vals:b8) t=>vals.length=g.1.length+k∧∃ep2 e11 e12 e13 e14 e21,t=⟨jZ b rs n one DO (.ptr 11 0 0 0) (.sl 12 ep2 0 vals.length) e11 e12 e13 e14 (eS g) (.aa n.bg (n.ai.map cC.a)) (ar n.ai.length) (ar k) .any e21,kx b rs n one DO .aj (ar 0) ep (O.map aD) (.pend true none) [.arr 2 0 [eS g],.arr 2 0 [eS g],.arr 4 ep2 (vals.map bW.a)]⟩)
  (ph eP g.2)
  (fun vals o=>∃ep2 e11 e12 e13 e14 e19 e20 e21,o=(.ext 2,⟨jZ b rs n one DO (.ptr 11 0 0 0) (.sl 12 ep2 0 vals.length) e11 e12 e13 e14 (eS g) (.aa n.bg (n.ai.map cC.a)) (ar n.ai.length) e19 e20 e21,kx b rs n one DO .aj (ar 0) ep (O.map aD) (.pend true none) [.arr 2 0 [eS g],.arr 2 0 [eS g],.arr 4 ep2 (vals.map bW.a)]⟩))
  (fun _ o=>∃env τ,o=(.ret,⟨env,kx b rs n one DO .aj (ar 140) ep (O.map aD) (.pend true none) τ⟩))
  (fun k a vals t hk' hy ht=>by
   obtain⟨hl,ep2,e11,e12,e13,e14,e21,rfl⟩:=ht;have ak:((k:Int)<(n.ai.length:Int)):=by omega
   have hgo:=fun σ=>hD.go k a σ hy;have hz:=hD.fz;have hnc:=hD.nc;have hnz:∀base σ m,fz false true base σ (m+3) n.a=n.a:=fun base σ m=>Ft.ft false true base σ m n rfl;have hl1:vals.length+1≤most:=by unfold most;omega
   unfold ph;by_cases h0:(eP k a g.2).2=0
   ·rw[if_pos h0];simp only;rw[h0]at hgo;generalize (eP k a g.2).1=v at *;simp only[bW.a,cC.a]at hgo;refine⟨⟨jZ b rs n one DO (.ptr 11 0 0 0) (.sl 12 (ep2+1) 0 (vals++[v]).length) (ar k) (ec 13 (kx b rs n one DO .aj (ar 0) ep (O.map aD) (.pend true none) [.arr 2 0 [eS g],.arr 2 0 [eS g],.arr 4 (ep2+1) ((vals++[v]).map bW.a),.arr 2 0 [a.a],.arr 4 0 [v.a]]) (.ptr 13 0 0 0)) (ec 13 (kx b rs n one DO .aj (ar 0) ep (O.map aD) (.pend true none) [.arr 2 0 [eS g],.arr 2 0 [eS g],.arr 4 (ep2+1) ((vals++[v]).map bW.a),.arr 2 0 [a.a],.arr 4 0 [v.a]]) (.ptr 14 0 0 0)) (ar 0) (eS g) (.aa n.bg (n.ai.map cC.a)) (ar n.ai.length) (ar (k+1:Nat)) .any (.bool false),kx b rs n one DO .aj (ar 0) ep (O.map aD) (.pend true none) [.arr 2 0 [eS g],.arr 2 0 [eS g],.arr 4 (ep2+1) ((vals++[v]).map bW.a)]⟩,?_,by simp[hl];omega,ep2+1,_,_,_,_,_,rfl⟩;simp[lL,jZ,kx,ak,hy,eS,cC.a,hgo,hz,hnc,hnz,append,hl1,aX hk' hm,aE,aH,bW.a]
   ·rw[if_neg h0];simp only;generalize eP k a g.2=q at *;obtain⟨v,no⟩:=q;simp only at h0 hgo;simp only[bW.a,cC.a]at hgo;exact⟨_,by simp[lL,jZ,kx,ak,hy,eS,cC.a,hgo,eo h0,hnc,bW.a];and_intros<;>rfl,_,_,rfl⟩) (fun vals t ht=>by
   obtain⟨hl,ep2,e11,e12,e13,e14,e21,rfl⟩:=ht;exact⟨_,by simp[lL,jZ,kx];and_intros<;>rfl,ep2,e11,e12,e13,e14,_,_,e21,rfl⟩) g.1 _ ⟨rfl,0,e11,e12,e13,e14,e21,rfl⟩
 cases hf:aV (ph eP g.2) n.ai 0 g.1 with
 |inl vals=>
  rw[hf]at key;obtain⟨o,h1,ep2,f11,f12,f13,f14,f19,f20,f21,rfl⟩:=key;exact .inl ⟨vals,rfl,ep2,f11,f12,f13,f14,f19,f20,f21,h1⟩
 |inr u=>
  rw[hf]at key;obtain⟨o,h1,env,τ,rfl⟩:=key;exact .inr ⟨rfl,env,τ,h1⟩
abbrev zH(b:Bool)(rs:aQ)(n:bL)(one:Bool)(DO:ap):List ap:=jZ b rs n one DO .any .any .any .any .any .any .any .any .any .any .any .any
theorem ZW(b:Bool)(rs:aQ)(n:bL)(one:Bool)(DO:ap)(eP:Nat→cC→aQ→bW×Int)(g:b8×aQ)(hD:Zz n DO eP g.2)(ep:Nat)(O:aQ)(hn:n.ai.length≤8000)(hk:g.1.length≤8000)(hO:O.length≤8000) :
  (∃vals,aV (ph eP g.2) n.ai 0 g.1=.inl vals∧∃ep2,cA code 199 (.frs 9 []::(zH b rs n one DO++[eS g])) (kx b rs n one DO .aj (ar 0) ep (O.map aD) (.pend false none) [.arr 2 0 [eS g]]) =
    some (.bool true,kx b rs n one DO .aj (ar 0) (ep+1) (O.map aD++[.sl 12 ep2 0 vals.length]) (.pend false none) [.arr 2 0 [eS g],.arr 2 0 [eS g],.arr 4 ep2 (vals.map bW.a)])) ∨
  (aV (ph eP g.2) n.ai 0 g.1=.inr ()∧∃τ,cA code 199 (.frs 9 []::(zH b rs n one DO++[eS g])) (kx b rs n one DO .aj (ar 0) ep (O.map aD) (.pend false none) [.arr 2 0 [eS g]]) =
    some (.bool false,kx b rs n one DO .aj (ar 140) ep (O.map aD) (.pend false (some .ret)) τ)):=by
 rw[mW fg (g:=gD) rfl];have hcl:∀σ,cA code 114 [aD g.1] σ=some (.frs 4 (g.1.map bW.a),σ):=fun σ=>by
  have:=gZ (enc:=bW.a) false g.1 (by unfold most;omega);show cA code I.qgu [.aa false (g.1.map bW.a)] σ=_;rw[jj uM rfl,this];rfl
 have hag:(cellsOf n.a)[8]?=some (.aa n.bg (n.ai.map cC.a)):=rfl;have hnc:aC n.a=12∧isAgg n.a=true:=⟨rfl,rfl⟩;have hm:O.length+1≤most:=by unfold most;omega
 rcases adY b rs n one DO eP g hD ep O hn hk .any .any .any .any .any with⟨vals,hf,ep2,f11,f12,f13,f14,f19,f20,f21,h⟩|⟨hf,env,τ,h⟩
 ·refine .inl ⟨vals,hf,ep2,?_⟩;simp only[jZ,kx,cf,eS]at h;simp[gD,jm,jN,jQ,gU,eR,kx,jZ,hcl,hag,hnc,append,hm,eS,h]
 refine .inr ⟨hf,?_⟩;simp only[jZ,kx,cf,eS]at h;exact⟨_,by simp[gD,jm,jN,jQ,gU,eR,kx,jZ,hcl,hag,hnc,append,hm,eS,h];rfl⟩
end Go.AM
