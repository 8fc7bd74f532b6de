/- Part of the proof. -/
import Derived.Test.YtdfklhejofpgbaaGreatDoorAm13
set_option linter.unusedVariables false
set_option linter.unusedSimpArgs false
namespace Go.AM
open P
set_option maxHeartbeats 4000000
set_option maxRecDepth 8000
theorem jk{α:Type}{f:α→ap}{m:Nat}{g:Bool}[Nc f m g][Fx f](l:List α)(id ep:Nat)(σ:ay)(h:σ[id]?=some (.arr m ep (l.map f))):kB m σ (.sl id ep 0 l.length)=.frs m (l.map f):=by
 have h9:(l.map f).take l.length=l.map f:=av (by simp);have h10:∀σ',(l.map f).map (lz σ')=l.map f:=fun σ'=>by
  rw[cE];exact bx fun y _=>Fx.fx false false 0 σ' 17 y
 simp only[kB,h,h9,h10,Hf];simp
theorem rn{n:Int}(h1:-9223372036854775808≤n)(h2:n<9223372036854775808):IntKind.i64.wrap n=n:=fj ⟨h1,h2⟩
abbrev xl(f:ap):Prop:=∀σ,fz true false 0 σ 20 f=f
def Pr{α:Type}(p:α→Bool)(l:List α):Int:=if l.any p then ((l.findIdx p:Nat):Int) else -1
theorem Gn{α:Type}{enc:α→ap}{b:Bool}{l:List α}{f:ap}{p:α→Bool}(hn:l.length≤most)(he:∀y,aC (enc y)=1∧isAgg (enc y)=false)(hs:xl f)
  (h:∀y∈l,dS code f [enc y] []=some (.bool (p y),[])):aK I.qht [.aa b (l.map enc),f]=some (ar (Pr p l)):=by
 rw[aA agM rfl];have hs0:=hs [];have hstep:∀k,k<l.length→∀y,l[k]?=some y→p y=false→dK 0 [2,3,6,7] pz (run code pz ⟨[.aa b (l.map enc),f,.any,.any,ar l.length,ar k,.any,.any],[]⟩) =
   cq code 0 [2,3,6,7] pz ⟨[.aa b (l.map enc),f,.any,.any,ar l.length,ar (k+1:Nat),.any,.any],[]⟩:=fun k hk y hy hp=>by
  have h2:=he y;have h3:=h y (aw hy);rw[hp]at h3;have ak:((k:Int)<(l.length:Int)):=by omega
  simp[pz,hy,h2,h3,ak,aX hk hn,bY]
 unfold Pr;by_cases ha:l.any p=true
 ·have ak:=cU (d4.1 ha);have hp:p l[l.findIdx p]=true:=dZ (w:=ak);have hloop:=cL (base:=0) (clr:=[2,3,6,7]) (b:=pz) (fun k=>⟨[.aa b (l.map enc),f,.any,.any,ar l.length,ar k,.any,.any],[]⟩) (l.findIdx p)
   (.ret,⟨[.aa b (l.map enc),f,ar (l.findIdx p),ar (l.findIdx p),ar l.length,ar (l.findIdx p),.bool true,.bool true],[]⟩)
   (fun k hk=>hstep k (by omega) _ (am (by omega)) (by simpa using eD hk))
   (by
    have h1:l[l.findIdx p]?=some l[l.findIdx p]:=am ak;have h2:=he l[l.findIdx p];have h3:=h _ (aF ak);rw[hp]at h3;have hlt':((l.findIdx p:Int)<(l.length:Int)):=by omega
    simp[pz,h1,h2,h3,hlt'])
  simp at hloop;simp[aps,Wn,hs0,hloop,ha]
 have hall:∀y∈l,p y=false:=fun y hy=>by simpa using bR.1 (eN _▸ha) y hy
 have hloop:=cL (base:=0) (clr:=[2,3,6,7]) (b:=pz) (fun k=>⟨[.aa b (l.map enc),f,.any,.any,ar l.length,ar k,.any,.any],[]⟩) l.length
  (.ext 0,⟨[.aa b (l.map enc),f,.any,.any,ar l.length,ar l.length,.bool false,.any],[]⟩)
  (fun k hk=>hstep k hk _ (am hk) (hall _ (aF hk)))
  (by simp[pz])
 simp at hloop;simp[aps,Wn,hs0,hloop,ha]
theorem iF{α:Type}{enc:α→ap}{b:Bool}{l:List α}{f:ap}{p:α→Bool}(hn:l.length≤most)(he:∀y,aC (enc y)=1∧isAgg (enc y)=false)(hs:xl f)
  (h:∀y∈l,dS code f [enc y] []=some (.bool (p y),[])):aK I.qhh [.aa b (l.map enc),f]=some (.bool (l.any p)):=by
 rw[aA ajF rfl];have h:=Gn (b:=b) hn he hs h;have hs0:=hs [];unfold Pr at h;cases ha:l.any p<;>rw[ha]at h<;>simp[aqd,aci,hs0,h]
theorem u3{α:Type}{enc:α→ap}{b:Bool}{l:List α}{f:ap}{p:α→Bool}(hn:l.length≤most)(he:∀y,aC (enc y)=2∧isAgg (enc y)=true)(hs:xl f)
  (h:∀y∈l,dS code f [enc y] []=some (.bool (p y),[])):aK I.qhp [.aa b (l.map enc),f]=some (ar (Pr p l)):=by
 rw[aA acY rfl];have hs0:=hs [];have hstep:∀k,k<l.length→∀y,l[k]?=some y→p y=false→dK 0 [2,3,6,7] jq (run code jq ⟨[.aa b (l.map enc),f,.any,.any,ar l.length,ar k,.any,.any],[]⟩) =
   cq code 0 [2,3,6,7] jq ⟨[.aa b (l.map enc),f,.any,.any,ar l.length,ar (k+1:Nat),.any,.any],[]⟩:=fun k hk y hy hp=>by
  have h2:=he y;have h3:=h y (aw hy);rw[hp]at h3;have ak:((k:Int)<(l.length:Int)):=by omega
  simp[jq,hy,h2,h3,ak,aX hk hn,bY]
 unfold Pr;by_cases ha:l.any p=true
 ·have ak:=cU (d4.1 ha);have hp:p l[l.findIdx p]=true:=dZ (w:=ak);have hloop:=cL (base:=0) (clr:=[2,3,6,7]) (b:=jq) (fun k=>⟨[.aa b (l.map enc),f,.any,.any,ar l.length,ar k,.any,.any],[]⟩) (l.findIdx p)
   (.ret,⟨[.aa b (l.map enc),f,ar (l.findIdx p),ar (l.findIdx p),ar l.length,ar (l.findIdx p),.bool true,.bool true],[]⟩)
   (fun k hk=>hstep k (by omega) _ (am (by omega)) (by simpa using eD hk))
   (by
    have h1:l[l.findIdx p]?=some l[l.findIdx p]:=am ak;have h2:=he l[l.findIdx p];have h3:=h _ (aF ak);rw[hp]at h3;have hlt':((l.findIdx p:Int)<(l.length:Int)):=by omega
    simp[jq,h1,h2,h3,hlt'])
  simp at hloop;simp[aoJ,MQ,hs0,hloop,ha]
 have hall:∀y∈l,p y=false:=fun y hy=>by simpa using bR.1 (eN _▸ha) y hy
 have hloop:=cL (base:=0) (clr:=[2,3,6,7]) (b:=jq) (fun k=>⟨[.aa b (l.map enc),f,.any,.any,ar l.length,ar k,.any,.any],[]⟩) l.length
  (.ext 0,⟨[.aa b (l.map enc),f,.any,.any,ar l.length,ar l.length,.bool false,.any],[]⟩)
  (fun k hk=>hstep k hk _ (am hk) (hall _ (aF hk)))
  (by simp[jq])
 simp at hloop;simp[aoJ,MQ,hs0,hloop,ha]
theorem mh{α:Type}{enc:α→ap}{b:Bool}{l:List α}{f:ap}{p:α→Bool}(hn:l.length≤most)(he:∀y,aC (enc y)=2∧isAgg (enc y)=true)(hs:xl f)
  (h:∀y∈l,dS code f [enc y] []=some (.bool (p y),[])):aK I.qhd [.aa b (l.map enc),f]=some (.bool (l.any p)):=by
 rw[aA acw rfl];have h:=u3 (b:=b) hn he hs h;have hs0:=hs [];unfold Pr at h;cases ha:l.any p<;>rw[ha]at h<;>simp[apm,XJ,hs0,h]
theorem uP{α:Type}{enc:α→ap}{b:Bool}{l:List α}{f:ap}{p:α→Bool}(hn:l.length≤most)(he:∀y,aC (enc y)=1∧isAgg (enc y)=false)(hs:xl f)
  (h:∀y∈l,dS code f [enc y] []=some (.bool (p y),[])):aK I.qhq [.aa b (l.map enc),f]=some (ar (Pr p l)):=by
 rw[aA abT rfl];have hs0:=hs [];have hstep:∀k,k<l.length→∀y,l[k]?=some y→p y=false→dK 0 [2,3,6,7] jn (run code jn ⟨[.aa b (l.map enc),f,.any,.any,ar l.length,ar k,.any,.any],[]⟩) =
   cq code 0 [2,3,6,7] jn ⟨[.aa b (l.map enc),f,.any,.any,ar l.length,ar (k+1:Nat),.any,.any],[]⟩:=fun k hk y hy hp=>by
  have h2:=he y;have h3:=h y (aw hy);rw[hp]at h3;have ak:((k:Int)<(l.length:Int)):=by omega
  simp[jn,hy,h2,h3,ak,aX hk hn,bY]
 unfold Pr;by_cases ha:l.any p=true
 ·have ak:=cU (d4.1 ha);have hp:p l[l.findIdx p]=true:=dZ (w:=ak);have hloop:=cL (base:=0) (clr:=[2,3,6,7]) (b:=jn) (fun k=>⟨[.aa b (l.map enc),f,.any,.any,ar l.length,ar k,.any,.any],[]⟩) (l.findIdx p)
   (.ret,⟨[.aa b (l.map enc),f,ar (l.findIdx p),ar (l.findIdx p),ar l.length,ar (l.findIdx p),.bool true,.bool true],[]⟩)
   (fun k hk=>hstep k (by omega) _ (am (by omega)) (by simpa using eD hk))
   (by
    have h1:l[l.findIdx p]?=some l[l.findIdx p]:=am ak;have h2:=he l[l.findIdx p];have h3:=h _ (aF ak);rw[hp]at h3;have hlt':((l.findIdx p:Int)<(l.length:Int)):=by omega
    simp[jn,h1,h2,h3,hlt'])
  simp at hloop;simp[aoD,KW,hs0,hloop,ha]
 have hall:∀y∈l,p y=false:=fun y hy=>by simpa using bR.1 (eN _▸ha) y hy
 have hloop:=cL (base:=0) (clr:=[2,3,6,7]) (b:=jn) (fun k=>⟨[.aa b (l.map enc),f,.any,.any,ar l.length,ar k,.any,.any],[]⟩) l.length
  (.ext 0,⟨[.aa b (l.map enc),f,.any,.any,ar l.length,ar l.length,.bool false,.any],[]⟩)
  (fun k hk=>hstep k hk _ (am hk) (hall _ (aF hk)))
  (by simp[jn])
 simp at hloop;simp[aoD,KW,hs0,hloop,ha]
theorem sn{α:Type}{enc:α→ap}{b:Bool}{l:List α}{f:ap}{p:α→Bool}(hn:l.length≤most)(he:∀y,aC (enc y)=1∧isAgg (enc y)=false)(hs:xl f)
  (h:∀y∈l,dS code f [enc y] []=some (.bool (p y),[])):aK I.qhe [.aa b (l.map enc),f]=some (.bool (l.any p)):=by
 rw[aA aaA rfl];have h:=uP (b:=b) hn he hs h;have hs0:=hs [];unfold Pr at h;cases ha:l.any p<;>rw[ha]at h<;>simp[apF,Um,hs0,h]
theorem ro{α:Type}{enc:α→ap}{b:Bool}{l:List α}{f:ap}{p:α→Bool}(hn:l.length≤most)(he:∀y,aC (enc y)=4∧isAgg (enc y)=true)(hs:xl f)
  (h:∀y∈l,dS code f [enc y] []=some (.bool (p y),[])):aK I.qhs [.aa b (l.map enc),f]=some (ar (Pr p l)):=by
 rw[aA ah4 rfl];have hs0:=hs [];have hstep:∀k,k<l.length→∀y,l[k]?=some y→p y=false→dK 0 [2,3,6,7] pl (run code pl ⟨[.aa b (l.map enc),f,.any,.any,ar l.length,ar k,.any,.any],[]⟩) =
   cq code 0 [2,3,6,7] pl ⟨[.aa b (l.map enc),f,.any,.any,ar l.length,ar (k+1:Nat),.any,.any],[]⟩:=fun k hk y hy hp=>by
  have h2:=he y;have h3:=h y (aw hy);rw[hp]at h3;have ak:((k:Int)<(l.length:Int)):=by omega
  simp[pl,hy,h2,h3,ak,aX hk hn,bY]
 unfold Pr;by_cases ha:l.any p=true
 ·have ak:=cU (d4.1 ha);have hp:p l[l.findIdx p]=true:=dZ (w:=ak);have hloop:=cL (base:=0) (clr:=[2,3,6,7]) (b:=pl) (fun k=>⟨[.aa b (l.map enc),f,.any,.any,ar l.length,ar k,.any,.any],[]⟩) (l.findIdx p)
   (.ret,⟨[.aa b (l.map enc),f,ar (l.findIdx p),ar (l.findIdx p),ar l.length,ar (l.findIdx p),.bool true,.bool true],[]⟩)
   (fun k hk=>hstep k (by omega) _ (am (by omega)) (by simpa using eD hk))
   (by
    have h1:l[l.findIdx p]?=some l[l.findIdx p]:=am ak;have h2:=he l[l.findIdx p];have h3:=h _ (aF ak);rw[hp]at h3;have hlt':((l.findIdx p:Int)<(l.length:Int)):=by omega
    simp[pl,h1,h2,h3,hlt'])
  simp at hloop;simp[apC,T4,hs0,hloop,ha]
 have hall:∀y∈l,p y=false:=fun y hy=>by simpa using bR.1 (eN _▸ha) y hy
 have hloop:=cL (base:=0) (clr:=[2,3,6,7]) (b:=pl) (fun k=>⟨[.aa b (l.map enc),f,.any,.any,ar l.length,ar k,.any,.any],[]⟩) l.length
  (.ext 0,⟨[.aa b (l.map enc),f,.any,.any,ar l.length,ar l.length,.bool false,.any],[]⟩)
  (fun k hk=>hstep k hk _ (am hk) (hall _ (aF hk)))
  (by simp[pl])
 simp at hloop;simp[apC,T4,hs0,hloop,ha]
theorem oQ{α:Type}{enc:α→ap}{b:Bool}{l:List α}{f:ap}{p:α→Bool}(hn:l.length≤most)(he:∀y,aC (enc y)=4∧isAgg (enc y)=true)(hs:xl f)
  (h:∀y∈l,dS code f [enc y] []=some (.bool (p y),[])):aK I.qhg [.aa b (l.map enc),f]=some (.bool (l.any p)):=by
 rw[aA ahb rfl];have h:=ro (b:=b) hn he hs h;have hs0:=hs [];unfold Pr at h;cases ha:l.any p<;>rw[ha]at h<;>simp[arB,acD,hs0,h]
theorem xk{α:Type}{enc:α→ap}[Nc enc 1 false][Fx enc](b:Bool)(l:List α)(hn:l.length≤most):aK I.qgw [.aa b (l.map enc)]=some (.frs 1 (l.map enc)):=by
 cases l with
 |nil=>cases b<;>exact fA (n:=20) (σ:=[]) (by kernel_rfl)
 |cons v r=>
  have hall:=vH (f:=enc) (v::r);have hl:((v::r).map enc).length=r.length+1:=by simp
  have hne:gd [] (.aa b ((v::r).map enc))=false:=rfl;unfold aK;rw[eB fg VH,hne];simp only[bC,cz];unfold iH;have hn':r.length+1≤most:=by simpa using hn
  have hnil:lj false [] (.aa b ((v::r).map enc))=some (.bool false):=rfl;have hf:=jk (f:=enc) (v::r) 0 0 [.arr 1 0 ((v::r).map enc)] rfl;have hx:(v::r).map enc≠[]:=by simp
  have hy:∀x,x∈(v::r).map enc→aC x=1:=fun x hx=>by simpa using aG.1 hall x hx
  have ht:((v::r).map enc).take (r.length+1)=(v::r).map enc:=av (by simp);simp only[bj]at hf;generalize (v::r).map enc=xs at *;simp[aro,ach,enter,kF,append,hall,hl,hn',-lj,hnil,hx];rw[if_pos hy];simp[kF];exact hf
@[simp] theorem lg{α:Type}{enc:α→ap}[Nc enc 1 false][Fx enc](b:Bool)(l:List α)(hn:l.length≤most)(σ:ay):cA code I.qgw [.aa b (l.map enc)] σ=some (.frs 1 (l.map enc),σ):=by
 rw[jj VH rfl,xk b l hn];rfl
theorem uY{α:Type}{enc:α→ap}[Nc enc 1 false][Fx enc](b:Bool)(l:List α)(hn:l.length≤most):aK I.qgt [.aa b (l.map enc)]=some (.frs 1 (l.map enc)):=by
 cases l with
 |nil=>cases b<;>exact fA (n:=20) (σ:=[]) (by kernel_rfl)
 |cons v r=>
  have hall:=vH (f:=enc) (v::r);have hl:((v::r).map enc).length=r.length+1:=by simp
  have hne:gd [] (.aa b ((v::r).map enc))=false:=rfl;unfold aK;rw[eB fg ac8,hne];simp only[bC,cz];unfold iH;have hn':r.length+1≤most:=by simpa using hn
  have hnil:lj false [] (.aa b ((v::r).map enc))=some (.bool false):=rfl;have hf:=jk (f:=enc) (v::r) 0 0 [.arr 1 0 ((v::r).map enc)] rfl;have hx:(v::r).map enc≠[]:=by simp
  have hy:∀x,x∈(v::r).map enc→aC x=1:=fun x hx=>by simpa using aG.1 hall x hx
  have ht:((v::r).map enc).take (r.length+1)=(v::r).map enc:=av (by simp);simp only[bj]at hf;generalize (v::r).map enc=xs at *;simp[ara,aa2,enter,kF,append,hall,hl,hn',-lj,hnil,hx];rw[if_pos hy];simp[kF];exact hf
theorem gZ{α:Type}{enc:α→ap}[Nc enc 4 true][Fx enc](b:Bool)(l:List α)(hn:l.length≤most):aK I.qgu [.aa b (l.map enc)]=some (.frs 4 (l.map enc)):=by
 cases l with
 |nil=>cases b<;>exact fA (n:=20) (σ:=[]) (by kernel_rfl)
 |cons v r=>
  have hall:=vH (f:=enc) (v::r);have hl:((v::r).map enc).length=r.length+1:=by simp
  have hne:gd [] (.aa b ((v::r).map enc))=false:=rfl;unfold aK;rw[eB fg uM,hne];simp only[bC,cz];unfold iH;have hn':r.length+1≤most:=by simpa using hn
  have hnil:lj false [] (.aa b ((v::r).map enc))=some (.bool false):=rfl;have hf:=jk (f:=enc) (v::r) 0 0 [.arr 4 0 ((v::r).map enc)] rfl;have hx:(v::r).map enc≠[]:=by simp
  have hy:∀x,x∈(v::r).map enc→aC x=4:=fun x hx=>by simpa using aG.1 hall x hx
  have ht:((v::r).map enc).take (r.length+1)=(v::r).map enc:=av (by simp);simp only[bj]at hf;generalize (v::r).map enc=xs at *;simp[apE,XC,enter,kF,append,hall,hl,hn',-lj,hnil,hx];rw[if_pos hy];simp[kF];exact hf
@[simp] theorem rZ{α:Type}{enc:α→ap}[Nc enc 4 true][Fx enc](b:Bool)(l:List α)(hn:l.length≤most)(σ:ay):cA code I.qgu [.aa b (l.map enc)] σ=some (.frs 4 (l.map enc),σ):=by
 rw[jj uM rfl,gZ b l hn];rfl
theorem rr{α:Type}{enc:α→ap}[Nc enc 4 true][Fx enc](b:Bool)(l:List α)(hn:l.length≤most):aK I.qgv [.aa b (l.map enc)]=some (.frs 4 (l.map enc)):=by
 cases l with
 |nil=>cases b<;>exact fA (n:=20) (σ:=[]) (by kernel_rfl)
 |cons v r=>
  have hall:=vH (f:=enc) (v::r);have hl:((v::r).map enc).length=r.length+1:=by simp
  have hne:gd [] (.aa b ((v::r).map enc))=false:=rfl;unfold aK;rw[eB fg aaF,hne];simp only[bC,cz];unfold iH;have hn':r.length+1≤most:=by simpa using hn
  have hnil:lj false [] (.aa b ((v::r).map enc))=some (.bool false):=rfl;have hf:=jk (f:=enc) (v::r) 0 0 [.arr 4 0 ((v::r).map enc)] rfl;have hx:(v::r).map enc≠[]:=by simp
  have hy:∀x,x∈(v::r).map enc→aC x=4:=fun x hx=>by simpa using aG.1 hall x hx
  have ht:((v::r).map enc).take (r.length+1)=(v::r).map enc:=av (by simp);simp only[bj]at hf;generalize (v::r).map enc=xs at *;simp[arH,abs,enter,kF,append,hall,hl,hn',-lj,hnil,hx];rw[if_pos hy];simp[kF];exact hf
theorem vL{α:Type}{enc:α→ap}[Nc enc 1 false][Fx enc](b:Bool)(ls:List (dI α))(hn:(ls.flatMap (·.l)).length≤most)(hl:ls.length≤most) :
  aK I.qhc [.aa b (ls.map (dI.c enc))]=some (.aa false ((ls.flatMap (·.l)).map enc)):=by
 rw[aA akP rfl];have hsum0:∀(r:List (dI α)) (k:Nat),ls.drop k=r→(ls.flatMap (·.l)).length=((ls.take k).flatMap (·.l)).length+(r.flatMap (·.l)).length:=fun r k h=>by
  have:=congrArg (fun x=>(x.flatMap (fun (s:dI α)=>s.l)).length) (gK k ls);simp only[kh,bV,h]at this;omega
 generalize hF:ls.flatMap (·.l)=F at *;have hn':F.length≤68719476736:=hn;have hsum:=hsum0;have h1:∀(r:List (dI α)) (k:Nat),ls.drop k=r→k≤ls.length→cq code 0 [3,9,10] CG ⟨[.aa b (ls.map (dI.c enc)),.aj,ar (((ls.take k).flatMap (·.l)).length:Nat),.any,.any,.any,.aa b (ls.map (dI.c enc)),ar ls.length,ar k,.any,.any,.any,.any,.any,.any],[]⟩ =
   some (.ext 0,⟨[.aa b (ls.map (dI.c enc)),.aj,ar (F.length:Nat),.any,.any,.any,.aa b (ls.map (dI.c enc)),ar ls.length,ar ls.length,.bool false,.any,.any,.any,.any,.any],[]⟩):=by
  intro r;induction r with
  |nil=>
   intro k hd hk;have:k=ls.length:=by
    have:=congrArg List.length hd;simp at this;omega
   subst this;rw[cg,cn,hF];simp[CG]
  |cons y r ih=>
   intro k hd hk;have ak:k<ls.length:=by
    have:=congrArg List.length hd;simp at this;omega
   have hy:ls[k]?=some y:=by
    have:=congrArg (·[0]?) hd;simpa using this
   have hr:ls.drop (k+1)=r:=by
    have:=congrArg List.tail hd;simpa [dD] using this
   have hi:((k:Int)<(ls.length:Int)):=by omega
   have hs1:=hsum r (k+1) hr;have ht:((ls.take (k+1)).flatMap (·.l)).length=((ls.take k).flatMap (·.l)).length+y.l.length:=by
    rw[fX,hy];simp
   have ih:=ih (k+1) hr (by omega);rw[ht]at ih hs1;generalize ((ls.take k).flatMap (·.l)).length=s at *;have w:=rn (n:=(s:Int)+(y.l.length:Int)) (by omega) (by omega);have hneg:¬((s:Int)+(y.l.length:Int)<0):=by omega
   rw[cg,←ih];simp[CG,hi,hy,w,hneg,aX ak hl,bY]
 have h1:=h1 ls 0 (by simp) (by simp);simp at h1;have h2:∀(r:List (dI α)) (k ep:Nat) (es:List ap),ls.drop k=r→k≤ls.length→es.take ((ls.take k).flatMap (·.l)).length=((ls.take k).flatMap (·.l)).map enc→((ls.take k).flatMap (·.l)).length≤es.length→∃ep' es',es'.take F.length=F.map enc∧F.length≤es'.length ∧
   cq code 1 [5,14] rN ⟨[.aa b (ls.map (dI.c enc)),.aj,ar (F.length:Nat),.any,.sl 0 ep 0 ((ls.take k).flatMap (·.l)).length,.any,.aa b (ls.map (dI.c enc)),ar ls.length,ar ls.length,.bool false,.any,.aa b (ls.map (dI.c enc)),ar ls.length,ar k,.any],[.arr 1 ep es]⟩ =
   some (.ext 2,⟨[.aa b (ls.map (dI.c enc)),.aj,ar (F.length:Nat),.any,.sl 0 ep' 0 F.length,.any,.aa b (ls.map (dI.c enc)),ar ls.length,ar ls.length,.bool false,.any,.aa b (ls.map (dI.c enc)),ar ls.length,ar ls.length,.bool false],[.arr 1 ep' es']⟩):=by
  intro r;induction r with
  |nil=>
   intro k ep es hd hk he hel;have:k=ls.length:=by
    have:=congrArg List.length hd;simp at this;omega
   subst this;rw[cn,hF]at he hel;refine⟨ep,es,he,hel,?_⟩;rw[cg,cn,hF];simp[rN]
  |cons y r ih=>
   intro k ep es hd hk he hel;have ak:k<ls.length:=by
    have:=congrArg List.length hd;simp at this;omega
   have hy:ls[k]?=some y:=by
    have:=congrArg (·[0]?) hd;simpa using this
   have hr:ls.drop (k+1)=r:=by
    have:=congrArg List.tail hd;simpa [dD] using this
   have hi:((k:Int)<(ls.length:Int)):=by omega
   have hs1:=hsum r (k+1) hr;have hT:(ls.take (k+1)).flatMap (·.l)=(ls.take k).flatMap (·.l)++y.l:=by
    rw[fX,hy];simp
   have ih:=fun ep es=>ih (k+1) ep es hr (by omega);rw[hT]at ih hs1;generalize (ls.take k).flatMap (·.l)=s at *;rw[bV]at hs1;by_cases hy0:y.l=[]
   ·rw[hy0,cR]at ih;obtain⟨ep',es',q1,q2,q3⟩:=ih ep es he hel;refine⟨ep',es',q1,q2,?_⟩;rw[cg,←q3];simp[rN,hi,hy,hy0,append,aX ak hl,bY]
   obtain⟨ep',es',q1,q2,q3⟩:=ih (ep+1) (s.map enc++y.l.map enc) (by rw[←List.map_append];exact av (by simp)) (by simp);refine⟨ep',es',q1,q2,?_⟩;have hm:s.length+y.l.length≤most:=by unfold most;omega
   have hall:∀x∈y.l,aC (enc x)=1:=fun x _=>Nc.nc x;rw[bV]at q3;rw[cg,←q3];simp[rN,hi,hy,hy0,append,hel,he,hm,aX ak hl,bY];rw[if_pos hall];simp[bY,aX ak hl]
 have hgrow:0<F.length→cA code I.qho [.aj,ar (F.length:Nat)] []=some (.sl 0 0 0 0,[.arr 1 0 (List.replicate F.length (ar 0))]):=fun h0=>by
  rw[bp ab2 rfl];generalize F.length=n at *;have e1:¬((n:Int)<0):=by omega
  have e2:(0:Int)<(n:Int):=by omega
  have e3:=rn (n:=(n:Int)) (by omega) (by omega);have e4:IntKind.i64.wrap 0=0:=rfl;simp[apN,V5,e1,e2,e3,e4,append,hn,h0,show ¬n=0 by omega,show (n:Int).toNat=n by omega]
 have hgrow0:cA code I.qho [.aj,ar 0] []=some (.aj,[]):=by
  rw[bp ab2 rfl];have e4:IntKind.i64.wrap 0=0:=rfl;simp[apN,V5,e4]
 by_cases h0:F.length=0
 ·have h3:∀(r:List (dI α)) (k:Nat),ls.drop k=r→k≤ls.length→cq code 0 [5,14] rN ⟨[.aa b (ls.map (dI.c enc)),.aj,ar 0,.any,.aj,.any,.aa b (ls.map (dI.c enc)),ar ls.length,ar ls.length,.bool false,.any,.aa b (ls.map (dI.c enc)),ar ls.length,ar k,.any],[]⟩ =
    some (.ext 2,⟨[.aa b (ls.map (dI.c enc)),.aj,ar 0,.any,.aj,.any,.aa b (ls.map (dI.c enc)),ar ls.length,ar ls.length,.bool false,.any,.aa b (ls.map (dI.c enc)),ar ls.length,ar ls.length,.bool false],[]⟩):=by
   intro r;induction r with
   |nil=>
    intro k hd hk;have:k=ls.length:=by
     have:=congrArg List.length hd;simp at this;omega
    subst this;rw[cg];simp[rN]
   |cons y r ih=>
    intro k hd hk;have ak:k<ls.length:=by
     have:=congrArg List.length hd;simp at this;omega
    have hy:ls[k]?=some y:=by
     have:=congrArg (·[0]?) hd;simpa using this
    have hr:ls.drop (k+1)=r:=by
     have:=congrArg List.tail hd;simpa [dD] using this
    have hi:((k:Int)<(ls.length:Int)):=by omega
    have hy0:y.l=[]:=by
     have h':=bl h0;rw[←hF,iU]at h';exact h' y (aw hy)
    rw[cg,←ih (k+1) hr (by omega)];simp[rN,hi,hy,hy0,append,aX ak hl,bY]
  have h3:=h3 ls 0 (by simp) (by simp);simp at h3;have h0':=bl h0;subst h0';simp at h1;simp[apJ,VE,h1,h3,hgrow0]
 obtain⟨ep,es,q1,q2,q3⟩:=h2 ls 0 0 (List.replicate F.length (ar 0)) (by simp) (by simp) (by simp) (by simp);have hg:=hgrow (by omega);simp at q3;simp[apJ,VE,h1,hg,q3,q1,q2];exact fun y _=>by rw[Fx.fx]
theorem nE{α:Type}{enc:α→ap}[Nc enc 1 false][Fx enc](b:Bool)(ls:List (dI α))(hn:(ls.flatMap (·.l)).length≤most)(hl:ls.length≤most) :
  aK I.qha [.aa b (ls.map (dI.c enc))]=some (.aa false ((ls.flatMap (·.l)).map enc)):=by
 rw[aA ala rfl];have hsum0:∀(r:List (dI α)) (k:Nat),ls.drop k=r→(ls.flatMap (·.l)).length=((ls.take k).flatMap (·.l)).length+(r.flatMap (·.l)).length:=fun r k h=>by
  have:=congrArg (fun x=>(x.flatMap (fun (s:dI α)=>s.l)).length) (gK k ls);simp only[kh,bV,h]at this;omega
 generalize hF:ls.flatMap (·.l)=F at *;have hn':F.length≤68719476736:=hn;have hsum:=hsum0;have h1:∀(r:List (dI α)) (k:Nat),ls.drop k=r→k≤ls.length→cq code 0 [3,9,10] CR ⟨[.aa b (ls.map (dI.c enc)),.aj,ar (((ls.take k).flatMap (·.l)).length:Nat),.any,.any,.any,.aa b (ls.map (dI.c enc)),ar ls.length,ar k,.any,.any,.any,.any,.any,.any],[]⟩ =
   some (.ext 0,⟨[.aa b (ls.map (dI.c enc)),.aj,ar (F.length:Nat),.any,.any,.any,.aa b (ls.map (dI.c enc)),ar ls.length,ar ls.length,.bool false,.any,.any,.any,.any,.any],[]⟩):=by
  intro r;induction r with
  |nil=>
   intro k hd hk;have:k=ls.length:=by
    have:=congrArg List.length hd;simp at this;omega
   subst this;rw[cg,cn,hF];simp[CR]
  |cons y r ih=>
   intro k hd hk;have ak:k<ls.length:=by
    have:=congrArg List.length hd;simp at this;omega
   have hy:ls[k]?=some y:=by
    have:=congrArg (·[0]?) hd;simpa using this
   have hr:ls.drop (k+1)=r:=by
    have:=congrArg List.tail hd;simpa [dD] using this
   have hi:((k:Int)<(ls.length:Int)):=by omega
   have hs1:=hsum r (k+1) hr;have ht:((ls.take (k+1)).flatMap (·.l)).length=((ls.take k).flatMap (·.l)).length+y.l.length:=by
    rw[fX,hy];simp
   have ih:=ih (k+1) hr (by omega);rw[ht]at ih hs1;generalize ((ls.take k).flatMap (·.l)).length=s at *;have w:=rn (n:=(s:Int)+(y.l.length:Int)) (by omega) (by omega);have hneg:¬((s:Int)+(y.l.length:Int)<0):=by omega
   rw[cg,←ih];simp[CR,hi,hy,w,hneg,aX ak hl,bY]
 have h1:=h1 ls 0 (by simp) (by simp);simp at h1;have h2:∀(r:List (dI α)) (k ep:Nat) (es:List ap),ls.drop k=r→k≤ls.length→es.take ((ls.take k).flatMap (·.l)).length=((ls.take k).flatMap (·.l)).map enc→((ls.take k).flatMap (·.l)).length≤es.length→∃ep' es',es'.take F.length=F.map enc∧F.length≤es'.length ∧
   cq code 1 [5,14] rT ⟨[.aa b (ls.map (dI.c enc)),.aj,ar (F.length:Nat),.any,.sl 0 ep 0 ((ls.take k).flatMap (·.l)).length,.any,.aa b (ls.map (dI.c enc)),ar ls.length,ar ls.length,.bool false,.any,.aa b (ls.map (dI.c enc)),ar ls.length,ar k,.any],[.arr 1 ep es]⟩ =
   some (.ext 2,⟨[.aa b (ls.map (dI.c enc)),.aj,ar (F.length:Nat),.any,.sl 0 ep' 0 F.length,.any,.aa b (ls.map (dI.c enc)),ar ls.length,ar ls.length,.bool false,.any,.aa b (ls.map (dI.c enc)),ar ls.length,ar ls.length,.bool false],[.arr 1 ep' es']⟩):=by
  intro r;induction r with
  |nil=>
   intro k ep es hd hk he hel;have:k=ls.length:=by
    have:=congrArg List.length hd;simp at this;omega
   subst this;rw[cn,hF]at he hel;refine⟨ep,es,he,hel,?_⟩;rw[cg,cn,hF];simp[rT]
  |cons y r ih=>
   intro k ep es hd hk he hel;have ak:k<ls.length:=by
    have:=congrArg List.length hd;simp at this;omega
   have hy:ls[k]?=some y:=by
    have:=congrArg (·[0]?) hd;simpa using this
   have hr:ls.drop (k+1)=r:=by
    have:=congrArg List.tail hd;simpa [dD] using this
   have hi:((k:Int)<(ls.length:Int)):=by omega
   have hs1:=hsum r (k+1) hr;have hT:(ls.take (k+1)).flatMap (·.l)=(ls.take k).flatMap (·.l)++y.l:=by
    rw[fX,hy];simp
   have ih:=fun ep es=>ih (k+1) ep es hr (by omega);rw[hT]at ih hs1;generalize (ls.take k).flatMap (·.l)=s at *;rw[bV]at hs1;by_cases hy0:y.l=[]
   ·rw[hy0,cR]at ih;obtain⟨ep',es',q1,q2,q3⟩:=ih ep es he hel;refine⟨ep',es',q1,q2,?_⟩;rw[cg,←q3];simp[rT,hi,hy,hy0,append,aX ak hl,bY]
   obtain⟨ep',es',q1,q2,q3⟩:=ih (ep+1) (s.map enc++y.l.map enc) (by rw[←List.map_append];exact av (by simp)) (by simp);refine⟨ep',es',q1,q2,?_⟩;have hm:s.length+y.l.length≤most:=by unfold most;omega
   have hall:∀x∈y.l,aC (enc x)=1:=fun x _=>Nc.nc x;rw[bV]at q3;rw[cg,←q3];simp[rT,hi,hy,hy0,append,hel,he,hm,aX ak hl,bY];rw[if_pos hall];simp[bY,aX ak hl]
 have hgrow:0<F.length→cA code I.qhm [.aj,ar (F.length:Nat)] []=some (.sl 0 0 0 0,[.arr 1 0 (List.replicate F.length (.aj))]):=fun h0=>by
  rw[bp adA rfl];generalize F.length=n at *;have e1:¬((n:Int)<0):=by omega
  have e2:(0:Int)<(n:Int):=by omega
  have e3:=rn (n:=(n:Int)) (by omega) (by omega);have e4:IntKind.i64.wrap 0=0:=rfl;simp[apr,XU,e1,e2,e3,e4,append,hn,h0,show ¬n=0 by omega,show (n:Int).toNat=n by omega]
 have hgrow0:cA code I.qhm [.aj,ar 0] []=some (.aj,[]):=by
  rw[bp adA rfl];have e4:IntKind.i64.wrap 0=0:=rfl;simp[apr,XU,e4]
 by_cases h0:F.length=0
 ·have h3:∀(r:List (dI α)) (k:Nat),ls.drop k=r→k≤ls.length→cq code 0 [5,14] rT ⟨[.aa b (ls.map (dI.c enc)),.aj,ar 0,.any,.aj,.any,.aa b (ls.map (dI.c enc)),ar ls.length,ar ls.length,.bool false,.any,.aa b (ls.map (dI.c enc)),ar ls.length,ar k,.any],[]⟩ =
    some (.ext 2,⟨[.aa b (ls.map (dI.c enc)),.aj,ar 0,.any,.aj,.any,.aa b (ls.map (dI.c enc)),ar ls.length,ar ls.length,.bool false,.any,.aa b (ls.map (dI.c enc)),ar ls.length,ar ls.length,.bool false],[]⟩):=by
   intro r;induction r with
   |nil=>
    intro k hd hk;have:k=ls.length:=by
     have:=congrArg List.length hd;simp at this;omega
    subst this;rw[cg];simp[rT]
   |cons y r ih=>
    intro k hd hk;have ak:k<ls.length:=by
     have:=congrArg List.length hd;simp at this;omega
    have hy:ls[k]?=some y:=by
     have:=congrArg (·[0]?) hd;simpa using this
    have hr:ls.drop (k+1)=r:=by
     have:=congrArg List.tail hd;simpa [dD] using this
    have hi:((k:Int)<(ls.length:Int)):=by omega
    have hy0:y.l=[]:=by
     have h':=bl h0;rw[←hF,iU]at h';exact h' y (aw hy)
    rw[cg,←ih (k+1) hr (by omega)];simp[rT,hi,hy,hy0,append,aX ak hl,bY]
  have h3:=h3 ls 0 (by simp) (by simp);simp at h3;have h0':=bl h0;subst h0';simp at h1;simp[apo,WD,h1,h3,hgrow0]
 obtain⟨ep,es,q1,q2,q3⟩:=h2 ls 0 0 (List.replicate F.length (.aj)) (by simp) (by simp) (by simp) (by simp);have hg:=hgrow (by omega);simp at q3;simp[apo,WD,h1,hg,q3,q1,q2];exact fun y _=>by rw[Fx.fx]
theorem jy{α:Type}{enc:α→ap}[Nc enc 4 true][Fx enc](b:Bool)(ls:List (dI α))(hn:(ls.flatMap (·.l)).length≤most)(hl:ls.length≤most) :
  aK I.qhb [.aa b (ls.map (dI.c enc))]=some (.aa false ((ls.flatMap (·.l)).map enc)):=by
 rw[aA ahf rfl];have hsum0:∀(r:List (dI α)) (k:Nat),ls.drop k=r→(ls.flatMap (·.l)).length=((ls.take k).flatMap (·.l)).length+(r.flatMap (·.l)).length:=fun r k h=>by
  have:=congrArg (fun x=>(x.flatMap (fun (s:dI α)=>s.l)).length) (gK k ls);simp only[kh,bV,h]at this;omega
 generalize hF:ls.flatMap (·.l)=F at *;have hn':F.length≤68719476736:=hn;have hsum:=hsum0;have h1:∀(r:List (dI α)) (k:Nat),ls.drop k=r→k≤ls.length→cq code 0 [3,9,10] C6 ⟨[.aa b (ls.map (dI.c enc)),.aj,ar (((ls.take k).flatMap (·.l)).length:Nat),.any,.any,.any,.aa b (ls.map (dI.c enc)),ar ls.length,ar k,.any,.any,.any,.any,.any,.any],[]⟩ =
   some (.ext 0,⟨[.aa b (ls.map (dI.c enc)),.aj,ar (F.length:Nat),.any,.any,.any,.aa b (ls.map (dI.c enc)),ar ls.length,ar ls.length,.bool false,.any,.any,.any,.any,.any],[]⟩):=by
  intro r;induction r with
  |nil=>
   intro k hd hk;have:k=ls.length:=by
    have:=congrArg List.length hd;simp at this;omega
   subst this;rw[cg,cn,hF];simp[C6]
  |cons y r ih=>
   intro k hd hk;have ak:k<ls.length:=by
    have:=congrArg List.length hd;simp at this;omega
   have hy:ls[k]?=some y:=by
    have:=congrArg (·[0]?) hd;simpa using this
   have hr:ls.drop (k+1)=r:=by
    have:=congrArg List.tail hd;simpa [dD] using this
   have hi:((k:Int)<(ls.length:Int)):=by omega
   have hs1:=hsum r (k+1) hr;have ht:((ls.take (k+1)).flatMap (·.l)).length=((ls.take k).flatMap (·.l)).length+y.l.length:=by
    rw[fX,hy];simp
   have ih:=ih (k+1) hr (by omega);rw[ht]at ih hs1;generalize ((ls.take k).flatMap (·.l)).length=s at *;have w:=rn (n:=(s:Int)+(y.l.length:Int)) (by omega) (by omega);have hneg:¬((s:Int)+(y.l.length:Int)<0):=by omega
   rw[cg,←ih];simp[C6,hi,hy,w,hneg,aX ak hl,bY]
 have h1:=h1 ls 0 (by simp) (by simp);simp at h1;have h2:∀(r:List (dI α)) (k ep:Nat) (es:List ap),ls.drop k=r→k≤ls.length→es.take ((ls.take k).flatMap (·.l)).length=((ls.take k).flatMap (·.l)).map enc→((ls.take k).flatMap (·.l)).length≤es.length→∃ep' es',es'.take F.length=F.map enc∧F.length≤es'.length ∧
   cq code 1 [5,14] rF ⟨[.aa b (ls.map (dI.c enc)),.aj,ar (F.length:Nat),.any,.sl 0 ep 0 ((ls.take k).flatMap (·.l)).length,.any,.aa b (ls.map (dI.c enc)),ar ls.length,ar ls.length,.bool false,.any,.aa b (ls.map (dI.c enc)),ar ls.length,ar k,.any],[.arr 4 ep es]⟩ =
   some (.ext 2,⟨[.aa b (ls.map (dI.c enc)),.aj,ar (F.length:Nat),.any,.sl 0 ep' 0 F.length,.any,.aa b (ls.map (dI.c enc)),ar ls.length,ar ls.length,.bool false,.any,.aa b (ls.map (dI.c enc)),ar ls.length,ar ls.length,.bool false],[.arr 4 ep' es']⟩):=by
  intro r;induction r with
  |nil=>
   intro k ep es hd hk he hel;have:k=ls.length:=by
    have:=congrArg List.length hd;simp at this;omega
   subst this;rw[cn,hF]at he hel;refine⟨ep,es,he,hel,?_⟩;rw[cg,cn,hF];simp[rF]
  |cons y r ih=>
   intro k ep es hd hk he hel;have ak:k<ls.length:=by
    have:=congrArg List.length hd;simp at this;omega
   have hy:ls[k]?=some y:=by
    have:=congrArg (·[0]?) hd;simpa using this
   have hr:ls.drop (k+1)=r:=by
    have:=congrArg List.tail hd;simpa [dD] using this
   have hi:((k:Int)<(ls.length:Int)):=by omega
   have hs1:=hsum r (k+1) hr;have hT:(ls.take (k+1)).flatMap (·.l)=(ls.take k).flatMap (·.l)++y.l:=by
    rw[fX,hy];simp
   have ih:=fun ep es=>ih (k+1) ep es hr (by omega);rw[hT]at ih hs1;generalize (ls.take k).flatMap (·.l)=s at *;rw[bV]at hs1;by_cases hy0:y.l=[]
   ·rw[hy0,cR]at ih;obtain⟨ep',es',q1,q2,q3⟩:=ih ep es he hel;refine⟨ep',es',q1,q2,?_⟩;rw[cg,←q3];simp[rF,hi,hy,hy0,append,aX ak hl,bY]
   obtain⟨ep',es',q1,q2,q3⟩:=ih (ep+1) (s.map enc++y.l.map enc) (by rw[←List.map_append];exact av (by simp)) (by simp);refine⟨ep',es',q1,q2,?_⟩;have hm:s.length+y.l.length≤most:=by unfold most;omega
   have hall:∀x∈y.l,aC (enc x)=4:=fun x _=>Nc.nc x;rw[bV]at q3;rw[cg,←q3];simp[rF,hi,hy,hy0,append,hel,he,hm,aX ak hl,bY];rw[if_pos hall];simp[bY,aX ak hl]
 have hgrow:0<F.length→cA code I.qhn [.aj,ar (F.length:Nat)] []=some (.sl 0 0 0 0,[.arr 4 0 (List.replicate F.length (.agg [ar 0,ar 0,.int .u64 0,.str []]))]):=fun h0=>by
  rw[bp abM rfl];generalize F.length=n at *;have e1:¬((n:Int)<0):=by omega
  have e2:(0:Int)<(n:Int):=by omega
  have e3:=rn (n:=(n:Int)) (by omega) (by omega);have e4:IntKind.i64.wrap 0=0:=rfl;simp[apk,XS,e1,e2,e3,e4,append,hn,h0,show ¬n=0 by omega,show (n:Int).toNat=n by omega]
 have hgrow0:cA code I.qhn [.aj,ar 0] []=some (.aj,[]):=by
  rw[bp abM rfl];have e4:IntKind.i64.wrap 0=0:=rfl;simp[apk,XS,e4]
 by_cases h0:F.length=0
 ·have h3:∀(r:List (dI α)) (k:Nat),ls.drop k=r→k≤ls.length→cq code 0 [5,14] rF ⟨[.aa b (ls.map (dI.c enc)),.aj,ar 0,.any,.aj,.any,.aa b (ls.map (dI.c enc)),ar ls.length,ar ls.length,.bool false,.any,.aa b (ls.map (dI.c enc)),ar ls.length,ar k,.any],[]⟩ =
    some (.ext 2,⟨[.aa b (ls.map (dI.c enc)),.aj,ar 0,.any,.aj,.any,.aa b (ls.map (dI.c enc)),ar ls.length,ar ls.length,.bool false,.any,.aa b (ls.map (dI.c enc)),ar ls.length,ar ls.length,.bool false],[]⟩):=by
   intro r;induction r with
   |nil=>
    intro k hd hk;have:k=ls.length:=by
     have:=congrArg List.length hd;simp at this;omega
    subst this;rw[cg];simp[rF]
   |cons y r ih=>
    intro k hd hk;have ak:k<ls.length:=by
     have:=congrArg List.length hd;simp at this;omega
    have hy:ls[k]?=some y:=by
     have:=congrArg (·[0]?) hd;simpa using this
    have hr:ls.drop (k+1)=r:=by
     have:=congrArg List.tail hd;simpa [dD] using this
    have hi:((k:Int)<(ls.length:Int)):=by omega
    have hy0:y.l=[]:=by
     have h':=bl h0;rw[←hF,iU]at h';exact h' y (aw hy)
    rw[cg,←ih (k+1) hr (by omega)];simp[rF,hi,hy,hy0,append,aX ak hl,bY]
  have h3:=h3 ls 0 (by simp) (by simp);simp at h3;have h0':=bl h0;subst h0';simp at h1;simp[apD,Wg,h1,h3,hgrow0]
 obtain⟨ep,es,q1,q2,q3⟩:=h2 ls 0 0 (List.replicate F.length (.agg [ar 0,ar 0,.int .u64 0,.str []])) (by simp) (by simp) (by simp) (by simp);have hg:=hgrow (by omega);simp at q3;simp[apD,Wg,h1,hg,q3,q1,q2];exact fun y _=>by rw[Fx.fx]
end Go.AM
namespace Go.AM
open P
set_option maxHeartbeats 2000000
set_option maxRecDepth 4000
end Go.AM
namespace Go.AM
open P
set_option maxHeartbeats 64000000
set_option maxRecDepth 40000
attribute [local simp] aW bK
def aD(r:b8):ap:=.aa false (r.map bW.a)
instance:Nc aD 1 false:=⟨fun _=>rfl,fun _=>rfl⟩
instance:Fx aD:=⟨fun fl top base σ n y=>by simp[aD]⟩
@[simp] theorem alK(r:b8):aC (aD r)=1:=rfl
@[simp] theorem aib(r:b8):isAgg (aD r)=false:=rfl
@[simp] theorem alV(r:b8)(fl top:Bool)(base:Nat)(σ:ay)(n:Nat):fz fl top base σ (n+3) (aD r)=aD r:=Fx.fx fl top base σ n r
instance:Nc (dI.c aD) 1 false:=⟨fun _=>rfl,fun _=>rfl⟩
theorem JY(rs:aQ):cI false rs=rs.map aD:=rfl
theorem ZN(r:b8):aK I.qgi [aD r]=some (.bool (lc r)):=qE false r
theorem Mz(c:Bool)(Ls:List (dI b8))(m:Int)(j:Nat)(s:dI b8)(hn:s.l.length≤8000)(hr:∀r∈s.l,lc r=true) :
  cq code 0 [1,4,12,13] zu ⟨[.aa c (Ls.map (dI.c aD)),.any,ar m,.aa s.b (s.l.map aD),.any,.aa c (Ls.map (dI.c aD)),ar Ls.length,ar j,.bool true,.aa s.b (s.l.map aD),ar s.l.length,ar 0,.any,.any,.any],[]⟩ =
  some (.ext 2,⟨[.aa c (Ls.map (dI.c aD)),.any,ar m,.aa s.b (s.l.map aD),.any,.aa c (Ls.map (dI.c aD)),ar Ls.length,ar j,.bool true,.aa s.b (s.l.map aD),ar s.l.length,ar s.l.length,.bool false,.any,.any],[]⟩):=by
 have hm:s.l.length≤most:=by unfold most;omega
 have h:=ea (base:=0) (clr:=[1,4,12,13]) (b:=zu) s.l (fun k (_:Unit)=>⟨[.aa c (Ls.map (dI.c aD)),.any,ar m,.aa s.b (s.l.map aD),.any,.aa c (Ls.map (dI.c aD)),ar Ls.length,ar j,.bool true,.aa s.b (s.l.map aD),ar s.l.length,ar k,.any,.any,.any],[]⟩)
  (fun _ _=>True) (fun _ _=>()) (fun _=>(.ext 2,⟨[.aa c (Ls.map (dI.c aD)),.any,ar m,.aa s.b (s.l.map aD),.any,.aa c (Ls.map (dI.c aD)),ar Ls.length,ar j,.bool true,.aa s.b (s.l.map aD),ar s.l.length,ar s.l.length,.bool false,.any,.any],[]⟩))
  (fun k y _ hk hy _=>by
   have ak:((k:Int)<(s.l.length:Int)):=by omega
   have h2:=ZN y;rw[hr y (aw hy)]at h2;simp[zu,ak,hy,h2,aX hk hm,bY])
  (fun _ _=>by simp[zu]) () trivial
 simpa using h.1
theorem Fe(c:Bool)(Ls:List (dI b8))(hl:Ls.length≤most)(hn:∀s∈Ls,s.l.length≤8000)(hr:∀s∈Ls,∀r∈s.l,lc r=true) :
  aK I.qgg [.aa c (Ls.map (dI.c aD))]=some (ar 0):=by
 rw[aA aj5 rfl];have h:=ea (base:=0) (clr:=[1,3,4,8,9,10,11,12,13]) (b:=C0) Ls (fun k (m:Int)=>⟨[.aa c (Ls.map (dI.c aD)),.any,ar m,.any,.any,.aa c (Ls.map (dI.c aD)),ar Ls.length,ar k,.any,.any,.any,.any,.any,.any,.any],[]⟩)
  (fun _ m=>m≤8000) (fun m s=>if m<(s.l.length:Int) then (s.l.length:Int) else m) (fun m=>(.ext 0,⟨[.aa c (Ls.map (dI.c aD)),.any,ar m,.any,.any,.aa c (Ls.map (dI.c aD)),ar Ls.length,ar Ls.length,.bool false,.any,.any,.any,.any,.any,.any],[]⟩))
  (fun k s m hk hy hm=>by
   have ak:((k:Int)<(Ls.length:Int)):=by omega
   have hs:=hn s (aw hy);have hi:=Mz c Ls m k s hs (hr s (aw hy));refine⟨?_,by split<;>omega⟩;simp[C0,ak,hy,hi,aX hk hl,aE])
  (fun m _=>by simp[C0]) 0 (by omega)
 obtain⟨h1,h2⟩:=h;generalize Ls.foldl (fun m s=>if m<(s.l.length:Int) then (s.l.length:Int) else m) 0=m at h1 h2;simp at h1;have h3:¬((8000:Int)<m):=by omega
 simp[apZ,adb,h1,h3]
theorem YO{r:b8}(h:lc r=true):Lf (da r):=by
 have hl:r.length≤16:=by unfold lc at h;simp at h;exact h.1
 refine⟨fun v hv=>?_,DT false r (by unfold most;omega),?_⟩
 ·obtain⟨x,_,rfl⟩:=aU.1 hv;exact⟨rfl,rfl,fun fl top base σ n=>ad6 x fl top base σ n⟩
 rw[qE,h]
theorem Lp(b:Bool)(rs:aQ)(hn:rs.length≤most)(hr:∀r∈rs,lc r=true):aK I.qgc [.aa b (rs.map aD)]=some (.frs 1 (rs.map aD)):=by
 have h:=KJ (b:=b) (rs:=rs.map da) (by simpa using hn) (fun r hr'=>by
  obtain⟨x,hx,rfl⟩:=aU.1 hr';exact YO (hr x hx))
 have e:gp (rs.map da)=rs.map aD:=by unfold gp;rw[cE];rfl
 rw[e]at h;exact h
theorem IG(r q:b8)(hr:r.length≤most):cA code 140 [.aa false (da r),.aa false (da q)] []=some (ar (ez r q),[]):=by
 have:=cG (f:=I.qgh) acb rfl [.aa false (da r),.aa false (da q)] [];simp only[bG,bh,po,Qx]at this;rw[yn false false r q hr]at this;exact this
theorem Oh{rs:aQ}(hn:rs.length≤most)(hok:∀r∈rs,r.length≤most){σ:ay}{id ep:Nat}(h:σ[id]?=some (.arr 1 ep (rs.map aD))) :
  cA code 67 [.sl id ep 0 rs.length,.fn 140 [] []] σ=some (.any,σ.set id (.arr 1 ep ((dL ez rs).map aD))):=by
 rw[←JY]at h ⊢;have hk:∀x∈cI false rs,∃r,r∈rs∧x=.aa false (da r):=fun x hx=>by
  obtain⟨r,h1,h2⟩:=aU.1 hx;exact⟨r,h1,h2.symm⟩
 obtain⟨n,hf⟩:=q7 (F:=fun n (x:ap)=>∀y∈cI false rs,dl code n 140 [x,y] []=some (ar (ez (nB x) (nB y)),[]))
  (fun n m x hnm h y hy=>(fw fg _ _ _).le hnm (h y hy)) (cI false rs) (fun x hx=>by
   obtain⟨n,hn⟩:=q7 (F:=fun n (y:ap)=>dl code n 140 [x,y] []=some (ar (ez (nB x) (nB y)),[]))
    (fun n m y hnm h=>(fw fg _ _ _).le hnm h) (cI false rs) (fun y hy=>by
     obtain⟨r,hr,rfl⟩:=hk x hx;obtain⟨q,hq,rfl⟩:=hk y hy;rw[yO,yO];exact (mH (fw fg _ _ _) _).1 (IG r q (hok r hr)))
   exact⟨n,fun y hy=>hn y hy⟩)
 have hc:∀r q,r∈rs→q∈rs→iO (dl code n) (.fn 140 [] []) (.aa false (da r)) (.aa false (da q))=some (ez r q):=fun r q hr hq=>by
  have:=hf (.aa false (da r)) (aU.2 ⟨r,hr,rfl⟩) (.aa false (da q)) (aU.2 ⟨q,hq,rfl⟩);unfold iO qV;simp at this;simp[this]
 have hO:sP (iO (dl code n) (.fn 140 [] [])) (cI false rs)=true:=by
  rw[lI];refine⟨fun x hx y hy=>?_,fun x hx y hy a b e1 e2=>?_,fun x hx y hy e=>?_,fun x hx=>?_,fun x hx y hy z hz a b c e1 e2 e3 h1 h2=>?_⟩
  ·obtain⟨r,hr,rfl⟩:=hk x hx;obtain⟨q,hq,rfl⟩:=hk y hy;have:=qR r q;exact⟨_,hc r q hr hq,by omega,by omega⟩
  ·obtain⟨r,hr,rfl⟩:=hk x hx;obtain⟨q,hq,rfl⟩:=hk y hy;rw[hc r q hr hq]at e1;rw[hc q r hq hr]at e2;cases e1;cases e2;exact pA.anti r q
  ·obtain⟨r,hr,rfl⟩:=hk x hx;obtain⟨q,hq,rfl⟩:=hk y hy;rw[hc r q hr hq]at e;rw[sU (cB e)]
  ·obtain⟨r,hr,rfl⟩:=hk x hx;rw[hc r r hr hr,pA.self]
  obtain⟨r,hr,rfl⟩:=hk x hx;obtain⟨q,hq,rfl⟩:=hk y hy;obtain⟨s,hs,rfl⟩:=hk z hz;rw[hc r q hr hq]at e1;rw[hc q s hq hs]at e2;rw[hc r s hr hs]at e3;cases e1;cases e2;cases e3;exact pA.lt_le h1 (Int.le_of_lt h2)
 refine nZ fg (k:=1) (n:=n) rfl ?_;have hp:code.prims 1 (dl code n)=mn (dl code n):=rfl;rw[hp];have h9:(cI false rs).take rs.length=cI false rs:=av (by simp);have h10:((cI false rs).all fun x=>same (fS (σ.set id .dead) x) x&&aC x==1&&!isAgg x&&!js x)=true:=by
  rw[aG];intro x hx;obtain⟨r,hr,rfl⟩:=hk x hx;simp[js]
 simp only[mn,h,gW,h9];have h11:fS (σ.set id .dead) (.fn 140 [] [])=.fn 140 [] []:=by simp
 have h13:eU (mg (iO (dl code n) (.fn 140 [] []))) (cI false rs)=cI false (dL ez rs):=by
  unfold cI;refine ux fun r hr q hq=>?_;unfold mg;rw[hc r q hr hq]
 rw[if_pos ⟨by trivial,by simp,hn,h10,by rw[h11];exact hO,by rw[h11];rfl⟩,h11,h13];have h12:(cI false rs).drop (0+rs.length)=[]:=jd (by simp);rw[h12,JY];simp
theorem KQ(b:Bool)(rs:aQ)(hn:rs.length≤most)(hr:∀r∈rs,lc r=true):aK I.qgm [.aa b (rs.map aD)]=some (.frs 1 ((dL ez rs).map aD)):=by
 rw[aA ak2 rfl];have h1:=fun b=>Lp b rs hn hr;have e3:=Oh hn (fun r h=>by have:=hr r h;unfold lc at this;simp at this;unfold most;omega) (σ:=[.arr 1 0 (rs.map aD)]) (id:=0) (ep:=0) rfl;simp at e3;have hf:=fun σ h=>jk (f:=aD) (m:=1) (dL ez rs) 0 0 σ h;rw[gj]at hf;simp[aqW,abx,h1,e3,hf]
theorem MO(b:Bool)(rs:aQ)(hn:rs.length≤8000)(hr:∀r∈rs,lc r=true):aK I.qfz [.aa b (rs.map aD)]=some (.tup [.aa false ((dL ez rs).map aD),ar 0]):=by
 rw[aA ai7 rfl];have hm:rs.length≤most:=by unfold most;omega
 have h1:=fun c=>Fe c [⟨b,rs⟩] (by simp[most]) (by simpa using hn) (by simpa using hr);have h2:=fun b=>KQ b rs hm hr;simp at h1;simp[aqL,adr,h1,h2]
def Kx(v:bW)(k:Int):Bool:=oC v&&(v.k==0 ||v.k==k)
def Bh(af:List Int)(r:b8):Bool:=r.length==af.length&&(r.zip af).all fun p=>Kx p.1 p.2
theorem FW(v:bW)(k:Int):aK I.qcf [v.a,ar k]=some (.bool (Kx v k)):=by
 rw[aA agN rfl];have h:=nX v;obtain⟨vk,vn,vu,vs⟩:=v;unfold Kx;cases hv:oC ⟨vk,vn,vu,vs⟩<;>rw[hv]at h<;>simp[bW.a]at h<;>simp[apU,ab9,bW.a,h]
 repeat' (split<;>(try simp_all))
theorem Vz(b bk:Bool)(r:b8)(af:List Int)(hn:r.length≤most) :
  aK I.qhk [.aa b (r.map bW.a),.aa bk (af.map (.int .i64)),.fn 254 [] []]=some (.bool (Bh af r)):=by
 rw[aA ah9 rfl];unfold Bh;by_cases hl:r.length=af.length
 ·have hzl:(r.zip af).length=r.length:=by simp[hl]
  have h:=lD (base:=0) (clr:=[3,4,5,6,11,12]) (b:=zt) (r.zip af) (fun k=>⟨[.aa b (r.map bW.a),.aa bk (af.map (.int .i64)),.fn 254 [] [],.any,.any,.any,.any,.bool false,.aa b (r.map bW.a),ar r.length,ar k,.any,.any],[]⟩)
   (fun p=>!Kx p.1 p.2)
   (.ext 0,⟨[.aa b (r.map bW.a),.aa bk (af.map (.int .i64)),.fn 254 [] [],.any,.any,.any,.any,.bool false,.aa b (r.map bW.a),ar r.length,ar r.length,.bool false,.any],[]⟩)
   (fun o=>∃s,o=(.ret,s)∧dO .pure [.env 3] (some (.ret,s))=some (.bool false))
   (fun k p hk hy hp=>by
    obtain⟨v,kd⟩:=p;rw[d5]at hy;have ak:((k:Int)<(r.length:Int)):=by omega
    have hf:=FW v kd;simp only[gv]at hp;rw[hp]at hf;simp[zt,ak,hy.1,hy.2,hf,aX (by omega:k<r.length) hn,aE])
   (fun k p hk hy hp=>by
    obtain⟨v,kd⟩:=p;rw[d5]at hy;have ak:((k:Int)<(r.length:Int)):=by omega
    have hf:=FW v kd;simp only[cN]at hp;rw[hp]at hf;exact⟨_,by simp[zt,ak,hy.1,hy.2,hf];rfl,_,rfl,by simp⟩)
   (by rw[hzl];simp[zt])
  have hne:((r.length:Int) != (af.length:Int))=false:=by simp[hl]
  have hb:(r.length==af.length)=true:=by simp[hl]
  have hall:((r.zip af).all fun p=>Kx p.1 p.2)=!((r.zip af).any fun p=>!Kx p.1 p.2):=by
   rw[iS];simp
  rw[hall];rcases h with⟨h1,h2⟩|⟨h1,o,h2,s,rfl,h3⟩
  ·rw[h1];simp at h2;simp[aoY,Qr,hne,h2,hb]
  rw[h1];simp at h2;simp[aoY,Qr,hne,h2,hb,-dV];exact h3
 have hne:((r.length:Int) != (af.length:Int))=true:=by simp;omega
 simp[aoY,Qr,hne,hl]
theorem PF(b bk t:Bool)(r:b8)(af:List Int)(hn:r.length≤most):aK I.qce [.aa b (r.map bW.a),.cptr t (.aa bk (af.map (.int .i64))) 0]=some (.bool (!Bh af r)):=by
 rw[aA ajL rfl];have h:=fun b bk=>Vz b bk r af hn;cases hv:Bh af r<;>rw[hv]at h<;>cases t<;>simp[arR,acW,h]
def Nr(af:List Int)(rs:aQ):Bool:=decide (rs.length≤8000)&&rs.all (Bh af)
theorem GW(b bk:Bool)(rs:aQ)(af:List Int)(hn:∀r∈rs,r.length≤most):aK I.qcd [.aa b (rs.map aD),.aa bk (af.map (.int .i64))]=some (.bool (Nr af rs)):=by
 rw[aA aiC rfl];unfold Nr;by_cases hl:rs.length≤8000
 ·have hl':¬((8000:Int)<(rs.length:Int)):=by omega
  have hm:rs.length≤most:=by unfold most;omega
  have hC:=sn (enc:=aD) (b:=b) (l:=rs) (f:=fS [.arr 1 0 [.aa bk (af.map (.int .i64))]] (.fn 161 [] [.ptr 0 0 0 0])) (p:=fun r=>!Bh af r) hm (fun _=>⟨rfl,rfl⟩) (fun σ=>pJ _ _ _) (fun r hr=>by
   have:=PF false bk true r af (hn r hr);simp[aD,this])
  simp at hC;have hall:rs.all (Bh af)=!(rs.any fun r=>!Bh af r):=by rw[iS];simp
  rw[hall];cases hA:(rs.any fun r=>!Bh af r)<;>rw[hA]at hC<;>simp[apj,XT,hl,hl',hC]
 have hl':((8000:Int)<(rs.length:Int)):=by omega
 simp[apj,XT,hl,hl']
instance:Nc (ap.int .u8) 1 false:=⟨fun _=>rfl,fun _=>rfl⟩
instance:Fx (ap.int .u8):=⟨fun _ _ _ _ _ _=>rfl⟩
instance:Nc (fun (c:UInt8)=>ap.int .u8 (c.toNat:Int)) 1 false:=⟨fun _=>rfl,fun _=>rfl⟩
instance:Fx (fun (c:UInt8)=>ap.int .u8 (c.toNat:Int)):=⟨fun _ _ _ _ _ _=>rfl⟩
abbrev kR(l:List Int):List ap:=l.map (.int .i64)
def YP(r:b8)(c:Int):Bool:=decide (0≤c)&&decide (c<r.length)
def EK(r:b8)(ah:List Int):Bool:=decide (ah.length≤16)&&ah.all (YP r)
def lA(r:b8)(ah:List Int):b8:=ah.map (jY r)
theorem PS(t b:Bool)(c:Int)(r:b8):aK I.qgf [ar c,.cptr t (.aa b (r.map bW.a)) 0]=some (.bool (!YP r c)):=by
 rw[aA akG rfl];unfold YP;by_cases h1:c<0
 ·have h2:¬(0≤c):=by omega
  cases t<;>simp[ao6,Rw,h1,h2]
 have h2:0≤c:=by omega
 by_cases h3:c<r.length
 ·have h4:¬((r.length:Int)≤c):=by omega
  cases t<;>simp[ao6,Rw,h1,h2,h3,h4]
 have h4:((r.length:Int)≤c):=by omega
 cases t<;>simp[ao6,Rw,h1,h2,h3,h4]
theorem Tj(bc:Bool)(r:b8)(ah:List Int):aK I.qge [aD r,.aa bc (kR ah)]=some (.bool (EK r ah)):=by
 rw[aA ahO rfl];unfold EK;by_cases hl:ah.length≤16
 ·have hl':((ah.length:Int)≤16):=by omega
  have hC:=iF (enc:=.int .i64) (b:=bc) (l:=ah) (f:=fS [.arr 1 0 [aD r]] (.fn 230 [] [.ptr 0 0 0 0])) (p:=fun c=>!YP r c) (by unfold most;omega) (fun _=>⟨rfl,rfl⟩) (fun σ=>pJ _ _ _) (fun c _=>by
   have:=PS true false c r;simp[aD,this])
  simp at hC;have hall:ah.all (YP r)=!(ah.any fun c=>!YP r c):=by rw[iS];simp
  rw[hall];cases hA:(ah.any fun c=>!YP r c)<;>rw[hA]at hC<;>simp[apl,Ve,hl,hl',hC]
 have hl':¬((ah.length:Int)≤16):=by omega
 simp[apl,Ve,hl,hl']
theorem MM(c:Int):aK I.qgb [ar c]=some (.bool (decide (c<0))):=by
 rw[aA aim rfl];simp[aqM,aaP]
theorem XR(b bc:Bool)(rs:aQ)(ah:List Int)(hn:rs.length≤8000)(hr:∀r∈rs,lc r=true)(hc:ah.length≤16)(h0:∀c∈ah,0≤c)(hh:∀r∈rs,EK r ah=true) :
  aK I.qga [.aa b (rs.map aD),.aa bc (kR ah)]=some (ar 0):=by
 rw[aA alg rfl];have hm:rs.length≤most:=by unfold most;omega
 have h1:=fun c=>Fe c [⟨b,rs⟩] (by simp[most]) (by simpa using hn) (by simpa using hr);simp at h1;have hC:=fun bc=>iF (enc:=.int .i64) (b:=bc) (l:=ah) (f:=.fn 139 [] []) (p:=fun c=>decide (c<0)) (by unfold most;omega) (fun _=>⟨rfl,rfl⟩) (fun σ=>by simp) (fun c _=>by simp[MM]);rw[show (ah.any fun c=>decide (c<0))=false by
  rw[bR];intro c hc';have:=h0 c hc';simp;omega]at hC
 have hl':¬((16:Int)<(ah.length:Int)):=by omega
 have hl:=ea (base:=0) (clr:=[2,5,11,12]) (b:=Dt) rs (fun k (_:Unit)=>⟨[.aa b (rs.map aD),.aa bc (kR ah),.any,ar 0,.fn 139 [] [],.any,.bool false,.bool false,.aa b (rs.map aD),ar rs.length,ar k,.any,.any],[]⟩)
  (fun _ _=>True) (fun _ _=>()) (fun _=>(.ext 0,⟨[.aa b (rs.map aD),.aa bc (kR ah),.any,ar 0,.fn 139 [] [],.any,.bool false,.bool false,.aa b (rs.map aD),ar rs.length,ar rs.length,.bool false,.any],[]⟩))
  (fun k y _ hk hy _=>by
   have ak:((k:Int)<(rs.length:Int)):=by omega
   have h2:=fun bc=>Tj bc y ah;rw[hh y (aw hy)]at h2;simp[Dt,ak,hy,h2,aX hk hm,aE])
  (fun _ _=>by simp[Dt]) () trivial
 have hl:=hl.1;simp at hl;simp[arq,abp,h1,hC,hl',hl]
theorem sH(bc:Bool)(r:b8)(ah:List Int)(hc:ah.length≤16)(hh:∀c∈ah,0≤c∧c<r.length) :
  aK I.qgn [aD r,.aa bc (kR ah)]=some (aD (lA r ah)):=by
 rw[aA ajW rfl];have hm:ah.length≤most:=by unfold most;omega
 have hl:=ea (base:=1) (clr:=[4,8]) (b:=CD) ah (fun k (s:b8)=>⟨[aD r,.aa bc (kR ah),.aj,.sl 0 k 0 s.length,.any,.aa bc (kR ah),ar ah.length,ar k,.any],[.arr 4 k (s.map bW.a)]⟩)
  (fun k s=>s.length=k) (fun s c=>s++[jY r c]) (fun s=>(.ext 0,⟨[aD r,.aa bc (kR ah),.aj,.sl 0 ah.length 0 s.length,.any,.aa bc (kR ah),ar ah.length,ar ah.length,.bool false],[.arr 4 ah.length (s.map bW.a)]⟩))
  (fun k c s hk hy hs=>by
   have ak:((k:Int)<(ah.length:Int)):=by omega
   obtain⟨c0,c1⟩:=hh c (aw hy);have hcv:(r.map bW.a)[c.toNat]?=some (jY r c).a:=ze ⟨c0,c1⟩;have hct:c.toNat < r.length:=by omega
   have hkm:k+1≤most:=by omega
   subst hs;refine⟨?_,by simp⟩;have hcv':r[c.toNat]=jY r c:=by simp[jY,au,hct]
   simp[CD,ak,hy,aD,c0,hct,hcv',append,hkm,aE,aX hk hm])
  (fun s _=>by simp[CD]) [] rfl
 have hf:∀(l:List Int) (s:b8),l.foldl (fun s c=>s++[jY r c]) s=s++l.map (jY r):=by
  intro l;induction l with
  |nil=>intro s;simp
  |cons a l ih=>intro s;rw[eG,ih];simp
 rw[hf]at hl;have hl:=hl.1;unfold lA;have hlen:(ah.map (jY r)).length=ah.length:=by simp
 rw[b9]at hl;generalize ah.map (jY r)=t at hl hlen ⊢;simp at hl;simp[aqn,aas,hl];rfl
theorem Yj{r:b8}{ah:List Int}(h:EK r ah=true):ah.length≤16∧∀c∈ah,0≤c∧c<r.length:=by
 unfold EK at h;simp only[aq,aL]at h;refine⟨h.1,fun c hc=>?_⟩;have:=aG.1 h.2 c hc;unfold YP at this;simpa using this
theorem Z9{v:bW}(h:oC v=true):v.s.length≤1000:=by
 unfold oC at h;simp only[aP]at h;have hs:=congrArg bW.s h;unfold vl at hs
 repeat' split at hs
 all_goals (simp at hs)
 all_goals (first|(rw[hs];simp)|omega)
theorem ZV{r:b8}(h:lc r=true):r.length≤16∧∀v∈r,v.s.length≤1000:=by
 unfold lc at h;simp only[aq,aL]at h;exact⟨h.1,fun v hv=>Z9 (aG.1 h.2 v hv)⟩
abbrev aZ(l:List Int):List ap:=l.map (.int .i64)
def dR(l:List Int):List Int:=l.foldl (fun acc x=>if acc.getLast?=some x then acc else acc++[x]) []
theorem ot(l:List Int)(x:Int):dR (l++[x])=if (dR l).getLast?=some x then dR l else dR l++[x]:=by
 unfold dR;simp[List.foldl_append]
theorem p6{α:Type}{p:List α→Prop}(l:List α)(h0:p [])(h1:∀l x,p l→p (l++[x])):p l:=by
 have:∀m:List α,p m.reverse:=fun m=>by
  induction m with
  |nil=>simpa using h0
  |cons a m ih=>rw[List.reverse_cons];exact h1 _ _ ih
 simpa using this l.reverse
theorem xq(l:List Int):(dR l).getLast?=l.getLast?:=by
 refine p6 (p:=fun l=>(dR l).getLast?=l.getLast?) l rfl fun l x ih=>?_;rw[ot];split
 ·rename_i h;rw[h];simp
 simp
theorem zT(l:List Int)(x:Int):x∈dR l↔x∈l:=by
 refine p6 (p:=fun l=>x∈dR l↔x∈l) l (by simp[dR]) fun l y ih=>?_;rw[ot];split
 ·rename_i h;rw[ih];constructor
  ·intro h';simp[h']
  intro h';rcases bT.1 h' with h'|h'
  ·exact h'
  simp at h';subst h';rw[xq]at h;exact jV h
 simp[ih]
theorem vw(l:List Int):(dR l).length≤l.length:=by
 refine p6 (p:=fun l=>(dR l).length≤l.length) l (aM _) fun l y ih=>?_;rw[ot];split<;>simp<;>omega
theorem r5{l:List Int}{j:Nat}(hj:j<l.length)(h0:0<j):dR (l.take (j+1))=if l[j-1]=l[j] then dR (l.take j) else dR (l.take j)++[l[j]]:=by
 rw[cw hj,ot,xq];have:(l.take j).getLast?=some l[j-1]:=by
  rw[d7];simp[df];have:min j l.length=j:=by omega
  rw[this];simp[show j-1<j by omega,show j-1<l.length by omega]
 rw[this];simp
theorem OF{σ:ay}{id:Nat}{o o':Obj}(h:σ[id]?=some o):(σ.set id o')[id]?=some o':=by
 have:=(al.1 h).1;simp[this]
def kI(l:List Int)(k0:Nat):Nat→List Int×Nat
 |0=>(l,k0)
 |m+1=>let p:=kI l k0 m
  if l.getD (k0+m+1) 0=l.getD (k0+m) 0 then p else (p.1.set p.2 (l.getD (k0+m+1) 0),p.2+1)
theorem Ap{l:List Int}{k0:Nat}(h0:0<k0)(hk:k0<l.length)(hd:l[k0-1]=l[k0])(hp:dR (l.take k0)=l.take k0):∀m,k0+m<l.length →
  (kI l k0 m).1.length=l.length∧(kI l k0 m).2≤k0+m∧(kI l k0 m).1.take (kI l k0 m).2=dR (l.take (k0+m+1))∧(kI l k0 m).1.drop (k0+m)=l.drop (k0+m)
 |0,_=>by
  have:=r5 (l:=l) hk h0;rw[if_pos hd,hp]at this;simp[kI,this]
 |m+1,hm=>by
  obtain⟨i1,i2,i3,i4⟩:=Ap h0 hk hd hp m (by omega);have g1:l.getD (k0+m+1) 0=l[k0+m+1]:=by simp[au,show k0+m+1<l.length by omega]
  have g2:l.getD (k0+m) 0=l[k0+m]:=by simp[au,show k0+m<l.length by omega]
  have hc:=r5 (l:=l) (j:=k0+m+1) (by omega) (by omega);have e1:(kI l k0 m).1.drop (k0+(m+1))=l.drop (k0+(m+1)):=by
   have:=congrArg (List.drop 1) i4;simpa [jr,ct,d9,Nat.add_left_comm] using this
  unfold kI;simp only[g1,g2];by_cases hq:l[k0+m+1]=l[k0+m]
  ·rw[if_pos hq];rw[if_pos (by simpa using hq.symm)]at hc;exact⟨i1,by omega,by rw[i3];simpa [ct] using hc.symm,e1⟩
  rw[if_neg hq];rw[if_neg (by simpa using fun e=>hq e.symm)]at hc;refine⟨by simp[i1],by simp;omega,?_,?_⟩
  ·have h2:(kI l k0 m).2<(kI l k0 m).1.length:=by omega
   simp only;rw[cw (by simpa using h2),List.take_set_of_le (by omega),i3];simp only[fJ];simpa [ct] using hc.symm
  simp only;rw[List.drop_set_of_lt (by omega)];exact e1
theorem qH{l:List Int}{k:Nat}(h:k<l.length):(aZ l)[k]?=some (ar l[k]):=by simp[aZ,h]
abbrev WV(σ:ay)(id ep n k0:Nat)(l:List Int)(m:Nat):St:=
 ⟨[.sl id ep 0 n,.any,ar ((kI l k0 m).2:Nat),.sl id ep k0 (n-k0),ar ((m+1:Nat):Int),.bool false,.bool true,.bool true,.any,.any],σ.set id (.arr 1 ep (aZ (kI l k0 m).1))⟩
theorem Na{σ:ay}{id ep k0:Nat}{l:List Int}(hσ:σ[id]?=some (.arr 1 ep (aZ l)))(hn:l.length≤most)(h0:0<k0)(hk:k0<l.length)(hd:l[k0-1]=l[k0])(hp:dR (l.take k0)=l.take k0) :
  cq code σ.length [8,9] yA (WV σ id ep l.length k0 l 0)=some (.ext 2,⟨[.sl id ep 0 l.length,.any,ar ((dR l).length:Nat),.sl id ep k0 (l.length-k0),ar ((l.length-k0:Nat):Int),.bool false,.bool true,.bool true,.bool false,.any],σ.set id (.arr 1 ep (aZ (kI l k0 (l.length-k0-1)).1))⟩):=by
 refine cL (WV σ id ep l.length k0 l) (l.length-k0-1) _ (fun m hm=>?_) ?_
 ·obtain⟨i1,i2,i3,i4⟩:=Ap h0 hk hd hp m (by omega);have hs:kI l k0 (m+1)=if l.getD (k0+m+1) 0=l.getD (k0+m) 0 then kI l k0 m else ((kI l k0 m).1.set (kI l k0 m).2 (l.getD (k0+m+1) 0),(kI l k0 m).2+1):=rfl
  have g1:l.getD (k0+m+1) 0=l[k0+m+1]:=by simp[au,show k0+m+1<l.length by omega]
  have g2:l.getD (k0+m) 0=l[k0+m]:=by simp[au,show k0+m<l.length by omega]
  rw[g1,g2]at hs;clear g1 g2;unfold WV;rcases hA:kI l k0 m with⟨A,k⟩;rw[hA]at i1 i2 i3 i4 hs;rw[hs];clear hs hA;simp only at i1 i2 i3 i4;have hg:=OF (o':=.arr 1 ep (aZ A)) hσ;have a1:(aZ A)[k0+(m+1)]?=some (ar l[k0+m+1]):=by
   have:A[k0+(m+1)]=l[k0+m+1]:=by
    have:=congrArg (fun x=>x[1]?) i4;simp only[fE]at this;rw[am (by omega),am (by omega)]at this;simpa [ct] using this
   rw[qH (by omega),this]
  have a2:(aZ A)[k0+m]?=some (ar l[k0+m]):=by
   have:A[k0+m]=l[k0+m]:=by
    have:=congrArg (fun x=>x[0]?) i4;simp only[fE]at this;rw[am (by omega),am (by omega)]at this;simpa [ct] using this
   rw[qH (by omega),this]
  have ak:((m:Int)+1<((l.length-k0:Nat):Int)):=by omega
  have hn':l.length≤68719476736:=hn;have w1:=rn (n:=(m:Int)) (by omega) (by omega);have w2:=rn (n:=(m:Int)+1+1) (by omega) (by omega);have w3:=rn (n:=(k:Int)+1) (by omega) (by omega);have c1:m+1<l.length-k0:=by omega
  have c2:m<l.length-k0:=by omega
  have c3:k<l.length:=by omega
  have cst:((m:Int)+1).toNat=m+1:=by omega
  have nn:(0:Int)≤(m:Int)+1:=by omega
  have c4:k<A.length:=by omega
  have hset:(aZ A)[k]?=some (ar A[k]):=qH c4;by_cases hq:l[k0+m+1]=l[k0+m]
  ·rw[if_pos hq];simp[yA,ak,hg,a1,a2,c1,c2,w1,w2,w3,cst,nn,hq,bY,-List.getElem?_map]
  rw[if_neg hq];simp[yA,ak,hg,a1,a2,c1,c2,c3,w1,w2,w3,cst,nn,hq,bY,hset,eo hq,-List.getElem?_map]
 obtain⟨i1,i2,i3,i4⟩:=Ap h0 hk hd hp (l.length-k0-1) (by omega);have hlen:(dR l).length=(kI l k0 (l.length-k0-1)).2:=by
  rw[show k0+(l.length-k0-1)+1=l.length by omega,cn]at i3;rw[←i3,bO];omega
 rw[hlen];unfold WV;rcases hA:kI l k0 (l.length-k0-1) with⟨A,k⟩;have hg:=OF (o':=.arr 1 ep (aZ A)) hσ;have e1:l.length-k0-1+1=l.length-k0:=by omega
 rw[e1];simp[yA,hg]
theorem pE{σ:ay}{id:Nat}{o:Obj}(h:σ[id]?=some o):σ.set id o=σ:=by
 refine f7 fun i=>?_;by_cases hi:id=i
 ·subst hi;rw[OF h,h]
 rw[dG hi]
theorem tp{l:List Int}(h:∀k (_:0<k) (hk:k<l.length),l[k-1]≠l[k]):∀j,j≤l.length→dR (l.take j)=l.take j
 |0,_=>by simp[dR]
 |1,hj=>by
  match l,hj with
  |a::r,_=>simp[dR]
 |j+2,hj=>by
  rw[r5 (j:=j+1) (by omega) (by omega),if_neg (h (j+1) (by omega) (by omega)),tp h (j+1) (by omega),←List.take_succ_eq_append_getElem]
abbrev Jn(σ:ay)(id ep n:Nat)(m:Nat):St:=⟨[.sl id ep 0 n,.any,ar ((m+1:Nat):Int),.any,.any,.bool false,.any,.any,.any,.any],σ⟩
theorem uK{σ:ay}{id ep:Nat}{l:List Int}(hσ:σ[id]?=some (.arr 1 ep (aZ l)))(hn:l.length≤most)(m:Nat)(hm:m+1<l.length)(hd:l[m]≠l[m+1]) :
  dK σ.length [1,3,4,6,7,8,9] pi (run code pi (Jn σ id ep l.length m))=cq code σ.length [1,3,4,6,7,8,9] pi (Jn σ id ep l.length (m+1)):=by
 have hn':l.length≤68719476736:=hn;have w1:=rn (n:=(m:Int)) (by omega) (by omega);have w2:=rn (n:=(m:Int)+1+1) (by omega) (by omega);have ak:((m:Int)+1<(l.length:Int)):=by omega
 have a1:=qH (l:=l) (k:=m+1) hm;have a2:=qH (l:=l) (k:=m) (by omega);have cst:((m:Int)+1).toNat=m+1:=by omega
 have nn:(0:Int)≤(m:Int)+1:=by omega
 have c2:m<l.length:=by omega
 have hb:(l[m+1]==l[m])=false:=bE (Ne.symm hd);simp[pi,Jn,ak,hσ,a1,a2,w1,w2,cst,nn,hm,c2,hb,bY,-List.getElem?_map]
theorem SV(l:List Int):(∀k (_:0<k) (hk:k<l.length),l[k-1]≠l[k])∨∃k0,∃(_:0<k0) (hk:k0<l.length),l[k0-1]=l[k0]∧∀k (_:0<k) (hk':k<k0),l[k-1]≠l[k]:=by
 have key:∀n,n≤l.length→(∀k (_:0<k) (hk:k<n) (hk':k<l.length),l[k-1]≠l[k])∨∃k0,∃(_:0<k0) (hk:k0<l.length),l[k0-1]=l[k0]∧∀k (_:0<k) (hk':k<k0),l[k-1]≠l[k]:=by
  intro n;induction n with
  |zero=>intro _;exact .inl fun k _ hk=>absurd hk (bX _)
  |succ n ih=>
   intro hn;rcases ih (by omega) with h|h
   ·by_cases h0:0<n
    ·by_cases hd:l[n-1]=l[n]
     ·exact .inr ⟨n,h0,by omega,hd,fun k hk hk'=>h k hk hk' (by omega)⟩
     exact .inl fun k hk hkn hk'=>by
      by_cases he:k=n
      ·subst he;exact hd
      exact h k hk (by omega) hk'
    exact .inl fun k hk hkn hk'=>by omega
   exact .inr h
 rcases key l.length (aM _) with h|h
 ·exact .inl fun k h0 hk=>h k h0 hk hk
 exact .inr h
theorem JG{σ:ay}{id ep:Nat}{l:List Int}(hσ:σ[id]?=some (.arr 1 ep (aZ l)))(hn:l.length≤most) :
  ∃A:List Int,cA code I.qgy [.sl id ep 0 l.length] σ=some (.sl id ep 0 (dR l).length,σ.set id (.arr 1 ep (aZ A)))∧A.length=l.length∧A.take (dR l).length=dR l:=by
 rw[bp aiH rfl];by_cases h2:l.length<2
 ·have hc:=tp (l:=l) (fun k h0 hk=>by omega) l.length (aM _);rw[cn]at hc;refine⟨l,?_,rfl,by rw[hc,cn]⟩;have hi:((l.length:Int)<2):=by omega
  rw[hc,pE hσ];simp[aoU,QH,hσ,hi]
 have hi:¬((l.length:Int)<2):=by omega
 rcases SV l with h|⟨k0,h0,hk,hd,hb⟩
 ·have hc:=tp h l.length (aM _);rw[cn]at hc;refine⟨l,?_,rfl,by rw[hc,cn]⟩;have hloop:=cL (base:=σ.length) (clr:=[1,3,4,6,7,8,9]) (b:=pi) (Jn σ id ep l.length) (l.length-1)
   (.ext 0,⟨[.sl id ep 0 l.length,.any,ar l.length,.any,.any,.bool false,.bool false,.any,.any,.any],σ⟩)
   (fun m hm=>uK hσ hn m (by omega) (h (m+1) (by omega) (by omega))) (by
    unfold Jn;rw[show l.length-1+1=l.length by omega];simp[pi,hσ])
  unfold Jn at hloop;simp at hloop;rw[hc,pE hσ];simp[aoU,QH,hσ,hi,hloop]
 have hp:dR (l.take k0)=l.take k0:=by
  have:=tp (l:=l.take k0) (fun k hk0 hkk=>by
   simp at hkk;simpa using hb k hk0 (by omega)) k0 (by simp;omega)
  rwa [kZ,Nat.min_self]at this
 have hin:=Na (ep:=ep) hσ hn h0 hk hd hp;obtain⟨i1,i2,i3,i4⟩:=Ap h0 hk hd hp (l.length-k0-1) (by omega);rw[show k0+(l.length-k0-1)+1=l.length by omega,cn]at i3;have hle:(kI l k0 (l.length-k0-1)).2=(dR l).length:=by rw[←i3,bO];omega
 rw[hle]at i3;generalize (kI l k0 (l.length-k0-1)).1=A at *;have hcl:=vw l;generalize hC:(dR l).length=c at *;have hg:=fun o'=>OF (o':=o') hσ
 refine⟨A.take c++List.replicate (l.length-c) 0++A.drop (c+(l.length-c)),?_,by simp;omega,by
  rw[jo,iR (by simp;omega)];exact i3⟩
 have hloop:=cL (base:=σ.length) (clr:=[1,3,4,6,7,8,9]) (b:=pi) (Jn σ id ep l.length) (k0-1)
  (.ret,⟨[.sl id ep 0 l.length,.sl id ep 0 c,ar c,.sl id ep k0 (l.length-k0),ar ((l.length-k0:Nat):Int),.bool false,.bool true,.bool true,.bool false,.any],σ.set id (.arr 1 ep (aZ (A.take c++List.replicate (l.length-c) 0++A.drop (c+(l.length-c)))))⟩)
  (fun m hm=>uK hσ hn m (by omega) (hb (m+1) (by omega) (by omega))) (by
   unfold Jn;rw[show k0-1+1=k0 by omega];have hn':l.length≤68719476736:=hn;have w1:=rn (n:=(k0:Int)-1) (by omega) (by omega);have w2:((k0:Int)-1).toNat=k0-1:=by omega
   have w3:(0:Int)≤(k0:Int)-1:=by omega
   have w4:(1:Int)≤(k0:Int):=by omega
   have ak:((k0:Int)<(l.length:Int)):=by omega
   have a1:=qH (l:=l) (k:=k0) hk;have a2:=qH (l:=l) (k:=k0-1) (by omega);have c3:k0-1<l.length:=by omega
   have c4:k0≤l.length:=by omega
   have c5:c+(l.length-c)=l.length:=by omega
   unfold WV at hin;simp[kI]at hin;rw[pE hσ]at hin;simp[pi,ak,hσ,a1,a2,w1,w2,w3,w4,c3,c4,hd,hin,hk,hg,hcl,i1,c5,-List.getElem?_map])
 unfold Jn at hloop;simp at hloop;simp[aoU,QH,hσ,hi,hloop]
end Go.AM
namespace Go.AM
structure EN where
 tag:Int
 l:Int
 r:Int
 col:Int
 v:bW
 deriving DecidableEq,Inhabited
def EN.a(n:EN):ap:=.agg [.int .i64 n.tag,.int .i64 n.l,.int .i64 n.r,.int .i64 n.col,.int .i64 n.v.k,.int .i64 n.v.n,.int .u64 n.v.u,.str n.v.s]
end Go.AM
namespace Go.AM
open P
set_option maxHeartbeats 4000000
set_option maxRecDepth 4000
@[simp] theorem af5(n:EN):aC n.a=8:=rfl
@[simp] theorem ajt(n:EN):isAgg n.a=true:=rfl
@[simp] theorem ahN(n:EN)(fl top:Bool)(base:Nat)(σ:ay)(m:Nat):fz fl top base σ (m+2) n.a=n.a:=by simp[EN.a]
def xV(e:List EN):List ap:=e.map EN.a
@[simp] theorem adB(e:List EN):(xV e).length=e.length:=by simp[xV]
theorem Nb{e:List EN}{k:Nat}(h:k<e.length):(xV e)[k]?=some e[k].a:=by simp[xV,h]
def Co(b:Bool)(e:List EN):ap:=.agg [.aa b (xV e)]
def cF(t:Int):Int:=if t=1∨t=2 then 0 else if 4≤t∧t≤7 then 1 else if 12≤t∧t≤23 then 2 else -1
theorem uh(t:Int):aK I.qdt [ar t]=some (ar (cF t)):=by
 rw[aA ahP rfl];unfold cF;by_cases h1:t=1
 ·subst h1;simp[aon,Cf]
 by_cases h2:t=2
 ·subst h2;simp[aon,Cf]
 have e12:¬(t=1∨t=2):=by omega
 rw[if_neg e12];by_cases h3:4≤t
 ·by_cases h4:t≤7
  ·simp[aon,Cf,bE h1,bE h2,h3,h4]
  by_cases h5:12≤t
  ·by_cases h6:t≤23
   ·simp[aon,Cf,bE h1,bE h2,h3,h4,h5,h6]
   simp[aon,Cf,bE h1,bE h2,h3,h4,h5,h6]
  simp[aon,Cf,bE h1,bE h2,h3,h4,h5]
 have h5:¬(12≤t):=by omega
 simp[aon,Cf,bE h1,bE h2,h3,h5]
def jS(v:bW):Bool:=oC v&&v.k != 4
theorem tN(v:bW):aK I.qin [v.a]=some (.bool (jS v)):=by
 rw[aA aky rfl];have h:=nX v;unfold jS;obtain⟨k,n,u,s⟩:=v;simp only[uZ]at *;cases hv:oC ⟨k,n,u,s⟩<;>rw[hv]at h<;>simp[aqe,acB,h]
def cu:bW:=⟨0,0,0,[]⟩
def f9(n:EN):Bool:=if n.tag=1 then jS n.v&&n.col==0 else if n.tag=2 then n.v==cu&&decide (0≤n.col)&&decide (n.col<16) else n.v==cu&&n.col==0
theorem aae(v:bW):fh [0,0,0,2] [ar v.k,ar v.n,.int .u64 v.u,.str v.s] [ar 0,ar 0,.int .u64 0,.str []]=some (v==cu):=by
 obtain⟨k,n,u,s⟩:=v;unfold cu;by_cases hk:k=0
 ·by_cases hn:n=0
  ·by_cases hu:u=0
   ·by_cases hs:s=[]
    ·subst hk hn hu hs;simp
    have hs':(s==[])=false:=by simp[hs]
    have e:((⟨k,n,u,s⟩:bW) == ⟨0,0,0,[]⟩)=false:=by simp[hs]
    rw[e];simp[hk,hn,hu,hs']
   have e:((⟨k,n,u,s⟩:bW) == ⟨0,0,0,[]⟩)=false:=by simp[hu]
   rw[e];simp[hk,hn,bE hu]
  have e:((⟨k,n,u,s⟩:bW) == ⟨0,0,0,[]⟩)=false:=by simp[hn]
  rw[e];simp[hk,bE hn]
 have e:((⟨k,n,u,s⟩:bW) == ⟨0,0,0,[]⟩)=false:=by simp[hk]
 rw[e];simp[bE hk]
theorem Cg(n:EN):aK I.qdg [n.a]=some (.bool (f9 n)):=by
 rw[aA alq rfl];have hp:=tN n.v;have hz:=aae n.v;unfold f9 EN.a;unfold bW.a at hp;by_cases h1:n.tag=1
 ·cases hv:jS n.v<;>rw[hv]at hp<;>simp[apf,RC,h1,hp]
 by_cases h2:n.tag=2
 ·cases hv:(n.v==cu)<;>rw[hv]at hz<;>simp[apf,RC,h2,hz,-fh];by_cases h3:0≤n.col<;>simp[h3]
 cases hv:(n.v==cu)<;>rw[hv]at hz<;>simp[apf,RC,h1,h2,bE h1,bE h2,hz,-fh]
end Go.AM
namespace Go.AM
instance:Nc EN.a 8 true:=⟨fun _=>rfl,fun _=>rfl⟩
instance:Fx EN.a:=⟨fun fl top base σ n y=>ahN y fl top base σ (n+1)⟩
structure cC where
 tag:Int
 b:Bool
 arg:List EN
def cC.a(a:cC):ap:=.agg [ar a.tag,.aa a.b (a.arg.map EN.a)]
structure jM where
 b:Bool
 l:List EN
def jM.a(e:jM):ap:=.agg [.aa e.b (e.l.map EN.a)]
structure bL where
 op:Int
 l:Int
 r:Int
 tab:Int
 bk:Bool
 af:List Int
 left:Bool
 bc:Bool
 cond:List EN
 by':Bool
 keys:List Int
 bg:Bool
 ai:List cC
 bi:Bool
 items:List jM
 bo:Bool
 ords:List (Int×Bool)
 limit:Int
def bL.a(n:bL):ap:=.agg [ar n.op,ar n.l,ar n.r,ar n.tab,.aa n.bk (n.af.map (.int .i64)),.bool n.left,.aa n.bc (n.cond.map EN.a),.aa n.by' (n.keys.map (.int .i64)),.aa n.bg (n.ai.map cC.a),.aa n.bi (n.items.map jM.a),.aa n.bo (n.ords.map jl),ar n.limit]
instance:Nc cC.a 2 true:=⟨fun _=>rfl,fun _=>rfl⟩
instance:Ft cC.a:=⟨fun fl top base σ n y h=>by cases fl<;>cases top<;>simp[cC.a]at h ⊢⟩
instance:Nc jM.a 1 true:=⟨fun _=>rfl,fun _=>rfl⟩
instance:Ft jM.a:=⟨fun fl top base σ n y h=>by cases fl<;>cases top<;>simp[jM.a]at h ⊢⟩
instance:Nc jl 2 true:=⟨fun _=>rfl,fun _=>rfl⟩
instance:Fx jl:=⟨fun fl top base σ n y=>by simp[jl]⟩
instance:Nc bL.a 12 true:=⟨fun _=>rfl,fun _=>rfl⟩
instance:Ft bL.a:=⟨fun fl top base σ n y h=>by cases fl<;>cases top<;>simp[bL.a]at h ⊢⟩
instance:Nc (dI.c (ap.int .i64)) 1 false:=⟨fun _=>rfl,fun _=>rfl⟩
instance:Ft (dI.c (ap.int .i64)):=⟨fun fl top base σ n y h=>by cases fl<;>cases top<;>simp at h ⊢⟩
end Go.AM
namespace Go.AM
open P
set_option maxHeartbeats 64000000
set_option maxRecDepth 40000
attribute [local simp] aW bK
def eb(op:Int):Int:=if op=1∨op=9 then 0 else if op=2∨op=7 then 2 else if op=3∨op=4∨op=5∨op=6∨op=8∨op=10∨op=11 then 1 else -1
theorem pr(op:Int):aK I.qfq [ar op]=some (ar (eb op)):=by
 rw[aA ai1 rfl];unfold eb;simp[aqm,adP]
 repeat' (split<;>(try simp_all))
def lu(n:bL):Bool:=
 (n.op==1 ||n.op==9 ||n.tab==0&&n.af.length==0)&&(n.op==2 || !n.left)&&(n.op==2 ||n.op==3 ||n.cond.length==0) &&
 (n.op==4 ||n.op==10 ||n.op==11 ||(n.keys.length:Int)+n.ai.length==0)&&(n.op==5 ||n.items.length==0)&&(n.op==8 ||n.ords.length==0&&n.limit==0)
theorem px(n:bL)(h1:n.keys.length≤most)(h2:n.ai.length≤most):aK I.qfa [n.a]=some (.bool (lu n)):=by
 rw[aA ajz rfl];have hw:IntKind.i64.wrap ((n.keys.length:Int)+(n.ai.length:Int))=(n.keys.length:Int)+n.ai.length:=fj (by unfold most at *;omega);unfold lu;simp[aq1,abG,bL.a,hw]
 repeat' (split<;>(try simp_all))
def sf(t:Int):Bool:=t==4 ||decide (12≤t)&&decide (t≤15)
@[simp] theorem TY(t:Int):aK I.qdf [ar t]=some (.bool (sf t)):=by
 rw[aA aiX rfl];unfold sf;simp[aqY,adk]
 repeat' (split<;>(try simp_all))
 all_goals omega
def Cs(MY k:Int):Int:=if k=0∨k=MY then MY else if MY=0 then k else -1
def na(af:List Int)(n:EN)(l:List Int):Int×Int:=
 let MY:=l.foldl Cs 0
 if n.tag=1 then (n.v.k,0) else if n.tag=2 then (af.getD n.col.toNat 0,0) else
 let want:=if sf n.tag then 2 else if n.tag=5∨n.tag=22∨n.tag=23 then 1 else MY
 if MY=-1∨MY≠0∧MY≠want then (0,201) else (if sf n.tag then 2 else 1,0)
theorem Oj(n:EN)(b:Bool)(l:List Int)(bk:Bool)(af:List Int)(hl:l.length≤most)(hc:n.tag=2→0≤n.col∧n.col<af.length) :
  aK I.qde [n.a,.aa b (l.map (.int .i64)),.cptr true (.aa bk (af.map (.int .i64))) 0]=some (.tup [ar (na af n l).1,ar (na af n l).2]):=by
 rw[aA ajA rfl];have h:=fun x=>(ea (base:=1) (clr:=[7,13,14,15]) (b:=C1) l
  (fun k (MY:Int)=>⟨[n.a,.aa b (l.map (.int .i64)),.cptr true (.aa bk (af.map (.int .i64))) 0,.ptr 0 0 0 0,ar 0,ar 0,ar MY,.any,.any,.any,.aa b (l.map (.int .i64)),ar l.length,ar k,.any,.any,.any,.any,.any,.any,.any,.any],[.arr 8 0 [n.a]]⟩)
  (fun _ _=>True) Cs
  (fun MY=>(.ext 0,⟨[n.a,.aa b (l.map (.int .i64)),.cptr true (.aa bk (af.map (.int .i64))) 0,.ptr 0 0 0 0,ar 0,ar 0,ar MY,.any,.any,.any,.aa b (l.map (.int .i64)),ar l.length,ar l.length,.bool false,.any,.any,.any,.any,.any,.any,.any],[.arr 8 0 [n.a]]⟩))
  (fun k y MY hk hy _=>by
   refine⟨?_,trivial⟩;have ak:((k:Int)<(l.length:Int)):=by omega
   unfold Cs;simp[C1,ak,hy,bY]
   repeat' (split<;>(try simp_all[aX hk hl,bY])))
  (fun MY _=>by simp[C1]) 0 x).1
 have h:=h trivial;simp[EN.a]at h;unfold na;simp[ap9,aav,h,EN.a];generalize l.foldl Cs 0=MY
 repeat' (split<;>(try simp_all))
end Go.AM
namespace Go.AM
open P
set_option maxHeartbeats 8000000
set_option maxRecDepth 8000
def eM(l:List Nat):List ap:=l.map fun (n:Nat)=>ar (n:Int)
@[simp] theorem YI(l:List Nat):(eM l).length=l.length:=by simp[eM]
@[simp] theorem age:eM []=[]:=rfl
theorem pH{l:List Nat}{k:Nat}(h:k<l.length):(eM l)[k]?=some (ar (l[k]:Int)):=by simp[eM,h]
theorem ub{l:List Nat}{k:Nat}(h:k<(eM l).length):(eM l)[k]=ar ((l[k]'(by simpa using h):Nat):Int):=by simp[eM]
theorem gP(l m:List Nat):eM (l++m)=eM l++eM m:=by simp[eM]
@[simp] theorem af7(n:Nat):eM [n]=[ar (n:Int)]:=rfl
@[simp] theorem agh(n m:Nat):eM [n,m]=[ar (n:Int),ar (m:Int)]:=rfl
theorem oz(l:List Nat)(fl top:Bool)(base:Nat)(σ:ay)(m:Nat):(eM l).map (fz fl top base σ (m+1))=eM l:=by
 unfold eM;rw[cE];exact bx fun n _=>by simp
theorem lO(l:List Nat)(base:Nat)(σ:ay):(eM l).map (ec base σ)=eM l:=oz l false true base σ 19
def rv(i:Nat)(n:EN)(all opn:List Nat):Option (List Nat×List Nat):=
 if cF n.tag<0∨opn.length<cF n.tag∨f9 n=false then none else
 match opn.drop (opn.length-(cF n.tag).toNat) with
 |[]=>if n.l=-1∧n.r=-1 then some (all++[i],opn++[i]) else none
 |[p]=>if n.l=p∧n.r=-1 then some (all++[min i (all.getD p 0)],opn.take (opn.length-1)++[i]) else none
 |[p,q]=>if n.l=p∧n.r=q then some (all++[min (min i (all.getD p 0)) (all.getD q 0)],opn.take (opn.length-2)++[i]) else none
 |_=>none
abbrev gA(b:Bool)(e:List EN)(k:Nat)(all opn:List Nat):St:=
 ⟨[.agg [.aa b (xV e)],.ptr 0 0 0 0,.any,.any,.sl 1 k 0 all.length,.sl 2 k 0 opn.length,.any,.any,.any,.any,.any,.any,.any,.any,.aa b (xV e),ar e.length,ar k,.any,.any,.any,.any,.any,.any,.any],
  [.arr 1 0 [.agg [.aa b (xV e)]],.arr 1 k (eM all),.arr 1 k (eM opn)]⟩
theorem s5(t:Int):-1≤cF t∧cF t≤2:=by
 unfold cF
 repeat' split
 all_goals omega
theorem QU:IntKind.i64.wrap 1=1:=rfl
theorem acy:IntKind.i64.wrap 2=2:=rfl
theorem M5{b:Bool}{e:List EN}{k:Nat}{all opn all' opn':List Nat}(hk:k<e.length)(hn:e.length≤most)(ha:all.length=k)(ho:∀p∈opn,p<k)(hol:opn.length≤k)
  (h:rv k e[k] all opn=some (all',opn')) :
  dK 3 [2,3,6,7,8,9,10,11,12,13,17,18,19,20,21,22,23] iu (run code iu (gA b e k all opn)) =
   cq code 3 [2,3,6,7,8,9,10,11,12,13,17,18,19,20,21,22,23] iu (gA b e (k+1) all' opn'):=by
 have h1:=Nb hk;have hp:=uh e[k].tag;have hc:=Cg e[k];have hlt:((k:Int)<(e.length:Int)):=by omega
 unfold rv at h;split at h
 ·cases h
 rename_i hneg;have hc1:f9 e[k]=true:=by cases hq:f9 e[k]<;>simp_all
 rw[hc1]at hc;have hk0:¬(cF e[k].tag<0):=by omega
 have hk1:¬((opn.length:Int)<cF e[k].tag):=by omega
 have hk2:=s5 e[k].tag;have hm:k+1≤most:=by omega
 have hcases:cF e[k].tag=0∨cF e[k].tag=1∨cF e[k].tag=2:=by omega
 rcases hcases with h0|h0|h0
 ·rw[h0]at h hp;simp at h;obtain⟨⟨e1,e2⟩,rfl,rfl⟩:=h;unfold EN.a at h1 hc;rw[e1,e2]at h1 hc;have t1:(eM all).take k=eM all:=av (by simp[ha]);have t2:(eM opn).take opn.length=eM opn:=av (by simp);have f1:=oz all;have f2:=oz opn;have g1:=lO all;have g2:=lO opn;have hnn:¬((opn.length:Int)<0):=by omega
  have hw:IntKind.i64.wrap (opn.length:Int)=opn.length:=fj (by unfold most at hn;omega);have hm':opn.length+1≤most:=by omega
  simp[gA,iu,h1,hlt,hp,hc,ha,t1,t2,f1,f2,g1,g2,hnn,hw,append,gP,hm,hm',aX hk hn,aE,aH,dq 5,dq 6,tz]
 ·rw[h0]at h hp hk1;have hol1:1≤opn.length:=by omega
  obtain⟨o,p,rfl⟩:∃o p,opn=o++[p]:=⟨opn.dropLast,opn.getLast (by intro e;subst e;simp at hol1),(dT _).symm⟩;simp at h;obtain⟨⟨e1,e2⟩,rfl,rfl⟩:=h;have hpk:p<k:=ho p (by simp);unfold EN.a at h1 hc;rw[e1,e2]at h1 hc;have hpa:p<all.length:=by omega
  have q1:=pH hpa;have t1:(eM all).take k=eM all:=av (by simp[ha]);have t2:(eM (o++[p])).take o.length=eM o:=by rw[gP,iR (by simp)]
  have t3:(eM (o++[p]))[o.length]?=some (ar (p:Int)):=by rw[gP,bQ (by simp)];simp
  have f1:=oz all;have f2:=oz o;have g1:=lO all;have g2:=lO o;have hlen:(o++[p]).length=o.length+1:=by simp
  have hnn:¬((o.length:Int)+1<1):=by omega
  have hw:IntKind.i64.wrap ((o.length:Int)+1-1)=o.length:=by rw[fj (by simp at hol;unfold most at hn;omega)];omega
  have hw1:IntKind.i64.wrap (o.length:Int)=o.length:=by rw[fj (by simp at hol;unfold most at hn;omega)]
  have hm':o.length+1≤most:=by simp at hol;omega
  simp at hol;have hd:all[p]?.getD 0=all[p]:=by simp[hpa]
  have hmin:(if all[p]<k then (all[p]:Int) else (k:Int))=((min k all[p]:Nat):Int):=by split<;>omega
  simp[gA,iu,h1,hlt,hp,hc,ha,t1,t2,t3,f1,f2,g1,g2,hnn,hw,hw1,append,gP,hm,hm',aX hk hn,aE,aH,dq 5,tz,q1,hpk,hpa,ub,hmin,QU]
 rw[h0]at h hp hk1;have hol1:2≤opn.length:=by omega
 obtain⟨o',q,rfl⟩:∃o p,opn=o++[p]:=⟨opn.dropLast,opn.getLast (by intro e;subst e;simp at hol1),(dT _).symm⟩;have hol2:1≤o'.length:=by simp at hol1;omega
 obtain⟨o,p,rfl⟩:∃o p,o'=o++[p]:=⟨o'.dropLast,o'.getLast (by intro e;subst e;simp at hol2),(dT _).symm⟩;have hdrop:(o++[p]++[q]).drop ((o++[p]++[q]).length-(2:Int).toNat)=[p,q]:=by
  simp
 have htake:(o++[p]++[q]).take ((o++[p]++[q]).length-2)=o:=by
  rw[jo,iR (by simp)]
 rw[hdrop]at h;simp only[htake]at h;split at h
 ·rename_i e12;obtain⟨e1,e2⟩:=e12;simp only[aJ,dN]at h;obtain⟨rfl,rfl⟩:=h;have hpk:p<k:=ho p (by simp);have hqk:q<k:=ho q (by simp);unfold EN.a at h1 hc;rw[e1,e2]at h1 hc;have hpa:p<all.length:=by omega
  have hqa:q<all.length:=by omega
  have q1:=pH hpa;have q2:=pH hqa;have t1:(eM all).take k=eM all:=av (by simp[ha]);have hN:eM (o++[p]++[q])=eM o++([ar (p:Int),ar (q:Int)]:List ap):=by simp[gP]
  have t2:(eM o++([ar (p:Int),ar (q:Int)]:List ap)).take o.length=eM o:=by rw[iR (by simp)]
  have t3:(eM o++([ar (p:Int),ar (q:Int)]:List ap))[o.length]?=some (ar (p:Int)):=by rw[bQ (by simp)];simp
  have t4:(eM o++([ar (p:Int),ar (q:Int)]:List ap))[o.length+1]?=some (ar (q:Int)):=by rw[bQ (by simp)];simp
  have f1:=oz all;have f2:=oz o;have g1:=lO all;have g2:=lO o;simp at hol;have hnn:¬((o.length:Int)+1+1<2):=by omega
  have hnn':¬((o.length:Int)+2<2):=by omega
  have hw:IntKind.i64.wrap ((o.length:Int)+1+1-2)=o.length:=by rw[fj (by unfold most at hn;omega)];omega
  have hw':IntKind.i64.wrap ((o.length:Int)+2-2)=o.length:=by rw[fj (by unfold most at hn;omega)];omega
  have hw1:IntKind.i64.wrap (o.length:Int)=o.length:=by rw[fj (by unfold most at hn;omega)]
  have hm':o.length+1≤most:=by omega
  have hd:all[p]?.getD 0=all[p]:=by simp[hpa]
  have hd2:all[q]?.getD 0=all[q]:=by simp[hqa]
  have hmin:(if all[p]<k then (all[p]:Int) else (k:Int))=((min k all[p]:Nat):Int):=by split<;>omega
  have hmin2:(if all[q]<min k all[p] then (all[q]:Int) else ((min k all[p]:Nat):Int))=((min (min k all[p]) all[q]:Nat):Int):=by split<;>omega
  unfold gA;rw[hN];simp[iu,h1,hlt,hp,hc,ha,t1,t2,t3,t4,f1,f2,g1,g2,hnn,hnn',hw,hw',hw1,append,gP,hm,hm',aX hk hn,aE,aH,dq 5,tz,q1,q2,hpk,hpa,hqk,hqa,ub,hmin,hmin2,QU,acy]
 cases h
end Go.AM
namespace Go.AM
open P
set_option maxHeartbeats 8000000
set_option maxRecDepth 8000
abbrev wC:List Nat:=[2,3,6,7,8,9,10,11,12,13,17,18,19,20,21,22,23]
def K2(r:Option (Ex×St)):Prop:=∃s,r=some (.ret,s)∧mK s.env 2=.aj∧mK s.env 3=.bool false
theorem Pq{k:Nat}{n:EN}{all opn:List Nat}(h:rv k n all opn=none) :
  (cF n.tag<0∨opn.length<cF n.tag∨f9 n=false) ∨
  ((0≤cF n.tag∧cF n.tag≤opn.length∧f9 n=true) ∧
   ((cF n.tag=0∧¬(n.l=-1∧n.r=-1))∨(∃(o:List Nat) (p:Nat),cF n.tag=1∧opn=o++[p]∧¬(n.l=(p:Int)∧n.r=-1))∨(∃(o:List Nat) (p q:Nat),cF n.tag=2∧opn=o++[p,q]∧¬(n.l=(p:Int)∧n.r=(q:Int))))):=by
 unfold rv at h;split at h
 ·exact .inl (by assumption)
 rename_i hneg;have hc:f9 n=true:=by cases hq:f9 n<;>simp_all
 have hk2:=s5 n.tag;refine .inr ⟨⟨by omega,by omega,hc⟩,?_⟩;rcases (show cF n.tag=0∨cF n.tag=1∨cF n.tag=2 by omega) with h0|h0|h0
 ·rw[h0]at h;simp at h;exact .inl ⟨h0,fun ⟨a,b⟩=>h a b⟩
 ·rw[h0]at h;have hol1:1≤opn.length:=by omega
  obtain⟨o,p,rfl⟩:∃o p,opn=o++[p]:=⟨opn.dropLast,opn.getLast (by intro e;subst e;simp at hol1),(dT _).symm⟩;simp at h;exact .inr (.inl ⟨o,p,h0,rfl,fun ⟨a,b⟩=>h a b⟩)
 rw[h0]at h;have hol1:2≤opn.length:=by omega
 obtain⟨o',q,rfl⟩:∃o p,opn=o++[p]:=⟨opn.dropLast,opn.getLast (by intro e;subst e;simp at hol1),(dT _).symm⟩;have hol2:1≤o'.length:=by simp at hol1;omega
 obtain⟨o,p,rfl⟩:∃o p,o'=o++[p]:=⟨o'.dropLast,o'.getLast (by intro e;subst e;simp at hol2),(dT _).symm⟩;have hdrop:(o++[p]++[q]).drop ((o++[p]++[q]).length-(2:Int).toNat)=[p,q]:=by simp
 rw[hdrop]at h;simp only at h;split at h
 ·cases h
 rename_i hne;exact .inr (.inr ⟨o,p,q,h0,by simp,hne⟩)
theorem ad7{a b c d:Int}(h:¬(c=a∧d=b)):eqa true [0,0] (.agg [ar a,ar b]) (.agg [ar c,ar d])=some (.bool true):=by
 by_cases h1:c=a
 ·have h2:¬b=d:=fun e=>h ⟨h1,e.symm⟩;simp[h1,bE h2]
 have h2:¬a=c:=fun e=>h1 e.symm;simp[bE h2]
theorem KD{b:Bool}{e:List EN}{k:Nat}{all opn:List Nat}(hk:k<e.length)(hn:e.length≤most)(ha:all.length=k)(ho:∀p∈opn,p<k)(hol:opn.length≤k)
  (h:rv k e[k] all opn=none):K2 (dK 3 wC iu (run code iu (gA b e k all opn))):=by
 have h1:=Nb hk;have hp:=uh e[k].tag;have hc:=Cg e[k];have hlt:((k:Int)<(e.length:Int)):=by omega
 rcases Pq h with hA|⟨⟨h0,h2,h3⟩,hB⟩
 ·unfold EN.a at h1 hc;by_cases hk0:cF e[k].tag<0
  ·exact⟨_,by simp[gA,iu,h1,hlt,hp,hk0];rfl,rfl,rfl⟩
  by_cases hk1:(opn.length:Int)<cF e[k].tag
  ·exact⟨_,by simp[gA,iu,h1,hlt,hp,hk0,hk1];rfl,rfl,rfl⟩
  have hc1:f9 e[k]=false:=hA.elim (fun h=>absurd h hk0) fun h=>h.elim (fun h=>absurd h hk1) id;rw[hc1]at hc;exact⟨_,by simp[gA,iu,h1,hlt,hp,hk0,hk1,hc];rfl,rfl,rfl⟩
 have hk0:¬(cF e[k].tag<0):=by omega
 have hk1:¬((opn.length:Int)<cF e[k].tag):=by omega
 rw[h3]at hc;unfold EN.a at h1 hc;have hw1:IntKind.i64.wrap (opn.length:Int)=opn.length:=by rw[fj (by unfold most at hn;omega)]
 rcases hB with⟨h0,hne⟩|⟨o,p,h0,rfl,hne⟩|⟨o,p,q,h0,rfl,hne⟩
 ·rw[h0]at hp;have hx:=ad7 hne;have hnn:¬((opn.length:Int)<0):=by omega
  exact⟨_,by simp[gA,iu,h1,hlt,hp,hnn,hc,hw1,dq 5,dq 6,tz,-eqa,hx];rfl,rfl,rfl⟩
 ·rw[h0]at hp;have hx:=ad7 hne;have hpk:p<k:=ho p (by simp);have hpa:p<all.length:=by omega
  have q1:=pH hpa;simp at hol;have t3:(eM (o++[p]))[o.length]?=some (ar (p:Int)):=by rw[gP,bQ (by simp)];simp
  have hnn:¬((o.length:Int)+1<1):=by omega
  have hw:IntKind.i64.wrap ((o.length:Int)+1-1)=o.length:=by rw[fj (by unfold most at hn;omega)];omega
  have hw2:IntKind.i64.wrap (o.length:Int)=o.length:=by rw[fj (by unfold most at hn;omega)]
  exact⟨_,by simp[gA,iu,h1,hlt,hp,hnn,hc,hw,hw2,ha,t3,q1,hpk,hpa,ub,gP,aE,aH,dq 5,tz,QU,-eqa,hx];rfl,rfl,rfl⟩
 rw[h0]at hp;have hx:=ad7 hne;have hpk:p<k:=ho p (by simp);have hqk:q<k:=ho q (by simp);have hpa:p<all.length:=by omega
 have hqa:q<all.length:=by omega
 have q1:=pH hpa;have q2:=pH hqa;simp at hol;have hN:eM (o++[p,q])=eM o++([ar (p:Int),ar (q:Int)]:List ap):=by simp[gP]
 have t3:(eM o++([ar (p:Int),ar (q:Int)]:List ap))[o.length]?=some (ar (p:Int)):=by rw[bQ (by simp)];simp
 have t4:(eM o++([ar (p:Int),ar (q:Int)]:List ap))[o.length+1]?=some (ar (q:Int)):=by rw[bQ (by simp)];simp
 have hnn:¬((o.length:Int)+2<2):=by omega
 have hw:IntKind.i64.wrap ((o.length:Int)+2-2)=o.length:=by rw[fj (by unfold most at hn;omega)];omega
 have hw2:IntKind.i64.wrap (o.length:Int)=o.length:=by rw[fj (by unfold most at hn;omega)]
 unfold gA;rw[hN];exact⟨_,by simp[iu,h1,hlt,hp,hnn,hc,hw,hw2,ha,t3,t4,q1,q2,hpk,hpa,hqk,hqa,ub,gP,aE,aH,dq 5,tz,QU,acy,-eqa,hx];rfl,rfl,rfl⟩
def fN:List EN→Nat→List Nat→List Nat→Option (List Nat×List Nat)
 |[],_,all,opn=>some (all,opn)
 |n::r,i,all,opn=>(rv i n all opn).bind fun q=>fN r (i+1) q.1 q.2
theorem Tv{k:Nat}{n:EN}{all opn all' opn':List Nat}(ha:all.length=k)(ho:∀p∈opn,p<k)(hol:opn.length≤k)(h:rv k n all opn=some (all',opn')) :
  all'.length=k+1∧(∀p∈opn',p<k+1)∧opn'.length≤k+1:=by
 unfold rv at h;split at h
 ·cases h
 split at h
 ·split at h
  ·cases h
   exact⟨by simp[ha],fun p hp=>by
    rcases bT.1 hp with hp|hp
    ·have:=ho p hp;omega
    simp at hp;omega,by simp;omega⟩
  cases h
 ·split at h
  ·cases h
   exact⟨by simp[ha],fun p hp=>by
    rcases bT.1 hp with hp|hp
    ·have:=ho p (bv hp);omega
    simp at hp;omega,by simp;omega⟩
  cases h
 ·split at h
  ·cases h
   exact⟨by simp[ha],fun p hp=>by
    rcases bT.1 hp with hp|hp
    ·have:=ho p (bv hp);omega
    simp at hp;omega,by simp;omega⟩
  cases h
 cases h
theorem BQ{b:Bool}{e:List EN}(hn:e.length≤most):∀(m k:Nat) (all opn:List Nat),k+m=e.length→all.length=k→(∀p∈opn,p<k)→opn.length≤k →
  (match fN (e.drop k) k all opn with
   |none=>K2 (cq code 3 wC iu (gA b e k all opn))
   |some (all',opn')=>all'.length=e.length∧∃x,cq code 3 wC iu (gA b e k all opn) =
     some (.ext 0,⟨[.agg [.aa b (xV e)],.ptr 0 0 0 0,.any,.any,.sl 1 e.length 0 all'.length,.sl 2 e.length 0 opn'.length,.any,.any,.any,.any,.any,.any,.any,.any,.aa b (xV e),ar e.length,ar e.length,x,.any,.any,.any,.any,.any,.any],
      [.arr 1 0 [.agg [.aa b (xV e)]],.arr 1 e.length (eM all'),.arr 1 e.length (eM opn')]⟩))
 |0,k,all,opn,hk,ha,ho,hol=>by
  have hk:k=e.length:=by omega
  subst hk;rw[List.drop_length];simp only[fN];refine⟨ha,.bool false,?_⟩;rw[dq];simp[gA,iu]
 |m+1,k,all,opn,hk,ha,ho,hol=>by
  have hk':k<e.length:=by omega
  rw[dP hk'];simp only[fN];cases hs:rv k e[k] all opn with
  |none=>
   simp only[Option.bind_none];rw[dq];exact KD hk' hn ha ho hol hs
  |some q=>
   obtain⟨all',opn'⟩:=q;simp only[bM];obtain⟨i1,i2,i3⟩:=Tv ha ho hol hs;have ih:=BQ (b:=b) hn m (k+1) all' opn' (by omega) i1 i2 i3;have hst:=M5 (b:=b) hk' hn ha ho hol hs;rw[dq 3 wC iu (gA b e k all opn),hst];exact ih
theorem Hh(l:List Nat)(fl top:Bool)(base:Nat)(σ:ay)(n:Nat):∀a,a∈eM l→aC (fz fl top base σ (n+1) a)=aC a:=fun a ha=>by
 obtain⟨k,_,rfl⟩:=aU.1 ha;simp
def zU(e:List EN):Bool:=match fN e 0 [] [] with
 |none=>false
 |some (all,opn)=>opn.length==1&&decide (all.length≤1000)
theorem Mi(b:Bool)(e:List EN)(hn:e.length≤most):∃x,aK I.qdk [Co b e]=some (.tup [x,.bool (zU e)])∧(zU e=true→∃all,fN e 0 [] []=some all∧x=.aa false (eM all.1)):=by
 rw[aA agG rfl];have h:=BQ (b:=b) hn e.length 0 [] [] (by omega) rfl (by simp) (by simp);rw[gW]at h;unfold zU Co;cases hf:fN e 0 [] [] with
 |none=>
  rw[hf]at h;obtain⟨s,h1,h2,h3⟩:=h;refine⟨.aa false [],?_,fun h=>by cases h⟩;unfold gA at h1;simp at h1;have h2':s.env[2]?.getD .any=.aj:=h2;have h3':s.env[3]?.getD .any=.bool false:=h3;simp[aoX,R4,h1,h2',h3']
 |some q=>
  rw[hf]at h;obtain⟨all,opn⟩:=q;obtain⟨hl,x,h1⟩:=h;refine⟨.aa false (eM all),?_,fun _=>⟨_,rfl,rfl⟩⟩;unfold gA at h1;simp at h1;have t1:(eM all).take all.length=eM all:=av (by simp);have f1:=oz all;by_cases ho:opn.length=1
  ·simp[aoX,R4,h1,ho,t1,f1];exact⟨Hh all _ _ _ _ _,by omega⟩
  have ho':¬((opn.length:Int)=1):=by omega
  simp[aoX,R4,h1,ho,bE ho',t1,f1];exact Hh all _ _ _ _ _
theorem rK(b:Bool)(e:List EN)(hn:e.length≤most):aK I.qcz [Co b e]=some (ar (if zU e then 0 else 200)):=by
 rw[aA akH rfl];obtain⟨x,h,_⟩:=Mi b e hn;have hx:∀b',b'=b∨b'=true→True:=fun _ _=>trivial;unfold Co at *;cases ho:zU e<;>rw[ho]at h<;>simp[ap3,aca,h]
end Go.AM
namespace Go.AM
open P
set_option maxHeartbeats 64000000
set_option maxRecDepth 40000
attribute [local simp] aW bK
def Gh(x:Int):List Int→List Int
 |[]=>[x]
 |y::r=>if x≤y then x::y::r else y::Gh x r
def oK:List Int→List Int
 |[]=>[]
 |x::r=>Gh x (oK r)
theorem LM(x z:Int):∀l:List Int,z∈Gh x l↔z=x∨z∈l
 |[]=>by simp[Gh]
 |y::r=>by
  unfold Gh;split
  ·simp
  simp[LM x z r];constructor<;>rintro (h|h|h)<;>simp[h]
theorem Bi(z:Int):∀l:List Int,z∈oK l↔z∈l
 |[]=>by simp[oK]
 |x::r=>by simp[oK,LM,Bi z r]
theorem My(x:Int):∀l:List Int,(Gh x l).length=l.length+1
 |[]=>rfl
 |y::r=>by
  unfold Gh;split<;>simp[My x r]
theorem wR:∀l:List Int,(oK l).length=l.length
 |[]=>rfl
 |x::r=>by simp[oK,My,wR r]
theorem QS(x:Int):∀l:List Int,gw oJ (ar x) (l.map (.int .i64))=(Gh x l).map (.int .i64)
 |[]=>rfl
 |y::r=>by
  by_cases h:x≤y
  ·simp[gw,Gh,oJ,h]
  simp[gw,Gh,oJ,h,QS x r]
theorem MF:∀l:List Int,eU oJ (l.map (.int .i64))=(oK l).map (.int .i64)
 |[]=>rfl
 |x::r=>by simp only[bG,eU,MF r,QS];rfl
theorem GP:∀l:List Int,LS (l.map (.int .i64))=some l
 |[]=>rfl
 |x::r=>by simp[LS,GP r]
theorem Su{σ:ay}{id ep:Nat}{l:List Int}(hσ:σ[id]?=some (.arr 1 ep (aZ l)))(hn:l.length≤most) :
  cA code I.slices_Sort_int_int [.sl id ep 0 l.length] σ=some (.any,σ.set id (.arr 1 ep (aZ (oK l)))):=by
 refine nZ fg (k:=2) (n:=0) uV ?_;have hp:code.prims=prims:=rfl;rw[hp];have h1:((aZ l).drop 0).take l.length=aZ l:=by simp
 have h2:(aZ l).drop l.length=[]:=by simp
 simp only[prims,vr,hσ,h1,h2,bS,GP,MF];rw[if_pos (by simp[hn])];simp
def o9(e:List EN):List Int:=e.flatMap fun n=>if n.tag=2 then [n.col] else []
theorem MU(e:List EN):(o9 e).length≤e.length:=by
 induction e with
 |nil=>exact aM _
 |cons n e ih=>
  unfold o9 at *;simp only[fY,bV,bj];split<;>simp only[bj,bu]<;>omega
def jt(e:List EN):List Int:=dR (oK (o9 e))
theorem Hl(b:Bool)(e:List EN)(hn:e.length≤most)(ho:zU e=true):aK I.qda [.agg [.aa b (e.map EN.a)]]=some (.aa false (aZ (jt e))):=by
 rw[aA aj7 rfl];have hc:=fun b=>rK b e hn;rw[ho]at hc;simp only[Co,xV]at hc;have hm:(o9 e).length≤most:=aI (MU e) hn;obtain⟨ep,hl⟩:=Pf (base:=2) (clr:=[4,9,10]) (b:=zl) e
  (fun k ep (acc:List Int)=>⟨[.agg [.aa b (e.map EN.a)],.ptr 0 0 0 0,.aj,.sl 1 ep 0 acc.length,.any,.bool false,.aa b (e.map EN.a),ar e.length,ar k,.any,.any],[.arr 1 0 [.agg [.aa b (e.map EN.a)]],.arr 1 ep (aZ acc)]⟩)
  (fun n=>if n.tag=2 then [n.col] else [])
  (fun ep acc=>(.ext 0,⟨[.agg [.aa b (e.map EN.a)],.ptr 0 0 0 0,.aj,.sl 1 ep 0 acc.length,.any,.bool false,.aa b (e.map EN.a),ar e.length,ar e.length,.bool false,.any],[.arr 1 0 [.agg [.aa b (e.map EN.a)]],.arr 1 ep (aZ acc)]⟩)) 1
  (fun n _=>by split<;>simp)
  (fun k n ep acc hk hy ha=>by
   have ak:((k:Int)<(e.length:Int)):=by omega
   have h5:acc.length+1≤most:=by omega
   by_cases ht:n.tag=2
   ·exact⟨ep+1,by simp[zl,ak,hy,EN.a,ht,append,h5,aX hk hn,aE,aH]⟩
   exact⟨ep,by simp[zl,ak,hy,EN.a,ht,bE ht,aX hk hn,aE,aH]⟩)
  (fun ep acc _=>by simp[zl]) 0
 have hs:=fun σ':Obj=>Su (σ:=[σ',.arr 1 ep (aZ (o9 e))]) (id:=1) (ep:=ep) rfl hm;obtain⟨A,h1,h2,h3⟩:=JG (σ:=[.arr 1 0 [.agg [.aa b (e.map EN.a)]],.arr 1 ep (aZ (oK (o9 e)))]) (id:=1) (ep:=ep) (l:=oK (o9 e)) rfl (by rw[wR];exact hm);simp only[aZ,bh,bu,show ((0:Nat):Int)=0 from rfl]at hl;rw[wR]at h1;unfold jt;have hcl:=vw (oK (o9 e));have hfl:(e.flatMap fun n=>if n.tag=2 then [n.col] else [])=o9 e:=rfl;rw[hfl]at hl;have hA:(aZ A).take (dR (oK (o9 e))).length=aZ (dR (oK (o9 e))):=by
  unfold aZ;rw[←List.map_take,h3]
 generalize dR (oK (o9 e))=c at *;generalize oK (o9 e)=s at *;generalize o9 e=cs at *;have hle:c.length≤A.length:=by omega
 simp[arw,adi,hc,hl,hs,h1,hA,hle]
theorem ug{f:Nat}{g:aS}(h:code.fns f=.nilfn g)(hm:g.mode.isPure=true){x:ap}{σ:ay}{xs:List ap}(hx:fS σ x=.aa true xs)(he:gd σ x=xs.isEmpty) :
  cA code f [x] σ=(aK f [.aa true xs]).map (·,σ):=by
 have e2:∀b,gd [] (.aa b xs)=xs.isEmpty:=fun b=>by cases xs<;>simp[gd,rd]
 have h1:=jj h hm true xs σ;rw[←h1,eB fg h,eB fg h,he];have e3:gd σ (.aa true xs)=xs.isEmpty:=by cases xs<;>simp[gd,rd]
 rw[e3];have e4:fS σ (.aa true xs)=.aa true xs:=by simp
 cases xs.isEmpty with
 |true=>rfl
 |false=>
  simp only[bC,cz];rw[rx hm [x] σ,rx hm [.aa true xs] σ];simp only[bG,bh,hx,e4]
def lP{β:Type}(eP:EN→List β→β×Int)(_:Nat)(n:EN)(st:List β):List β⊕Int:=
 if (eP n (st.drop (st.length-(cF n.tag).toNat))).2=0 then .inl (st.take (st.length-(cF n.tag).toNat)++[(eP n (st.drop (st.length-(cF n.tag).toNat))).1])
 else .inr (eP n (st.drop (st.length-(cF n.tag).toNat))).2
def oF{β:Type}(z:β)(eP:EN→List β→β×Int)(e:List EN):β×Int:=
 match aV (lP eP) e 0 [] with
 |.inl st=>(st.headD z,0)
 |.inr no=>(z,no)
theorem tm:∀(l:List EN) (n:EN) (i:Nat) (a o:List Nat),fN (l++[n]) i a o=(fN l i a o).bind fun q=>rv (i+l.length) n q.1 q.2
 |[],n,i,a,o=>by simp[fN];cases rv i n a o<;>rfl
 |m::l,n,i,a,o=>by
  simp only[cM,fN,bj];cases rv i m a o with
  |none=>rfl
  |some q=>
   simp only[bM];rw[tm l n (i+1) q.1 q.2];simp only[ct,d9 1]
theorem PQ{e:List EN}(ho:zU e=true){k:Nat}(hk:k≤e.length):∃a o,fN (e.take k) 0 [] []=some (a,o):=by
 cases h:fN (e.take k) 0 [] [] with
 |some q=>exact⟨q.1,q.2,rfl⟩
 |none=>
  have key:∀m,k≤m→m≤e.length→fN (e.take m) 0 [] []=none:=by
   intro m hm;induction hm with
   |refl=>intro _;exact h
   |@step m hm ih=>
    intro hl;rw[cw (by omega),tm,ih (by omega)];rfl
  have:=key e.length hk (aM _);rw[cn]at this;unfold zU at ho;rw[this]at ho;cases ho
theorem sK{e:List EN}(ho:zU e=true){k:Nat}{n:EN}(hn:e[k]?=some n){a o:List Nat}(h:fN (e.take k) 0 [] []=some (a,o)) :
  ∃a' o',fN (e.take (k+1)) 0 [] []=some (a',o')∧rv k n a o=some (a',o')∧0≤cF n.tag∧cF n.tag≤o.length∧f9 n=true∧o'.length=o.length-(cF n.tag).toNat+1:=by
 obtain⟨hk,he⟩:=al.1 hn;obtain⟨a',o',h'⟩:=PQ ho (k:=k+1) (by omega);have hs:=h';rw[cw hk,tm,h,he]at hs;simp only[bM,bO,dx (Nat.le_of_lt hk),bS]at hs;refine⟨a',o',h',hs,?_⟩;unfold rv at hs;split at hs
 ·cases hs
 rename_i hc;have h1:0≤cF n.tag∧cF n.tag≤o.length∧f9 n=true:=by
  refine⟨by omega,by omega,?_⟩;cases hq:f9 n
  ·exact absurd (.inr (.inr hq)) hc
  rfl
 refine⟨h1.1,h1.2.1,h1.2.2,?_⟩;have hd:(o.drop (o.length-(cF n.tag).toNat)).length=(cF n.tag).toNat:=by rw[dE];omega
 have:=s5 n.tag;rcases hL:o.drop (o.length-(cF n.tag).toNat) with _|⟨p,_|⟨q,_|⟨r,t⟩⟩⟩<;>rw[hL]at hs hd<;>simp only[bu,bj]at hs hd<;>(try split at hs)<;>(try cases hs)<;>simp<;>omega
theorem C3{e:List EN}(ho:zU e=true){a o:List Nat}(h:fN e 0 [] []=some (a,o)):o.length=1:=by
 unfold zU at ho;rw[h]at ho;simp at ho;exact ho.1
theorem YN{f:Int→ap}(hf:f=(ap.int .i64))(st:List Int)(k ep:Nat)(hk:k≤st.length)(hn:st.length≤most)(OA OB:Obj) :
  cA code I.qds [ar k,.ptr 1 0 0 0] [OA,.arr 1 0 [.sl 2 ep 0 st.length],.arr 1 ep (st.map f),OB] =
   some (.sl 4 0 0 k,[OA,.arr 1 0 [.sl 2 ep 0 (st.length-k)],.arr 1 ep (st.map f),OB,.arr 1 0 ((st.drop (st.length-k)).map f)]):=by
 subst hf;rw[bp agv rfl];have hn':st.length≤68719476736:=hn;have w1:=rn (n:=(st.length:Int)-(k:Int)) (by omega) (by omega);have w2:((st.length:Int)-(k:Int)).toNat=st.length-k:=by omega
 have w3:(0:Int)≤(st.length:Int)-(k:Int):=by omega
 have w4:st.length-k+k=st.length:=by omega
 have hw4:st.length-(st.length-k)=k:=by omega
 have hd:(st.drop (st.length-k)).length=k:=by rw[dE];omega
 have hcl:=xk (enc:=(ap.int .i64)) true (st.drop (st.length-k)) (by rw[hd];omega);have hx:fS [OA,.arr 1 0 [.sl 2 ep 0 st.length],.arr 1 ep (st.map (ap.int .i64)),OB] (.sl 2 ep (st.length-k) k)=.aa true ((st.drop (st.length-k)).map (ap.int .i64)):=by
  have ht:(st.drop (st.length-k)).take k=st.drop (st.length-k):=av (by omega);simp[w4,←List.map_drop,ht,←List.map_take]
 have he:gd [OA,.arr 1 0 [.sl 2 ep 0 st.length],.arr 1 ep (st.map (ap.int .i64)),OB] (.sl 2 ep (st.length-k) k)=((st.drop (st.length-k)).map (ap.int .i64)).isEmpty:=by
  have ht:(st.drop (st.length-k)).take k=st.drop (st.length-k):=av (by omega);simp only[gd,rd,sliceAt];simp[w4,←List.map_drop,ht,←List.map_take];cases st.drop (st.length-k)<;>simp
 have hcall:=ug VH rfl hx he;rw[hcl]at hcall;have hle:(st.length:Int)-(k:Int)≤st.length:=by omega
 simp[ars,acX,w1,w2,w3,hw4,hcall,hd,hk]
def wh(eP:EN→List Int→Int×Int)(k:Nat)(n:EN)(s:Nat×List Int):Nat×List Int⊕Int:=match lP eP k n s.2 with
 |.inl st=>.inl (s.1+1,st)
 |.inr r=>.inr r
theorem vx(eP:EN→List Int→Int×Int):∀(l:List EN) (k ep:Nat) (st:List Int),aV (wh eP) l k (ep,st)=match aV (lP eP) l k st with
  |.inl st'=>.inl (ep+l.length,st')
  |.inr r=>.inr r
 |[],k,ep,st=>rfl
 |n::l,k,ep,st=>by
  simp only[aV,wh];cases lP eP k n st with
  |inl st'=>
   simp only;rw[vx eP l (k+1) (ep+1) st'];cases aV (lP eP) l (k+1) st'<;>simp[ct,d9 1]
  |inr r=>rfl
theorem VI(b:Bool)(e:List EN)(hn:e.length≤most)(ho:zU e=true)(g:ap)(hg:∀fl top base σ,(fl ||top)=true→fz fl top base σ 20 g=g)(eP:EN→List Int→Int×Int)
  (Iv:Int→Prop) (hIv:∀n∈e,∀l:List Int,l.length=(cF n.tag).toNat→f9 n=true→(∀y∈l,Iv y)→(eP n l).2=0→Iv (eP n l).1)
  (hdo:∀n∈e,∀l:List Int,l.length=(cF n.tag).toNat→f9 n=true→(∀y∈l,Iv y)→∀σ x,fS σ x=.aa true (l.map (ap.int .i64))→dS code g [n.a,x] σ=some (.tup [(ap.int .i64) (eP n l).1,ar (eP n l).2],σ)) :
  aK I.qdr [.agg [.aa b (e.map EN.a)],g]=some (.tup [(ap.int .i64) (oF 0 eP e).1,ar (oF 0 eP e).2]):=by
 rw[aA ajC rfl];have hg1:=hg true false 0 [] rfl;have h:=cT (base:=3) (clr:=[9,10,11,15,16]) (b:=Ab) e
  (fun k (s:Nat×List Int)=>⟨[.agg [.aa b (e.map EN.a)],g,.ptr 0 0 0 0,ar 0,ar 0,.ptr 1 0 0 0,ar 0,.fn I.qds [] [.ptr 1 0 0 0],ar 0,.any,.any,.any,.aa b (e.map EN.a),ar e.length,ar k,.any,.any,.any],[.arr 1 0 [.agg [.aa b (e.map EN.a)]],.arr 1 0 [.sl 2 s.1 0 s.2.length],.arr 1 s.1 (s.2.map (ap.int .i64))]⟩)
  (fun k s=>s.2.length≤k∧(∀y∈s.2,Iv y)∧∃a o,fN (e.take k) 0 [] []=some (a,o)∧s.2.length=o.length)
  (wh eP)
  (fun s=>(.ext 0,⟨[.agg [.aa b (e.map EN.a)],g,.ptr 0 0 0 0,ar 0,ar 0,.ptr 1 0 0 0,ar 0,.fn I.qds [] [.ptr 1 0 0 0],ar 0,.any,.any,.any,.aa b (e.map EN.a),ar e.length,ar e.length,.bool false,.any,.any],[.arr 1 0 [.agg [.aa b (e.map EN.a)]],.arr 1 0 [.sl 2 s.1 0 s.2.length],.arr 1 s.1 (s.2.map (ap.int .i64))]⟩))
  (fun r o=>r≠0∧∃k x9 x10 A τ,o=(.ext 0,⟨[.agg [.aa b (e.map EN.a)],g,.ptr 0 0 0 0,ar 0,ar 0,.ptr 1 0 0 0,ar 0,.fn I.qds [] [.ptr 1 0 0 0],ar r,x9,x10,ar r,.aa b (e.map EN.a),ar e.length,k,.bool true,.bool true,.any],.arr 1 0 [.agg [.aa b (e.map EN.a)]]::A::τ⟩))
  (fun k n s hk hy hi=>by
   obtain⟨ep,st⟩:=s;obtain⟨hle,hiv,a,o,hf,hlo⟩:=hi;simp only at hle hlo;obtain⟨a',o',hf',hs,h1,h2,h3,h4⟩:=sK ho hy hf;have ak:((k:Int)<(e.length:Int)):=by omega
   have hk2:(cF n.tag).toNat≤st.length:=by omega
   have hpc:((cF n.tag).toNat:Int)=cF n.tag:=by omega
   have hd:(st.drop (st.length-(cF n.tag).toNat)).length=(cF n.tag).toNat:=by rw[dE];omega
   have hp:=uh n.tag;have hpop:=fun OA OB=>YN rfl st (cF n.tag).toNat ep hk2 (by omega) OA OB;rw[hpc]at hpop;have hivd:∀y∈st.drop (st.length-(cF n.tag).toNat),Iv y:=fun y hy'=>hiv y (cQ hy');have hdo':=hdo n (aw hy) (st.drop (st.length-(cF n.tag).toNat)) hd h3 hivd;have hIv':=hIv n (aw hy) (st.drop (st.length-(cF n.tag).toNat)) hd h3 hivd;have hlen:st.length-(cF n.tag).toNat+1≤most:=by omega
   have htl:(st.take (st.length-(cF n.tag).toNat)).length=st.length-(cF n.tag).toNat:=by rw[bO];omega
   have hdo2:=hdo' [.arr 1 0 [.agg [.aa b (e.map EN.a)]],.arr 1 0 [.sl 2 ep 0 (st.length-(cF n.tag).toNat)],.arr 1 ep (st.map (ap.int .i64)),.arr 8 0 [n.a],.arr 1 0 ((st.drop (st.length-(cF n.tag).toNat)).map (ap.int .i64))] (.sl 4 0 0 (cF n.tag).toNat) (by
    have:=av (Nat.le_of_eq hd);simp[←List.map_drop,hd,←List.map_take,this])
   unfold wh lP;rcases hr:eP n (st.drop (st.length-(cF n.tag).toNat)) with⟨x,no⟩;rw[hr]at hdo2 hIv';simp only[s7]at hdo2;simp only;have hz:∀x,aC ((ap.int .i64) x)=1∧isAgg ((ap.int .i64) x)=false:=fun x=>⟨rfl,rfl⟩;have hzx:∀fl top base σ n,fz fl top base σ (n+3) ((ap.int .i64) x)=(ap.int .i64) x:=fun fl top base σ n=>Fx.fx fl top base σ n x;have hng:∀fl top base σ n',fz fl top base σ (n'+3) n.a=n.a:=fun fl top base σ n'=>Fx.fx fl top base σ n' n;have hnn:aC n.a=8∧isAgg n.a=true:=⟨rfl,rfl⟩;have htag:(cellsOf n.a)[0]?=some (ar n.tag):=rfl;by_cases h0:no=0
   ·subst h0;refine⟨?_,by simp;omega,fun y hy'=>(bT.1 hy').elim (fun h=>hiv y (bv h)) (fun h=>by rw[ce.1 h];exact hIv' rfl),a',o',hf',by simp[htl,h4,hlo]⟩;simp[Ab,ak,hy,hp,hpop,hdo2,htag,hz,hzx,hng,hnn,append,hlen,htl,aX hk hn,aE,aH,hg]
   rw[if_neg h0];exact⟨_,by simp[Ab,ak,hy,hp,hpop,hdo2,htag,hz,hzx,hng,hnn,eo h0];and_intros<;>rfl,h0,_,_,_,_,_,rfl⟩)
  (fun s _=>by simp[Ab]) (0,[]) ⟨aM _,by simp,[],[],by simp[fN],rfl⟩
 rw[vx]at h;unfold oF;cases hf:aV (lP eP) e 0 [] with
 |inl st=>
  rw[hf]at h;obtain⟨⟨_,_,a,o,h1,h2⟩,h3⟩:=h;simp only at h2;rw[cn]at h1;rw[C3 ho h1]at h2
  match st,h2 with
  |[x],_=>
   simp at h3;simp[apQ,WS,hg1,h3]
 |inr r=>
  rw[hf]at h;obtain⟨_,h3,h0,k,x9,x10,A,τ,rfl⟩:=h;simp at h3;simp[apQ,WS,hg1,h3,eo h0]
theorem Z7{f:bW→ap}(hf:f=bW.a)(st:b8)(k ep:Nat)(hk:k≤st.length)(hn:st.length≤most)(OA OA1 OA3 OB:Obj) :
  cA code I.qdq [ar k,.ptr 2 0 0 0] [OA,OA1,.arr 1 0 [.sl 4 ep 0 st.length],OA3,.arr 4 ep (st.map f),OB] =
   some (.sl 6 0 0 k,[OA,OA1,.arr 1 0 [.sl 4 ep 0 (st.length-k)],OA3,.arr 4 ep (st.map f),OB,.arr 4 0 ((st.drop (st.length-k)).map f)]):=by
 subst hf;rw[bp akg rfl];have hn':st.length≤68719476736:=hn;have w1:=rn (n:=(st.length:Int)-(k:Int)) (by omega) (by omega);have w2:((st.length:Int)-(k:Int)).toNat=st.length-k:=by omega
 have w3:(0:Int)≤(st.length:Int)-(k:Int):=by omega
 have w4:st.length-k+k=st.length:=by omega
 have hw4:st.length-(st.length-k)=k:=by omega
 have hd:(st.drop (st.length-k)).length=k:=by rw[dE];omega
 have hcl:=rr (enc:=bW.a) true (st.drop (st.length-k)) (by rw[hd];omega);have hx:fS [OA,OA1,.arr 1 0 [.sl 4 ep 0 st.length],OA3,.arr 4 ep (st.map bW.a),OB] (.sl 4 ep (st.length-k) k)=.aa true ((st.drop (st.length-k)).map bW.a):=by
  have ht:(st.drop (st.length-k)).take k=st.drop (st.length-k):=av (by omega);simp[w4,←List.map_drop,ht,←List.map_take]
 have he:gd [OA,OA1,.arr 1 0 [.sl 4 ep 0 st.length],OA3,.arr 4 ep (st.map bW.a),OB] (.sl 4 ep (st.length-k) k)=((st.drop (st.length-k)).map bW.a).isEmpty:=by
  have ht:(st.drop (st.length-k)).take k=st.drop (st.length-k):=av (by omega);simp only[gd,rd,sliceAt];simp[w4,←List.map_drop,ht,←List.map_take];cases st.drop (st.length-k)<;>simp
 have hcall:=ug aaF rfl hx he;rw[hcl]at hcall;have hle:(st.length:Int)-(k:Int)≤st.length:=by omega
 simp[aqV,adO,w1,w2,w3,hw4,hcall,hd,hk]
def wQ(eP:EN→b8→bW×Int)(k:Nat)(n:EN)(s:Nat×b8):Nat×b8⊕Int:=match lP eP k n s.2 with
 |.inl st=>.inl (s.1+1,st)
 |.inr r=>.inr r
theorem vZ(eP:EN→b8→bW×Int):∀(l:List EN) (k ep:Nat) (st:b8),aV (wQ eP) l k (ep,st)=match aV (lP eP) l k st with
  |.inl st'=>.inl (ep+l.length,st')
  |.inr r=>.inr r
 |[],k,ep,st=>rfl
 |n::l,k,ep,st=>by
  simp only[aV,wQ];cases lP eP k n st with
  |inl st'=>
   simp only;rw[vZ eP l (k+1) (ep+1) st'];cases aV (lP eP) l (k+1) st'<;>simp[ct,d9 1]
  |inr r=>rfl
theorem Xi(b:Bool)(e:List EN)(hn:e.length≤most)(ho:zU e=true)(g:ap)(hg:∀fl top base σ,(fl ||top)=true→fz fl top base σ 20 g=g)(eP:EN→b8→bW×Int)
  (Iv:bW→Prop) (hIv:∀n∈e,∀l:b8,l.length=(cF n.tag).toNat→f9 n=true→(∀y∈l,Iv y)→(eP n l).2=0→Iv (eP n l).1)
  (hdo:∀n∈e,∀l:b8,l.length=(cF n.tag).toNat→f9 n=true→(∀y∈l,Iv y)→∀σ x,fS σ x=.aa true (l.map bW.a)→dS code g [n.a,x] σ=some (.tup [bW.a (eP n l).1,ar (eP n l).2],σ)) :
  aK I.qdp [.agg [.aa b (e.map EN.a)],g]=some (.tup [bW.a (oF cu eP e).1,ar (oF cu eP e).2]):=by
 rw[aA akj rfl];have hg1:=hg true false 0 [] rfl;have h:=cT (base:=5) (clr:=[9,10,11,15,16]) (b:=Ae) e
  (fun k (s:Nat×b8)=>⟨[.agg [.aa b (e.map EN.a)],g,.ptr 0 0 0 0,.ptr 1 0 0 0,ar 0,.ptr 2 0 0 0,.ptr 3 0 0 0,.fn I.qdq [] [.ptr 2 0 0 0],ar 0,.any,.any,.any,.aa b (e.map EN.a),ar e.length,ar k,.any,.any,.any],[.arr 1 0 [.agg [.aa b (e.map EN.a)]],.arr 4 0 [.agg [ar 0,ar 0,.int .u64 0,.str []]],.arr 1 0 [.sl 4 s.1 0 s.2.length],.arr 4 0 [.agg [ar 0,ar 0,.int .u64 0,.str []]],.arr 4 s.1 (s.2.map bW.a)]⟩)
  (fun k s=>s.2.length≤k∧(∀y∈s.2,Iv y)∧∃a o,fN (e.take k) 0 [] []=some (a,o)∧s.2.length=o.length)
  (wQ eP)
  (fun s=>(.ext 0,⟨[.agg [.aa b (e.map EN.a)],g,.ptr 0 0 0 0,.ptr 1 0 0 0,ar 0,.ptr 2 0 0 0,.ptr 3 0 0 0,.fn I.qdq [] [.ptr 2 0 0 0],ar 0,.any,.any,.any,.aa b (e.map EN.a),ar e.length,ar e.length,.bool false,.any,.any],[.arr 1 0 [.agg [.aa b (e.map EN.a)]],.arr 4 0 [.agg [ar 0,ar 0,.int .u64 0,.str []]],.arr 1 0 [.sl 4 s.1 0 s.2.length],.arr 4 0 [.agg [ar 0,ar 0,.int .u64 0,.str []]],.arr 4 s.1 (s.2.map bW.a)]⟩))
  (fun r o=>r≠0∧∃k x9 x10 A τ,o=(.ext 0,⟨[.agg [.aa b (e.map EN.a)],g,.ptr 0 0 0 0,.ptr 1 0 0 0,ar 0,.ptr 2 0 0 0,.ptr 3 0 0 0,.fn I.qdq [] [.ptr 2 0 0 0],ar r,x9,x10,ar r,.aa b (e.map EN.a),ar e.length,k,.bool true,.bool true,.any],.arr 1 0 [.agg [.aa b (e.map EN.a)]]::.arr 4 0 [.agg [ar 0,ar 0,.int .u64 0,.str []]]::A::.arr 4 0 [.agg [ar 0,ar 0,.int .u64 0,.str []]]::τ⟩))
  (fun k n s hk hy hi=>by
   obtain⟨ep,st⟩:=s;obtain⟨hle,hiv,a,o,hf,hlo⟩:=hi;simp only at hle hlo;obtain⟨a',o',hf',hs,h1,h2,h3,h4⟩:=sK ho hy hf;have ak:((k:Int)<(e.length:Int)):=by omega
   have hk2:(cF n.tag).toNat≤st.length:=by omega
   have hpc:((cF n.tag).toNat:Int)=cF n.tag:=by omega
   have hd:(st.drop (st.length-(cF n.tag).toNat)).length=(cF n.tag).toNat:=by rw[dE];omega
   have hp:=uh n.tag;have hpop:=fun OA OA1 OA3 OB=>Z7 rfl st (cF n.tag).toNat ep hk2 (by omega) OA OA1 OA3 OB;rw[hpc]at hpop;have hivd:∀y∈st.drop (st.length-(cF n.tag).toNat),Iv y:=fun y hy'=>hiv y (cQ hy');have hdo':=hdo n (aw hy) (st.drop (st.length-(cF n.tag).toNat)) hd h3 hivd;have hIv':=hIv n (aw hy) (st.drop (st.length-(cF n.tag).toNat)) hd h3 hivd;have hlen:st.length-(cF n.tag).toNat+1≤most:=by omega
   have htl:(st.take (st.length-(cF n.tag).toNat)).length=st.length-(cF n.tag).toNat:=by rw[bO];omega
   have hdo2:=hdo' [.arr 1 0 [.agg [.aa b (e.map EN.a)]],.arr 4 0 [.agg [ar 0,ar 0,.int .u64 0,.str []]],.arr 1 0 [.sl 4 ep 0 (st.length-(cF n.tag).toNat)],.arr 4 0 [.agg [ar 0,ar 0,.int .u64 0,.str []]],.arr 4 ep (st.map bW.a),.arr 8 0 [n.a],.arr 4 0 ((st.drop (st.length-(cF n.tag).toNat)).map bW.a)] (.sl 6 0 0 (cF n.tag).toNat) (by
    have:=av (Nat.le_of_eq hd);simp[←List.map_drop,hd,←List.map_take,this])
   unfold wQ lP;rcases hr:eP n (st.drop (st.length-(cF n.tag).toNat)) with⟨x,no⟩;rw[hr]at hdo2 hIv';simp only[s7]at hdo2;simp only;have hz:∀x,aC (bW.a x)=4∧isAgg (bW.a x)=true:=fun x=>⟨rfl,rfl⟩;have hzx:∀fl top base σ n,fz fl top base σ (n+3) (bW.a x)=bW.a x:=fun fl top base σ n=>Fx.fx fl top base σ n x;have hng:∀fl top base σ n',fz fl top base σ (n'+3) n.a=n.a:=fun fl top base σ n'=>Fx.fx fl top base σ n' n;have hnn:aC n.a=8∧isAgg n.a=true:=⟨rfl,rfl⟩;have htag:(cellsOf n.a)[0]?=some (ar n.tag):=rfl;by_cases h0:no=0
   ·subst h0;refine⟨?_,by simp;omega,fun y hy'=>(bT.1 hy').elim (fun h=>hiv y (bv h)) (fun h=>by rw[ce.1 h];exact hIv' rfl),a',o',hf',by simp[htl,h4,hlo]⟩;simp[Ae,ak,hy,hp,hpop,hdo2,htag,bW.a,hz,hzx,hng,hnn,append,hlen,htl,aX hk hn,aE,aH,hg]
   rw[if_neg h0];exact⟨_,by simp[Ae,ak,hy,hp,hpop,hdo2,htag,bW.a,hz,hzx,hng,hnn,eo h0];and_intros<;>rfl,h0,_,_,_,_,_,rfl⟩)
  (fun s _=>by simp[Ae]) (0,[]) ⟨aM _,by simp,[],[],by simp[fN],rfl⟩
 rw[vZ]at h;unfold oF;cases hf:aV (lP eP) e 0 [] with
 |inl st=>
  rw[hf]at h;obtain⟨⟨_,_,a,o,h1,h2⟩,h3⟩:=h;simp only at h2;rw[cn]at h1;rw[C3 ho h1]at h2
  match st,h2 with
  |[x],_=>
   simp at h3;simp[apz,Vc,hg1,h3,cu,bW.a]
 |inr r=>
  rw[hf]at h;obtain⟨_,h3,h0,k,x9,x10,A,τ,rfl⟩:=h;simp at h3;simp[apz,Vc,hg1,h3,eo h0,cu,bW.a]
def UC(k:Int):Bool:=decide (k<0) ||decide (3<k)
def eC(e:List EN)(af:List Int):Int×Int:=
 if zU e=false then (0,200) else if af.any UC then (0,2) else if (jt e).any (fun c=>decide ((af.length:Int)≤c)) then (0,2) else oF 0 (na af) e
theorem ww{e:List EN}{n:EN}(h:n∈e)(ht:n.tag=2):n.col∈jt e:=by
 unfold jt;rw[zT,Bi];exact jJ.2 ⟨n,h,by rw[if_pos ht];simp⟩
theorem Ht{e:List EN}{c:Int}(h:c∈jt e):∃n∈e,n.tag=2∧n.col=c:=by
 unfold jt at h;rw[zT,Bi]at h;obtain⟨n,hn,hc⟩:=jJ.1 h;split at hc
 ·rename_i ht;exact⟨n,hn,ht,(ce.1 hc).symm⟩
 cases hc
theorem qF{n:EN}(h:f9 n=true)(ht:n.tag=2):0≤n.col∧n.col<16:=by
 unfold f9 at h;rw[if_neg (by omega),if_pos ht]at h;simp at h;exact⟨h.1.2,h.2⟩
theorem Lx(e:List EN):(jt e).length≤e.length:=by
 unfold jt;have h1:=vw (oK (o9 e));have h2:=wR (o9 e);have h3:=MU e;omega
theorem pD(b:Bool)(e:List EN)(bk:Bool)(af:List Int)(hn:e.length≤most)(hk:af.length≤most) :
  aK I.qdd [.agg [.aa b (e.map EN.a)],.aa bk (aZ af)]=some (.tup [ar (eC e af).1,ar (eC e af).2]):=by
 rw[aA agn rfl];have hc:=fun b=>rK b e hn;simp only[Co,xV]at hc;unfold eC;cases ho:zU e with
 |false=>
  rw[ho]at hc;simp[aoE,Ln,hc]
 |true=>
  rw[ho]at hc;have h1:=lD (base:=2) (clr:=[4,5,7,13,14]) (b:=Hs) af
   (fun k=>⟨[.agg [.aa b (e.map EN.a)],.aa bk (aZ af),.ptr 0 0 0 0,.ptr 1 0 0 0,.any,.any,ar 0,.any,.any,.bool false,.aa bk (aZ af),ar af.length,ar k,.any,.any,.any,.any,.any,.any,.any],[.arr 1 0 [.agg [.aa b (e.map EN.a)]],.arr 1 0 [.aa bk (aZ af)]]⟩) UC
   (.ext 0,⟨[.agg [.aa b (e.map EN.a)],.aa bk (aZ af),.ptr 0 0 0 0,.ptr 1 0 0 0,.any,.any,ar 0,.any,.any,.bool false,.aa bk (aZ af),ar af.length,ar af.length,.bool false,.any,.any,.any,.any,.any,.any],[.arr 1 0 [.agg [.aa b (e.map EN.a)]],.arr 1 0 [.aa bk (aZ af)]]⟩)
   (fun o=>∃s,o=(.ret,s)∧dO .pure [.env 4,.env 5] (some (.ret,s))=some (.tup [ar 0,ar 2]))
   (fun k y hk' hy hp=>by
    have ak:((k:Int)<(af.length:Int)):=by omega
    unfold UC at hp;simp at hp;have e1:¬(y<0):=by omega
    have e2:¬(3<y):=by omega
    simp[Hs,ak,hy,e1,e2,aX hk' hk,bY])
   (fun k y hk' hy hp=>by
    have ak:((k:Int)<(af.length:Int)):=by omega
    unfold UC at hp;simp at hp;by_cases e1:y<0
    ·exact⟨_,by simp[Hs,ak,hy,e1];rfl,_,rfl,by simp⟩
    have e2:3<y:=by omega
    exact⟨_,by simp[Hs,ak,hy,e1,e2];rfl,_,rfl,by simp⟩)
   (by simp[Hs])
  rcases h1 with⟨ha,h1⟩|⟨ha,o,h1,s,rfl,h2⟩
  ·rw[ha];have hC:=fun b=>Hl b e hn ho;have hcl:=Lx e;have h2:=lD (base:=2) (clr:=[4,5,8,18,19]) (b:=zg) (jt e)
    (fun k=>⟨[.agg [.aa b (e.map EN.a)],.aa bk (aZ af),.ptr 0 0 0 0,.ptr 1 0 0 0,.any,.any,ar 0,.any,.any,.bool false,.aa bk (aZ af),ar af.length,ar af.length,.bool false,.any,.aa false (aZ (jt e)),ar (jt e).length,ar k,.any,.any],[.arr 1 0 [.agg [.aa b (e.map EN.a)]],.arr 1 0 [.aa bk (aZ af)]]⟩)
    (fun c=>decide ((af.length:Int)≤c))
    (.ext 2,⟨[.agg [.aa b (e.map EN.a)],.aa bk (aZ af),.ptr 0 0 0 0,.ptr 1 0 0 0,.any,.any,ar 0,.any,.any,.bool false,.aa bk (aZ af),ar af.length,ar af.length,.bool false,.any,.aa false (aZ (jt e)),ar (jt e).length,ar (jt e).length,.bool false,.any],[.arr 1 0 [.agg [.aa b (e.map EN.a)]],.arr 1 0 [.aa bk (aZ af)]]⟩)
    (fun o=>∃s,o=(.ret,s)∧dO .pure [.env 4,.env 5] (some (.ret,s))=some (.tup [ar 0,ar 2]))
    (fun k y hk' hy hp=>by
     have ak:((k:Int)<((jt e).length:Int)):=by omega
     have hp':¬((af.length:Int)≤y):=by simpa using hp
     simp[zg,ak,hy,hp',aX hk' (by omega),bY])
    (fun k y hk' hy hp=>by
     have ak:((k:Int)<((jt e).length:Int)):=by omega
     have hp':((af.length:Int)≤y):=by simpa using hp
     exact⟨_,by simp[zg,ak,hy,hp'];rfl,_,rfl,by simp⟩)
    (by simp[zg])
   simp at h1;rcases h2 with⟨hb,h2⟩|⟨hb,o,h2,s,rfl,h3⟩
   ·rw[hb]
    have hover:=fun b=>VI b e hn ho (.fn I.qde [] [.cptr true (.aa bk (aZ af)) 0]) (fun fl top base σ h=>by cases fl<;>cases top<;>simp at h ⊢) (na af) (fun _=>True) (fun _ _ _ _ _ _ _=>trivial)
     (fun n hne l hl hcn _ σ x hx=>by
      have:=s5 n.tag
      have hk1:=Oj n true l bk af (by unfold most;omega) (fun ht=>by
       obtain⟨h1,h2⟩:=qF hcn ht;have:=bR.1 hb n.col (ww hne ht);simp at this;exact⟨h1,by omega⟩)
      have hna:fz true false 0 σ 20 n.a=n.a:=Fx.fx true false 0 σ 17 n;simp only[po]at hx;simp[hx,hna,hk1])
    simp at h2;simp[aoE,Ln,hc,h1,hC,h2,hover]
   rw[hb];simp at h2;simp[aoE,Ln,hc,h1,hC,h2,-dV];exact h3
  rw[ha];simp at h1;simp[aoE,Ln,hc,h1,-dV];exact h2
end Go.AM
