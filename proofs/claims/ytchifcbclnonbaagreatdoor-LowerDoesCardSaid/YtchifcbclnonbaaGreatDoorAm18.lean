/- Part of the proof. -/
import Derived.Test.YtchifcbclnonbaaGreatDoorAm17
set_option linter.unusedVariables false
set_option linter.unusedSimpArgs false
set_option linter.unusedSectionVars false
namespace Go.AM
open P
set_option maxHeartbeats 8000000
set_option maxRecDepth 8000
theorem IJ{f:Nat}{g:aM}(h:code.fns f=.nilfn g)(hm:g.mode.isPure=true){x:ap}{σ:aw}{xs:List ap}(hx:iC σ x=.aa true xs)(he:ip σ x=xs.isEmpty) :
  db code f [x] σ=(bI f [.aa true xs]).map (·,σ):=by
 have e2:∀b,ip [] (.aa b xs)=xs.isEmpty:=fun b=>by cases xs<;>simp[ip,rd]
 have h1:=rj h hm true xs σ;rw[←h1,iV gz h,iV gz h,he];have e3:ip σ (.aa true xs)=xs.isEmpty:=by cases xs<;>simp[ip,rd]
 rw[e3];have e4:iC σ (.aa true xs)=.aa true xs:=by simp
 cases xs.isEmpty with
 |true=>rfl
 |false=>
  simp only[aH,bQ];rw[sU hm [x] σ,sU hm [.aa true xs] σ];simp only[cH,cE,hx,e4]
def vz{β:Type}(B5:EN→List β→β×Int)(_:Nat)(n:EN)(st:List β):List β⊕Int:=
 if (B5 n (st.drop (st.length-(b8 n.tag).toNat))).2=0 then .inl (st.take (st.length-(b8 n.tag).toNat)++[(B5 n (st.drop (st.length-(b8 n.tag).toNat))).1])
 else .inr (B5 n (st.drop (st.length-(b8 n.tag).toNat))).2
def EI{β:Type}(z:β)(B5:EN→List β→β×Int)(e:List EN):β×Int:=
 match dm (vz B5) e 0 [] with
 |.inl st=>(st.headD z,0)
 |.inr no=>(z,no)
theorem nH:∀(l:List EN) (n:EN) (i:Nat) (a o:List Nat),ff (l++[n]) i a o=(ff l i a o).bind fun q=>lD (i+l.length) n q.1 q.2
 |[],n,i,a,o=>by simp[ff];cases lD i n a o<;>rfl
 |m::l,n,i,a,o=>by
  simp only[bV,ff,cn];cases lD i m a o with
  |none=>rfl
  |some q=>
   simp only[dk];rw[nH l n (i+1) q.1 q.2];simp only[cA,eE 1]
theorem adf{e:List EN}(ho:GC e=true){k:Nat}(hk:k≤e.length):∃a o,ff (e.take k) 0 [] []=some (a,o):=by
 cases h:ff (e.take k) 0 [] [] with
 |some q=>exact⟨q.1,q.2,rfl⟩
 |none=>
  have key:∀m,k≤m→m≤e.length→ff (e.take m) 0 [] []=none:=by
   intro m hm;induction hm with
   |refl=>intro _;exact h
   |@step m hm ih=>
    intro hl;rw[cV (by omega),nH,ih (by omega)];rfl
  have:=key e.length hk (aB _);rw[dv]at this;unfold GC at ho;rw[this]at ho;cases ho
theorem Fm{e:List EN}(ho:GC e=true){k:Nat}{n:EN}(hn:e[k]?=some n){a o:List Nat}(h:ff (e.take k) 0 [] []=some (a,o)) :
  ∃a' o',ff (e.take (k+1)) 0 [] []=some (a',o')∧lD k n a o=some (a',o')∧0≤b8 n.tag∧b8 n.tag≤o.length∧fb n=true∧o'.length=o.length-(b8 n.tag).toNat+1:=by
 obtain⟨hk,he⟩:=ak.1 hn;obtain⟨a',o',h'⟩:=adf ho (k:=k+1) (by omega);have hs:=h';rw[cV hk,nH,h,he]at hs;simp only[dk,cz,ec (Nat.le_of_lt hk),cu]at hs;refine⟨a',o',h',hs,?_⟩;unfold lD at hs;split at hs
 ·cases hs
 rename_i hc;have h1:0≤b8 n.tag∧b8 n.tag≤o.length∧fb n=true:=by
  refine⟨by omega,by omega,?_⟩;cases hq:fb n
  ·exact absurd (.inr (.inr hq)) hc
  rfl
 refine⟨h1.1,h1.2.1,h1.2.2,?_⟩;have hd:(o.drop (o.length-(b8 n.tag).toNat)).length=(b8 n.tag).toNat:=by rw[gk];omega
 have:=ny n.tag;rcases hL:o.drop (o.length-(b8 n.tag).toNat) with _|⟨p,_|⟨q,_|⟨r,t⟩⟩⟩<;>rw[hL]at hs hd<;>simp only[cK,cn]at hs hd<;>(try split at hs)<;>(try cases hs)<;>simp<;>omega
theorem Rv{e:List EN}(ho:GC e=true){a o:List Nat}(h:ff e 0 [] []=some (a,o)):o.length=1:=by
 unfold GC at ho;rw[h]at ho;simp at ho;exact ho.1
theorem Ys{f:Int→ap}(hf:f=(ap.int .i64))(st:List Int)(k ep:Nat)(hk:k≤st.length)(hn:st.length≤aV)(OA OB:Obj) :
  db code I.qdv [aL k,.ptr 1 0 0 0] [OA,.arr 1 0 [.sl 2 ep 0 st.length],.arr 1 ep (st.map f),OB] =
   some (.sl 4 0 0 k,[OA,.arr 1 0 [.sl 2 ep 0 (st.length-k)],.arr 1 ep (st.map f),OB,.arr 1 0 ((st.drop (st.length-k)).map f)]):=by
 subst hf;rw[dq ajM rfl];have hn':st.length≤68719476736:=hn;have w1:=tI (n:=(st.length:Int)-(k:Int)) (by omega) (by omega);have w2:((st.length:Int)-(k:Int)).toNat=st.length-k:=by omega
 have w3:(0:Int)≤(st.length:Int)-(k:Int):=by omega
 have w4:st.length-k+k=st.length:=by omega
 have hw4:st.length-(st.length-k)=k:=by omega
 have hd:(st.drop (st.length-k)).length=k:=by rw[gk];omega
 have hcl:=xL (enc:=(ap.int .i64)) true (st.drop (st.length-k)) (by rw[hd];omega);have hx:iC [OA,.arr 1 0 [.sl 2 ep 0 st.length],.arr 1 ep (st.map (ap.int .i64)),OB] (.sl 2 ep (st.length-k) k)=.aa true ((st.drop (st.length-k)).map (ap.int .i64)):=by
  have ht:(st.drop (st.length-k)).take k=st.drop (st.length-k):=ay (by omega);simp[w4,←List.map_drop,ht,←List.map_take]
 have he:ip [OA,.arr 1 0 [.sl 2 ep 0 st.length],.arr 1 ep (st.map (ap.int .i64)),OB] (.sl 2 ep (st.length-k) k)=((st.drop (st.length-k)).map (ap.int .i64)).isEmpty:=by
  have ht:(st.drop (st.length-k)).take k=st.drop (st.length-k):=ay (by omega);simp only[ip,rd,sliceAt];simp[w4,←List.map_drop,ht,←List.map_take];cases st.drop (st.length-k)<;>simp
 have hcall:=IJ W9 rfl hx he;rw[hcl]at hcall;have hle:(st.length:Int)-(k:Int)≤st.length:=by omega
 simp[apE,abV,w1,w2,w3,hw4,hcall,hd,hk]
def xq(B5:EN→List Int→Int×Int)(k:Nat)(n:EN)(s:Nat×List Int):Nat×List Int⊕Int:=match vz B5 k n s.2 with
 |.inl st=>.inl (s.1+1,st)
 |.inr r=>.inr r
theorem vX(B5:EN→List Int→Int×Int):∀(l:List EN) (k ep:Nat) (st:List Int),dm (xq B5) l k (ep,st)=match dm (vz B5) l k st with
  |.inl st'=>.inl (ep+l.length,st')
  |.inr r=>.inr r
 |[],k,ep,st=>rfl
 |n::l,k,ep,st=>by
  simp only[dm,xq];cases vz B5 k n st with
  |inl st'=>
   simp only;rw[vX B5 l (k+1) (ep+1) st'];cases dm (vz B5) l (k+1) st'<;>simp[cA,eE 1]
  |inr r=>rfl
theorem Uz(b:Bool)(e:List EN)(hn:e.length≤aV)(ho:GC e=true)(g:ap)(hg:∀fl top base σ,(fl ||top)=true→fz fl top base σ 20 g=g)(B5:EN→List Int→Int×Int)
  (Iv:Int→Prop) (hIv:∀n∈e,∀l:List Int,l.length=(b8 n.tag).toNat→fb n=true→(∀y∈l,Iv y)→(B5 n l).2=0→Iv (B5 n l).1)
  (hdo:∀n∈e,∀l:List Int,l.length=(b8 n.tag).toNat→fb n=true→(∀y∈l,Iv y)→∀σ x,iC σ x=.aa true (l.map (ap.int .i64))→mr code g [n.a,x] σ=some (.tup [(ap.int .i64) (B5 n l).1,aL (B5 n l).2],σ)) :
  bI I.qdu [.agg [.aa b (e.map EN.a)],g]=some (.tup [(ap.int .i64) (EI 0 B5 e).1,aL (EI 0 B5 e).2]):=by
 rw[aQ ai8 rfl];have hg1:=hg true false 0 [] rfl;have h:=eL (base:=3) (clr:=[9,10,11,15,16]) (b:=zE) e
  (fun k (s:Nat×List Int)=>⟨[.agg [.aa b (e.map EN.a)],g,.ptr 0 0 0 0,aL 0,aL 0,.ptr 1 0 0 0,aL 0,.fn I.qdv [] [.ptr 1 0 0 0],aL 0,.any,.any,.any,.aa b (e.map EN.a),aL e.length,aL k,.any,.any,.any],[.arr 1 0 [.agg [.aa b (e.map EN.a)]],.arr 1 0 [.sl 2 s.1 0 s.2.length],.arr 1 s.1 (s.2.map (ap.int .i64))]⟩)
  (fun k s=>s.2.length≤k∧(∀y∈s.2,Iv y)∧∃a o,ff (e.take k) 0 [] []=some (a,o)∧s.2.length=o.length)
  (xq B5)
  (fun s=>(.ext 0,⟨[.agg [.aa b (e.map EN.a)],g,.ptr 0 0 0 0,aL 0,aL 0,.ptr 1 0 0 0,aL 0,.fn I.qdv [] [.ptr 1 0 0 0],aL 0,.any,.any,.any,.aa b (e.map EN.a),aL e.length,aL e.length,.bool false,.any,.any],[.arr 1 0 [.agg [.aa b (e.map EN.a)]],.arr 1 0 [.sl 2 s.1 0 s.2.length],.arr 1 s.1 (s.2.map (ap.int .i64))]⟩))
  (fun r o=>r≠0∧∃k x9 x10 A τ,o=(.ext 0,⟨[.agg [.aa b (e.map EN.a)],g,.ptr 0 0 0 0,aL 0,aL 0,.ptr 1 0 0 0,aL 0,.fn I.qdv [] [.ptr 1 0 0 0],aL r,x9,x10,aL r,.aa b (e.map EN.a),aL e.length,k,.bool true,.bool true,.any],.arr 1 0 [.agg [.aa b (e.map EN.a)]]::A::τ⟩))
  (fun k n s hk hy hi=>by
   obtain⟨ep,st⟩:=s;obtain⟨hle,hiv,a,o,hf,hlo⟩:=hi;simp only at hle hlo;obtain⟨a',o',hf',hs,h1,h2,h3,h4⟩:=Fm ho hy hf;have aj:((k:Int)<(e.length:Int)):=by omega
   have hk2:(b8 n.tag).toNat≤st.length:=by omega
   have hpc:((b8 n.tag).toNat:Int)=b8 n.tag:=by omega
   have hd:(st.drop (st.length-(b8 n.tag).toNat)).length=(b8 n.tag).toNat:=by rw[gk];omega
   have hp:=yD n.tag;have hpop:=fun OA OB=>Ys rfl st (b8 n.tag).toNat ep hk2 (by omega) OA OB;rw[hpc]at hpop;have hivd:∀y∈st.drop (st.length-(b8 n.tag).toNat),Iv y:=fun y hy'=>hiv y (dC hy');have hdo':=hdo n (aD hy) (st.drop (st.length-(b8 n.tag).toNat)) hd h3 hivd;have hIv':=hIv n (aD hy) (st.drop (st.length-(b8 n.tag).toNat)) hd h3 hivd;have hlen:st.length-(b8 n.tag).toNat+1≤aV:=by omega
   have htl:(st.take (st.length-(b8 n.tag).toNat)).length=st.length-(b8 n.tag).toNat:=by rw[cz];omega
   have hdo2:=hdo' [.arr 1 0 [.agg [.aa b (e.map EN.a)]],.arr 1 0 [.sl 2 ep 0 (st.length-(b8 n.tag).toNat)],.arr 1 ep (st.map (ap.int .i64)),.arr 8 0 [n.a],.arr 1 0 ((st.drop (st.length-(b8 n.tag).toNat)).map (ap.int .i64))] (.sl 4 0 0 (b8 n.tag).toNat) (by
    have:=ay (Nat.le_of_eq hd);simp[←List.map_drop,hd,←List.map_take,this])
   unfold xq vz;rcases hr:B5 n (st.drop (st.length-(b8 n.tag).toNat)) with⟨x,no⟩;rw[hr]at hdo2 hIv';simp only[BV]at hdo2;simp only;have hz:∀x,aC ((ap.int .i64) x)=1∧isAgg ((ap.int .i64) x)=false:=fun x=>⟨rfl,rfl⟩;have hzx:∀fl top base σ n,fz fl top base σ (n+3) ((ap.int .i64) x)=(ap.int .i64) x:=fun fl top base σ n=>Fx.fx fl top base σ n x;have hng:∀fl top base σ n',fz fl top base σ (n'+3) n.a=n.a:=fun fl top base σ n'=>Fx.fx fl top base σ n' n;have hnn:aC n.a=8∧isAgg n.a=true:=⟨rfl,rfl⟩;have htag:(cellsOf n.a)[0]?=some (aL n.tag):=rfl;by_cases h0:no=0
   ·subst h0;refine⟨?_,by simp;omega,fun y hy'=>(cq.1 hy').elim (fun h=>hiv y (cN h)) (fun h=>by rw[cg.1 h];exact hIv' rfl),a',o',hf',by simp[htl,h4,hlo]⟩;simp[zE,aj,hy,hp,hpop,hdo2,htag,hz,hzx,hng,hnn,append,hlen,htl,bJ hk hn,aT,aW,hg]
   rw[if_neg h0];exact⟨_,by simp[zE,aj,hy,hp,hpop,hdo2,htag,hz,hzx,hng,hnn,df h0];and_intros<;>rfl,h0,_,_,_,_,_,rfl⟩)
  (fun s _=>by simp[zE]) (0,[]) ⟨aB _,by simp,[],[],by simp[ff],rfl⟩
 rw[vX]at h;unfold EI;cases hf:dm (vz B5) e 0 [] with
 |inl st=>
  rw[hf]at h;obtain⟨⟨_,_,a,o,h1,h2⟩,h3⟩:=h;simp only at h2;rw[dv]at h1;rw[Rv ho h1]at h2
  match st,h2 with
  |[x],_=>
   simp at h3;simp[aoO,U6,hg1,h3]
 |inr r=>
  rw[hf]at h;obtain⟨_,h3,h0,k,x9,x10,A,τ,rfl⟩:=h;simp at h3;simp[aoO,U6,hg1,h3,df h0]
end Go.AM
namespace Go.AM
open P
set_option maxHeartbeats 64000000
set_option maxRecDepth 40000
attribute [local simp] aF br
def GU(k:Int):Bool:=decide (k<0) ||decide (3<k)
def fe(e:List EN)(ac:List Int):Int×Int:=
 if GC e=false then (0,200) else if ac.any GU then (0,2) else if (oK e).any (fun c=>decide ((ac.length:Int)≤c)) then (0,2) else EI 0 (na ac) e
theorem HQ{e:List EN}{n:EN}(h:n∈e)(ht:n.tag=2):n.col∈oK e:=by
 unfold oK;rw[Aw,Bl];exact List.mem_flatMap.2 ⟨n,h,by rw[if_pos ht];simp⟩
theorem Tc{e:List EN}{c:Int}(h:c∈oK e):∃n∈e,n.tag=2∧n.col=c:=by
 unfold oK at h;rw[Aw,Bl]at h;obtain⟨n,hn,hc⟩:=List.mem_flatMap.1 h;split at hc
 ·rename_i ht;exact⟨n,hn,ht,(cg.1 hc).symm⟩
 cases hc
theorem Fc{n:EN}(h:fb n=true)(ht:n.tag=2):0≤n.col∧n.col<16:=by
 unfold fb at h;rw[if_neg (by omega),if_pos ht]at h;simp at h;exact⟨h.1.2,h.2⟩
theorem TS(e:List EN):(oK e).length≤e.length:=by
 unfold oK;have h1:=wS (pJ (qF e));have h2:=xx (qF e);have h3:=LN e;omega
theorem Ca(b:Bool)(e:List EN)(bk:Bool)(ac:List Int)(hn:e.length≤aV)(hk:ac.length≤aV) :
  bI I.qdj [.agg [.aa b (e.map EN.a)],.aa bk (bE ac)]=some (.tup [aL (fe e ac).1,aL (fe e ac).2]):=by
 rw[aQ afR rfl];have hc:=fun b=>CC b e hn;simp only[tJ,At]at hc;unfold fe;cases ho:GC e with
 |false=>
  rw[ho]at hc;simp[aof,Mv,hc]
 |true=>
  rw[ho]at hc;have h1:=gf (base:=2) (clr:=[4,5,7,13,14]) (b:=HF) ac
   (fun k=>⟨[.agg [.aa b (e.map EN.a)],.aa bk (bE ac),.ptr 0 0 0 0,.ptr 1 0 0 0,.any,.any,aL 0,.any,.any,.bool false,.aa bk (bE ac),aL ac.length,aL k,.any,.any,.any,.any,.any,.any,.any],[.arr 1 0 [.agg [.aa b (e.map EN.a)]],.arr 1 0 [.aa bk (bE ac)]]⟩) GU
   (.ext 0,⟨[.agg [.aa b (e.map EN.a)],.aa bk (bE ac),.ptr 0 0 0 0,.ptr 1 0 0 0,.any,.any,aL 0,.any,.any,.bool false,.aa bk (bE ac),aL ac.length,aL ac.length,.bool false,.any,.any,.any,.any,.any,.any],[.arr 1 0 [.agg [.aa b (e.map EN.a)]],.arr 1 0 [.aa bk (bE ac)]]⟩)
   (fun o=>∃s,o=(.ret,s)∧jF .pure [.env 4,.env 5] (some (.ret,s))=some (.tup [aL 0,aL 2]))
   (fun k y hk' hy hp=>by
    have aj:((k:Int)<(ac.length:Int)):=by omega
    unfold GU at hp;simp at hp;have e1:¬(y<0):=by omega
    have e2:¬(3<y):=by omega
    simp[HF,aj,hy,e1,e2,bJ hk' hk,bX])
   (fun k y hk' hy hp=>by
    have aj:((k:Int)<(ac.length:Int)):=by omega
    unfold GU at hp;simp at hp;by_cases e1:y<0
    ·exact⟨_,by simp[HF,aj,hy,e1];rfl,_,rfl,by simp⟩
    have e2:3<y:=by omega
    exact⟨_,by simp[HF,aj,hy,e1,e2];rfl,_,rfl,by simp⟩)
   (by simp[HF])
  rcases h1 with⟨ha,h1⟩|⟨ha,o,h1,s,rfl,h2⟩
  ·rw[ha];have hC:=fun b=>SK b e hn ho;have hcl:=TS e;have h2:=gf (base:=2) (clr:=[4,5,8,18,19]) (b:=AR) (oK e)
    (fun k=>⟨[.agg [.aa b (e.map EN.a)],.aa bk (bE ac),.ptr 0 0 0 0,.ptr 1 0 0 0,.any,.any,aL 0,.any,.any,.bool false,.aa bk (bE ac),aL ac.length,aL ac.length,.bool false,.any,.aa false (bE (oK e)),aL (oK e).length,aL k,.any,.any],[.arr 1 0 [.agg [.aa b (e.map EN.a)]],.arr 1 0 [.aa bk (bE ac)]]⟩)
    (fun c=>decide ((ac.length:Int)≤c))
    (.ext 2,⟨[.agg [.aa b (e.map EN.a)],.aa bk (bE ac),.ptr 0 0 0 0,.ptr 1 0 0 0,.any,.any,aL 0,.any,.any,.bool false,.aa bk (bE ac),aL ac.length,aL ac.length,.bool false,.any,.aa false (bE (oK e)),aL (oK e).length,aL (oK e).length,.bool false,.any],[.arr 1 0 [.agg [.aa b (e.map EN.a)]],.arr 1 0 [.aa bk (bE ac)]]⟩)
    (fun o=>∃s,o=(.ret,s)∧jF .pure [.env 4,.env 5] (some (.ret,s))=some (.tup [aL 0,aL 2]))
    (fun k y hk' hy hp=>by
     have aj:((k:Int)<((oK e).length:Int)):=by omega
     have hp':¬((ac.length:Int)≤y):=by simpa using hp
     simp[AR,aj,hy,hp',bJ hk' (by omega),bX])
    (fun k y hk' hy hp=>by
     have aj:((k:Int)<((oK e).length:Int)):=by omega
     have hp':((ac.length:Int)≤y):=by simpa using hp
     exact⟨_,by simp[AR,aj,hy,hp'];rfl,_,rfl,by simp⟩)
    (by simp[AR])
   simp at h1;rcases h2 with⟨hb,h2⟩|⟨hb,o,h2,s,rfl,h3⟩
   ·rw[hb]
    have hover:=fun b=>Uz b e hn ho (.fn I.qdk [] [.cptr true (.aa bk (bE ac)) 0]) (fun fl top base σ h=>by cases fl<;>cases top<;>simp at h ⊢) (na ac) (fun _=>True) (fun _ _ _ _ _ _ _=>trivial)
     (fun n hne l hl hcn _ σ x hx=>by
      have:=ny n.tag
      have hk1:=Pf n true l bk ac (by unfold aV;omega) (fun ht=>by
       obtain⟨h1,h2⟩:=Fc hcn ht;have:=dX.1 hb n.col (HQ hne ht);simp at this;exact⟨h1,by omega⟩)
      have hna:fz true false 0 σ 20 n.a=n.a:=Fx.fx true false 0 σ 17 n;simp only[Dd]at hx;simp[hx,hna,hk1])
    simp at h2;simp[aof,Mv,hc,h1,hC,h2,hover]
   rw[hb];simp at h2;simp[aof,Mv,hc,h1,hC,h2,-mA];exact h3
  rw[ha];simp at h1;simp[aof,Mv,hc,h1,-mA];exact h2
def Ay(t:Int):Int:=if t<1∨23<t then -1 else if t≤3 then 0 else if t≤11 then 1 else 2
theorem SX(t:Int):bI I.qbm [aL t]=some (aL (Ay t)):=by
 rw[aQ agf rfl];unfold Ay;by_cases h1:t<1
 ·simp[an7,Hg,h1]
 by_cases h2:23<t
 ·simp[an7,Hg,h1,h2]
 by_cases h3:t≤3
 ·simp[an7,Hg,h1,h2,h3]
 by_cases h4:t≤11
 ·simp[an7,Hg,h1,h2,h3,h4]
 simp[an7,Hg,h1,h2,h3,h4]
theorem S9(t:Int):bI I.qbo [aL t]=some (aL (b8 t)):=by
 rw[aQ af5 rfl];have h:=SX t;have hp:b8 t=if t=3∨(8≤t∧t≤11) then -1 else Ay t:=by
  unfold b8 Ay
  repeat' split
  all_goals omega
 rw[hp];generalize Ay t=p at *;by_cases h1:t=3
 ·subst h1;simp[aob,Lb]
 by_cases h2:8≤t
 ·by_cases h3:t≤11
  ·simp[aob,Lb,h1,aP h1,h2,h3]
  simp[aob,Lb,h1,aP h1,h2,h3,h]
 simp[aob,Lb,h1,aP h1,h2,h]
theorem Wg(k n u:Int)(s:List UInt8):Z4 ⟨k,n,u,s⟩=if k=0 then (decide (n=0)&&decide (u=0)&&decide (s=[])) else if k=1 then (decide (u=0)&&decide (s=[])&&(decide (n=0) ||decide (n=1)))
  else if k=2 then (decide (u=0)&&decide (s=[])) else if k=3 then (decide (n=0)&&decide (u=0)&&decide (s.length≤40)) else (decide (k=4)&&decide (s=[])):=by
 rw[cS];simp only[Z4,Fp,aG];by_cases h0:k=0
 ·subst h0;simp[and_assoc]
 by_cases h1:k=1
 ·subst h1;by_cases a:n=0
  ·simp[a]
  by_cases b:n=1
  ·simp[b]
  simp[a,b]
 by_cases h2:k=2
 ·subst h2;simp
 by_cases h3:k=3
 ·subst h3;by_cases a:s.length≤40<;>simp[a]
 by_cases h4:k=4
 ·subst h4;simp
 simp[h0,h1,h2,h3,h4]
theorem IT(s:List UInt8):(s==[])=decide (s=[]):=by cases s<;>rfl
theorem SJ(w:nQ):bI I.qbe [w.a]=some (.bool (Z4 w)):=by
 rw[aQ ag0 rfl];have hz:=Ku w;obtain⟨k,n,u,s⟩:=w;simp only at hz;rw[Wg];by_cases h0:k=0
 ·subst h0;have e:((⟨0,n,u,s⟩:nQ)==rU)=(decide (n=0)&&decide (u=0)&&decide (s=[])):=by
   rw[cS];simp[rU,and_assoc]
  rw[e]at hz;simp[anK,pY,nQ.a,hz,-d7,-Bool.and_eq_true]
 by_cases h1:k=1
 ·subst h1;by_cases hu:u=0
  ·by_cases hs:s=[]
   ·by_cases hn0:n=0
    ·subst hu hs hn0;simp[anK,pY,nQ.a,ej]
    by_cases hn1:n=1
    ·subst hu hs hn1;simp[anK,pY,nQ.a,ej]
    subst hu hs;simp[anK,pY,nQ.a,ej,aP hn0,aP hn1,hn0,hn1]
   have hs':(s==[])=false:=by rw[IT];simp[hs]
   subst hu;simp[anK,pY,nQ.a,ej,hs,hs']
  simp[anK,pY,nQ.a,ej,hu,aP hu]
 by_cases h2:k=2
 ·subst h2;by_cases hu:u=0
  ·by_cases hs:s=[]
   ·subst hu hs;simp[anK,pY,nQ.a,ej]
   have hs':(s==[])=false:=by rw[IT];simp[hs]
   subst hu;simp[anK,pY,nQ.a,ej,hs,hs']
  simp[anK,pY,nQ.a,ej,hu,aP hu]
 by_cases h3:k=3
 ·subst h3;by_cases hn0:n=0
  ·by_cases hu:u=0
   ·by_cases hl:s.length≤40
    ·have hl':(s.length:Int)≤40:=by omega
     subst hu hn0;simp[anK,pY,nQ.a,ej,hl,hl']
    have hl':¬(s.length:Int)≤40:=by omega
    subst hu hn0;simp[anK,pY,nQ.a,ej,hl,hl']
   subst hn0;simp[anK,pY,nQ.a,ej,hu,aP hu]
  simp[anK,pY,nQ.a,ej,hn0,aP hn0]
 by_cases h4:k=4
 ·subst h4;by_cases hs:s=[]
  ·subst hs;simp[anK,pY,nQ.a,ej]
  have hs':(s==[])=false:=by rw[IT];simp[hs]
  simp[anK,pY,nQ.a,ej,hs,hs']
 simp[anK,pY,ej,nQ.a,aP h0,aP h1,aP h2,aP h3,aP h4,h0,h1,h2,h3,h4]
theorem SI(w:nQ):bI I.qbd [w.a]=some (.bool (tA w)):=by
 rw[aQ ahy rfl];have h:=SJ w;unfold tA;simp only[nQ.a]at *;cases hv:Z4 w<;>rw[hv]at h<;>simp[ao7,abX,h]
theorem Pn(n:EN):bI I.qbs [n.a]=some (.bool (fb n)):=by
 rw[aQ afS rfl];have hp:=SI n.v;have hz:=Ku n.v;obtain⟨t,l,r,c,w⟩:=n;simp only[nQ.a]at hp hz;unfold fb;simp only;by_cases h1:t=1
 ·subst h1;cases hv:tA w<;>rw[hv]at hp<;>simp[aor,QQ,EN.a,hp]
 by_cases h2:t=2
 ·subst h2;cases hv:(w==rU)<;>rw[hv]at hz<;>by_cases hc:0≤c<;>by_cases hc2:c<16<;>simp[aor,QQ,EN.a,hz,hc,hc2,-d7]
 cases hv:(w==rU)<;>rw[hv]at hz<;>simp[aor,QQ,EN.a,hz,h1,h2,aP h1,aP h2,-d7]
def dR(e:List EN):Nat→Nat
 |0=>0
 |m+1=>
  match e[m]? with
  |none=>0
  |some n=>
   if b8 n.tag<0∨fb n=false then 0
   else if b8 n.tag=0 then (if n.l=-1∧n.r=-1 then 1 else 0)
   else if dR e m=0 then 0
   else if b8 n.tag=1 then (if n.l=(m:Int)-1∧n.r=-1 then dR e m+1 else 0)
   else if dR e (m-dR e m)=0∨n.r≠(m:Int)-1∨n.l≠(m:Int)-1-dR e m then 0
   else dR e (m-dR e m)+dR e m+1
termination_by m=>m
decreasing_by all_goals omega
theorem vV(e:List EN):∀m,dR e m≤m:=by
 intro m;induction m using Nat.strongRecOn with
 |_ m ih=>
  cases m with
  |zero=>simp[dR]
  |succ m=>
   have h1:=ih m (by omega);have h2:=ih (m-dR e m) (by omega);rw[dR];split
   ·omega
   repeat' split
   all_goals omega
theorem Vk(_:Bool)(e:List EN)(hn:e.length≤aV):∀m:Nat,∀b,m≤e.length→bI I.qbv [tJ b e,aL ((m:Int)-1)]=some (aL (dR e m)):=by
 intro m;induction m using Nat.strongRecOn with
 |_ m ih=>
  intro b hm;rw[aQ akz rfl];cases m with
  |zero=>simp[anM,rx,tJ,dR]
  |succ m=>
   have hmm:((m+1:Nat):Int)-1=(m:Int):=by omega
   rw[hmm];have aj:m<e.length:=by omega
   have hg:=En aj;obtain⟨n,hnn⟩:∃n,e[m]=n:=⟨_,rfl⟩;have hn':e[m]?=some n:=by rw[←hnn];exact aq aj
   rw[hnn]at hg;have hge:¬((e.length:Int)≤m):=by omega
   have hneg:¬((m:Int)<0):=by omega
   have hp:=S9 n.tag;have hc:=Pn n;have hw:IntKind.i64.wrap ((m:Int)-1)=(m:Int)-1:=dT (by unfold aV at *;omega);rw[dR,hn'];simp only;have hle:=vV e m;have i1:=fun b=>ih m (by omega) b (by omega);have i2:=fun b=>ih (m-dR e m) (by omega) b (by omega);unfold tJ at i1 i2 ⊢;obtain⟨t,l,r,c,w⟩:=n;simp only[EN.a]at hg hc;simp only at hp ⊢;generalize fb ⟨t,l,r,c,w⟩=cb at *;have hpl:=ny t;generalize b8 t=p at *;by_cases hp0:p<0
   ·simp[anM,rx,hge,hneg,hg,hp,hp0]
   cases cb with
   |false=>simp[anM,rx,hge,hneg,hg,hp,hp0,hc]
   |true=>
    by_cases e0:p=0
    ·subst e0;by_cases hl:l=-1
     ·subst hl;by_cases hr:r=-1
      ·subst hr;simp[anM,rx,hge,hneg,hg,hp,hc]
      simp[anM,rx,hge,hneg,hg,hp,hc,hr,df hr]
     simp[anM,rx,hge,hneg,hg,hp,hc,hl,df hl]
    by_cases z1:dR e m=0
    ·simp[anM,rx,hge,hneg,hg,hp,hc,hp0,aP e0,e0,hw,i1,z1]
    have z1':¬((dR e m:Int)=0):=by omega
    by_cases e1:p=1
    ·subst e1;have hw1:IntKind.i64.wrap ((dR e m:Int)+1)=(dR e m:Int)+1:=dT (by unfold aV at *;omega);by_cases hl:l=(m:Int)-1
     ·subst hl;by_cases hr:r=-1
      ·subst hr;simp[anM,rx,hge,hneg,hg,hp,hc,hw,hw1,i1,z1,z1',aP z1']
      simp[anM,rx,hge,hneg,hg,hp,hc,hw,hw1,i1,z1,z1',aP z1',hr,df hr]
     simp[anM,rx,hge,hneg,hg,hp,hc,hw,hw1,i1,z1,z1',aP z1',hl,df hl]
    have hp2:p=2:=by omega
    subst hp2;generalize hs:dR e m=q at *;have hle2:=vV e (m-q);have hc2:((m-q:Nat):Int)=(m:Int)-q:=by omega
    rw[hc2]at i2;have hw2:IntKind.i64.wrap ((m:Int)-1-q)=(m:Int)-1-q:=dT (by unfold aV at *;omega);have hsw:(m:Int)-q-1=(m:Int)-1-q:=by omega
    rw[hsw]at i2;generalize dR e (m-q)=f at *;have hw3:IntKind.i64.wrap ((f:Int)+q)=(f:Int)+q:=dT (by unfold aV at *;omega);have hw4:IntKind.i64.wrap ((f:Int)+q+1)=(f:Int)+q+1:=dT (by unfold aV at *;omega);by_cases z2:f=0
    ·subst z2;simp[anM,rx,hge,hneg,hg,hp,hc,hw,i1,z1,z1',aP z1',hw2,i2]
    have z2':¬((f:Int)=0):=by omega
    by_cases hr:r=(m:Int)-1
    ·subst hr;by_cases hl:l=(m:Int)-1-q
     ·subst hl;simp[anM,rx,hge,hneg,hg,hp,hc,hw,i1,z1,z1',aP z1',hw2,i2,z2,z2',aP z2',hw3,hw4]
     simp[anM,rx,hge,hneg,hg,hp,hc,hw,i1,z1,z1',aP z1',hw2,i2,z2,z2',aP z2',hw3,hw4,hl,df hl]
    simp[anM,rx,hge,hneg,hg,hp,hc,hw,i1,z1,z1',aP z1',hw2,i2,z2,z2',aP z2',hw3,hw4,hr,df hr]
def EF(e:List EN):Bool:=decide (1≤e.length)&&decide (e.length≤1000)&&decide (dR e e.length=e.length)
theorem S4(b:Bool)(e:List EN)(hn:e.length≤aV):bI I.qbp [tJ b e]=some (.bool (EF e)):=by
 rw[aQ afl rfl];have h:=fun b=>Vk b e hn e.length b (aB _);have hle:=vV e e.length;unfold tJ at h ⊢;unfold EF;have hw:IntKind.i64.wrap ((e.length:Int)-1)=(e.length:Int)-1:=dT (by unfold aV at *;omega);by_cases h1:1≤e.length
 ·have h1':(1:Int)≤e.length:=by omega
  by_cases h2:e.length≤1000
  ·have h2':(e.length:Int)≤1000:=by omega
   by_cases h3:dR e e.length=e.length
   ·simp[aoc,MZ,h1,h1',h2,h2',hw,h,h3]
   have h3':¬((dR e e.length:Int)=e.length):=by omega
   simp[aoc,MZ,h1,h1',h2,h2',hw,h,h3,h3',aP h3']
  have h2':¬(e.length:Int)≤1000:=by omega
  simp[aoc,MZ,h1,h1',h2,h2']
 have h1':¬(1:Int)≤e.length:=by omega
 simp[aoc,MZ,h1,h1']
def RG(e:List EN):Nat→List Nat→Prop
 |k,[]=>k=0
 |k,p::r=>k=p+1∧0<dR e k∧RG e (k-dR e k) r
theorem Hp{e:List EN}{m:Nat}{n:EN}(hn:e[m]?=some n):dR e (m+1) =
   if b8 n.tag<0∨fb n=false then 0
   else if b8 n.tag=0 then (if n.l=-1∧n.r=-1 then 1 else 0)
   else if dR e m=0 then 0
   else if b8 n.tag=1 then (if n.l=(m:Int)-1∧n.r=-1 then dR e m+1 else 0)
   else if dR e (m-dR e m)=0∨n.r≠(m:Int)-1∨n.l≠(m:Int)-1-dR e m then 0
   else dR e (m-dR e m)+dR e m+1:=by
 rw[dR,hn]
theorem S8{e:List EN}{k:Nat}{n:EN}(hn:e[k]?=some n){a o a' o':List Nat}(ht:RG e k o.reverse)(hs:lD k n a o=some (a',o')):RG e (k+1) o'.reverse∧a'.length=a.length+1:=by
 have h1:=Hp hn;unfold lD at hs;split at hs
 ·cases hs
 rename_i hc;have hc1:¬(b8 n.tag<0∨fb n=false):=fun h=>hc (h.elim .inl fun h=>.inr (.inr h));have hc2:b8 n.tag≤o.length:=by
  have:¬((o.length:Int)<b8 n.tag):=fun h=>hc (.inr (.inl h));omega
 have hpl:=ny n.tag;rw[if_neg hc1]at h1;have hp0:0≤b8 n.tag:=by
  have:¬(b8 n.tag<0):=fun h=>hc1 (.inl h);omega
 clear hc hc1;rcases (by omega:b8 n.tag=0∨b8 n.tag=1∨b8 n.tag=2) with hp|hp|hp
 ·rw[hp]at hs h1;simp only[lm,mM,gP]at hs;split at hs
  ·rename_i hlr;cases hs;rw[if_pos rfl,if_pos hlr]at h1;refine⟨?_,by simp⟩;rw[ga];refine⟨rfl,by rw[h1];decide,?_⟩;rw[h1];simpa using ht
  cases hs
 ·rw[hp]at hs h1 hc2;obtain⟨o0,p,rfl⟩:∃o0 p,o=o0++[p]:=by
   rcases eT o with h|⟨o0,p,h⟩
   ·subst h;simp at hc2
   exact⟨o0,p,by simpa using h⟩
  have e1:(o0++[p]).drop ((o0++[p]).length-(1:Int).toNat)=[p]:=by
   have:(o0++[p]).length-(1:Int).toNat=o0.length:=by simp
   rw[this,fE]
  rw[e1]at hs;simp only at hs;rw[ga]at ht;obtain⟨t1,t2,t3⟩:=ht;split at hs
  ·rename_i hlr;cases hs;have t2':dR e k≠0:=by omega
   rw[if_neg (by decide),if_neg t2',if_pos rfl,if_pos ⟨by omega,hlr.2⟩]at h1;refine⟨?_,by simp⟩;have e2:(o0++[p]).take ((o0++[p]).length-1)=o0:=by
    have:(o0++[p]).length-1=o0.length:=by simp
    rw[this,fC]
   rw[e2,ga];refine⟨rfl,by rw[h1];omega,?_⟩;rw[h1,show k+1-(dR e k+1)=k-dR e k by omega];exact t3
  cases hs
 rw[hp]at hs h1 hc2;obtain⟨o0,p,q,rfl⟩:∃o0 p q,o=o0++[p,q]:=by
  rcases eT o with h|⟨o1,q,h⟩
  ·subst h;simp at hc2
  rcases eT o1 with h'|⟨o0,p,h'⟩
  ·subst h' h;simp at hc2
  exact⟨o0,p,q,by rw[h,h'];simp⟩
 have e1:(o0++[p,q]).drop ((o0++[p,q]).length-(2:Int).toNat)=[p,q]:=by
  have:(o0++[p,q]).length-(2:Int).toNat=o0.length:=by simp
  rw[this,fE]
 rw[e1]at hs;simp only at hs;rw[ga]at ht;obtain⟨t1,t2,t3,t4,t5⟩:=ht;split at hs
 ·rename_i hlr;cases hs;have t2':dR e k≠0:=by omega
  rw[if_neg (by decide),if_neg t2',if_neg (by decide),if_neg (by
   rintro (h|h|h)
   ·omega
   ·exact h (by omega)
   exact h (by omega))]at h1
  refine⟨?_,by simp⟩;have e2:(o0++[p,q]).take ((o0++[p,q]).length-2)=o0:=by
   have:(o0++[p,q]).length-2=o0.length:=by simp
   rw[this,fC]
  rw[e2,ga];refine⟨rfl,by rw[h1];omega,?_⟩;rw[h1,show k+1-(dR e (k-dR e k)+dR e k+1)=k-dR e k-dR e (k-dR e k) by omega];exact t5
 cases hs
theorem wT(e:List EN):∀k,k≤e.length→∀a o,ff (e.take k) 0 [] []=some (a,o)→RG e k o.reverse∧a.length=k:=by
 intro k;induction k with
 |zero=>
  intro _ a o h;simp[ff]at h;obtain⟨rfl,rfl⟩:=h;exact⟨rfl,rfl⟩
 |succ k ih=>
  intro hk a o h;have aj:k<e.length:=by omega
  rw[cV aj,nH]at h;cases hf:ff (e.take k) 0 [] [] with
  |none=>rw[hf]at h;cases h
  |some q=>
   obtain⟨a1,o1⟩:=q;rw[hf]at h;simp only[dk,cu,cz]at h;rw[ec (by omega)]at h;obtain⟨i1,i2⟩:=ih (by omega) a1 o1 hf;obtain⟨j1,j2⟩:=S8 (aq aj) i1 h;exact⟨j1,by omega⟩
theorem MN(e:List EN):∀m,m≤e.length→0<dR e m→∀a o,ff (e.take (m-dR e m)) 0 [] []=some (a,o)→∃a',ff (e.take m) 0 [] []=some (a',o++[m-1]):=by
 intro m;induction m using Nat.strongRecOn with
 |_ m ih=>
  intro hm h0 a o hf;cases m with
  |zero=>simp[dR]at h0
  |succ m=>
   have aj:m<e.length:=by omega
   have hn:e[m]?=some e[m]:=aq aj;have h1:=Hp hn;have hstep:∀a1 o1,ff (e.take m) 0 [] []=some (a1,o1)→ff (e.take (m+1)) 0 [] []=lD m e[m] a1 o1:=fun a1 o1 h=>by
    rw[cV aj,nH,h];simp only[dk,cu,cz];rw[ec (by omega)]
   have hpl:=ny e[m].tag;generalize e[m]=n at *;by_cases c1:b8 n.tag<0∨fb n=false
   ·rw[if_pos c1]at h1;omega
   rw[if_neg c1]at h1;have c1a:¬b8 n.tag<0:=fun h=>c1 (.inl h);have c1b:fb n≠false:=fun h=>c1 (.inr h);rcases (by omega:b8 n.tag=0∨b8 n.tag=1∨b8 n.tag=2) with hp|hp|hp
   ·rw[if_pos hp]at h1;split at h1
    ·rename_i hlr;rw[h1]at hf;rw[show m+1-1=m by omega]at hf;rw[hstep a o hf];unfold lD;rw[if_neg (by
      rintro (h|h|h)
      ·exact c1a h
      ·omega
      exact c1b h),hp]
     simp only[lm,mM,gP,if_pos hlr];exact⟨_,rfl⟩
    omega
   ·rw[if_neg (by omega)]at h1;split at h1
    ·omega
    rename_i z1
    try rw[if_pos hp]at h1
    split at h1
    ·rename_i hlr;rw[h1,show m+1-(dR e m+1)=m-dR e m by omega]at hf;obtain⟨a1,hf1⟩:=ih m (by omega) (by omega) (by omega) a o hf;have hm0:m≠0:=fun h=>by subst h;simp[dR]at z1
     rw[hstep _ _ hf1];unfold lD;have e1:(o++[m-1]).drop ((o++[m-1]).length-(1:Int).toNat)=[m-1]:=by
      have:(o++[m-1]).length-(1:Int).toNat=o.length:=by simp
      rw[this,fE]
     have e2:(o++[m-1]).take ((o++[m-1]).length-1)=o:=by
      have:(o++[m-1]).length-1=o.length:=by simp
      rw[this,fC]
     rw[if_neg (by
      rintro (h|h|h)
      ·exact c1a h
      ·simp at h;omega
      exact c1b h),hp,e1]
     simp only;rw[if_pos ⟨by omega,hlr.2⟩,e2];exact⟨_,rfl⟩
    omega
   rw[if_neg (by omega)]at h1;split at h1
   ·omega
   rename_i z1
   try rw[if_neg (show ¬b8 n.tag=1 by omega)]at h1
   split at h1
   ·omega
   rename_i z2;have y1:dR e (m-dR e m)≠0:=fun h=>z2 (.inl h);have y2:n.r=(m:Int)-1:=dP fun h=>z2 (.inr (.inl h));have y3:n.l=(m:Int)-1-dR e m:=dP fun h=>z2 (.inr (.inr h));have hle:=vV e m;rw[h1,show m+1-(dR e (m-dR e m)+dR e m+1)=(m-dR e m)-dR e (m-dR e m) by omega]at hf;obtain⟨a1,hf1⟩:=ih (m-dR e m) (by omega) (by omega) (by omega) a o hf;obtain⟨a2,hf2⟩:=ih m (by omega) (by omega) (by omega) a1 _ hf1;have hm0:m-dR e m≠0:=fun h=>by rw[h]at y1;simp[dR]at y1
   rw[hstep _ _ hf2];rw[iT,bV,bN];unfold lD;generalize hpq:m-dR e m-1=p at *;have e1:(o++[p,m-1]).drop ((o++[p,m-1]).length-(2:Int).toNat)=[p,m-1]:=by
    have:(o++[p,m-1]).length-(2:Int).toNat=o.length:=by simp
    rw[this,fE]
   have e2:(o++[p,m-1]).take ((o++[p,m-1]).length-2)=o:=by
    have:(o++[p,m-1]).length-2=o.length:=by simp
    rw[this,fC]
   rw[if_neg (by
    rintro (h|h|h)
    ·exact c1a h
    ·simp at h;omega
    exact c1b h),hp,e1]
   simp only;rw[if_pos ⟨by omega,by omega⟩,e2];exact⟨_,rfl⟩
theorem LY(e:List EN):EF e=GC e:=by
 rw[cS];unfold EF GC;have hle:=vV e e.length;constructor
 ·intro h;simp only[am,aR]at h;obtain⟨⟨h1,h2⟩,h3⟩:=h;obtain⟨a,ha⟩:=MN e e.length (aB _) (by omega) [] [] (by rw[h3,Nat.sub_self];rfl);have hl:=(wT e e.length (aB _) _ _ ha).2;rw[dv]at ha;rw[ha];simp;omega
 intro h;cases hf:ff e 0 [] [] with
 |none=>rw[hf]at h;cases h
 |some q=>
  obtain⟨a,o⟩:=q;rw[hf]at h;simp only[am,aG,aR]at h;obtain⟨t,hl⟩:=wT e e.length (aB _) a o (by rw[dv];exact hf)
  match o,h.1 with
  |[p],_=>
   obtain⟨t1,t2,t3⟩:=t;have t3':e.length-dR e e.length=0:=t3;simp only[am,aR];omega
theorem PI(b:Bool)(e:List EN)(hn:e.length≤aV):bI I.qbp [tJ b e]=some (.bool (GC e)):=by
 rw[←LY];exact S4 b e hn
def qz(k w:Int):Bool:=k==w ||k==0
theorem Vy(k w:Int):bI I.qbt [aL k,aL w]=some (.bool (qz k w)):=by
 rw[aQ afi rfl];unfold qz;by_cases h:k=w
 ·simp[aoW,Wc,h]
 simp[aoW,Wc,aP h]
def jc(t l r:Int):Int×Bool:=
 if t=4∨(12≤t∧t≤15) then (2,qz l 2&&qz r 2)
 else if t=5∨22≤t then (1,qz l 1&&qz r 1)
 else if t=6∨t=7 then (1,true)
 else (1,l==r ||l==0 ||r==0)
theorem Xc(t l r:Int):bI I.qbu [aL t,aL l,aL r]=some (.tup [aL (jc t l r).1,.bool (jc t l r).2]):=by
 rw[aQ aeX rfl];have h:=Vy;unfold jc;by_cases c1:t=4∨(12≤t∧t≤15)
 ·rw[if_pos c1];have a1:=h l 2;have a2:=h r 2;generalize qz l 2=x at *;generalize qz r 2=y at *;rcases c1 with c1|⟨c1,c2⟩
  ·subst c1;cases x<;>simp[anN,vt,a1,a2]
  have c3:¬t=4:=by omega
  cases x<;>simp[anN,vt,a1,a2,aP c3,c1,c2]
 rw[if_neg c1];have n4:¬t=4:=fun h=>c1 (.inl h);have n12:12≤t→¬t≤15:=fun h h'=>c1 (.inr ⟨h,h'⟩);have hb:(if 12≤t then decide (t≤15) else false)=false:=by
  by_cases h:12≤t
  ·simp[n12 h]
  simp[h]
 by_cases c2:t=5∨22≤t
 ·rw[if_pos c2];have a1:=h l 1;have a2:=h r 1;generalize qz l 1=x at *;generalize qz r 1=y at *;rcases c2 with c2|c2
  ·subst c2;cases x<;>simp[anN,vt,a1,a2]
  have m1:¬t=5:=by omega
  have m2:12≤t:=by omega
  have m3:¬t≤15:=by omega
  cases x<;>simp[anN,vt,a1,a2,aP n4,aP m1,m2,m3,c2]
 rw[if_neg c2];have n5:¬t=5:=fun h=>c2 (.inl h);have n22:¬22≤t:=fun h=>c2 (.inr h);by_cases c3:t=6∨t=7
 ·rw[if_pos c3];rcases c3 with c3|c3<;>subst c3<;>simp[anN,vt]
 rw[if_neg c3];have n6:¬t=6:=fun h=>c3 (.inl h);have n7:¬t=7:=fun h=>c3 (.inr h);by_cases m2:12≤t
 ·have m3:=n12 m2;by_cases x1:l=r
  ·simp[anN,vt,aP n4,aP n5,aP n6,aP n7,m2,m3,n22,x1]
  by_cases x2:l=0
  ·subst x2;simp[anN,vt,aP n4,aP n5,aP n6,aP n7,m2,m3,n22,x1,aP x1]
  simp[anN,vt,aP n4,aP n5,aP n6,aP n7,m2,m3,n22,aP x1,aP x2]
 by_cases x1:l=r
 ·simp[anN,vt,aP n4,aP n5,aP n6,aP n7,m2,n22,x1]
 by_cases x2:l=0
 ·subst x2;simp[anN,vt,aP n4,aP n5,aP n6,aP n7,m2,n22,x1,aP x1]
 simp[anN,vt,aP n4,aP n5,aP n6,aP n7,m2,n22,aP x1,aP x2]
def CQ(ac:List Int)(_:Nat)(n:EN)(own:List Int):List Int⊕Unit:=
 if n.tag=1 then .inl (own++[n.v.k]) else if n.tag=2 then .inl (own++[ac.getD n.col.toNat 0]) else
 if (jc n.tag (own.getD n.l.toNat 0) (if 0≤n.r then own.getD n.r.toNat 0 else 0)).2=true then .inl (own++[(jc n.tag (own.getD n.l.toNat 0) (if 0≤n.r then own.getD n.r.toNat 0 else 0)).1]) else .inr ()
theorem yY{α σ ρ:Type}(g:Nat→α→σ→σ⊕ρ)(y:α):∀(l:List α) (k:Nat) (s:σ),dm g (l++[y]) k s=match dm g l k s with
  |.inl s'=>g (k+l.length) y s'
  |.inr r=>.inr r
 |[],k,s=>by
  simp only[bN,dm,cK,eF];cases g k y s<;>rfl
 |x::l,k,s=>by
  simp only[bV,dm,cn];cases g k x s with
  |inl s'=>
   simp only;rw[yY g y l (k+1) s',show k+1+l.length=k+(l.length+1) by omega]
  |inr r=>rfl
def Ka(k:Int):Prop:=0≤k∧k≤3
theorem Zq{v:nQ}(h:tA v=true):Ka v.k:=by
 obtain⟨k,n,u,s⟩:=v;unfold tA at h;simp only[am,fV,ne_eq]at h;obtain⟨h1,h2⟩:=h;rw[Wg]at h1;unfold Ka;simp only;split at h1
 ·omega
 split at h1
 ·omega
 split at h1
 ·omega
 split at h1
 ·omega
 simp at h1;omega
theorem WK{ac:List Int}{n:EN}(h:b8 n.tag=1){x:Int}(hx:Ka x):na ac n [x]=if (jc n.tag x 0).2=true then ((jc n.tag x 0).1,0) else (0,201):=by
 unfold b8 at h;have ht:4≤n.tag∧n.tag≤7:=by
  split at h
  ·omega
  split at h
  ·assumption
  split at h<;>omega
 unfold Ka at hx;unfold na jc Bs qz Sc;rcases (by omega:n.tag=4∨n.tag=5∨n.tag=6∨n.tag=7) with h|h|h|h<;>rcases (by omega:x=0∨x=1∨x=2∨x=3) with h'|h'|h'|h'<;>rw[h,h']<;>rfl
theorem W6{ac:List Int}{n:EN}(h:b8 n.tag=2){x y:Int}(hx:Ka x)(hy:Ka y):na ac n [x,y]=if (jc n.tag x y).2=true then ((jc n.tag x y).1,0) else (0,201):=by
 unfold b8 at h;have ht:12≤n.tag∧n.tag≤23:=by
  split at h
  ·omega
  split at h
  ·omega
  split at h
  ·assumption
  omega
 unfold Ka at hx hy;unfold na jc Bs qz Sc;rcases (by omega:(n.tag=12∨n.tag=13∨n.tag=14∨n.tag=15)∨(n.tag=22∨n.tag=23)∨(n.tag=16∨n.tag=17∨n.tag=18∨n.tag=19∨n.tag=20∨n.tag=21)) with h|h|h
 all_goals
  rcases (by omega:x=0∨x=1∨x=2∨x=3) with h'|h'|h'|h'<;>rcases (by omega:y=0∨y=1∨y=2∨y=3) with h''|h''|h''|h''<;>rw[h',h'']<;>clear h' h''
 all_goals
  first
   |(rcases h with h|h|h|h<;>rw[h]<;>rfl)
   |(rcases h with h|h|h|h|h|h<;>rw[h]<;>rfl)
   |(rcases h with h|h<;>rw[h]<;>rfl)
theorem Mu{t l r:Int}:Ka (jc t l r).1:=by
 unfold jc Ka
 repeat' split
 all_goals (simp only;omega)
def Gv(ac:List Int)(e:List EN)(k:Nat)(o:List Nat):Prop:=
 (∃own,dm (CQ ac) (e.take k) 0 []=.inl own∧own.length=k∧(∀x∈own,Ka x)∧dm (vz (na ac)) (e.take k) 0 []=.inl (o.map fun p=>own.getD p 0)) ∨
 (dm (CQ ac) (e.take k) 0 []=.inr ()∧dm (vz (na ac)) (e.take k) 0 []=.inr 201)
theorem zH{own:List Int}(h:∀x∈own,Ka x)(p:Nat):Ka (own.getD p 0):=by
 rw[aE];cases hp:own[p]? with
 |none=>exact⟨by decide,by decide⟩
 |some x=>exact h x (aD hp)
theorem Av{own:List Int}{k:Nat}(hl:own.length=k)(x:Int){o:List Nat}(ho:∀p∈o,p<k):(o.map fun p=>(own++[x]).getD p 0)=o.map fun p=>own.getD p 0:=
 aU fun p hp=>by
  have:=ho p hp;simp only[aE];rw[bu (by omega)]
theorem xo{own:List Int}{k:Nat}(hl:own.length=k)(x:Int):(own++[x]).getD k 0=x:=by
 rw[aE,bY (by omega),hl,Nat.sub_self];rfl
theorem zq{own:List Int}{x:Int}(h:∀x∈own,Ka x)(hx:Ka x):∀y∈own++[x],Ka y:=fun y hy=>by
 rcases cq.1 hy with h'|h'
 ·exact h y h'
 rw[cg.1 h'];exact hx
theorem Tz{ac:List Int}{e:List EN}{k:Nat}{n:EN}(hn:e[k]?=some n)(hks:∀x∈ac,Ka x){a o a' o':List Nat}(ho:∀p∈o,p<k)(hs:lD k n a o=some (a',o'))(h:Gv ac e k o):Gv ac e (k+1) o':=by
 obtain⟨hk,he⟩:=ak.1 hn;have htk:e.take (k+1)=e.take k++[n]:=by rw[cV hk,he]
 have hlk:(e.take k).length=k:=by rw[cz];omega
 unfold Gv;rw[htk,yY,yY];rcases h with⟨own,h1,h2,h3,h4⟩|⟨h1,h2⟩
 ·rw[h1,h4];simp only;unfold lD at hs;split at hs
  ·cases hs
  rename_i hc;have hcn:fb n=true:=by
   cases hq:fb n
   ·exact absurd (.inr (.inr hq)) hc
   rfl
  have hpl:=ny n.tag;have hp0:0≤b8 n.tag:=by
   have:¬(b8 n.tag<0):=fun h=>hc (.inl h);omega
  have hc2:b8 n.tag≤o.length:=by
   have:¬((o.length:Int)<b8 n.tag):=fun h=>hc (.inr (.inl h));omega
  clear hc;rcases (by omega:b8 n.tag=0∨b8 n.tag=1∨b8 n.tag=2) with hp|hp|hp
  ·rw[hp]at hs;simp only[lm,mM,gP]at hs;split at hs
   ·cases hs;have ht:n.tag=1∨n.tag=2:=by
     unfold b8 at hp;split at hp
     ·assumption
     split at hp
     ·omega
     split at hp<;>omega
    left;unfold CQ vz;rw[hp];simp only[lm,mM,gP,cR,ay,aB];have e0:(o.map fun p=>own.getD p 0).drop o.length=[]:=List.drop_of_length_le (by simp);have e1:(o.map fun p=>own.getD p 0).take o.length=o.map fun p=>own.getD p 0:=ay (by simp)
    first|rw[e0,e1]|rw[e0]
    rcases ht with ht|ht
    ·have hv:=Zq (v:=n.v) (by
      unfold fb at hcn;rw[if_pos ht]at hcn;exact (am _ _▸hcn).1)
     rw[if_pos ht];refine⟨_,rfl,by simp[h2],zq h3 hv,?_⟩;unfold na;simp only[List.foldl_nil,if_pos ht,bR,cH,cE];rw[if_pos trivial,Av h2 _ ho,xo h2]
    have ht1:¬n.tag=1:=by omega
    rw[if_neg ht1,if_pos ht];refine⟨_,rfl,by simp[h2],zq h3 (zH hks _),?_⟩;unfold na;simp only[List.foldl_nil,if_neg ht1,if_pos ht,bR,cH,cE];rw[if_pos trivial,Av h2 _ ho,xo h2]
   cases hs
  ·have ht:¬n.tag=1∧¬n.tag=2:=by
    unfold b8 at hp;split at hp
    ·omega
    omega
   rw[hp]at hs hc2;obtain⟨o0,p,rfl⟩:∃o0 p,o=o0++[p]:=by
    rcases eT o with h|⟨o0,p,h⟩
    ·subst h;simp at hc2
    exact⟨o0,p,by simpa using h⟩
   have e1:(o0++[p]).drop ((o0++[p]).length-(1:Int).toNat)=[p]:=by
    have:(o0++[p]).length-(1:Int).toNat=o0.length:=by simp
    rw[this,fE]
   have e2:(o0++[p]).take ((o0++[p]).length-1)=o0:=by
    have:(o0++[p]).length-1=o0.length:=by simp
    rw[this,fC]
   rw[e1]at hs;simp only at hs;split at hs
   ·rename_i hlr;cases hs;rw[e2];have hx:=zH h3 p;have hpk:=ho p (by simp);have ho0:∀q∈o0,q<k:=fun q hq=>ho q (by simp[hq]);unfold CQ vz;rw[if_neg ht.1,if_neg ht.2,hlr.1,hlr.2,if_neg (show ¬(0:Int)≤-1 by decide),hp];simp only[iW];have f1:((o0++[p]).map fun p=>own.getD p 0).drop (((o0++[p]).map fun p=>own.getD p 0).length-(1:Int).toNat)=[own.getD p 0]:=by
     rw[bR];have:(o0.map (fun p=>own.getD p 0)++[p].map fun p=>own.getD p 0).length-(1:Int).toNat=(o0.map fun p=>own.getD p 0).length:=by simp
     rw[this,fE];rfl
    have f2:((o0++[p]).map fun p=>own.getD p 0).take (((o0++[p]).map fun p=>own.getD p 0).length-(1:Int).toNat)=o0.map fun p=>own.getD p 0:=by
     rw[bR];have:(o0.map (fun p=>own.getD p 0)++[p].map fun p=>own.getD p 0).length-(1:Int).toNat=(o0.map fun p=>own.getD p 0).length:=by simp
     rw[this,fC]
    rw[f1,f2,WK hp hx];by_cases hok:(jc n.tag (own.getD p 0) 0).2=true
    ·left;rw[if_pos hok];refine⟨_,rfl,by simp[h2],zq h3 Mu,?_⟩
     first|rw[if_pos hok]|skip
     simp only[bU];rw[bR,Av h2 _ ho0];simp only[cH,cE,xo h2]
    right;rw[if_neg hok]
    first|exact⟨rfl,rfl⟩|(refine⟨rfl,?_⟩;rw[if_neg hok];rfl)|exact⟨rfl,by simp[hok]⟩
   cases hs
  have ht:¬n.tag=1∧¬n.tag=2:=by
   unfold b8 at hp;split at hp
   ·omega
   omega
  rw[hp]at hs hc2;obtain⟨o0,p,q,rfl⟩:∃o0 p q,o=o0++[p,q]:=by
   rcases eT o with h|⟨o1,q,h⟩
   ·subst h;simp at hc2
   rcases eT o1 with h'|⟨o0,p,h'⟩
   ·subst h' h;simp at hc2
   exact⟨o0,p,q,by rw[h,h'];simp⟩
  have e1:(o0++[p,q]).drop ((o0++[p,q]).length-(2:Int).toNat)=[p,q]:=by
   have:(o0++[p,q]).length-(2:Int).toNat=o0.length:=by simp
   rw[this,fE]
  have e2:(o0++[p,q]).take ((o0++[p,q]).length-2)=o0:=by
   have:(o0++[p,q]).length-2=o0.length:=by simp
   rw[this,fC]
  rw[e1]at hs;simp only at hs;split at hs
  ·rename_i hlr;cases hs;rw[e2];have hx:=zH h3 p;have hy:=zH h3 q;have ho0:∀q∈o0,q<k:=fun q hq=>ho q (by simp[hq]);unfold CQ vz;rw[if_neg ht.1,if_neg ht.2,hlr.1,hlr.2,if_pos (show (0:Int)≤((q:Nat):Int) by omega),hp];simp only[iW];have f1:((o0++[p,q]).map fun p=>own.getD p 0).drop (((o0++[p,q]).map fun p=>own.getD p 0).length-(2:Int).toNat)=[own.getD p 0,own.getD q 0]:=by
    rw[bR];have:(o0.map (fun p=>own.getD p 0)++[p,q].map fun p=>own.getD p 0).length-(2:Int).toNat=(o0.map fun p=>own.getD p 0).length:=by simp
    rw[this,fE];rfl
   have f2:((o0++[p,q]).map fun p=>own.getD p 0).take (((o0++[p,q]).map fun p=>own.getD p 0).length-(2:Int).toNat)=o0.map fun p=>own.getD p 0:=by
    rw[bR];have:(o0.map (fun p=>own.getD p 0)++[p,q].map fun p=>own.getD p 0).length-(2:Int).toNat=(o0.map fun p=>own.getD p 0).length:=by simp
    rw[this,fC]
   rw[f1,f2,W6 hp hx hy];by_cases hok:(jc n.tag (own.getD p 0) (own.getD q 0)).2=true
   ·left;rw[if_pos hok];refine⟨_,rfl,by simp[h2],zq h3 Mu,?_⟩
    first|rw[if_pos hok]|skip
    simp only[bU];rw[bR,Av h2 _ ho0];simp only[cH,cE,xo h2]
   right;rw[if_neg hok]
   first|exact⟨rfl,rfl⟩|(refine⟨rfl,?_⟩;rw[if_neg hok];rfl)|exact⟨rfl,by simp[hok]⟩
  cases hs
 rw[h1,h2];exact .inr ⟨rfl,rfl⟩
theorem Q7{ac:List Int}{e:List EN}(hks:∀x∈ac,Ka x)(ho:GC e=true):∀k,k≤e.length→∃a o,ff (e.take k) 0 [] []=some (a,o)∧a.length=k∧o.length≤k∧(∀p∈o,p<k)∧Gv ac e k o:=by
 intro k;induction k with
 |zero=>intro _;exact⟨[],[],rfl,rfl,by simp,by simp,.inl ⟨[],rfl,rfl,by simp,rfl⟩⟩
 |succ k ih=>
  intro hk;obtain⟨a,o,i1,i2,i3,i4,i5⟩:=ih (by omega);have hn:e[k]?=some e[k]:=aq (by omega);obtain⟨a',o',s1,s2,_⟩:=Fm ho hn i1;obtain⟨v1,v2,v3⟩:=HA i2 i4 i3 s2;exact⟨a',o',s1,v1,v3,v2,Tz hn hks i4 s2 i5⟩
theorem LI{ac:List Int}{e:List EN}(hks:∀x∈ac,Ka x)(ho:GC e=true) :
  (∃own,dm (CQ ac) e 0 []=.inl own∧own.length=e.length∧EI 0 (na ac) e=(own.getD (e.length-1) 0,0))∨(dm (CQ ac) e 0 []=.inr ()∧EI 0 (na ac) e=(0,201)):=by
 obtain⟨a,o,h1,h2,_,_,h3⟩:=Q7 (ac:=ac) hks ho e.length (aB _);have ht:=(wT e e.length (aB _) a o h1).1;unfold Gv at h3;rw[dv]at h1 h3;have hl:=Rv ho h1
 match o,hl with
 |[p],_=>
  obtain⟨t1,_,_⟩:=ht;unfold EI;rcases h3 with⟨own,g1,g2,_,g4⟩|⟨g1,g2⟩
  ·left;rw[g4];exact⟨own,g1,g2,by simp[show e.length-1=p by omega]⟩
  right;rw[g2];exact⟨g1,rfl⟩

end Go.AM
namespace Go.AM
open P
set_option maxHeartbeats 2000000
set_option maxRecDepth 4000
end Go.AM
namespace Go.AM
open P
set_option maxHeartbeats 64000000
set_option maxRecDepth 40000
attribute [local simp] aF br
def G1(r:MD):ap:=.aa false (r.map nQ.a)
instance:Nc G1 1 false:=⟨fun _=>rfl,fun _=>rfl⟩
instance:Fx G1:=⟨fun fl top base σ n y=>by simp[G1]⟩
@[simp] theorem ak4(r:MD):aC (G1 r)=1:=rfl
@[simp] theorem akD(r:MD):isAgg (G1 r)=false:=rfl
instance:Nc (jp.c G1) 1 false:=⟨fun _=>rfl,fun _=>rfl⟩

instance:Nc (ap.int .u8) 1 false:=⟨fun _=>rfl,fun _=>rfl⟩
instance:Fx (ap.int .u8):=⟨fun _ _ _ _ _ _=>rfl⟩
instance:Nc (fun (c:UInt8)=>ap.int .u8 (c.toNat:Int)) 1 false:=⟨fun _=>rfl,fun _=>rfl⟩
instance:Fx (fun (c:UInt8)=>ap.int .u8 (c.toNat:Int)):=⟨fun _ _ _ _ _ _=>rfl⟩



@[simp] theorem alH(l site:Nat)(env args:List ap)(σ:aw):mr code (.yld l site env) args σ=if ph σ l then db code site (.frs l []::env++args) σ else none:=rfl
@[simp] theorem aeo(l:Nat)(env:List ap)(r:ap×aw):QC l env (some r)=tH l env r.2:=rfl
def ad4(g:MD×WR):ap:=.agg [G1 g.1,.aa false (g.2.map G1)]
instance:Nc ad4 2 true:=⟨fun _=>rfl,fun _=>rfl⟩
instance:Fx ad4:=⟨fun fl top base σ n y=>by
 cases fl<;>simp[ad4,G1]⟩

theorem VW(fl top:Bool)(base:Nat)(σ:aw)(n l s:Nat)(e:List ap):fz fl top base σ (n+1) (.yld l s e)=if (decide (l<base)&&top)=true then .yld l s (e.map (fz fl top base σ n)) else .any:=by
 simp only[fz]

def ad5(n:Int):nQ:=⟨2,n,0,[]⟩
def ai2(kind:Int)(l:MD):Int:=if l.all Z4 then (if l.all fun v=>v.k==0 ||v.k==kind then 0 else 2) else 120
def rg(n:Int):Prop:=-9223372036854775808≤n∧n<9223372036854775808
def B5(tw:Int→Int→Int×Bool)(a b:nQ):nQ×Int:=
 if ai2 2 [a,b]=0 then (if a.k=0∨b.k=0 then (rU,0) else if (tw a.n b.n).2 then (ad5 (tw a.n b.n).1,0) else (rU,140)) else (rU,ai2 2 [a,b])




def Iv(v:nQ):Prop:=tA v=true∧rg v.n
end Go.AM
namespace Go.AM
end Go.AM
namespace Go.AM
open P
set_option maxHeartbeats 64000000
set_option maxRecDepth 40000
attribute [local simp] aF br






theorem JU{α σ ρ:Type}{base:Nat}{clr:List Nat}{b:av}(l:List α)(R:Nat→σ→St→Prop)(g:Nat→α→σ→σ⊕ρ)(E:σ→Ex×St→Prop)(Q:ρ→Ex×St→Prop)
  (hstep:∀k y s t,k<l.length→l[k]?=some y→R k s t→match g k y s with
   |.inl s'=>∃t',dE base clr b (run code b t)=cc code base clr b t'∧R (k+1) s' t'
   |.inr r=>∃o,dE base clr b (run code b t)=some o∧Q r o)
  (hend:∀s t,R l.length s t→∃o,dE base clr b (run code b t)=some o∧E s o) (s:σ) (t:St) (h:R 0 s t) :
  match dm g l 0 s with
   |.inl s'=>∃o,cc code base clr b t=some o∧E s' o
   |.inr r=>∃o,cc code base clr b t=some o∧Q r o:=by
 have key:∀(m:List α) k s t,l.drop k=m→k≤l.length→R k s t→match dm g m k s with
   |.inl s'=>∃o,cc code base clr b t=some o∧E s' o
   |.inr r=>∃o,cc code base clr b t=some o∧Q r o:=by
  intro m;induction m with
  |nil=>
   intro k s t hd hk hi;have:k=l.length:=by
    have:=congrArg List.length hd;simp at this;omega
   subst this;simp only[dm];obtain⟨o,h1,h2⟩:=hend s t hi;exact⟨o,by rw[gx];exact h1,h2⟩
  |cons y m ih=>
   intro k s t hd hk hi;have aj:k<l.length:=by
    have:=congrArg List.length hd;simp at this;omega
   have hy:l[k]?=some y:=by
    have:=congrArg (·[0]?) hd;simpa using this
   have hm:l.drop (k+1)=m:=by
    have:=congrArg List.tail hd;simpa [fY] using this
   have hs:=hstep k y s t aj hy hi;rw[gx];simp only[dm];cases hg:g k y s with
   |inl s'=>
    rw[hg]at hs;obtain⟨t',h1,h2⟩:=hs;simp only;rw[h1];exact ih (k+1) s' t' hm (by omega) h2
   |inr r=>
    rw[hg]at hs;exact hs
 exact key l 0 s t (by simp) (cd _) h
structure ana (n:bB) (DO:ap) (B5:Nat→ew→WR→nQ×Int) (rows:WR):Prop where
 fz:∀base σ m,fz false true base σ (m+5) DO=DO
 nc:aC DO=1∧isAgg DO=false
 go:∀(i:Nat) a σ,n.ah[i]?=some a→mr code DO [aL i,a.a,.aa false (rows.map G1)] σ=some (.tup [(B5 i a rows).1.a,aL (B5 i a rows).2],σ)
theorem MA(e:List EN)(m:Int):((oK e).any fun c=>decide (m≤c))=e.any fun n=>n.tag==2&&decide (m≤n.col):=by
 rw[cS,dJ,dJ];constructor
 ·rintro⟨c,hc,h⟩;obtain⟨n,hn,ht,rfl⟩:=Tc hc;exact⟨n,hn,by simp[ht];simpa using h⟩
 rintro⟨n,hn,h⟩;simp only[am,aG]at h;exact⟨n.col,HQ hn h.1,h.2⟩
abbrev Ey(b:Bool)(e:List EN)(bk:Bool)(ac:List Int)(d:List ap):List ap:=[.agg [.aa b (e.map EN.a)],.aa bk (ac.map (.int .i64)),.ptr 0 0 0 0]++d
theorem Yh(b:Bool)(e:List EN)(bk:Bool)(ac:List Int)(hk:ac.length≤aV) :
  (ac.any GU=false∧cc code 1 [3,4,5,17,18] sJ ⟨Ey b e bk ac [.any,.any,.any,.any,.any,.any,.any,.any,.any,.any,.bool false,.aa bk (ac.map (.int .i64)),aL ac.length,aL 0,.any,.any,.any,.any,.any,.any,.any,.any,.any,.any,.any,.any,.any,.any,.any],[.arr 1 0 [.agg [.aa b (e.map EN.a)]]]⟩ =
   some (.ext 0,⟨Ey b e bk ac [.any,.any,.any,.any,.any,.any,.any,.any,.any,.any,.bool false,.aa bk (ac.map (.int .i64)),aL ac.length,aL ac.length,.bool false,.any,.any,.any,.any,.any,.any,.any,.any,.any,.any,.any,.any,.any,.any],[.arr 1 0 [.agg [.aa b (e.map EN.a)]]]⟩)) ∨
  (ac.any GU=true∧∃s,cc code 1 [3,4,5,17,18] sJ ⟨Ey b e bk ac [.any,.any,.any,.any,.any,.any,.any,.any,.any,.any,.bool false,.aa bk (ac.map (.int .i64)),aL ac.length,aL 0,.any,.any,.any,.any,.any,.any,.any,.any,.any,.any,.any,.any,.any,.any,.any],[.arr 1 0 [.agg [.aa b (e.map EN.a)]]]⟩=some (.ret,s) ∧
   jF .pure [.env 3,.env 4] (some (.ret,s))=some (.tup [aL 0,aL 2])):=by
 have h1:=gf (base:=1) (clr:=[3,4,5,17,18]) (b:=sJ) ac
  (fun k=>⟨Ey b e bk ac [.any,.any,.any,.any,.any,.any,.any,.any,.any,.any,.bool false,.aa bk (ac.map (.int .i64)),aL ac.length,aL k,.any,.any,.any,.any,.any,.any,.any,.any,.any,.any,.any,.any,.any,.any,.any],[.arr 1 0 [.agg [.aa b (e.map EN.a)]]]⟩) GU
  (.ext 0,⟨Ey b e bk ac [.any,.any,.any,.any,.any,.any,.any,.any,.any,.any,.bool false,.aa bk (ac.map (.int .i64)),aL ac.length,aL ac.length,.bool false,.any,.any,.any,.any,.any,.any,.any,.any,.any,.any,.any,.any,.any,.any],[.arr 1 0 [.agg [.aa b (e.map EN.a)]]]⟩)
  (fun o=>∃s,o=(.ret,s)∧jF .pure [.env 3,.env 4] (some (.ret,s))=some (.tup [aL 0,aL 2]))
  (fun k y hk' hy hp=>by
   have aj:((k:Int)<(ac.length:Int)):=by omega
   unfold GU at hp;simp at hp;have e1:¬(y<0):=by omega
   have e2:¬(3<y):=by omega
   simp[sJ,aj,hy,e1,e2,bJ hk' hk,bX])
  (fun k y hk' hy hp=>by
   have aj:((k:Int)<(ac.length:Int)):=by omega
   unfold GU at hp;simp at hp;by_cases e1:y<0
   ·exact⟨_,by simp[sJ,aj,hy,e1];rfl,_,rfl,by simp⟩
   have e2:3<y:=by omega
   exact⟨_,by simp[sJ,aj,hy,e1,e2];rfl,_,rfl,by simp⟩)
  (by simp[sJ])
 rcases h1 with⟨ha,h1⟩|⟨ha,o,h1,s,rfl,h2⟩
 ·exact .inl ⟨ha,by simpa using h1⟩
 exact .inr ⟨ha,s,by simpa using h1,h2⟩
abbrev dK(bk:Bool)(ac:List Int):List ap:=[.bool false,.aa bk (ac.map (.int .i64)),aL ac.length,aL ac.length,.bool false,.any]
theorem YY(b:Bool)(e:List EN)(bk:Bool)(ac:List Int)(hn:e.length≤aV)(hk:ac.length≤aV) :
  ((e.any fun n=>n.tag==2&&decide ((ac.length:Int)≤n.col))=false∧cc code 1 [3,4,6,22,23] sy ⟨Ey b e bk ac ([.any,.any,.any,.any,.any,.any,.any,.any,.any,.any]++dK bk ac++[.aa b (e.map EN.a),aL e.length,aL 0,.any,.any,.any,.any,.any,.any,.any,.any,.any,.any]),[.arr 1 0 [.agg [.aa b (e.map EN.a)]]]⟩ =
   some (.ext 2,⟨Ey b e bk ac ([.any,.any,.any,.any,.any,.any,.any,.any,.any,.any]++dK bk ac++[.aa b (e.map EN.a),aL e.length,aL e.length,.bool false,.any,.any,.any,.any,.any,.any,.any,.any,.any]),[.arr 1 0 [.agg [.aa b (e.map EN.a)]]]⟩)) ∨
  ((e.any fun n=>n.tag==2&&decide ((ac.length:Int)≤n.col))=true∧∃s,cc code 1 [3,4,6,22,23] sy ⟨Ey b e bk ac ([.any,.any,.any,.any,.any,.any,.any,.any,.any,.any]++dK bk ac++[.aa b (e.map EN.a),aL e.length,aL 0,.any,.any,.any,.any,.any,.any,.any,.any,.any,.any]),[.arr 1 0 [.agg [.aa b (e.map EN.a)]]]⟩=some (.ret,s) ∧
   jF .pure [.env 3,.env 4] (some (.ret,s))=some (.tup [aL 0,aL 2])):=by
 have h1:=gf (base:=1) (clr:=[3,4,6,22,23]) (b:=sy) e
  (fun k=>⟨Ey b e bk ac ([.any,.any,.any,.any,.any,.any,.any,.any,.any,.any]++dK bk ac++[.aa b (e.map EN.a),aL e.length,aL k,.any,.any,.any,.any,.any,.any,.any,.any,.any,.any]),[.arr 1 0 [.agg [.aa b (e.map EN.a)]]]⟩)
  (fun n=>n.tag==2&&decide ((ac.length:Int)≤n.col))
  (.ext 2,⟨Ey b e bk ac ([.any,.any,.any,.any,.any,.any,.any,.any,.any,.any]++dK bk ac++[.aa b (e.map EN.a),aL e.length,aL e.length,.bool false,.any,.any,.any,.any,.any,.any,.any,.any,.any]),[.arr 1 0 [.agg [.aa b (e.map EN.a)]]]⟩)
  (fun o=>∃s,o=(.ret,s)∧jF .pure [.env 3,.env 4] (some (.ret,s))=some (.tup [aL 0,aL 2]))
  (fun k y hk' hy hp=>by
   have aj:((k:Int)<(e.length:Int)):=by omega
   by_cases ht:y.tag=2
   ·have hc:¬((ac.length:Int)≤y.col):=by simpa [ht] using hp
    simp[sy,aj,hy,EN.a,ht,hc,bJ hk' hn,aT,aW]
   simp[sy,aj,hy,EN.a,aP ht,bJ hk' hn,aT,aW])
  (fun k y hk' hy hp=>by
   have aj:((k:Int)<(e.length:Int)):=by omega
   simp only[am,aG,aR]at hp;exact⟨_,by simp[sy,aj,hy,EN.a,hp.1,hp.2];rfl,_,rfl,by simp⟩)
  (by simp[sy])
 rcases h1 with⟨ha,h1⟩|⟨ha,o,h1,s,rfl,h2⟩
 ·exact .inl ⟨ha,by simpa using h1⟩
 exact .inr ⟨ha,s,by simpa using h1,h2⟩
theorem ac5{e:List EN}(ho:GC e=true){k:Nat}{n:EN}(hn:e[k]?=some n) :
  fb n=true∧(n.tag=1∨n.tag=2∨(¬n.tag=1∧¬n.tag=2∧(∃p:Nat,n.l=p∧p<k)∧(n.r=-1∨∃q:Nat,n.r=q∧q<k))):=by
 obtain⟨hk,_⟩:=ak.1 hn;obtain⟨a,o,i1,i2,i3,i4,_⟩:=Q7 (ac:=[]) (by simp) ho k (by omega);obtain⟨a',o',_,s2,s3,s4,s5,_⟩:=Fm ho hn i1;refine⟨s5,?_⟩;by_cases t1:n.tag=1
 ·exact .inl t1
 by_cases t2:n.tag=2
 ·exact .inr (.inl t2)
 refine .inr (.inr ⟨t1,t2,?_⟩);have hp0:b8 n.tag≠0:=fun h=>by
  unfold b8 at h;rw[if_neg (by omega)]at h;split at h
  ·omega
  split at h<;>omega
 unfold lD at s2;split at s2
 ·cases s2
 have hmem:∀p∈o.drop (o.length-(b8 n.tag).toNat),p<k:=fun p hp=>i4 p (dC hp);have hd:(o.drop (o.length-(b8 n.tag).toNat)).length=(b8 n.tag).toNat:=by rw[gk];omega
 split at s2
 ·rename_i h;rw[h]at hd;simp at hd;omega
 ·rename_i p h;split at s2
  ·rename_i hlr;rw[h]at hmem;exact⟨⟨p,hlr.1,hmem p (by simp)⟩,.inl hlr.2⟩
  cases s2
 ·rename_i p q h;split at s2
  ·rename_i hlr;rw[h]at hmem;exact⟨⟨p,hlr.1,hmem p (by simp)⟩,.inr ⟨q,hlr.2,hmem q (by simp)⟩⟩
  cases s2
 cases s2
abbrev zU(b:Bool)(e:List EN)(bk:Bool)(ac:List Int)(ep:Nat)(own:List Int)(k e27:ap):List ap:=
 Ey b e bk ac ([.any,.any,.any,.any,.sl 1 ep 0 own.length,.any,.any,.any,.any,.any]++dK bk ac++[.aa b (e.map EN.a),aL e.length,aL e.length,.bool false,.any,.aa b (e.map EN.a),aL e.length,k,e27,.any,.any,.any,.any])
abbrev wq(b:Bool)(e:List EN)(ep:Nat)(own:List Int):aw:=[.arr 1 0 [.agg [.aa b (e.map EN.a)]],.arr 1 ep (own.map (.int .i64))]
theorem Y0(b:Bool)(e:List EN)(bk:Bool)(ac:List Int)(hn:e.length≤8000)(ho:GC e=true)(hcol:(e.any fun n=>n.tag==2&&decide ((ac.length:Int)≤n.col))=false) :
  (∃own,dm (CQ ac) e 0 []=.inl own∧∃ep,cc code 2 [3,4,8,9,10,11,12,27,28,29,30,31] oe ⟨zU b e bk ac 0 [] (aL 0) .any,wq b e 0 []⟩ =
   some (.ext 4,⟨zU b e bk ac ep own (aL e.length) (.bool false),wq b e ep own⟩)) ∨
  (dm (CQ ac) e 0 []=.inr ()∧∃s,cc code 2 [3,4,8,9,10,11,12,27,28,29,30,31] oe ⟨zU b e bk ac 0 [] (aL 0) .any,wq b e 0 []⟩=some (.ret,s) ∧
   jF .pure [.env 3,.env 4] (some (.ret,s))=some (.tup [aL 0,aL 201])):=by
 have hm:e.length≤aV:=by unfold aV;omega
 have key:=JU (base:=2) (clr:=[3,4,8,9,10,11,12,27,28,29,30,31]) (b:=oe) e
  (fun k (own:List Int) t=>own.length=k∧∃ep,t=⟨zU b e bk ac ep own (aL k) .any,wq b e ep own⟩)
  (CQ ac)
  (fun own o=>∃ep,o=(.ext 4,⟨zU b e bk ac ep own (aL e.length) (.bool false),wq b e ep own⟩))
  (fun (_:Unit) o=>∃s,o=(.ret,s)∧jF .pure [.env 3,.env 4] (some (.ret,s))=some (.tup [aL 0,aL 201]))
  (fun k n own t hk hy ht=>by
   obtain⟨hl,ep,rfl⟩:=ht;have aj:((k:Int)<(e.length:Int)):=by omega
   have hl1:own.length+1≤aV:=by omega
   obtain⟨hcn,hpos⟩:=ac5 ho hy;have hcol':=dX.1 hcol n (aD hy);have hkind:=Xc n.tag;unfold CQ;by_cases t1:n.tag=1
   ·rw[if_pos t1];refine⟨⟨zU b e bk ac (ep+1) (own++[n.v.k]) (aL (k+1:Nat)) .any,wq b e (ep+1) (own++[n.v.k])⟩,?_,by simp[hl],ep+1,rfl⟩;simp[wq,oe,aj,hy,EN.a,t1,append,hl1,bJ hk hm,aT,aW]
   rw[if_neg t1];by_cases t2:n.tag=2
   ·rw[if_pos t2];have hc0:=Fc hcn t2;have hcl:n.col<ac.length:=by
     simp[t2]at hcol';omega
    obtain⟨c,hc⟩:∃c:Nat,n.col=c:=⟨n.col.toNat,by omega⟩;have hck:ac[c]?=some (ac.getD c 0):=by
     rw[aE,aq (by omega)];rfl
    obtain⟨hcl',hcg⟩:=ak.1 hck;rw[hc]at hcl;rw[show n.col.toNat=c by omega];generalize ac.getD c 0=x at *;refine⟨⟨zU b e bk ac (ep+1) (own++[x]) (aL (k+1:Nat)) .any,wq b e (ep+1) (own++[x])⟩,?_,by simp[hl],ep+1,rfl⟩;simp[wq,oe,aj,hy,EN.a,t2,hc,hck,hcg,hcl',append,hl1,bJ hk hm,aT,aW]
   rw[if_neg t2];obtain⟨_,_,⟨p,hp,hpk⟩,hr⟩:=(hpos.resolve_left t1).resolve_left t2;have hpo:own[p]?=some (own.getD p 0):=by
    rw[aE,aq (by omega)];rfl
   obtain⟨hpl,hpg⟩:=ak.1 hpo;rw[hp,iW];generalize own.getD p 0=x at *;rcases hr with hr|⟨q,hq,hqk⟩
   ·rw[hr,if_neg (show ¬(0:Int)≤-1 by decide)];have hkd:=hkind x 0;generalize jc n.tag x 0=w at *;obtain⟨w1,w2⟩:=w;cases w2 with
    |true=>
     simp only[bU];refine⟨⟨zU b e bk ac (ep+1) (own++[w1]) (aL (k+1:Nat)) .any,wq b e (ep+1) (own++[w1])⟩,?_,by simp[hl],ep+1,rfl⟩;simp[wq,oe,aj,hy,EN.a,aP t1,aP t2,hp,hpo,hpl,hpg,hr,hkd,append,hl1,bJ hk hm,aT,aW]
    |false=>
     simp only[aH,bQ];exact⟨_,by simp[wq,oe,aj,hy,EN.a,aP t1,aP t2,hp,hpo,hpl,hpg,hr,hkd];rfl,_,rfl,by simp⟩
   have hqo:own[q]?=some (own.getD q 0):=by
    rw[aE,aq (by omega)];rfl
   obtain⟨hql,hqg⟩:=ak.1 hqo;rw[hq,iW,if_pos (show (0:Int)≤(q:Nat) by omega)];generalize own.getD q 0=y at *;have hkd:=hkind x y;generalize jc n.tag x y=w at *;obtain⟨w1,w2⟩:=w;cases w2 with
   |true=>
    simp only[bU];refine⟨⟨zU b e bk ac (ep+1) (own++[w1]) (aL (k+1:Nat)) .any,wq b e (ep+1) (own++[w1])⟩,?_,by simp[hl],ep+1,rfl⟩;simp[wq,oe,aj,hy,EN.a,aP t1,aP t2,hp,hpo,hpl,hpg,hq,hqo,hql,hqg,hkd,append,hl1,bJ hk hm,aT,aW]
   |false=>
    simp only[aH,bQ];exact⟨_,by simp[wq,oe,aj,hy,EN.a,aP t1,aP t2,hp,hpo,hpl,hpg,hq,hqo,hql,hqg,hkd];rfl,_,rfl,by simp⟩)
  (fun own t ht=>by
   obtain⟨_,ep,rfl⟩:=ht;exact⟨_,by simp[oe],ep,rfl⟩) [] _ ⟨rfl,0,rfl⟩
 rcases hf:dm (CQ ac) e 0 [] with own|u
 ·rw[hf]at key;obtain⟨o,h1,ep,rfl⟩:=key;exact .inl ⟨own,rfl,ep,h1⟩
 rw[hf]at key;obtain⟨o,h1,s,rfl,h2⟩:=key;exact .inr ⟨rfl,s,h1,h2⟩
theorem Gm(b:Bool)(e:List EN)(bk:Bool)(ac:List Int)(hn:e.length≤aV)(hk:ac.length≤aV) :
  bI I.qbn [.agg [.aa b (e.map EN.a)],.aa bk (bE ac)]=some (.tup [aL (fe e ac).1,aL (fe e ac).2]):=by
 rw[aQ agC rfl];have hR:=fun b=>PI b e hn;simp only[tJ,At]at hR;unfold fe;cases ho:GC e with
 |false=>
  rw[ho]at hR;simp[an0,Ht,hR]
 |true=>
  rw[ho]at hR;have h8:1≤e.length∧e.length≤1000:=by
   rw[←LY]at ho;unfold EF at ho;simp only[am,aR]at ho;exact ho.1
  simp only[Bool.true_eq_false,bQ];rcases Yh b e bk ac hk with⟨a2,l2⟩|⟨a2,s,l2,v2⟩
  ·rw[a2];rcases YY b e bk ac hn hk with⟨a1,l1⟩|⟨a1,s,l1,v1⟩
   ·rw[MA,a1];simp only[aH,bQ];have hks:∀x∈ac,Ka x:=fun x hx=>by
     have:=dX.1 a2 x hx;unfold GU at this;simp at this;exact⟨by omega,by omega⟩
    rcases Y0 b e bk ac (by omega) ho a1 with⟨own,f0,ep,l0⟩|⟨f0,s,l0,v0⟩
    ·rcases LI (ac:=ac) hks ho with⟨own',g1,g2,g3⟩|⟨g1,_⟩
     ·rw[f0]at g1;cases g1;rw[g3];have hw:IntKind.i64.wrap ((own.length:Int)-1)=(own.length:Int)-1:=dT (by omega);have hi:own[own.length-1]?=some (own.getD (e.length-1) 0):=by
       rw[←g2,aE,aq (by omega)];rfl
      obtain⟨hil,hig⟩:=ak.1 hi;have hc:(own.length:Int)-1=((own.length-1:Nat):Int):=by omega
      generalize own.getD (e.length-1) 0=z at *;rw[hc]at hw;simp[wq]at l2 l1 l0;simp[an0,Ht,hR,l2,l1,l0,hc,hw,hi,hil,hig]
     rw[f0]at g1;cases g1
    rcases LI (ac:=ac) hks ho with⟨own',g1,g2,g3⟩|⟨_,g2⟩
    ·rw[f0]at g1;cases g1
    rw[g2];simp[wq]at l2 l1 l0;simp[an0,Ht,hR,l2,l1,l0,-mA];exact v0
   rw[MA,a1];simp at l2 l1;simp[an0,Ht,hR,l2,l1,-mA];exact v1
  rw[a2];simp at l2;simp[an0,Ht,hR,l2,-mA];exact v2
def mn(e:List EN)(ac:List Int):Bool:=(fe e ac).2==0&&((fe e ac).1==0 ||(fe e ac).1==1)
abbrev agx(nd c1 c2:ap)(n:bB)(a b r:ap):Obj:=.arr 18 0 [.agg [nd,c1,c2,aL n.op,aL n.l,aL n.r,aL n.tab,.aa n.bk (n.ac.map (.int .i64)),.bool n.left,.aa n.bc (n.cond.map EN.a),.aa n.by' (n.keys.map (.int .i64)),.aa n.bg (n.ah.map ew.a),.aa n.bi (n.items.map kh.a),.aa n.bo (n.ords.map fU),aL n.limit,a,b,r]]
def wQ(n:bB):Bool:=!(n.ac.any fun k=>decide (k<1) ||decide (3<k))&&decide (0≤n.tab)&&decide (n.tab<4)&&decide (0<n.ac.length)&&decide (n.ac.length≤4)
def vw(n:bB)(a:List Int):Bool:=!(n.ords.any fun o=>decide (o.1<0) ||decide ((a.length:Int)≤o.1))&&decide (n.ords.length≤3)&&decide (-1≤n.limit)&&decide (n.limit≤2147483647)
abbrev ah7(bn:Bool)(ab:List bB)(ep1 m1 ep2 m2:Nat)(n:bB)(a b r:ap):Obj:=agx (.aa bn (ab.map bB.a)) (.sl 1 ep1 0 m1) (.sl 2 ep2 0 m2) n a b r
def mu:List Int→List Int→Option (List Int)
 |[],_=>some []
 |_::_,[]=>none
 |k::a,o::b=>if o≠0∧o≠(if k=0 then o else k) then none else (mu a b).map ((if k=0 then o else k)::·)
def tL(a keys:List Int):Option (List Int):=if keys.all fun k=>decide (0≤k)&&decide (k<a.length) then some (keys.map fun k=>a.getD k.toNat 0) else none
def TJ(a:List Int)(_:Nat)(x:Int)(acc:Nat×List Int):Nat×List Int⊕Unit:=if 0≤x∧x<a.length then .inl (acc.1+1,acc.2++[a.getD x.toNat 0]) else .inr ()
theorem Ia(a:List Int):∀(l:List Int) (k ep:Nat) (acc:List Int),dm (TJ a) l k (ep,acc)=match tL a l with
  |some r=>.inl (ep+l.length,acc++r)
  |none=>.inr ()
 |[],k,ep,acc=>by simp[dm,tL]
 |x::l,k,ep,acc=>by
  by_cases h:0≤x∧x<a.length
  ·simp only[dm,TJ,if_pos h];rw[Ia a l (k+1) (ep+1)];unfold tL;by_cases hl:(l.all fun k=>decide (0≤k)&&decide (k<(a.length:Int)))=true
   ·have:((x::l).all fun k=>decide (0≤k)&&decide (k<(a.length:Int)))=true:=by simp only[eU,hl];simp[h]
    rw[if_pos hl,if_pos this];simp[cA,eE 1]
   have:¬((x::l).all fun k=>decide (0≤k)&&decide (k<(a.length:Int)))=true:=by
    intro hq;simp only[eU,am]at hq;exact hl hq.2
   rw[if_neg hl,if_neg this]
  simp only[dm,TJ,if_neg h];unfold tL;have:¬((x::l).all fun k=>decide (0≤k)&&decide (k<(a.length:Int)))=true:=by
   intro hq;simp only[eU,am,aR]at hq;exact h hq.1
  rw[if_neg this]
theorem S1{a l r:List Int}(h:tL a l=some r):r.length=l.length:=by
 unfold tL at h;split at h
 ·cases h;simp
 cases h
def xH(a:List Int)(g:ew):Bool×Int:=
 if g.tag=1 then (g.arg.length==0,2)
 else ((fe g.arg a).2==0&&decide (1<g.tag)&&decide (g.tag≤5)&&(g.tag != 3 ||(fe g.arg a).1==2 ||(fe g.arg a).1==0),if g.tag=4∨g.tag=5 then (fe g.arg a).1 else 2)
def Bq(n:bB):Bool:=decide (n.keys.length≤3)&&decide (n.ah.length≤12)&&decide (0<n.keys.length+n.ah.length)
abbrev ali(n:bB):Obj:=.arr 12 0 [.agg [aL n.op,aL n.l,aL n.r,aL n.tab,.aa n.bk (n.ac.map (.int .i64)),.bool n.left,.aa n.bc (n.cond.map EN.a),.aa n.by' (n.keys.map (.int .i64)),.aa n.bg (n.ah.map ew.a),.aa n.bi (n.items.map kh.a),.aa n.bo (n.ords.map fU),aL n.limit]]

structure amA (X:aw) (r:ap) (bf:Bool) (res:List Int):Prop where
 nc:aC r=1
 ag:isAgg r=false
 len:∀L K O B N A,qN (L::K::O::B::N::A::X) r=some res.length
 fz:∀L K O B N A n,fz false true 3 (L::K::O::B::N::A::X) (n+3) r=.aa bf (bE res)
abbrev nk(l:List Nat):List ap:=l.map fun (k:Nat)=>ap.int .i64 (k:Int)
structure JB where
 c0:ap
 c1:ap
 c2:ap
 c3:ap
 c4:ap
 c5:ap
 c6:ap
 c7:ap
 c8:ap
 c9:ap
 c10:ap
 c11:ap
abbrev bB.z(n:bB):JB:=⟨aL n.op,aL n.l,aL n.r,aL n.tab,.aa n.bk (n.ac.map (.int .i64)),.bool n.left,.aa n.bc (n.cond.map EN.a),.aa n.by' (n.keys.map (.int .i64)),.aa n.bg (n.ah.map ew.a),.aa n.bi (n.items.map kh.a),.aa n.bo (n.ords.map fU),aL n.limit⟩
instance:Nc (fun (k:Nat)=>ap.int .i64 (k:Int)) 1 false:=⟨fun _=>rfl,fun _=>rfl⟩
instance:Fx (fun (k:Nat)=>ap.int .i64 (k:Int)):=⟨fun _ _ _ _ _ _=>rfl⟩
abbrev atO(x y:Int):Obj:=.arr 2 0 [.agg [aL x,aL y]]
structure TkE where
 bn:Bool
 ab:List bB
 ep1:Nat
 ep2:Nat
 ac:List (jp Int)
 opn:List Nat
 n0:JB
 a0:ap
 b0:ap
 r0:ap
 B:Obj
 ask:ap
 i:Nat
 n:bB
abbrev TkE.st(E:TkE)(A C r:ap)(x y:Int):aw:=[ah7 E.bn E.ab E.ep1 E.ac.length E.ep2 E.opn.length E.n A C r,.arr 1 E.ep1 (E.ac.map (jp.c (.int .i64))),.arr 1 E.ep2 (nk E.opn),E.B,ali E.n,atO x y]
structure Tk (E:TkE) (k:Nat) (ps:List Nat):Prop where
 hi:E.ab[E.i]?=some E.n
 hil:E.ab.length≤aV
 hol:E.opn.length≤aV
 hk1:E.n.keys.length≤aV
 hk2:E.n.ah.length≤aV
 hop:acW E.n.op=k
 hkl:k≤E.opn.length
 hd:E.opn.drop (E.opn.length-k)=ps
 hbl:uz E.n=true
 hB:∀base σ,aW base σ E.B=E.B


abbrev wJ:Nat:=4294967296
structure su (n:bB):Prop where
 ac:n.ac.length≤wJ
 cond:n.cond.length≤wJ
 keys:n.keys.length≤wJ
 ah:n.ah.length≤wJ
 args:∀g∈n.ah,g.arg.length≤wJ
 items:n.items.length≤wJ
 exprs:∀e∈n.items,e.l.length≤wJ
 ords:n.ords.length≤wJ
def WT:jp Int:=⟨false,[]⟩
structure KSt where
 ac:List (jp Int)
 opn:List Nat
 z0:JB
 a0:ap
 b0:ap
 r0:ap
abbrev KSt.l(s:KSt):List ap:=[s.z0.c0,s.z0.c1,s.z0.c2,s.z0.c3,s.z0.c4,s.z0.c5,s.z0.c6,s.z0.c7,s.z0.c8,s.z0.c9,s.z0.c10,s.z0.c11,s.a0,s.b0,s.r0]
def acM(l:List Int):ap:=.aa false (l.map (.int .i64))
instance:Nc acM 1 false:=⟨fun _=>rfl,fun _=>rfl⟩
instance:Fx acM:=⟨fun fl top base σ n y=>by simp[acM]⟩
def eD(t:Int):Int:=if t=1 then 0 else if t=2∨t=7 then 2 else if t=3∨t=4∨t=5∨t=6∨t=8 then 1 else -1
theorem SQ(t:Int):bI I.qcg [aL t]=some (aL (eD t)):=by
 rw[aQ ahP rfl];unfold eD;by_cases h1:t=1
 ·subst h1;simp[anR,yd]
 by_cases h2:t=2
 ·subst h2;simp[anR,yd]
 by_cases h7:t=7
 ·subst h7;simp[anR,yd]
 by_cases h3:t=3
 ·subst h3;simp[anR,yd]
 by_cases h4:t=4
 ·subst h4;simp[anR,yd]
 by_cases h5:t=5
 ·subst h5;simp[anR,yd]
 by_cases h6:t=6
 ·subst h6;simp[anR,yd]
 by_cases h8:t=8
 ·subst h8;simp[anR,yd]
 simp[anR,yd,h1,h2,h3,h4,h5,h6,h7,h8,aP h1,aP h2,aP h3,aP h4,aP h5,aP h6,aP h7,aP h8]
theorem G8(b:Bool)(e:List EN)(bk:Bool)(ac:List Int)(hn:e.length≤aV)(hk:ac.length≤aV) :
  bI I.qcp [.agg [.aa b (e.map EN.a)],.aa bk (bE ac)]=some (.bool (mn e ac)):=by
 rw[aQ aiB rfl];have h:=fun b bk=>Gm b e bk ac hn hk;unfold mn;generalize fe e ac=q at *;obtain⟨k,no⟩:=q;simp only at h ⊢;by_cases h0:no=0
 ·subst h0;by_cases h1:k=0
  ·subst h1;simp[aod,MS,h]
  by_cases h2:k=1
  ·subst h2;simp[aod,MS,h]
  simp[aod,MS,h,aP h1,aP h2]
 simp[aod,MS,h,aP h0]
def oQ(a:List Int)(g:ew):Int×Bool:=
 if g.tag=1 then (2,g.arg.length==0) else if g.tag<1∨5<g.tag∨(fe g.arg a).2≠0 then (0,false)
 else if g.tag=3∧(fe g.arg a).1≠2∧(fe g.arg a).1≠0 then (0,false) else if 4≤g.tag then ((fe g.arg a).1,true) else (2,true)
theorem GO(g:ew)(bk:Bool)(ac:List Int)(hn:g.arg.length≤aV)(hk:ac.length≤aV) :
  bI I.qcn [.agg [aL g.tag,.aa g.b (g.arg.map EN.a)],.aa bk (bE ac)]=some (.tup [aL (oQ ac g).1,.bool (oQ ac g).2]):=by
 rw[aQ afd rfl];have h:=fun b bk=>Gm b g.arg bk ac hn hk;obtain⟨t,b,e⟩:=g;simp only at h hn ⊢;unfold oQ;simp only;generalize fe e ac=q at *;obtain⟨k,no⟩:=q;simp only at h ⊢;by_cases t1:t=1
 ·subst t1;by_cases he:e=[]
  ·subst he;simp[anP,wL]
  have he':¬((e.length:Int)=0):=fun h=>he (bM (by omega));have he2:¬(e.length=0):=by omega
  simp[anP,wL,aP he',he,he2]
 rw[if_neg t1];by_cases t2:t<1
 ·simp[anP,wL,h,aP t1,t2]
 by_cases t3:5<t
 ·simp[anP,wL,h,aP t1,t2,t3]
 by_cases h0:no=0
 ·subst h0;by_cases t4:t=3
  ·subst t4;by_cases k2:k=2
   ·subst k2;simp[anP,wL,h]
   by_cases k0:k=0
   ·subst k0;simp[anP,wL,h]
   simp[anP,wL,h,k2,k0,df k2,df k0]
  by_cases t5:4≤t
  ·simp[anP,wL,h,aP t1,aP t4,t2,t3,t4,t5]
  simp[anP,wL,h,aP t1,aP t4,t2,t3,t4,t5]
 simp[anP,wL,h,aP t1,t2,t3,h0,df h0]
theorem Mj(a:List Int)(g:ew):(oQ a g).2=(xH a g).1∧((xH a g).1=true→(oQ a g).1=(xH a g).2):=by
 unfold oQ xH;generalize fe g.arg a=q;obtain⟨k,no⟩:=q;simp only;by_cases t1:g.tag=1
 ·simp[t1]
 rw[if_neg t1,if_neg t1];by_cases c:g.tag<1∨5<g.tag∨no≠0
 ·rw[if_pos c];have:(no==0&&decide (1<g.tag)&&decide (g.tag≤5))=false:=by
   rw[iY];intro h;simp only[am,aG,aR]at h;omega
  simp[this]
 rw[if_neg c];have c1:1<g.tag∧g.tag≤5∧no=0:=by omega
 obtain⟨c1,c2,rfl⟩:=c1;by_cases t3:g.tag=3
 ·by_cases k2:k=2
  ·simp[t3,k2]
  by_cases k0:k=0
  ·simp[t3,k0]
  simp[t3,k0,k2]
 by_cases t4:4≤g.tag
 ·have:g.tag=4∨g.tag=5:=by omega
  simp[t3,t4,c1,c2,this]
 have:¬(g.tag=4∨g.tag=5):=by omega
 simp[t3,t4,c1,c2,this]
def sN(n:bB):Bool:=
 (n.op==1 ||(n.tab==0&&n.ac.isEmpty))&&(n.op==2 ||(!n.left&&(n.op==3 ||n.cond.isEmpty))) &&
 ((n.op==4 ||(n.keys.isEmpty&&n.ah.isEmpty))&&(n.op==5 ||n.items.isEmpty))&&(n.op==8 ||(n.ords.isEmpty&&n.limit==0))
theorem ee{α:Type}{l:List α}(h:¬l=[]):(0:Int)<l.length:=by
 have:l.length≠0:=fun e=>h (bM e);omega
theorem dM{α:Type}{l:List α}(h:¬l=[]):0<l.length:=by
 have:=ee h;omega
theorem eH{α:Type}{l:List α}(h:¬l=[]):¬((l.length:Int)=0):=by
 have:=ee h;omega
theorem dw{α:Type}{l:List α}(h:¬l=[]):l.isEmpty=false:=by cases l with|nil=>exact absurd rfl h|cons=>rfl
theorem Rf(n:bB):bI I.qcf [n.a]=some (.bool (sN n)):=by
 rw[aQ ae4 rfl];obtain⟨op,a,b,tab,bk,ac,left,bc,cond,by',keys,bg,ah,bi,items,bo,ords,limit⟩:=n;unfold sN;simp only;by_cases h1:op=1
 ·subst h1;cases left with
  |true=>simp[anF,eo,bB.a]
  |false=>
  by_cases hz_cond:cond=[]
  rotate_left
  ·simp[anF,eo,bB.a,hz_cond,ee hz_cond,dM hz_cond,eH hz_cond,dw hz_cond]
  subst hz_cond;by_cases hz_keys:keys=[]
  rotate_left
  ·simp[anF,eo,bB.a,hz_keys,ee hz_keys,dM hz_keys,eH hz_keys,dw hz_keys]
  subst hz_keys;by_cases hz_aggs:ah=[]
  rotate_left
  ·simp[anF,eo,bB.a,hz_aggs,ee hz_aggs,dM hz_aggs,eH hz_aggs,dw hz_aggs]
  subst hz_aggs;by_cases hz_items:items=[]
  rotate_left
  ·simp[anF,eo,bB.a,hz_items,ee hz_items,dM hz_items,eH hz_items,dw hz_items]
  subst hz_items;by_cases hz_ords:ords=[]
  rotate_left
  ·simp[anF,eo,bB.a,hz_ords,ee hz_ords,dM hz_ords,eH hz_ords,dw hz_ords,aP (eH hz_ords)]
  subst hz_ords;by_cases hz_limit:limit=0
  rotate_left
  ·simp[anF,eo,bB.a,hz_limit,df hz_limit,aP hz_limit]
  subst hz_limit;simp[anF,eo,bB.a]
 by_cases h2:op=2
 ·subst h2;by_cases hz_tab:tab=0
  rotate_left
  ·simp[anF,eo,bB.a,hz_tab,df hz_tab,aP hz_tab]
  subst hz_tab;by_cases hz_kinds:ac=[]
  rotate_left
  ·simp[anF,eo,bB.a,hz_kinds,ee hz_kinds,dM hz_kinds,eH hz_kinds,dw hz_kinds]
  subst hz_kinds;by_cases hz_keys:keys=[]
  rotate_left
  ·simp[anF,eo,bB.a,hz_keys,ee hz_keys,dM hz_keys,eH hz_keys,dw hz_keys]
  subst hz_keys;by_cases hz_aggs:ah=[]
  rotate_left
  ·simp[anF,eo,bB.a,hz_aggs,ee hz_aggs,dM hz_aggs,eH hz_aggs,dw hz_aggs]
  subst hz_aggs;by_cases hz_items:items=[]
  rotate_left
  ·simp[anF,eo,bB.a,hz_items,ee hz_items,dM hz_items,eH hz_items,dw hz_items]
  subst hz_items;by_cases hz_ords:ords=[]
  rotate_left
  ·simp[anF,eo,bB.a,hz_ords,ee hz_ords,dM hz_ords,eH hz_ords,dw hz_ords,aP (eH hz_ords)]
  subst hz_ords;by_cases hz_limit:limit=0
  rotate_left
  ·simp[anF,eo,bB.a,hz_limit,df hz_limit,aP hz_limit]
  subst hz_limit;simp[anF,eo,bB.a]
 by_cases h3:op=3
 ·subst h3;by_cases hz_tab:tab=0
  rotate_left
  ·simp[anF,eo,bB.a,hz_tab,df hz_tab,aP hz_tab]
  subst hz_tab;by_cases hz_kinds:ac=[]
  rotate_left
  ·simp[anF,eo,bB.a,hz_kinds,ee hz_kinds,dM hz_kinds,eH hz_kinds,dw hz_kinds]
  subst hz_kinds;cases left with
  |true=>simp[anF,eo,bB.a]
  |false=>
  by_cases hz_keys:keys=[]
  rotate_left
  ·simp[anF,eo,bB.a,hz_keys,ee hz_keys,dM hz_keys,eH hz_keys,dw hz_keys]
  subst hz_keys;by_cases hz_aggs:ah=[]
  rotate_left
  ·simp[anF,eo,bB.a,hz_aggs,ee hz_aggs,dM hz_aggs,eH hz_aggs,dw hz_aggs]
  subst hz_aggs;by_cases hz_items:items=[]
  rotate_left
  ·simp[anF,eo,bB.a,hz_items,ee hz_items,dM hz_items,eH hz_items,dw hz_items]
  subst hz_items;by_cases hz_ords:ords=[]
  rotate_left
  ·simp[anF,eo,bB.a,hz_ords,ee hz_ords,dM hz_ords,eH hz_ords,dw hz_ords,aP (eH hz_ords)]
  subst hz_ords;by_cases hz_limit:limit=0
  rotate_left
  ·simp[anF,eo,bB.a,hz_limit,df hz_limit,aP hz_limit]
  subst hz_limit;simp[anF,eo,bB.a]
 by_cases h4:op=4
 ·subst h4;by_cases hz_tab:tab=0
  rotate_left
  ·simp[anF,eo,bB.a,hz_tab,df hz_tab,aP hz_tab]
  subst hz_tab;by_cases hz_kinds:ac=[]
  rotate_left
  ·simp[anF,eo,bB.a,hz_kinds,ee hz_kinds,dM hz_kinds,eH hz_kinds,dw hz_kinds]
  subst hz_kinds;cases left with
  |true=>simp[anF,eo,bB.a]
  |false=>
  by_cases hz_cond:cond=[]
  rotate_left
  ·simp[anF,eo,bB.a,hz_cond,ee hz_cond,dM hz_cond,eH hz_cond,dw hz_cond]
  subst hz_cond;by_cases hz_items:items=[]
  rotate_left
  ·simp[anF,eo,bB.a,hz_items,ee hz_items,dM hz_items,eH hz_items,dw hz_items]
  subst hz_items;by_cases hz_ords:ords=[]
  rotate_left
  ·simp[anF,eo,bB.a,hz_ords,ee hz_ords,dM hz_ords,eH hz_ords,dw hz_ords,aP (eH hz_ords)]
  subst hz_ords;by_cases hz_limit:limit=0
  rotate_left
  ·simp[anF,eo,bB.a,hz_limit,df hz_limit,aP hz_limit]
  subst hz_limit;simp[anF,eo,bB.a]
 by_cases h5:op=5
 ·subst h5;by_cases hz_tab:tab=0
  rotate_left
  ·simp[anF,eo,bB.a,hz_tab,df hz_tab,aP hz_tab]
  subst hz_tab;by_cases hz_kinds:ac=[]
  rotate_left
  ·simp[anF,eo,bB.a,hz_kinds,ee hz_kinds,dM hz_kinds,eH hz_kinds,dw hz_kinds]
  subst hz_kinds;cases left with
  |true=>simp[anF,eo,bB.a]
  |false=>
  by_cases hz_cond:cond=[]
  rotate_left
  ·simp[anF,eo,bB.a,hz_cond,ee hz_cond,dM hz_cond,eH hz_cond,dw hz_cond]
  subst hz_cond;by_cases hz_keys:keys=[]
  rotate_left
  ·simp[anF,eo,bB.a,hz_keys,ee hz_keys,dM hz_keys,eH hz_keys,dw hz_keys]
  subst hz_keys;by_cases hz_aggs:ah=[]
  rotate_left
  ·simp[anF,eo,bB.a,hz_aggs,ee hz_aggs,dM hz_aggs,eH hz_aggs,dw hz_aggs]
  subst hz_aggs;by_cases hz_ords:ords=[]
  rotate_left
  ·simp[anF,eo,bB.a,hz_ords,ee hz_ords,dM hz_ords,eH hz_ords,dw hz_ords,aP (eH hz_ords)]
  subst hz_ords;by_cases hz_limit:limit=0
  rotate_left
  ·simp[anF,eo,bB.a,hz_limit,df hz_limit,aP hz_limit]
  subst hz_limit;simp[anF,eo,bB.a]
 by_cases h8:op=8
 ·subst h8;by_cases hz_tab:tab=0
  rotate_left
  ·simp[anF,eo,bB.a,hz_tab,df hz_tab,aP hz_tab]
  subst hz_tab;by_cases hz_kinds:ac=[]
  rotate_left
  ·simp[anF,eo,bB.a,hz_kinds,ee hz_kinds,dM hz_kinds,eH hz_kinds,dw hz_kinds]
  subst hz_kinds;cases left with
  |true=>simp[anF,eo,bB.a]
  |false=>
  by_cases hz_cond:cond=[]
  rotate_left
  ·simp[anF,eo,bB.a,hz_cond,ee hz_cond,dM hz_cond,eH hz_cond,dw hz_cond]
  subst hz_cond;by_cases hz_keys:keys=[]
  rotate_left
  ·simp[anF,eo,bB.a,hz_keys,ee hz_keys,dM hz_keys,eH hz_keys,dw hz_keys]
  subst hz_keys;by_cases hz_aggs:ah=[]
  rotate_left
  ·simp[anF,eo,bB.a,hz_aggs,ee hz_aggs,dM hz_aggs,eH hz_aggs,dw hz_aggs]
  subst hz_aggs;by_cases hz_items:items=[]
  rotate_left
  ·simp[anF,eo,bB.a,hz_items,ee hz_items,dM hz_items,eH hz_items,dw hz_items]
  subst hz_items;simp[anF,eo,bB.a]
 by_cases hz_tab:tab=0
 rotate_left
 ·simp[anF,eo,bB.a,h1,df h1,aP h1,h2,df h2,aP h2,h3,df h3,aP h3,h4,df h4,aP h4,h5,df h5,aP h5,h8,df h8,aP h8,hz_tab,df hz_tab,aP hz_tab]
 subst hz_tab;by_cases hz_kinds:ac=[]
 rotate_left
 ·simp[anF,eo,bB.a,h1,df h1,aP h1,h2,df h2,aP h2,h3,df h3,aP h3,h4,df h4,aP h4,h5,df h5,aP h5,h8,df h8,aP h8,hz_kinds,ee hz_kinds,dM hz_kinds,eH hz_kinds,dw hz_kinds]
 subst hz_kinds;cases left with
 |true=>simp[anF,eo,bB.a,h1,df h1,aP h1,h2,df h2,aP h2,h3,df h3,aP h3,h4,df h4,aP h4,h5,df h5,aP h5,h8,df h8,aP h8]
 |false=>
 by_cases hz_cond:cond=[]
 rotate_left
 ·simp[anF,eo,bB.a,h1,df h1,aP h1,h2,df h2,aP h2,h3,df h3,aP h3,h4,df h4,aP h4,h5,df h5,aP h5,h8,df h8,aP h8,hz_cond,ee hz_cond,dM hz_cond,eH hz_cond,dw hz_cond]
 subst hz_cond;by_cases hz_keys:keys=[]
 rotate_left
 ·simp[anF,eo,bB.a,h1,df h1,aP h1,h2,df h2,aP h2,h3,df h3,aP h3,h4,df h4,aP h4,h5,df h5,aP h5,h8,df h8,aP h8,hz_keys,ee hz_keys,dM hz_keys,eH hz_keys,dw hz_keys]
 subst hz_keys;by_cases hz_aggs:ah=[]
 rotate_left
 ·simp[anF,eo,bB.a,h1,df h1,aP h1,h2,df h2,aP h2,h3,df h3,aP h3,h4,df h4,aP h4,h5,df h5,aP h5,h8,df h8,aP h8,hz_aggs,ee hz_aggs,dM hz_aggs,eH hz_aggs,dw hz_aggs]
 subst hz_aggs;by_cases hz_items:items=[]
 rotate_left
 ·simp[anF,eo,bB.a,h1,df h1,aP h1,h2,df h2,aP h2,h3,df h3,aP h3,h4,df h4,aP h4,h5,df h5,aP h5,h8,df h8,aP h8,hz_items,ee hz_items,dM hz_items,eH hz_items,dw hz_items]
 subst hz_items;by_cases hz_ords:ords=[]
 rotate_left
 ·simp[anF,eo,bB.a,h1,df h1,aP h1,h2,df h2,aP h2,h3,df h3,aP h3,h4,df h4,aP h4,h5,df h5,aP h5,h8,df h8,aP h8,hz_ords,ee hz_ords,dM hz_ords,eH hz_ords,dw hz_ords,aP (eH hz_ords)]
 subst hz_ords;by_cases hz_limit:limit=0
 rotate_left
 ·simp[anF,eo,bB.a,h1,df h1,aP h1,h2,df h2,aP h2,h3,df h3,aP h3,h4,df h4,aP h4,h5,df h5,aP h5,h8,df h8,aP h8,hz_limit,df hz_limit,aP hz_limit]
 subst hz_limit;simp[anF,eo,bB.a,h1,df h1,aP h1,h2,df h2,aP h2,h3,df h3,aP h3,h4,df h4,aP h4,h5,df h5,aP h5,h8,df h8,aP h8]
def cI(l:List bB):Nat→Nat
 |0=>0
 |m+1=>
  match l[m]? with
  |none=>0
  |some n=>
   if eD n.op=0 then (if n.l=-1∧n.r=-1 then 1 else 0)
   else if eD n.op=1 then (if n.l=(m:Int)-1∧n.r=-1∧cI l m≠0 then cI l m+1 else 0)
   else if eD n.op=2 then
    if cI l m=0∨n.r≠(m:Int)-1∨n.l≠(m:Int)-1-cI l m then 0
    else if cI l (m-cI l m)=0 then 0 else cI l (m-cI l m)+cI l m+1
   else 0
termination_by m=>m
decreasing_by all_goals omega
theorem rX(l:List bB):∀m,cI l m≤m:=by
 intro m;induction m using Nat.strongRecOn with
 |_ m ih=>
  cases m with
  |zero=>simp[cI]
  |succ m=>
   have h1:=ih m (by omega);have h2:=ih (m-cI l m) (by omega);rw[cI];split
   ·omega
   repeat' split
   all_goals omega
theorem Gq(ab:List bB)(hn:ab.length≤aV):∀m:Nat,∀b,m≤ab.length→bI I.qcl [.agg [.aa b (ab.map bB.a)],aL ((m:Int)-1)]=some (aL (cI ab m)):=by
 intro m;induction m using Nat.strongRecOn with
 |_ m ih=>
  intro b hm;rw[aQ aiy rfl];cases m with
  |zero=>simp[anL,ru,cI]
  |succ m=>
   have hmm:((m+1:Nat):Int)-1=(m:Int):=by omega
   rw[hmm];have aj:m<ab.length:=by omega
   obtain⟨n,hnn⟩:∃n,ab[m]=n:=⟨_,rfl⟩;have hn':ab[m]?=some n:=by rw[←hnn];exact aq aj
   have hge:¬((ab.length:Int)≤m):=by omega
   have hneg:¬((m:Int)<0):=by omega
   have hp:=SQ n.op;have hw:IntKind.i64.wrap ((m:Int)-1)=(m:Int)-1:=dT (by unfold aV at *;omega);rw[cI,hn'];simp only;have hle:=rX ab m;have i1:=fun b=>ih m (by omega) b (by omega);have i2:=fun b=>ih (m-cI ab m) (by omega) b (by omega);obtain⟨op,l,r,tab,bk,ac,left,bc,cond,by',keys,bg,ah,bi,items,bo,ords,limit⟩:=n;simp only at hp ⊢;generalize eD op=p at *;by_cases e0:p=0
   ·subst e0;by_cases hl:l=-1
    ·subst hl;by_cases hr:r=-1
     ·subst hr;simp[anL,ru,hge,hneg,hn',bB.a,hp]
     simp[anL,ru,hge,hneg,hn',bB.a,hp,hr,aP hr]
    simp[anL,ru,hge,hneg,hn',bB.a,hp,hl,aP hl]
   by_cases e1:p=1
   ·subst e1;by_cases hl:l=(m:Int)-1
    ·subst hl;by_cases hr:r=-1
     ·subst hr;by_cases z1:cI ab m=0
      ·simp[anL,ru,hge,hneg,hn',bB.a,hp,hw,i1,z1]
      have z1':0<cI ab m:=by omega
      have hw1:IntKind.i64.wrap ((cI ab m:Int)+1)=(cI ab m:Int)+1:=dT (by unfold aV at *;omega);simp[anL,ru,hge,hneg,hn',bB.a,hp,hw,hw1,i1,z1,z1']
     simp[anL,ru,hge,hneg,hn',bB.a,hp,hw,hr,aP hr]
    simp[anL,ru,hge,hneg,hn',bB.a,hp,hw,hl,aP hl]
   by_cases e2:p=2
   ·subst e2;by_cases hr:r=(m:Int)-1
    ·subst hr;by_cases z1:cI ab m=0
     ·simp[anL,ru,hge,hneg,hn',bB.a,hp,hw,i1,z1]
     have z1':0<cI ab m:=by omega
     generalize hs:cI ab m=q at *;have hle2:=rX ab (m-q);have hc2:((m-q:Nat):Int)=(m:Int)-q:=by omega
     rw[hc2]at i2;have hw2:IntKind.i64.wrap ((m:Int)-1-q)=(m:Int)-1-q:=dT (by unfold aV at *;omega);have hsw:(m:Int)-q-1=(m:Int)-1-q:=by omega
     rw[hsw]at i2;generalize cI ab (m-q)=f at *;have hw3:IntKind.i64.wrap ((f:Int)+q)=(f:Int)+q:=dT (by unfold aV at *;omega);have hw4:IntKind.i64.wrap ((f:Int)+q+1)=(f:Int)+q+1:=dT (by unfold aV at *;omega);by_cases hl:l=(m:Int)-1-q
     ·subst hl;by_cases z2:f=0
      ·subst z2;simp[anL,ru,hge,hneg,hn',bB.a,hp,hw,i1,z1,z1',hw2,i2]
      have z2':0<f:=by omega
      simp[anL,ru,hge,hneg,hn',bB.a,hp,hw,i1,z1,z1',hw2,i2,z2,z2',hw3,hw4]
     simp[anL,ru,hge,hneg,hn',bB.a,hp,hw,i1,z1,z1',hw2,hl,aP hl]
    simp[anL,ru,hge,hneg,hn',bB.a,hp,hw,hr,aP hr]
   simp[anL,ru,hge,hneg,hn',bB.a,hp,e0,e1,e2,aP e0,aP e1,aP e2]

end Go.AM
namespace Go.AM
end Go.AM
namespace Go.AM
open P
set_option maxHeartbeats 64000000
set_option maxRecDepth 40000
attribute [local simp] aF br
abbrev sw(σ:aw):Prop:=∀τ b,σ.length≤b→σ.map (aW b τ)=σ
def pB(σ τ:aw)(v:ap):ap×aw:=if τ.length=σ.length then (v,τ) else (bG σ.length τ v,(τ.take σ.length).map (aW σ.length τ))
theorem b9{σ:aw}(h:sw σ)(o:Obj)(t:aw)(v:ap):pB σ (σ++o::t) v=(bG σ.length (σ++o::t) v,σ):=by
 unfold pB;rw[if_neg (by simp)];rw[fM rfl,h _ _ (aB _)]
def tV(σ:aw)(res:List K0)(r:Option (Ex×St)):Option (ap×aw):=r.bind fun r=>match r.1 with
 |.ext _=>none
 |_=>(results r.2 res).map fun v=>pB σ r.2.st v
@[simp] theorem GH(σ:aw)(res:List K0)(s:St):tV σ res (some (.ret,s))=(results s res).map fun v=>pB σ s.st v:=rfl
@[simp] theorem XA(σ:aw)(res:List K0)(s:St):tV σ res (some (.nrm,s))=(results s res).map fun v=>pB σ s.st v:=rfl
theorem eV{f:Nat}{g:aM}(h:code.fns f=.fn g)(hm:g.mode=.trunc)(args:List ap)(σ:aw) :
  db code f args σ=tV σ g.res (run code g.body ⟨args.take g.np++List.replicate (g.nenv-g.np) .any,σ⟩):=by
 rw[vZ gz h];have he:enter g args σ=⟨args.take g.np++List.replicate (g.nenv-g.np) .any,σ⟩:=by unfold enter;rw[hm]
 rw[he];unfold tV;congr 1;funext r;obtain⟨e,s⟩:=r;unfold oM gq pB;rw[hm];cases e<;>rfl
def Va(R:ap)(l:List Int):Prop:=(R=.ai∧l=[])∨∃b,R=.aa b (l.map (.int .i64))
theorem sL(b:Bool)(l:List Int):Va (.aa b (l.map (.int .i64))) l:=.inr ⟨b,rfl⟩
abbrev iv(N:ap)(s:Nat)(A B e4 e5 e6 e7 e8 e9 e10 e11 e12 e13 e14 e15 e16 e17 e18 e19 e20 e21 e22 e23 e24 e25 e26 e27 e28 e29 e30 e31 e32 e33 e34 e35:ap):List ap:=
 [N,A,B,.ptr s 0 0 0,e4,e5,e6,e7,e8,e9,e10,e11,e12,e13,e14,e15,e16,e17,e18,e19,e20,e21,e22,e23,e24,e25,e26,e27,e28,e29,e30,e31,e32,e33,e34,e35]
abbrev sx(σ:aw)(N:ap)(ep:Nat)(out:List Int):aw:=σ++[.arr 12 0 [N],.arr 1 ep (out.map (.int .i64))]
theorem FX{α:Type}(p:α→Bool):∀(l:List α) (s:Bool),l.foldl (fun s y=>s&&p y) s=(s&&l.all p)
 |[],s=>by simp
 |y::l,s=>by rw[dh,FX p l,eU,eK]
abbrev N1(l r tab:Int)(bk:Bool)(ac:List Int)(c5 c6 c7 c8 c9 c10 c11:ap):ap:=.agg [aL 1,aL l,aL r,aL tab,.aa bk (ac.map (.int .i64)),c5,c6,c7,c8,c9,c10,c11]
def aaj(tab:Int)(ac:List Int):Bool:=!(ac.any fun k=>decide (k<1) ||decide (3<k))&&decide (0≤tab)&&decide (tab<4)&&decide (0<ac.length)&&decide (ac.length≤4)
theorem adB(l r tab:Int)(bk:Bool)(ac:List Int)(c5 c6 c7 c8 c9 c10 c11 A B:ap)(hk:ac.length≤aV)(σ:aw)(hσ:sw σ) :
  db code I.qco [N1 l r tab bk ac c5 c6 c7 c8 c9 c10 c11,A,B] σ=some (.tup [.aa bk (ac.map (.int .i64)),.bool (aaj tab ac)],σ):=by
 rw[eV Ar rfl];have key:=eh (base:=σ.length+2) (clr:=[21]) (b:=uG) ac
  (fun k (s:Bool)=>⟨iv (N1 l r tab bk ac c5 c6 c7 c8 c9 c10 c11) σ.length A B .ai (.bool false) (.sl (σ.length+1) 0 0 0) (.bool s) (aL k) .any .any .any .any .any .any .any .any .any .any (aL 1) (.bool true) .any .any .any .any .any .any .any .any .any .any .any .any .any .any .any,sx σ (N1 l r tab bk ac c5 c6 c7 c8 c9 c10 c11) 0 []⟩)
  (fun _ _=>True) (fun s y=>s&&(decide (1≤y)&&decide (y≤3)))
  (fun s=>(.ext 1,⟨iv (N1 l r tab bk ac c5 c6 c7 c8 c9 c10 c11) σ.length A B .ai (.bool false) (.sl (σ.length+1) 0 0 0) (.bool s) (aL ac.length) .any .any .any .any .any .any .any .any .any .any (aL 1) (.bool true) (.bool false) .any .any .any .any .any .any .any .any .any .any .any .any .any .any,sx σ (N1 l r tab bk ac c5 c6 c7 c8 c9 c10 c11) 0 []⟩))
  (fun k y s hk' hy _=>by
   have aj:((k:Int)<(ac.length:Int)):=by omega
   refine⟨?_,trivial⟩;cases s with
   |false=>simp[iv,sx,uG,aj,hy,bJ hk' hk,bX]
   |true=>
    by_cases h1:1≤y
    ·by_cases h2:y≤3
     ·simp[iv,sx,uG,aj,hy,bJ hk' hk,bX,h1,h2]
     simp[iv,sx,uG,aj,hy,bJ hk' hk,bX,h1,h2]
    simp[iv,sx,uG,aj,hy,bJ hk' hk,bX,h1])
  (fun s _=>by simp[iv,sx,uG])
 have key2:=fun s=>(key s trivial).1;simp only[FX,show ((0:Nat):Int)=0 from rfl]at key2;have k1:=key2 true;have e:(ac.all fun y=>decide (1≤y)&&decide (y≤3))=!(ac.any fun k=>decide (k<1) ||decide (3<k)):=by
  rw[lR];congr 1;funext y;rw[cS];simp
 rw[cG,e]at k1;unfold aaj;simp only[iv,sx]at k1;generalize (ac.any fun k=>decide (k<1) ||decide (3<k))=q at *;simp at k1;cases q with
 |true=>simp[anI,kF,k1,b9 hσ,bG,dp]
 |false=>
  by_cases t0:0≤tab
  ·by_cases t1:tab<4
   ·have t1':tab≤3:=by omega
    by_cases t2:ac=[]
    ·subst t2;simp at k1;simp[anI,kF,k1,t0,t1,t1',b9 hσ,bG,dp]
    have t2':(1:Int)≤ac.length:=by
     have:ac.length≠0:=fun h=>t2 (bM h);omega
    have t2'':0<ac.length:=by omega
    by_cases t3:ac.length≤4
    ·have t3':(ac.length:Int)≤4:=by omega
     simp[anI,kF,k1,t0,t1,t1',t2',t2'',t3,t3',b9 hσ,bG,dp]
    have t3':¬(ac.length:Int)≤4:=by omega
    simp[anI,kF,k1,t0,t1,t1',t2',t2'',t3,t3',b9 hσ,bG,dp]
   have t1':¬tab≤3:=by omega
   simp[anI,kF,k1,t0,t1,t1',b9 hσ,bG,dp]
  simp[anI,kF,k1,t0,b9 hσ,bG,dp]
theorem aif(n:bB)(A B:ap)(h1:n.op=1)(hk:n.ac.length≤aV)(σ:aw)(hσ:sw σ) :
  db code I.qco [n.a,A,B] σ=some (.tup [.aa n.bk (n.ac.map (.int .i64)),.bool (wQ n)],σ):=by
 have h:=adB n.l n.r n.tab n.bk n.ac (.bool n.left) (.aa n.bc (n.cond.map EN.a)) (.aa n.by' (n.keys.map (.int .i64))) (.aa n.bg (n.ah.map ew.a)) (.aa n.bi (n.items.map kh.a)) (.aa n.bo (n.ords.map fU)) (aL n.limit) A B hk σ hσ;rw[show n.a=N1 n.l n.r n.tab n.bk n.ac (.bool n.left) (.aa n.bc (n.cond.map EN.a)) (.aa n.by' (n.keys.map (.int .i64))) (.aa n.bg (n.ah.map ew.a)) (.aa n.bi (n.items.map kh.a)) (.aa n.bo (n.ords.map fU)) (aL n.limit) by simp[bB.a,h1]];exact h
theorem aj1(n:bB)(ba bb:Bool)(a b:List Int)(h1:n.op=2)(hc:n.cond.length≤aV)(ha:a≠[])(hb:b≠[])(hal:a.length≤8000)(hbl:b.length≤8000)(σ:aw)(hσ:sw σ) :
  db code I.qco [n.a,.aa ba (bE a),.aa bb (bE b)] σ=some (.tup [.aa false (bE (a++b)),.bool (mn n.cond (a++b))],σ):=by
 rw[eV Ar rfl];obtain⟨op,l,r,tab,bk,ac,left,bc,cond,by',keys,bg,ah,bi,items,bo,ords,limit⟩:=n;simp only at h1 hc;subst h1;have ht:=fun b' bk'=>G8 b' cond bk' (a++b) hc (by rw[dD];unfold aV;omega);have h2:a.length≤aV:=by unfold aV;omega
 have h3:a.length+b.length≤aV:=by unfold aV;omega
 have htk:List.take (a.length+b.length) (List.map (ap.int IntKind.i64) (a++b))=List.map (ap.int IntKind.i64) (a++b):=ay (by simp);simp[anI,kF,bB.a,append,ha,hb,h2,h3,htk,ht,b9 hσ,bG,dp,-List.map_append,←List.map_append]
theorem aky(n:bB)(ba:Bool)(a:List Int)(B:ap)(h1:n.op=3)(hc:n.cond.length≤aV)(hal:a.length≤8000)(σ:aw)(hσ:sw σ) :
  db code I.qco [n.a,.aa ba (bE a),B] σ=some (.tup [.aa ba (bE a),.bool (mn n.cond a)],σ):=by
 rw[eV Ar rfl];obtain⟨op,l,r,tab,bk,ac,left,bc,cond,by',keys,bg,ah,bi,items,bo,ords,limit⟩:=n;simp only at h1 hc;subst h1;have ht:=fun b' bk'=>G8 b' cond bk' a hc (by unfold aV;omega);simp[anI,kF,bB.a,ht,b9 hσ,bG,dp]
theorem agB(n:bB)(ba:Bool)(a:List Int)(B:ap)(h1:n.op=6)(σ:aw)(hσ:sw σ) :
  db code I.qco [n.a,.aa ba (bE a),B] σ=some (.tup [.aa ba (bE a),.bool true],σ):=by
 rw[eV Ar rfl];obtain⟨op,l,r,tab,bk,ac,left,bc,cond,by',keys,bg,ah,bi,items,bo,ords,limit⟩:=n;simp only at h1;subst h1;simp[anI,kF,bB.a,b9 hσ,bG,dp]
theorem ajh(n:bB)(ba:Bool)(a:List Int)(B:ap)(h1:n.op=8)(ho:n.ords.length≤aV)(σ:aw)(hσ:sw σ) :
  db code I.qco [n.a,.aa ba (bE a),B] σ=some (.tup [.aa ba (bE a),.bool (vw n a)],σ):=by
 rw[eV Ar rfl];have key:=eh (base:=σ.length+2) (clr:=[35]) (b:=ui) n.ords
  (fun k (s:Bool)=>⟨iv n.a σ.length (.aa ba (bE a)) B .ai (.bool false) (.sl (σ.length+1) 0 0 0) (.bool s) .any .any .any .any .any .any .any .any .any .any (aL k) (aL 8) (.bool false) .any (.bool false) (.bool false) (.bool false) .any .any .any (.bool false) .any (.bool false) (.bool false) .any .any .any .any,sx σ n.a 0 []⟩)
  (fun _ _=>True) (fun s y=>s&&(decide (0≤y.1)&&decide (y.1<(a.length:Int))))
  (fun s=>(.ext 11,⟨iv n.a σ.length (.aa ba (bE a)) B .ai (.bool false) (.sl (σ.length+1) 0 0 0) (.bool s) .any .any .any .any .any .any .any .any .any .any (aL n.ords.length) (aL 8) (.bool false) .any (.bool false) (.bool false) (.bool false) .any .any .any (.bool false) .any (.bool false) (.bool false) .any .any .any (.bool false),sx σ n.a 0 []⟩))
  (fun k y s hk' hy _=>by
   have aj:((k:Int)<(n.ords.length:Int)):=by omega
   refine⟨?_,trivial⟩;cases s with
   |false=>simp[iv,sx,bB.a,ui,aj,hy,fU,bJ hk' ho,bX]
   |true=>
    by_cases h1:0≤y.1
    ·by_cases h2:y.1<(a.length:Int)
     ·simp[iv,sx,bB.a,ui,aj,hy,fU,bJ hk' ho,bX,h1,h2]
     simp[iv,sx,bB.a,ui,aj,hy,fU,bJ hk' ho,bX,h1,h2]
    simp[iv,sx,bB.a,ui,aj,hy,fU,bJ hk' ho,bX,h1])
  (fun s _=>by simp[iv,sx,bB.a,ui])
 have k1:=(key true trivial).1;simp only[FX,show ((0:Nat):Int)=0 from rfl]at k1;have e:(n.ords.all fun y=>decide (0≤y.1)&&decide (y.1<(a.length:Int)))=!(n.ords.any fun o=>decide (o.1<0) ||decide ((a.length:Int)≤o.1)):=by
  rw[lR];congr 1;funext y;rw[cS];simp
 rw[cG,e]at k1;unfold vw;obtain⟨op,l,r,tab,bk,ac,left,bc,cond,by',keys,bg,ah,bi,items,bo,ords,limit⟩:=n;simp only at h1 ho;subst h1;simp only[iv,sx,bB.a]at k1 ⊢
 try simp only at k1
 generalize (ords.any fun o=>decide (o.1<0) ||decide ((a.length:Int)≤o.1))=q at *;simp at k1;cases q with
 |true=>simp[anI,kF,k1,b9 hσ,bG,dp]
 |false=>
  by_cases t0:ords.length≤3
  ·have t0':(ords.length:Int)≤3:=by omega
   by_cases t1:-1≤limit
   ·by_cases t2:limit≤2147483647
    ·simp[anI,kF,k1,t0,t0',t1,t2,b9 hσ,bG,dp]
    simp[anI,kF,k1,t0,t0',t1,t2,b9 hσ,bG,dp]
   simp[anI,kF,k1,t0,t0',t1,b9 hσ,bG,dp]
  have t0':¬(ords.length:Int)≤3:=by omega
  simp[anI,kF,k1,t0,t0',b9 hσ,bG,dp]
abbrev Lg(a:List Int)(s:Nat×List Int×Bool)(e:kh):Nat×List Int×Bool:=(s.1+1,s.2.1++[(fe e.l a).1],s.2.2&&(fe e.l a).2==0)
theorem Gu(a:List Int):∀(l:List kh) (s:Nat×List Int×Bool),l.foldl (Lg a) s=(s.1+l.length,s.2.1++l.map (fun e=>(fe e.l a).1),s.2.2&&l.all fun e=>(fe e.l a).2==0)
 |[],s=>by simp
 |e::l,s=>by
  rw[dh,Gu a l];simp[Lg,eK,cA,eE 1]
abbrev N5(c1 c2 c3 c4 c5 c6 c7 c8:ap)(bi:Bool)(items:List kh)(c10 c11:ap):ap:=.agg [aL 5,c1,c2,c3,c4,c5,c6,c7,c8,.aa bi (items.map kh.a),c10,c11]
theorem acw(c1 c2 c3 c4 c5 c6 c7 c8:ap)(bi:Bool)(items:List kh)(c10 c11:ap)(ba:Bool)(a:List Int)(B:ap)(hi:items.length≤8000)(he:∀e∈items,e.l.length≤aV)(hal:a.length≤8000)(σ:aw)(hσ:sw σ) :
  db code I.qco [N5 c1 c2 c3 c4 c5 c6 c7 c8 bi items c10 c11,.aa ba (bE a),B] σ=some (.tup [.aa false (bE (items.map fun e=>(fe e.l a).1)),.bool ((items.all fun e=>(fe e.l a).2==0)&&decide (1≤items.length)&&decide (items.length≤16))],σ):=by
 rw[eV Ar rfl];have hm:items.length≤aV:=by unfold aV;omega
 have key:=eh (base:=σ.length+2) (clr:=[14,15,29]) (b:=xu) items
  (fun k (s:Nat×List Int×Bool)=>⟨iv (N5 c1 c2 c3 c4 c5 c6 c7 c8 bi items c10 c11) σ.length (.aa ba (bE a)) B .ai (.bool false) (.sl (σ.length+1) s.1 0 s.2.1.length) (.bool s.2.2) .any .any .any .any .any (aL k) .any .any .any .any .any (aL 5) (.bool false) .any (.bool false) (.bool false) (.bool false) .any .any .any (.bool true) .any .any .any .any .any .any .any,sx σ (N5 c1 c2 c3 c4 c5 c6 c7 c8 bi items c10 c11) s.1 s.2.1⟩)
  (fun k s=>s.2.1.length=k) (Lg a)
  (fun s=>(.ext 7,⟨iv (N5 c1 c2 c3 c4 c5 c6 c7 c8 bi items c10 c11) σ.length (.aa ba (bE a)) B .ai (.bool false) (.sl (σ.length+1) s.1 0 s.2.1.length) (.bool s.2.2) .any .any .any .any .any (aL items.length) .any .any .any .any .any (aL 5) (.bool false) .any (.bool false) (.bool false) (.bool false) .any .any .any (.bool true) (.bool false) .any .any .any .any .any .any,sx σ (N5 c1 c2 c3 c4 c5 c6 c7 c8 bi items c10 c11) s.1 s.2.1⟩))
  (fun k y s hk' hy hs=>by
   obtain⟨ep,out,ok⟩:=s;simp only at hs;have aj:((k:Int)<(items.length:Int)):=by omega
   have h5:out.length+1≤aV:=by unfold aV;omega
   have hkd:=fun b bk=>Gm b y.l bk a (he y (aD hy)) (by unfold aV;omega);refine⟨?_,by simp[Lg];omega⟩;unfold Lg;generalize fe y.l a=q at *;obtain⟨kk,no⟩:=q;simp only at hkd ⊢;cases ok with
   |false=>simp[iv,sx,xu,aj,hy,kh.a,hkd,append,h5,bJ hk' hm,bX]
   |true=>
    by_cases h0:no=0
    ·simp[iv,sx,xu,aj,hy,kh.a,hkd,append,h5,bJ hk' hm,bX,h0]
    simp[iv,sx,xu,aj,hy,kh.a,hkd,append,h5,bJ hk' hm,bX,h0,aP h0])
  (fun s _=>by simp[iv,sx,xu]) (0,[],true) rfl
 have k1:=key.1;rw[Gu]at k1;simp only[show ((0:Nat):Int)=0 from rfl,bN,cG]at k1;have hl:(items.map fun e=>(fe e.l a).1).length=items.length:=by simp
 have hnn:items.length=0↔items=[]:=⟨fun h=>bM h,fun h=>by rw[h];rfl⟩;generalize hK:(items.map fun e=>(fe e.l a).1)=K at *;generalize (items.all fun e=>(fe e.l a).2==0)=q at *;rw[hl]at k1;simp only[iv,sx]at k1
 try simp only at k1
 have htk:List.take items.length (List.map (ap.int IntKind.i64) K)=List.map (ap.int IntKind.i64) K:=ay (by simp[hl]);simp at k1;have t1:(decide ((1:Int)≤items.length))=decide (1≤items.length):=by rw[cS];simp;omega
 have t2:(decide ((items.length:Int)≤16))=decide (items.length≤16):=by rw[cS];simp;omega
 by_cases c1:1≤items.length
 ·have c1':(1:Int)≤items.length:=by omega
  by_cases c2:items.length≤16
  ·have c2':(items.length:Int)≤16:=by omega
   cases q<;>simp[anI,kF,k1,hl,htk,c1,c1',c2,c2',b9 hσ,bG,dp]
  have c2':¬(items.length:Int)≤16:=by omega
  cases q<;>simp[anI,kF,k1,hl,htk,c1,c1',c2,c2',b9 hσ,bG,dp]
 have c1':¬(1:Int)≤items.length:=by omega
 cases q<;>simp[anI,kF,k1,hl,htk,c1,c1',b9 hσ,bG,dp]
theorem aio(n:bB)(ba:Bool)(a:List Int)(B:ap)(h1:n.op=5)(hi:n.items.length≤8000)(he:∀e∈n.items,e.l.length≤aV)(hal:a.length≤8000)(σ:aw)(hσ:sw σ) :
  db code I.qco [n.a,.aa ba (bE a),B] σ=some (.tup [.aa false (bE (n.items.map fun e=>(fe e.l a).1)),.bool ((n.items.all fun e=>(fe e.l a).2==0)&&decide (1≤n.items.length)&&decide (n.items.length≤16))],σ):=by
 have h:=acw (aL n.l) (aL n.r) (aL n.tab) (.aa n.bk (n.ac.map (.int .i64))) (.bool n.left) (.aa n.bc (n.cond.map EN.a)) (.aa n.by' (n.keys.map (.int .i64))) (.aa n.bg (n.ah.map ew.a)) n.bi n.items (.aa n.bo (n.ords.map fU)) (aL n.limit) ba a B hi he hal σ hσ;rw[show n.a=N5 (aL n.l) (aL n.r) (aL n.tab) (.aa n.bk (n.ac.map (.int .i64))) (.bool n.left) (.aa n.bc (n.cond.map EN.a)) (.aa n.by' (n.keys.map (.int .i64))) (.aa n.bg (n.ah.map ew.a)) n.bi n.items (.aa n.bo (n.ords.map fU)) (aL n.limit) by simp[bB.a,h1]];exact h
abbrev T4(k o:Int):Int:=if k=0 then o else k
abbrev Kd(b:List Int)(s:Nat×List Int×Bool)(p:Int):Nat×List Int×Bool:=(s.1+1,s.2.1++[T4 p (b.getD s.1 0)],s.2.2&&(b.getD s.1 0==T4 p (b.getD s.1 0) ||b.getD s.1 0==0))
theorem ag6(n:bB)(ba bb:Bool)(a b:List Int)(h1:n.op=7)(hal:a.length≤8000)(hab:a.length=b.length)(σ:aw)(hσ:sw σ) :
  db code I.qco [n.a,.aa ba (bE a),.aa bb (bE b)] σ=some (.tup [.aa false (bE (a.foldl (Kd b) (0,[],true)).2.1),.bool (a.foldl (Kd b) (0,[],true)).2.2],σ):=by
 rw[eV Ar rfl];have hm:a.length≤aV:=by unfold aV;omega
 have key:=eh (base:=σ.length+2) (clr:=[17,33,34]) (b:=qS) a
  (fun k (s:Nat×List Int×Bool)=>⟨iv n.a σ.length (.aa ba (bE a)) (.aa bb (bE b)) .ai (.bool false) (.sl (σ.length+1) s.1 0 s.2.1.length) (.bool s.2.2) .any .any .any .any .any .any .any .any (aL k) .any .any (aL 7) (.bool false) .any (.bool false) (.bool false) (.bool false) .any .any .any (.bool false) .any (.bool false) (.bool true) (.bool false) .any .any .any,sx σ n.a s.1 s.2.1⟩)
  (fun k s=>s.2.1.length=k∧s.1=k) (Kd b)
  (fun s=>(.ext 9,⟨iv n.a σ.length (.aa ba (bE a)) (.aa bb (bE b)) .ai (.bool false) (.sl (σ.length+1) s.1 0 s.2.1.length) (.bool s.2.2) .any .any .any .any .any .any .any .any (aL a.length) .any .any (aL 7) (.bool false) .any (.bool false) (.bool false) (.bool false) .any .any .any (.bool false) .any (.bool false) (.bool true) (.bool false) (.bool false) .any .any,sx σ n.a s.1 s.2.1⟩))
  (fun k y s hk' hy hs=>by
   obtain⟨ep,out,ok⟩:=s;simp only at hs;obtain⟨hs,rfl⟩:=hs;have aj:((ep:Int)<(a.length:Int)):=by omega
   have h5:out.length+1≤aV:=by unfold aV;omega
   have hb:b[ep]?=some (b.getD ep 0):=by rw[aE,aq (by omega)];rfl
   refine⟨?_,by simp[Kd];omega⟩;unfold Kd T4;simp only;generalize b.getD ep 0=o at *;by_cases hy0:y=0
   ·subst hy0;cases ok with
    |false=>simp[iv,sx,bB.a,qS,aj,hy,hb,append,h5,bJ hk' hm,bX]
    |true=>simp[iv,sx,bB.a,qS,aj,hy,hb,append,h5,bJ hk' hm,bX]
   rw[if_neg hy0];cases ok with
   |false=>simp[iv,sx,bB.a,qS,aj,hy,hb,hy0,aP hy0,append,h5,bJ hk' hm,bX]
   |true=>
    by_cases ho:o=y
    ·subst ho;simp[iv,sx,bB.a,qS,aj,hy,hb,hy0,aP hy0,append,h5,bJ hk' hm,bX]
    by_cases ho0:o=0
    ·subst ho0;simp[iv,sx,bB.a,qS,aj,hy,hb,hy0,ho,aP ho,aP hy0,append,h5,bJ hk' hm,bX]
    simp[iv,sx,bB.a,qS,aj,hy,hb,hy0,ho,ho0,aP ho,aP ho0,aP hy0,append,h5,bJ hk' hm,bX])
  (fun s _=>by simp[iv,sx,bB.a,qS]) (0,[],true) ⟨rfl,rfl⟩
 obtain⟨k1,k2,k3⟩:=key;generalize a.foldl (Kd b) (0,[],true)=q at *;obtain⟨ep,out,ok⟩:=q;simp only[show ((0:Nat):Int)=0 from rfl]at k1 k2 k3 ⊢;obtain⟨op,l,r,tab,bk,ac,left,bc,cond,by',keys,bg,ah,bi,items,bo,ords,limit⟩:=n;simp only at h1;subst h1;simp only[iv,sx,bB.a]at k1 ⊢
 try simp only at k1
 have htk:List.take out.length (List.map (ap.int IntKind.i64) out)=List.map (ap.int IntKind.i64) out:=ay (by simp);simp at k1;have hne:((a.length:Int) != (b.length:Int))=false:=by simp[hab]
 simp[anI,kF,k1,hne,htk,b9 hσ,bG,dp]
theorem ads(n:bB)(ba bb:Bool)(a b:List Int)(h1:n.op=7)(hab:a.length≠b.length)(σ:aw)(hσ:sw σ) :
  db code I.qco [n.a,.aa ba (bE a),.aa bb (bE b)] σ=some (.tup [.ai,.bool false],σ):=by
 rw[eV Ar rfl];obtain⟨op,l,r,tab,bk,ac,left,bc,cond,by',keys,bg,ah,bi,items,bo,ords,limit⟩:=n;simp only at h1;subst h1;have hne:((a.length:Int) != (b.length:Int))=true:=by simp;omega
 simp[anI,kF,bB.a,hne,b9 hσ,bG,dp]
abbrev agS(a:List Int)(s:Nat×List Int×Bool)(g:ew):Nat×List Int×Bool:=(s.1+1,s.2.1++[(oQ a g).1],s.2.2&&(oQ a g).2)
theorem MW(a:List Int):∀(l:List ew) (s:Nat×List Int×Bool),l.foldl (agS a) s=(s.1+l.length,s.2.1++l.map (fun g=>(oQ a g).1),s.2.2&&l.all fun g=>(oQ a g).2)
 |[],s=>by simp
 |e::l,s=>by
  rw[dh,MW a l];simp[agS,eK,cA,eE 1]
def WG(n:bB)(a:List Int):Bool:=(n.ah.all fun g=>(oQ a g).2)&&decide (n.keys.length≤3)&&decide (n.ah.length≤12)&&decide (0<n.keys.length+n.ah.length)
theorem afI(n:bB)(ba:Bool)(a:List Int)(B:ap)(h1:n.op=4)(hk:n.keys.length≤8000)(hg:n.ah.length≤8000)(he:∀g∈n.ah,g.arg.length≤aV)(hal:a.length≤8000)(σ:aw)(hσ:sw σ) :
  db code I.qco [n.a,.aa ba (bE a),B] σ=match tL a n.keys with
   |none=>some (.tup [.ai,.bool false],σ)
   |some ks=>some (.tup [.aa false (bE (ks++n.ah.map fun g=>(oQ a g).1)),.bool (WG n a)],σ):=by
 rw[eV Ar rfl];have hkm:n.keys.length≤aV:=by unfold aV;omega
 have hgm:n.ah.length≤aV:=by unfold aV;omega
 have h:=eL (base:=σ.length+2) (clr:=[4,5,25,26]) (b:=xF) n.keys
  (fun k (s:Nat×List Int)=>⟨iv n.a σ.length (.aa ba (bE a)) B .any .any (.sl (σ.length+1) s.1 0 s.2.length) (.bool true) .any (aL k) .any .any .any .any .any .any .any .any .any (aL 4) (.bool false) .any (.bool false) (.bool false) (.bool true) .any .any .any .any .any .any .any .any .any .any .any,sx σ n.a s.1 s.2⟩)
  (fun k s=>s.2.length=k) (TJ a)
  (fun s=>(.ext 3,⟨iv n.a σ.length (.aa ba (bE a)) B .any .any (.sl (σ.length+1) s.1 0 s.2.length) (.bool true) .any (aL n.keys.length) .any .any .any .any .any .any .any .any .any (aL 4) (.bool false) .any (.bool false) (.bool false) (.bool true) (.bool false) .any .any .any .any .any .any .any .any .any .any,sx σ n.a s.1 s.2⟩))
  (fun _ o=>∃s,o=(.ret,s)∧tV σ [.env 4,.env 5] (some (.ret,s))=some (.tup [.ai,.bool false],σ))
  (fun k x s hk' hy hs=>by
   obtain⟨ep,acc⟩:=s;simp only at hs;have aj:((k:Int)<(n.keys.length:Int)):=by omega
   have h5:acc.length+1≤aV:=by unfold aV;omega
   unfold TJ;by_cases h1:0≤x
   ·by_cases h2:x<a.length
    ·rw[if_pos ⟨h1,h2⟩];refine⟨?_,by simp;omega⟩;have e1:¬(x<0):=by omega
     have e2:¬((a.length:Int)≤x):=by omega
     have e3:a[x.toNat]?=some (a.getD x.toNat 0):=by
      have:x.toNat < a.length:=by omega
      simp[aE,this]
     generalize a.getD x.toNat 0=w at *;simp[iv,sx,bB.a,xF,aj,hy,e1,e2,e3,h1,append,h5,bJ hk' hkm,bX]
    rw[if_neg (fun h=>h2 h.2)];have e1:¬(x<0):=by omega
    have e2:((a.length:Int)≤x):=by omega
    exact⟨_,by simp[iv,sx,bB.a,xF,aj,hy,e1,e2];rfl,_,rfl,by simp[b9 hσ,bG,dp]⟩
   rw[if_neg (fun h=>h1 h.1)];have e1:(x<0):=by omega
   exact⟨_,by simp[iv,sx,bB.a,xF,aj,hy,e1];rfl,_,rfl,by simp[b9 hσ,bG,dp]⟩)
  (fun s hs=>by simp[iv,sx,bB.a,xF]) (0,[]) rfl
 rw[Ia]at h;have h2:=fun ks:List Int=>fun hks:ks.length=n.keys.length=>(eh (base:=σ.length+2) (clr:=[11,12,27]) (b:=Df) n.ah
  (fun k (s:Nat×List Int×Bool)=>⟨iv n.a σ.length (.aa ba (bE a)) B .any .any (.sl (σ.length+1) s.1 0 s.2.1.length) (.bool s.2.2) .any (aL n.keys.length) (aL k) .any .any .any .any .any .any .any .any (aL 4) (.bool false) .any (.bool false) (.bool false) (.bool true) (.bool false) .any .any .any .any .any .any .any .any .any .any,sx σ n.a s.1 s.2.1⟩)
  (fun k s=>s.2.1.length=n.keys.length+k) (agS a)
  (fun s=>(.ext 5,⟨iv n.a σ.length (.aa ba (bE a)) B .any .any (.sl (σ.length+1) s.1 0 s.2.1.length) (.bool s.2.2) .any (aL n.keys.length) (aL n.ah.length) .any .any .any .any .any .any .any .any (aL 4) (.bool false) .any (.bool false) (.bool false) (.bool true) (.bool false) .any (.bool false) .any .any .any .any .any .any .any .any,sx σ n.a s.1 s.2.1⟩))
  (fun k g s hk' hy hs=>by
   obtain⟨ep,acc,ok⟩:=s;simp only at hs;have aj:((k:Int)<(n.ah.length:Int)):=by omega
   have h5:acc.length+1≤aV:=by unfold aV;omega
   have hkd:=fun bk=>GO g bk a (he g (aD hy)) (by unfold aV;omega);refine⟨?_,by simp[agS];omega⟩;unfold agS;generalize oQ a g=q at *;obtain⟨kk,may⟩:=q;simp only at hkd ⊢;cases ok<;>cases may<;>simp[iv,sx,bB.a,Df,aj,hy,ew.a,hkd,append,h5,bJ hk' hgm,bX])
  (fun s hs=>by simp[iv,sx,bB.a,Df]) (n.keys.length,ks,true) hks).1
 simp only[MW]at h2;cases hq:tL a n.keys with
 |none=>
  rw[hq]at h;obtain⟨o,h1',s,rfl,h3⟩:=h;obtain⟨op,l,r,tab,bk,ac,left,bc,cond,by',keys,bg,ah,bi,items,bo,ords,limit⟩:=n;simp only at h1;subst h1;simp only[iv,sx,bB.a]at h1' ⊢;simp only[show ((0:Nat):Int)=0 from rfl]at h1';simp at h1';simp[anI,kF,h1',-GH];exact h3
 |some ks=>
  rw[hq]at h;obtain⟨_,h1'⟩:=h;have hks:=S1 hq;have h2':=h2 ks hks;unfold WG;generalize (n.ah.all fun g=>(oQ a g).2)=q at *;generalize hG:(n.ah.map fun g=>(oQ a g).1)=G at *;have hGl:G.length=n.ah.length:=by rw[←hG];simp
  obtain⟨op,l,r,tab,bk,ac,left,bc,cond,by',keys,bg,ah,bi,items,bo,ords,limit⟩:=n;simp only at h1 hks hGl hk hg;subst h1;simp only[iv,sx,bB.a]at h1' h2' ⊢;simp only[show ((0:Nat):Int)=0 from rfl,bN,cu,cG,hks]at h1' h2';have htk:List.take (keys.length+ah.length) (List.map (ap.int IntKind.i64) (ks++G))=List.map (ap.int IntKind.i64) (ks++G):=ay (by simp[hks,hGl]);simp[hks,hGl,-List.map_append]at h1' h2';by_cases c1:keys.length≤3
  ·have c1':(keys.length:Int)≤3:=by omega
   by_cases c2:ah.length≤12
   ·have c2':(ah.length:Int)≤12:=by omega
    by_cases c3:0<keys.length+ah.length
    ·have c3':(0:Int)<keys.length+ah.length:=by omega
     cases q<;>simp[anI,kF,h1',h2',hks,hGl,htk,c1,c1',c2,c2',c3,c3',b9 hσ,bG,dp,-List.map_append]
    have c3':¬(0:Int)<keys.length+ah.length:=by omega
    cases q<;>simp[anI,kF,h1',h2',hks,hGl,htk,c1,c1',c2,c2',c3,c3',b9 hσ,bG,dp,-List.map_append]
   have c2':¬(ah.length:Int)≤12:=by omega
   cases q<;>simp[anI,kF,h1',h2',hks,hGl,htk,c1,c1',c2,c2',b9 hσ,bG,dp,-List.map_append]
  have c1':¬(keys.length:Int)≤3:=by omega
  cases q<;>simp[anI,kF,h1',h2',hks,hGl,htk,c1,c1',b9 hσ,bG,dp,-List.map_append]
inductive NK where
 |n (x:bB)
 |sc
 |pr (at':Int) (a:List Int)
def abn(x:Int):kh:=⟨false,[if 0<x then ⟨2,-1,-1,x-1,rU⟩ else ⟨1,-1,-1,0,rU⟩]⟩
def agd:bB:=⟨1,-1,-1,0,false,[1,2,3],false,false,[],false,[],false,[],false,[],false,[],0⟩
def agy(p:Int)(a:List Int):bB:=⟨5,p,-1,0,false,[],false,false,[],false,[],false,[],false,a.map abn,false,[],0⟩
def NK.x:NK→bB
 |.n x=>x
 |.sc=>agd
 |.pr p a=>agy p a
def NK.a:NK→ap
 |.n x=>x.a
 |.sc=>N1 (-1) (-1) 0 false [1,2,3] (.bool false) .ai .ai .ai .ai .ai (.int .i64 0)
 |.pr p a=>N5 (.int .i64 p) (.int .i64 (-1)) (.int .i64 0) .ai (.bool false) .ai .ai .ai false (a.map abn) .ai (.int .i64 0)
instance:Nc NK.a 12 true:=⟨fun y=>by cases y<;>rfl,fun y=>by cases y<;>rfl⟩
theorem YS(base:Nat)(σ:aw)(m:Nat)(k:NK):fz false true base σ (m+3) k.a=k.a:=by
 cases k with
 |n x=>exact Ft.ft (f:=bB.a) false true base σ m x rfl
 |sc=>simp[NK.a]
 |pr p a=>simp[NK.a]
structure VQ (σ:aw) (id ep:Nat) (ab:List NK):Prop where
 firm:sw σ
 lt:id<σ.length
 at':σ[id]?=some (.arr 12 ep (ab.map NK.a))
 len:ab.length≤aV
abbrev LV(id ep len:Nat):ap:=.agg [.sl id ep 0 len]
theorem VQ.get{σ:aw}{id ep:Nat}{ab:List NK}(h:VQ σ id ep ab)(τ:aw):(σ++τ)[id]?=some (.arr 12 ep (ab.map NK.a)):=by
 rw[bu h.lt,h.at']
theorem sw.app{σ:aw}(h:sw σ)(t:aw)(ht:∀τ b,σ.length+t.length≤b→t.map (aW b τ)=t):sw (σ++t):=fun τ b hb=>by
 rw[dD]at hb;rw[bR,h τ b (by omega),ht τ b hb]
theorem VQ.app{σ:aw}{id ep:Nat}{ab:List NK}(h:VQ σ id ep ab)(m:Nat)(n:NK):VQ (σ++[.arr 1 0 [LV id ep m],.arr 12 0 [n.a]]) id ep ab:=
 ⟨h.firm.app _ fun τ b hb=>by
  have:=h.lt;have h1:id<b:=by omega
  have hnz:∀m,fz false true b τ (m+3) n.a=n.a:=fun m=>YS b τ m n;simp[aW,bG,dp,hnz,h1],by have:=h.lt;simp;omega,h.get _,h.len⟩
end Go.AM
