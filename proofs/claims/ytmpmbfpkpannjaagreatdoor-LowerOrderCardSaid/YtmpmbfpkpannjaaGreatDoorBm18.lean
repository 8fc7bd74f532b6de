/- Part of the proof. -/
import Derived.Test.YtmpmbfpkpannjaaGreatDoorBm17
set_option linter.unusedVariables false
set_option linter.unusedSimpArgs false
set_option linter.unusedSectionVars false
namespace Go.AM
open P
set_option maxHeartbeats 64000000
set_option maxRecDepth 40000
theorem Ml{f:Nat}{g:br}(h:code.fns f=.nilfn g)(a:g.mode.isPure=true){x:aq}{σ:aw}{xs:List aq}(j:snap σ x=.aa true xs)(i:jJ σ x=xs.isEmpty) :
  cC code f [x] σ=(bw f [.aa true xs]).map (·,σ):=by
 have k:∀b,jJ [] (.aa b xs)=xs.isEmpty:=fun b=>by cases xs<;>simp[jJ,rd]
 have e:=tS h a true xs σ;rw[←e,kG good h,kG good h,i];have c:jJ σ (.aa true xs)=xs.isEmpty:=by cases xs<;>simp[jJ,rd]
 rw[c];have d:snap σ (.aa true xs)=.aa true xs:=by simp
 cases xs.isEmpty with
 |true=>rfl
 |false=>
  simp only[bq,cH];rw[vx a [x] σ,vx a [.aa true xs] σ];simp only[aW,bm,j,d]
def rV{β:Type}(GH:EN→List β→β×Int)(_:Nat)(n:EN)(st:List β):List β⊕Int:=
 if (GH n (st.drop (st.length-(dt n.tag).toNat))).2=0 then .inl (st.take (st.length-(dt n.tag).toNat)++[(GH n (st.drop (st.length-(dt n.tag).toNat))).1])
 else .inr (GH n (st.drop (st.length-(dt n.tag).toNat))).2
def Cl{β:Type}(z:β)(GH:EN→List β→β×Int)(e:List EN):β×Int:=
 match dA (rV GH) e 0 [] with
 |.inl st=>(st.headD z,0)
 |.inr no=>(z,no)
theorem ti:∀(l:List EN) (n:EN) (i:Nat) (a o:List Nat),ir (l++[n]) i a o=(ir l i a o).bind fun q=>sJ (i+l.length) n q.1 q.2
 |[],n,i,a,o=>by simp[ir];cases sJ i n a o<;>rfl
 |m::l,n,i,a,o=>by
  simp only[bY,ir,bB];cases sJ i m a o with
  |none=>rfl
  |some q=>
   simp only[cG];rw[ti l n (i+1) q.1 q.2];simp only[dB,g9 1]
theorem Ze{e:List EN}(b:wa e=true){k:Nat}(d:k≤e.length):∃a o,ir (e.take k) 0 [] []=some (a,o):=by
 cases h:ir (e.take k) 0 [] [] with
 |some q=>exact⟨q.1,q.2,rfl⟩
 |none=>
  have key:∀m,k≤m→m≤e.length→ir (e.take m) 0 [] []=none:=by
   intro m c;induction c with
   |refl=>intro _;exact h
   |@step m c f=>
    intro g;rw[dq (by omega),ti,f (by omega)];rfl
  have:=key e.length d (aF _);rw[du]at this;unfold wa at b;rw[this]at b;cases b
theorem Pz{e:List EN}(m:wa e=true){k:Nat}{n:EN}(l:e[k]?=some n){a o:List Nat}(h:ir (e.take k) 0 [] []=some (a,o)) :
  ∃c o',ir (e.take (k+1)) 0 [] []=some (c,o')∧sJ k n a o=some (c,o')∧0≤dt n.tag∧dt n.tag≤o.length∧iq n=true∧o'.length=o.length-(dt n.tag).toNat+1:=by
 obtain⟨g,j⟩:=ak.1 l;obtain⟨c,o',f⟩:=Ze m (k:=k+1) (by omega);have b:=f;rw[dq g,ti,h,j]at b;simp only[cG,dd,eM (Nat.le_of_lt g),cD]at b;refine⟨c,o',f,b,?_⟩;unfold sJ at b;split at b
 ·cases b
 rename_i i;have d:0≤dt n.tag∧dt n.tag≤o.length∧iq n=true:=by
  refine⟨by omega,by omega,?_⟩;cases hq:iq n
  ·exact absurd (.inr (.inr hq)) i
  rfl
 refine⟨d.1,d.2.1,d.2.2,?_⟩;have hd:(o.drop (o.length-(dt n.tag).toNat)).length=(dt n.tag).toNat:=by rw[jj];omega
 have:=wA n.tag;rcases hL:o.drop (o.length-(dt n.tag).toNat) with _|⟨p,_|⟨q,_|⟨r,t⟩⟩⟩<;>rw[hL]at b hd<;>simp only[bD,bB]at b hd<;>(try split at b)<;>(try cases b)<;>simp<;>omega
theorem acK{e:List EN}(b:wa e=true){a o:List Nat}(h:ir e 0 [] []=some (a,o)):o.length=1:=by
 unfold wa at b;rw[h]at b;simp at b;exact b.1
theorem adr{f:Int→aq}(j:f=(aq.int .i64))(st:List Int)(k ep:Nat)(l:k≤st.length)(o:st.length≤bC)(b c:Obj) :
  cC code I.qcd [ap k,aI 1 0 0 0] [b,aB 1 0 [.sl 2 ep 0 st.length],aB 1 ep (st.map f),c] =
   some (.sl 4 0 0 k,[b,aB 1 0 [.sl 2 ep 0 (st.length-k)],aB 1 ep (st.map f),c,aB 1 0 ((st.drop (st.length-k)).map f)]):=by
 subst j;rw[cw amr rfl];have p:st.length≤68719476736:=o;have r:=qL (n:=(st.length:Int)-(k:Int)) (by omega) (by omega);have s:((st.length:Int)-(k:Int)).toNat=st.length-k:=by omega
 have t:(0:Int)≤(st.length:Int)-(k:Int):=by omega
 have h:st.length-k+k=st.length:=by omega
 have g:st.length-(st.length-k)=k:=by omega
 have hd:(st.drop (st.length-k)).length=k:=by rw[jj];omega
 have d:=AX (enc:=(aq.int .i64)) true (st.drop (st.length-k)) (by rw[hd];omega);have q:snap [b,aB 1 0 [.sl 2 ep 0 st.length],aB 1 ep (st.map (aq.int .i64)),c] (.sl 2 ep (st.length-k) k)=.aa true ((st.drop (st.length-k)).map (aq.int .i64)):=by
  have e:(st.drop (st.length-k)).take k=st.drop (st.length-k):=ay (by omega);simp[h,←List.map_drop,e,←List.map_take]
 have i:jJ [b,aB 1 0 [.sl 2 ep 0 st.length],aB 1 ep (st.map (aq.int .i64)),c] (.sl 2 ep (st.length-k) k)=((st.drop (st.length-k)).map (aq.int .i64)).isEmpty:=by
  have e:(st.drop (st.length-k)).take k=st.drop (st.length-k):=ay (by omega);simp only[jJ,rd,sliceAt];simp[h,←List.map_drop,e,←List.map_take];cases st.drop (st.length-k)<;>simp
 have a:=Ml aae rfl q i;rw[d]at a;have m:(st.length:Int)-(k:Int)≤st.length:=by omega
 simp[atF,agY,r,s,t,g,a,hd,l]
def zC(GH:EN→List Int→Int×Int)(k:Nat)(n:EN)(s:Nat×List Int):Nat×List Int⊕Int:=match rV GH k n s.2 with
 |.inl st=>.inl (s.1+1,st)
 |.inr r=>.inr r
theorem yT(GH:EN→List Int→Int×Int):∀(l:List EN) (k ep:Nat) (st:List Int),dA (zC GH) l k (ep,st)=match dA (rV GH) l k st with
  |.inl a=>.inl (ep+l.length,a)
  |.inr r=>.inr r
 |[],k,ep,st=>rfl
 |n::l,k,ep,st=>by
  simp only[dA,zC];cases rV GH k n st with
  |inl a=>
   simp only;rw[yT GH l (k+1) (ep+1) a];cases dA (rV GH) l (k+1) a<;>simp[dB,g9 1]
  |inr r=>rfl
theorem Z8(b:Bool)(e:List EN)(hn:e.length≤bC)(U:wa e=true)(g:aq)(T:∀fl top base σ,(fl ||top)=true→fz fl top base σ 20 g=g)(GH:EN→List Int→Int×Int)
  (Iv:Int→Prop) (L:∀n∈e,∀l:List Int,l.length=(dt n.tag).toNat→iq n=true→(∀y∈l,Iv y)→(GH n l).2=0→Iv (GH n l).1)
  (M:∀n∈e,∀l:List Int,l.length=(dt n.tag).toNat→iq n=true→(∀y∈l,Iv y)→∀σ x,snap σ x=.aa true (l.map (aq.int .i64))→iY code g [n.a,x] σ=some (fb [(aq.int .i64) (GH n l).1,ap (GH n l).2],σ)) :
  bw I.qcc [aH [.aa b (e.map EN.a)],g]=some (fb [(aq.int .i64) (Cl 0 GH e).1,ap (Cl 0 GH e).2]):=by
 rw[aS ane rfl];have u:=T true false 0 [] rfl;have h:=jA (base:=3) (clr:=[9,10,11,15,16]) (b:=Ca) e
  (fun k (s:Nat×List Int)=>⟨[aH [.aa b (e.map EN.a)],g,aI 0 0 0 0,ap 0,ap 0,aI 1 0 0 0,ap 0,.fn I.qcd [] [aI 1 0 0 0],ap 0,am,am,am,.aa b (e.map EN.a),ap e.length,ap k,am,am,am],[aB 1 0 [aH [.aa b (e.map EN.a)]],aB 1 0 [.sl 2 s.1 0 s.2.length],aB 1 s.1 (s.2.map (aq.int .i64))]⟩)
  (fun k s=>s.2.length≤k∧(∀y∈s.2,Iv y)∧∃a o,ir (e.take k) 0 [] []=some (a,o)∧s.2.length=o.length)
  (zC GH)
  (fun s=>(.ext 0,⟨[aH [.aa b (e.map EN.a)],g,aI 0 0 0 0,ap 0,ap 0,aI 1 0 0 0,ap 0,.fn I.qcd [] [aI 1 0 0 0],ap 0,am,am,am,.aa b (e.map EN.a),ap e.length,ap e.length,aC false,am,am],[aB 1 0 [aH [.aa b (e.map EN.a)]],aB 1 0 [.sl 2 s.1 0 s.2.length],aB 1 s.1 (s.2.map (aq.int .i64))]⟩))
  (fun r o=>r≠0∧∃k X G A τ,o=(.ext 0,⟨[aH [.aa b (e.map EN.a)],g,aI 0 0 0 0,ap 0,ap 0,aI 1 0 0 0,ap 0,.fn I.qcd [] [aI 1 0 0 0],ap r,X,G,ap r,.aa b (e.map EN.a),ap e.length,k,aC true,aC true,am],aB 1 0 [aH [.aa b (e.map EN.a)]]::A::τ⟩))
  (fun k n s hk E hi=>by
   obtain⟨ep,st⟩:=s;obtain⟨P,v,a,o,J,z⟩:=hi;simp only at P z;obtain⟨a',o',N,hs,K,H,f,h4⟩:=Pz U E J;have S:((k:Int)<(e.length:Int)):=by omega
   have O:(dt n.tag).toNat≤st.length:=by omega
   have Q:((dt n.tag).toNat:Int)=dt n.tag:=by omega
   have hd:(st.drop (st.length-(dt n.tag).toNat)).length=(dt n.tag).toNat:=by rw[jj];omega
   have V:=BI n.tag;have d:=fun Y Z=>adr rfl st (dt n.tag).toNat ep O (by omega) Y Z;rw[Q]at d;have j:∀y∈st.drop (st.length-(dt n.tag).toNat),Iv y:=fun y p=>v y (dR p);have t:=M n (aN E) (st.drop (st.length-(dt n.tag).toNat)) hd f j;have i:=L n (aN E) (st.drop (st.length-(dt n.tag).toNat)) hd f j;have w:st.length-(dt n.tag).toNat+1≤bC:=by omega
   have D:(st.take (st.length-(dt n.tag).toNat)).length=st.length-(dt n.tag).toNat:=by rw[dd];omega
   have c:=t [aB 1 0 [aH [.aa b (e.map EN.a)]],aB 1 0 [.sl 2 ep 0 (st.length-(dt n.tag).toNat)],aB 1 ep (st.map (aq.int .i64)),aB 8 0 [n.a],aB 1 0 ((st.drop (st.length-(dt n.tag).toNat)).map (aq.int .i64))] (.sl 4 0 0 (dt n.tag).toNat) (by
    have:=ay (Nat.le_of_eq hd);simp[←List.map_drop,hd,←List.map_take,this])
   unfold zC rV;rcases hr:GH n (st.drop (st.length-(dt n.tag).toNat)) with⟨x,no⟩;rw[hr]at c i;simp only[wz]at c;simp only;have W:∀x,aM ((aq.int .i64) x)=1∧isAgg ((aq.int .i64) x)=false:=fun x=>⟨rfl,rfl⟩;have F:∀fl top base σ n,fz fl top base σ (n+3) ((aq.int .i64) x)=(aq.int .i64) x:=fun fl top base σ n=>Fx.fx fl top base σ n x;have B:∀fl top base σ R,fz fl top base σ (R+3) n.a=n.a:=fun fl top base σ R=>Fx.fx fl top base σ R n;have C:aM n.a=8∧isAgg n.a=true:=⟨rfl,rfl⟩;have m:(cellsOf n.a)[0]?=some (ap n.tag):=rfl;by_cases q:no=0
   ·subst q;refine⟨?_,by simp;omega,fun y p=>(aY.1 p).elim (fun h=>v y (cJ h)) (fun h=>by rw[aP.1 h];exact i rfl),a',o',N,by simp[D,h4,z]⟩;simp[Ca,S,E,V,d,c,m,W,F,B,C,append,w,D,cW hk hn,bR,bA,T]
   rw[if_neg q];exact⟨_,by simp[Ca,S,E,V,d,c,m,W,F,B,C,Dm q];and_intros<;>rfl,q,_,_,_,_,_,rfl⟩)
  (fun s _=>by simp[Ca]) (0,[]) ⟨aF _,by simp,[],[],by simp[ir],rfl⟩
 rw[yT]at h;unfold Cl;cases J:dA (rV GH) e 0 [] with
 |inl st=>
  rw[J]at h;obtain⟨⟨_,_,a,o,K,H⟩,f⟩:=h;simp only at H;rw[du]at K;rw[acK U K]at H
  match st,H with
  |[x],_=>
   simp at f;simp[asy,Y2,u,f]
 |inr r=>
  rw[J]at h;obtain⟨_,f,q,k,X,G,A,τ,rfl⟩:=h;simp at f;simp[asy,Y2,u,f,Dm q]
end Go.AM
namespace Go.AM
open P
set_option maxHeartbeats 64000000
set_option maxRecDepth 40000
attribute [local simp] aG bj
def BM(k:Int):Bool:=decide (k<0) ||decide (3<k)
def eF(e:List EN)(ac:List Int):Int×Int:=
 if wa e=false then (0,200) else if ac.any BM then (0,2) else if (nI e).any (fun c=>decide ((ac.length:Int)≤c)) then (0,2) else Cl 0 (uw ac) e
theorem KQ{e:List EN}{n:EN}(h:n∈e)(a:n.tag=2):n.col∈nI e:=by
 unfold nI;rw[Cx,Em];exact lh.2 ⟨n,h,by rw[if_pos a];simp⟩
theorem Wx{e:List EN}{c:Int}(h:c∈nI e):∃n∈e,n.tag=2∧n.col=c:=by
 unfold nI at h;rw[Cx,Em]at h;obtain⟨n,b,a⟩:=lh.1 h;split at a
 ·rename_i d;exact⟨n,b,d,(aP.1 a).symm⟩
 cases a
theorem Ii{n:EN}(h:iq n=true)(a:n.tag=2):0≤n.col∧n.col<16:=by
 unfold iq at h;rw[if_neg (by omega),if_pos a]at h;simp at h;exact⟨h.1.2,h.2⟩
theorem ZQ(e:List EN):(nI e).length≤e.length:=by
 unfold nI;have a:=zp (rP (sL e));have b:=zX (sL e);have c:=OI e;omega
theorem pA(b:Bool)(e:List EN)(a:Bool)(ac:List Int)(B:e.length≤bC)(K:ac.length≤bC) :
  bw I.qbq [aH [.aa b (e.map EN.a)],.aa a (cT ac)]=some (fb [ap (eF e ac).1,ap (eF e ac).2]):=by
 rw[aS amS rfl];have p:=fun b=>zf b e B;simp only[JJ,AA]at p;unfold eF;cases ho:wa e with
 |false=>
  rw[ho]at p;simp[ar1,OP,p]
 |true=>
  rw[ho]at p;have f:=nT (base:=2) (clr:=[4,5,7,13,14]) (b:=KT) ac
   (fun k=>⟨[aH [.aa b (e.map EN.a)],.aa a (cT ac),aI 0 0 0 0,aI 1 0 0 0,am,am,ap 0,am,am,aC false,.aa a (cT ac),ap ac.length,ap k,am,am,am,am,am,am,am],[aB 1 0 [aH [.aa b (e.map EN.a)]],aB 1 0 [.aa a (cT ac)]]⟩) BM
   (.ext 0,⟨[aH [.aa b (e.map EN.a)],.aa a (cT ac),aI 0 0 0 0,aI 1 0 0 0,am,am,ap 0,am,am,aC false,.aa a (cT ac),ap ac.length,ap ac.length,aC false,am,am,am,am,am,am],[aB 1 0 [aH [.aa b (e.map EN.a)]],aB 1 0 [.aa a (cT ac)]]⟩)
   (fun o=>∃s,o=(.ret,s)∧wE .pure [.env 4,.env 5] (some (.ret,s))=some (fb [ap 0,ap 2]))
   (fun k y d m i=>by
    have j:((k:Int)<(ac.length:Int)):=by omega
    unfold BM at i;simp at i;have t:¬(y<0):=by omega
    have v:¬(3<y):=by omega
    simp[KT,j,m,t,v,cW d K,cM])
   (fun k y d m i=>by
    have j:((k:Int)<(ac.length:Int)):=by omega
    unfold BM at i;simp at i;by_cases t:y<0
    ·exact⟨_,by simp[KT,j,m,t];rfl,_,rfl,by simp⟩
    have v:3<y:=by omega
    exact⟨_,by simp[KT,j,m,t,v];rfl,_,rfl,by simp⟩)
   (by simp[KT])
  rcases f with⟨w,f⟩|⟨w,o,f,s,rfl,g⟩
  ·rw[w];have E:=fun b=>WQ b e B ho;have J:=ZQ e;have g:=nT (base:=2) (clr:=[4,5,8,18,19]) (b:=CD) (nI e)
    (fun k=>⟨[aH [.aa b (e.map EN.a)],.aa a (cT ac),aI 0 0 0 0,aI 1 0 0 0,am,am,ap 0,am,am,aC false,.aa a (cT ac),ap ac.length,ap ac.length,aC false,am,.aa false (cT (nI e)),ap (nI e).length,ap k,am,am],[aB 1 0 [aH [.aa b (e.map EN.a)]],aB 1 0 [.aa a (cT ac)]]⟩)
    (fun c=>decide ((ac.length:Int)≤c))
    (.ext 2,⟨[aH [.aa b (e.map EN.a)],.aa a (cT ac),aI 0 0 0 0,aI 1 0 0 0,am,am,ap 0,am,am,aC false,.aa a (cT ac),ap ac.length,ap ac.length,aC false,am,.aa false (cT (nI e)),ap (nI e).length,ap (nI e).length,aC false,am],[aB 1 0 [aH [.aa b (e.map EN.a)]],aB 1 0 [.aa a (cT ac)]]⟩)
    (fun o=>∃s,o=(.ret,s)∧wE .pure [.env 4,.env 5] (some (.ret,s))=some (fb [ap 0,ap 2]))
    (fun k y d m i=>by
     have j:((k:Int)<((nI e).length:Int)):=by omega
     have r:¬((ac.length:Int)≤y):=by simpa using i
     simp[CD,j,m,r,cW d (by omega),cM])
    (fun k y d m i=>by
     have j:((k:Int)<((nI e).length:Int)):=by omega
     have r:((ac.length:Int)≤y):=by simpa using i
     exact⟨_,by simp[CD,j,m,r];rfl,_,rfl,by simp⟩)
    (by simp[CD])
   simp at f;rcases g with⟨u,g⟩|⟨u,o,g,s,rfl,H⟩
   ·rw[u]
    have q:=fun b=>Z8 b e B ho (.fn I.qbr [] [.cptr true (.aa a (cT ac)) 0]) (fun fl top base σ h=>by cases fl<;>cases top<;>simp at h ⊢) (uw ac) (fun _=>True) (fun _ _ _ _ _ _ _=>trivial)
     (fun n D l L z _ σ x G=>by
      have:=wA n.tag
      have A:=Sk n true l a ac (by unfold bC;omega) (fun F=>by
       obtain⟨f,g⟩:=Ii z F;have:=cR.1 u n.col (KQ D F);simp at this;exact⟨f,by omega⟩)
      have C:fz true false 0 σ 20 n.a=n.a:=Fx.fx true false 0 σ 17 n;simp only[Ge]at G;simp[G,C,A])
    simp at g;simp[ar1,OP,p,f,E,g,q]
   rw[u];simp at g;simp[ar1,OP,p,f,E,g,-AU];exact H
  rw[w];simp at f;simp[ar1,OP,p,f,-AU];exact g
def jt(e:List EN)(ac:List Int):Bool:=(eF e ac).2==0&&((eF e ac).1==0 ||(eF e ac).1==1)
abbrev anb(nd c1 c2:aq)(n:cL)(a b r:aq):Obj:=aB 18 0 [aH [nd,c1,c2,ap n.op,ap n.l,ap n.r,ap n.tab,.aa n.bk (n.ac.map (.int .i64)),aC n.left,.aa n.bc (n.cond.map EN.a),.aa n.by' (n.keys.map (.int .i64)),.aa n.bg (n.ah.map lf.a),.aa n.bi (n.items.map Al.a),.aa n.bo (n.ords.map im),ap n.limit,a,b,r]]
def Ia(n:cL):Bool:=!(n.ac.any fun k=>decide (k<1) ||decide (3<k))&&decide (0≤n.tab)&&decide (n.tab<4)&&decide (0<n.ac.length)&&decide (n.ac.length≤4)
def Jf(n:cL)(a:List Int):Bool:=!(n.ords.any fun o=>decide (o.1<0) ||decide ((a.length:Int)≤o.1))&&decide (n.ords.length≤3)&&decide (-1≤n.limit)&&decide (n.limit≤2147483647)
abbrev amt(bn:Bool)(ab:List cL)(ep1 m1 ep2 m2:Nat)(n:cL)(a b r:aq):Obj:=anb (.aa bn (ab.map cL.a)) (.sl 1 ep1 0 m1) (.sl 2 ep2 0 m2) n a b r
def jH:List Int→List Int→Option (List Int)
 |[],_=>some []
 |_::_,[]=>none
 |k::a,o::b=>if o≠0∧o≠(if k=0 then o else k) then none else (jH a b).map ((if k=0 then o else k)::·)
def CR(a:List Int)(g:lf):Bool×Int:=
 if g.tag=1 then (g.arg.length==0,2)
 else ((eF g.arg a).2==0&&decide (1<g.tag)&&decide (g.tag≤5)&&(g.tag != 3 ||(eF g.arg a).1==2 ||(eF g.arg a).1==0),if g.tag=4∨g.tag=5 then (eF g.arg a).1 else 2)
def Eh(n:cL):Bool:=decide (n.keys.length≤3)&&decide (n.ah.length≤12)&&decide (0<n.keys.length+n.ah.length)
abbrev api(n:cL):Obj:=aB 12 0 [aH [ap n.op,ap n.l,ap n.r,ap n.tab,.aa n.bk (n.ac.map (.int .i64)),aC n.left,.aa n.bc (n.cond.map EN.a),.aa n.by' (n.keys.map (.int .i64)),.aa n.bg (n.ah.map lf.a),.aa n.bi (n.items.map Al.a),.aa n.bo (n.ords.map im),ap n.limit]]

theorem Fh(b:Bool)(e:List EN)(a:Bool)(ac:List Int)(d:e.length≤bC)(c:ac.length≤bC) :
  bw I.qed [aH [.aa b (e.map EN.a)],.aa a (cT ac)]=some (aC (jt e ac)):=by
 rw[aS al6 rfl];have h:=fun b a=>pA b e a ac d c;unfold jt;simp[aus,afZ,h]
 repeat' (split<;>(try simp_all))
theorem Nm(c:Int)(t a:Bool)(ac:List Int):bw I.qdz [ap c,.cptr t (.aa a (cT ac)) 0]=some (aC (decide (c<0) ||decide ((ac.length:Int)≤c))):=by
 rw[aS alq rfl];cases t<;>simp[atz,agL]<;>(repeat' (split<;>(try simp_all)))<;>omega
def vA(l ac:List Int):Bool:=!(l.any fun c=>decide (c<0) ||decide ((ac.length:Int)≤c))
theorem OV(b:Bool)(l:List Int)(d:Bool)(ac:List Int)(e:l.length≤bC):bw I.qdy [.aa b (l.map (.int .i64)),.aa d (cT ac)]=some (aC (vA l ac)):=by
 rw[aS anq rfl];have a:=rc (enc:=.int .i64) (b:=b) (l:=l) (f:=snap [aB 1 0 [.aa d (cT ac)]] (.fn 272 [] [aI 0 0 0 0])) (p:=fun c=>decide (c<0) ||decide ((ac.length:Int)≤c)) e (fun _=>⟨rfl,rfl⟩) (fun σ=>pI _ _ _) (fun c _=>by
  simp[Nm])
 unfold vA;simp at a;cases hA:(l.any fun c=>decide (c<0) ||decide ((ac.length:Int)≤c))<;>rw[hA]at a<;>simp[atj,afB,a]
theorem NQ(k:Int):bw I.qea [ap k]=some (aC (k==1 ||k==2 ||k==3)):=by
 rw[aS ans rfl];simp[atN,afn]
 repeat' (split<;>(try simp_all))
theorem N5(k:Int):bw I.qds [ap k]=some (aC (decide (k<1) ||decide (3<k))):=by
 rw[aS aop rfl];have h:=NQ k;have e:(!(k==1 ||k==2 ||k==3))=(decide (k<1) ||decide (3<k)):=by
  rw[eK];simp;omega
 rw[←e];simp[auf,afc,h]
theorem PD(o:Int×Bool)(t b:Bool)(a:List Int):bw I.qdp [im o,.cptr t (.aa b (cT a)) 0]=some (aC (decide (o.1<0) ||decide ((a.length:Int)≤o.1))):=by
 rw[aS alv rfl];obtain⟨c,d⟩:=o;cases t<;>simp[atx,agD,im]<;>(repeat' (split<;>(try simp_all)))<;>omega
def ip(op:Int):Int:=if op=1 then 0 else if op=2∨op=7 then 2 else 1
theorem PC(op:Int):bw I.qdx [ap op]=some (ap (ip op)):=by
 rw[aS amg rfl];unfold ip;simp[auq,aeI]
 repeat' (split<;>(try simp_all))
def N6(n:cL):Bool:=n.tab==0&&n.ac.length==0&&!n.left&&n.cond.length==0&&n.keys.length==0&&n.ah.length==0&&n.items.length==0&&n.ords.length==0&&n.limit==0
theorem QP(n:cL):bw I.qee [n.a]=some (aC (N6 n)):=by
 rw[aS anp rfl];have j:∀{w:Type} (l:List w),(l=[]∧((l.length:Int)==0)=true∧(l.length==0)=true)∨(l≠[]∧((l.length:Int)==0)=false∧(l.length==0)=false):=fun l=>by
  cases l with
  |nil=>exact .inl ⟨rfl,rfl,rfl⟩
  |cons x r=>exact .inr ⟨by simp,by simp;omega,by simp⟩
 unfold N6;by_cases a:n.tab=0
 ·rcases j n.ac with⟨b,k,c⟩|⟨b,k,c⟩
  ·cases c3:n.left with
   |true=>simp[arz,AN,cL.a,a,b,c3]
   |false=>
    rcases j n.cond with⟨i,m,d⟩|⟨i,m,d⟩
    ·rcases j n.keys with⟨c5,o,e⟩|⟨c5,o,e⟩
     ·rcases j n.ah with⟨t,p,f⟩|⟨t,p,f⟩
      ·rcases j n.items with⟨u,q,g⟩|⟨u,q,g⟩
       ·rcases j n.ords with⟨v,s,h⟩|⟨v,s,h⟩
        ·simp[arz,AN,cL.a,a,b,c3,i,c5,t,u,v]
        simp[arz,AN,cL.a,a,b,c3,i,c5,t,u,s,h]
       simp[arz,AN,cL.a,a,b,c3,i,c5,t,q,g]
      simp[arz,AN,cL.a,a,b,c3,i,c5,p,f]
     simp[arz,AN,cL.a,a,b,c3,i,o,e]
    simp[arz,AN,cL.a,a,b,c3,m,d]
  simp[arz,AN,cL.a,a,k,c]
 simp[arz,AN,cL.a,a,eW a]
def uT(ac:List Int)(g:lf):Int:=if g.tag=1∨g.tag=2∨g.tag=3 then 2 else if g.tag=4∨g.tag=5 then (eF g.arg ac).1 else 0
theorem V4(g:lf)(d:Bool)(ac:List Int)(l:g.arg.length≤bC)(n:ac.length≤bC) :
  bw I.qdf [g.a,.aa d (cT ac)]=some (fb [ap (uT ac g),aC (CR ac g).1]):=by
 rw[aS alC rfl];have h:=fun b d=>pA b g.arg d ac l n;unfold CR uT;by_cases c:g.tag=1
 ·rw[if_pos c];simp[arQ,JS,lf.a,c];rw[eK];simp
 rw[if_neg c];generalize (eF g.arg ac).1=i at *;generalize (eF g.arg ac).2=o at *;by_cases e:g.tag=2
 ·simp[arQ,JS,lf.a,e,h]
 by_cases f:g.tag=3
 ·simp[arQ,JS,lf.a,f,h]
  repeat' (split<;>(try simp_all))
 by_cases a:g.tag=4∨g.tag=5
 ·rcases a with t|t<;>simp[arQ,JS,lf.a,t,h]
 have j:¬g.tag=4:=fun h=>a (.inl h);have k:¬g.tag=5:=fun h=>a (.inr h);have:(o==0&&decide (1<g.tag)&&decide (g.tag≤5)&&(g.tag != 3 ||i==2 ||i==0))=false:=by
  rw[nY];intro m;simp at m;omega
 rw[this];simp[arQ,JS,lf.a,c,e,f,j,k,eW c,eW e,eW f,eW j,eW k,h]
theorem Ww(b:Bool)(l:List Int)(x:Int)(n:l.length≤bC):bw I.qhf [.aa b (cT l),ap x]=some (ap (vX (fun y=>x==y) l)):=by
 rw[aS amD rfl];have c:∀k,k<l.length→∀y,l[k]?=some y→(x==y)=false→dg 0 [2,3,6,7] s7 (run code s7 ⟨[.aa b (cT l),ap x,am,am,ap l.length,ap k,am,am],[]⟩) =
   bU code 0 [2,3,6,7] s7 ⟨[.aa b (cT l),ap x,am,am,ap l.length,ap (k+1:Nat),am,am],[]⟩:=fun k d y j i=>by
  have g:((k:Int)<(l.length:Int)):=by omega
  simp[s7,j,i,g,cW d n,cM]
 unfold vX;by_cases h:(l.any fun y=>x==y)=true
 ·have g:=bN (cB.1 h);have i:(x==l[l.findIdx fun y=>x==y])=true:=dr (p:=fun y=>x==y) (w:=g);have a:=cX (base:=0) (clr:=[2,3,6,7]) (b:=s7) (fun k=>⟨[.aa b (cT l),ap x,am,am,ap l.length,ap k,am,am],[]⟩) (l.findIdx fun y=>x==y)
   (.ret,⟨[.aa b (cT l),ap x,ap (l.findIdx fun y=>x==y:Nat),ap (l.findIdx fun y=>x==y:Nat),ap l.length,ap (l.findIdx fun y=>x==y:Nat),aC true,aC true],[]⟩)
   (fun k d=>c k (by omega) _ (au (by omega)) (by simpa using cV d))
   (by
    have m:l[l.findIdx fun y=>x==y]?=some l[l.findIdx fun y=>x==y]:=au g;have f:(((l.findIdx fun y=>x==y:Nat):Int)<(l.length:Int)):=by omega
    generalize o:(l.findIdx fun y=>x==y)=L at *;generalize l[L]=y at *;simp[s7,m,i,f])
  rw[if_pos h];generalize (l.findIdx fun y=>x==y)=L at *;simp at a;simp[asm,aaX,a]
 have e:∀y∈l,(x==y)=false:=fun y j=>nY.2 (cR.1 (eD _▸h) y j);have a:=cX (base:=0) (clr:=[2,3,6,7]) (b:=s7) (fun k=>⟨[.aa b (cT l),ap x,am,am,ap l.length,ap k,am,am],[]⟩) l.length
  (.ext 0,⟨[.aa b (cT l),ap x,am,am,ap l.length,ap l.length,aC false,am],[]⟩)
  (fun k d=>c k d _ (au d) (e _ (aJ d)))
  (by simp[s7])
 simp at a;rw[if_neg h];simp[asm,aaX,a]
structure aqy (X:aw) (r:aq) (bf:Bool) (res:List Int):Prop where
 nc:aM r=1
 ag:isAgg r=false
 len:∀L K O B N A,sO (L::K::O::B::N::A::X) r=some res.length
 fz:∀L K O B N A n,fz false true 3 (L::K::O::B::N::A::X) (n+3) r=.aa bf (cT res)
abbrev pF(l:List Nat):List aq:=l.map fun (k:Nat)=>aq.int .i64 (k:Int)
structure LV where
 c0:aq
 c1:aq
 c2:aq
 c3:aq
 c4:aq
 c5:aq
 c6:aq
 c7:aq
 c8:aq
 c9:aq
 c10:aq
 c11:aq
abbrev cL.z(n:cL):LV:=⟨ap n.op,ap n.l,ap n.r,ap n.tab,.aa n.bk (n.ac.map (.int .i64)),aC n.left,.aa n.bc (n.cond.map EN.a),.aa n.by' (n.keys.map (.int .i64)),.aa n.bg (n.ah.map lf.a),.aa n.bi (n.items.map Al.a),.aa n.bo (n.ords.map im),ap n.limit⟩
instance:Nc (fun (k:Nat)=>aq.int .i64 (k:Int)) 1 false:=⟨fun _=>rfl,fun _=>rfl⟩
instance:Fx (fun (k:Nat)=>aq.int .i64 (k:Int)):=⟨fun _ _ _ _ _ _=>rfl⟩
abbrev atO(x y:Int):Obj:=aB 2 0 [aH [ap x,ap y]]
structure TkE where
 bn:Bool
 ab:List cL
 ep1:Nat
 ep2:Nat
 ac:List (iB Int)
 opn:List Nat
 n0:LV
 a0:aq
 b0:aq
 r0:aq
 B:Obj
 ask:aq
 i:Nat
 n:cL
abbrev TkE.st(E:TkE)(A C r:aq)(x y:Int):aw:=[amt E.bn E.ab E.ep1 E.ac.length E.ep2 E.opn.length E.n A C r,aB 1 E.ep1 (E.ac.map (iB.c (.int .i64))),aB 1 E.ep2 (pF E.opn),E.B,api E.n,atO x y]
structure Tk (E:TkE) (k:Nat) (ps:List Nat):Prop where
 hi:E.ab[E.i]?=some E.n
 hil:E.ab.length≤bC
 hol:E.opn.length≤bC
 hk1:E.n.keys.length≤bC
 hk2:E.n.ah.length≤bC
 hop:ahQ E.n.op=k
 hkl:k≤E.opn.length
 hd:E.opn.drop (E.opn.length-k)=ps
 hbl:ig E.n=true
 hB:∀base σ,bA base σ E.B=E.B


abbrev uP:Nat:=4294967296
structure ub (n:cL):Prop where
 ac:n.ac.length≤uP
 cond:n.cond.length≤uP
 keys:n.keys.length≤uP
 ah:n.ah.length≤uP
 args:∀g∈n.ah,g.arg.length≤uP
 items:n.items.length≤uP
 exprs:∀e∈n.items,e.l.length≤uP
 ords:n.ords.length≤uP
end Go.AM
namespace Go.AM
open P
set_option maxHeartbeats 64000000
set_option maxRecDepth 40000
def Y8:iB Int:=⟨false,[]⟩
end Go.AM
namespace Go.AM
open P
set_option maxHeartbeats 64000000
set_option maxRecDepth 40000
attribute [local simp] aG bj
structure KSt where
 ac:List (iB Int)
 opn:List Nat
 z0:LV
 a0:aq
 b0:aq
 r0:aq
abbrev KSt.l(s:KSt):List aq:=[s.z0.c0,s.z0.c1,s.z0.c2,s.z0.c3,s.z0.c4,s.z0.c5,s.z0.c6,s.z0.c7,s.z0.c8,s.z0.c9,s.z0.c10,s.z0.c11,s.a0,s.b0,s.r0]
section
abbrev uf(bn:Bool)(ns:List cL)(bk:Bool)(ks:List (iB Int))(bf:Bool)(fs:List Nat):aq:=aH [.aa bn (ns.map cL.a),.aa bk (ks.map (iB.c (.int .i64))),.aa bf (pF fs)]
section
variable (t bn:Bool) (ns:List cL) (bk:Bool) (ks:List (iB Int)) (bf:Bool) (fs:List Nat) (n:cL)
theorem JO:∀base σ m,fz true false base σ (m+4) (.cptr t (uf bn ns bk ks bf fs) 0)=.cptr t (uf bn ns bk ks bf fs) 0:=fun base σ m=>by
 cases t<;>simp
theorem P2(p q:Nat)(x:n.l=(p:Int))(y:n.r=(q:Int))(a b:iB Int)(e:ks[p]?=some a)(g:ks[q]?=some b)(w:n.cond.length≤bC)(u:a.l.length+b.l.length≤bC) :
  bw I.qdn [.cptr t (uf bn ns bk ks bf fs) 0,n.a]=some (fb [.aa false (cT (a.l++b.l)),aC (jt n.cond (a.l++b.l))]):=by
 rw[aS anX rfl];have k:=(ak.1 e).1;have f:∀d:p<ks.length,ks[p]'d=a:=fun d=>(ak.1 e).2;have j:((p:Int)<(ks.length:Int)):=by omega
 have o:=(ak.1 g).1;have i:∀d:q<ks.length,ks[q]'d=b:=fun d=>(ak.1 g).2;have l:((q:Int)<(ks.length:Int)):=by omega
 have h:=fun v bk=>Fh v n.cond bk (a.l++b.l) w (by simpa using u);have c:∀t,bw I.qgf [.aa t [.aa a.b (cT a.l),.aa b.b (cT b.l)]]=some (.aa false (cT (a.l++b.l))):=fun t=>by
  have:=Hx (enc:=.int .i64) t [a,b] (by simpa using u) (by simp[bC]);simpa using this
 have r:=JO t bn ns bk ks bf fs;have z:∀base σ m,fz true false base σ (m+3) n.a=n.a:=fun base σ m=>Ft.ft true false base σ m n rfl;have n3:aM n.a=12∧isAgg n.a=true:=⟨rfl,rfl⟩;have k1:(cellsOf n.a)[1]?=some (ap n.l):=rfl;have k2:(cellsOf n.a)[2]?=some (ap n.r):=rfl;have k6:List.take 1 (List.drop 6 (cellsOf n.a))=[.aa n.bc (n.cond.map EN.a)]:=rfl;have s:(cellsOf n.a)[6]?=some (.aa n.bc (n.cond.map EN.a)):=rfl;simp only[cT,df]at h c;simp[auK,agS,h,c,r,z,n3,k1,k2,k6,s,x,y,e,g,k,f,j,o,i,l]
def N9(a:List Int)(s:Bool×Nat×List Int)(e:Al):Bool×Nat×List Int:=(s.1&&(eF e.l a).2==0,s.2.1+1,s.2.2++[(eF e.l a).1])
theorem Is(a:List Int):∀(l:List Al) (ok:Bool) (ep:Nat) (b:List Int),l.foldl (N9 a) (ok,ep,b)=(ok&&l.all (fun e=>(eF e.l a).2==0),ep+l.length,b++l.map fun e=>(eF e.l a).1)
 |[],ok,ep,b=>by simp
 |e::l,ok,ep,b=>by
  rw[eu,N9,Is a l];simp[kD,dB,g9 1]
theorem JH(p:Nat)(J:n.l=(p:Int))(a:iB Int)(o:ks[p]?=some a)(hi:n.items.length≤bC)(G:∀e∈n.items,e.l.length≤bC)(r:a.l.length≤bC) :
  bw I.qdq [.cptr t (uf bn ns bk ks bf fs) 0,n.a]=some (fb [.aa false (cT (n.items.map fun e=>(eF e.l a.l).1)),aC (decide (1≤n.items.length)&&decide (n.items.length≤16)&&n.items.all (fun e=>(eF e.l a.l).2==0))]):=by
 rw[aS aeR rfl];have w:=(ak.1 o).1;have q:∀B:p<ks.length,ks[p]'B=a:=fun B=>(ak.1 o).2;have v:((p:Int)<(ks.length:Int)):=by omega
 have i:=JO t bn ns bk ks bf fs;have x:∀base σ m,fz false true base σ (m+4) (.cptr t (uf bn ns bk ks bf fs) 0)=.cptr t (uf bn ns bk ks bf fs) 0:=fun base σ m=>by cases t<;>simp
 have z:∀base σ m,fz true false base σ (m+3) n.a=n.a:=fun base σ m=>Ft.ft true false base σ m n rfl;have L:∀base σ m,fz false true base σ (m+3) n.a=n.a:=fun base σ m=>Ft.ft false true base σ m n rfl;have n3:aM n.a=12∧isAgg n.a=true:=⟨rfl,rfl⟩;have k1:(cellsOf n.a)[1]?=some (ap n.l):=rfl;have y:(cellsOf n.a)[9]?=some (.aa n.bi (n.items.map Al.a)):=rfl;have h:=fun A:Bool=>(gB (base:=2) (clr:=[7,8,9,13]) (b:=F5) n.items
  (fun k (s:Bool×Nat×List Int)=>⟨[.cptr t (uf bn ns bk ks bf fs) 0,n.a,aI 0 0 0 0,.ai,aC false,aC s.1,.sl 1 s.2.1 0 s.2.2.length,am,am,am,.aa n.bi (n.items.map Al.a),ap n.items.length,ap k,am],[aB 12 0 [n.a],aB 1 s.2.1 (cT s.2.2)]⟩)
  (fun k s=>s.2.2.length≤k) (N9 a.l)
  (fun s=>(.ext 0,⟨[.cptr t (uf bn ns bk ks bf fs) 0,n.a,aI 0 0 0 0,.ai,aC false,aC s.1,.sl 1 s.2.1 0 s.2.2.length,am,am,am,.aa n.bi (n.items.map Al.a),ap n.items.length,ap n.items.length,aC false],[aB 12 0 [n.a],aB 1 s.2.1 (cT s.2.2)]⟩))
  (fun k e s H C K=>by
   obtain⟨ok,ep,l⟩:=s;simp only at K;have D:((k:Int)<(n.items.length:Int)):=by omega
   have E:l.length+1≤bC:=by omega
   have u:=fun b bk=>pA b e.l bk a.l (G e (aN C)) r;refine⟨?_,by simp[N9];omega⟩;unfold N9;cases ok<;>simp[F5,D,C,Al.a,u,q,w,v,o,J,n3,k1,append,E,cW H hi,bR,bA,x,L])
  (fun s _=>by simp[F5]) (A,0,[]) (by simp)).1
 simp only[Is]at h;have F:(decide (1≤n.items.length)&&decide (n.items.length≤16))=true∨(1≤n.items.length∧¬n.items.length≤16)∨¬1≤n.items.length:=by
  by_cases f:1≤n.items.length<;>by_cases j:n.items.length≤16<;>simp[f,j]
 simp at h;rcases F with c|⟨f,j⟩|f
 ·simp at c;obtain⟨f,j⟩:=c;have d:(1:Int)≤(n.items.length:Int):=by omega
  have g:(n.items.length:Int)≤16:=by omega
  simp[asf,Us,i,z,n3,y,h,f,j,d,g]
 ·have d:(1:Int)≤(n.items.length:Int):=by omega
  have g:¬(n.items.length:Int)≤16:=by omega
  simp[asf,Us,i,z,n3,y,h,f,j,d,g]
 have d:¬(1:Int)≤(n.items.length:Int):=by omega
 simp[asf,Us,i,z,n3,y,h,f,d]
end
end
section
section
variable (t bn:Bool) (ns:List cL) (bk:Bool) (ks:List (iB Int)) (bf:Bool) (fs:List Nat) (n:cL)
def unG(k:Nat)(o:Int)(s:Bool×List Int):Bool×List Int⊕Empty:=.inl (s.1&&((if s.2.getD k 0=0 then o else s.2.getD k 0)==o ||o==0),if s.2.getD k 0=0 then s.2.set k o else s.2)
theorem ND:∀(b a c:List Int) (ok:Bool),a.length=b.length→∃e,dA unG b c.length (ok,c++a)=.inl (ok&&(jH a b).isSome,e)∧e.length=c.length+a.length∧∀r,jH a b=some r→e=c++r
 |[],a,c,ok,h=>by
  obtain rfl:a=[]:=db h;exact⟨c,by simp[dA,jH],by simp,fun r d=>by simp[jH]at d;simp[←d]⟩
 |o::b,[],c,ok,h=>by cases h
 |o::b,k::a,c,ok,h=>by
  have v:=ND b a (c++[if k=0 then o else k]) (ok&&((if k=0 then o else k)==o ||o==0)) (by simpa using h);obtain⟨e,i,s,t⟩:=v;have j:(c++k::a).getD c.length 0=k:=by simp[aQ]
  have g:(if k=0 then (c++k::a).set c.length o else c++k::a)=c++[if k=0 then o else k]++a:=by
   by_cases u:k=0
   ·simp[u]
   simp[u]
  have n:jH (k::a) (o::b)=if o≠0∧o≠(if k=0 then o else k) then none else (jH a b).map ((if k=0 then o else k)::·):=rfl
  refine⟨e,?_,by simp at s ⊢;omega,?_⟩
  ·simp only[dA,unG,j,g];rw[show c.length+1=(c++[if k=0 then o else k]).length by simp,i,n];clear i s t g n;generalize (if k=0 then o else k)=w;by_cases f:o≠0∧o≠w
   ·have l:(o==0)=false:=by simp[f.1]
    have m:(w==o)=false:=by simp;exact fun h=>f.2 h.symm
    simp[f,l,m]
   have:(w==o ||o==0)=true:=by
    simp;by_cases p:o=0
    ·exact .inr p
    by_cases i:o=w
    ·exact .inl i.symm
    exact absurd ⟨p,i⟩ f
   rw[if_neg f,this];simp
  intro r d;rw[n]at d;by_cases f:o≠0∧o≠(if k=0 then o else k)
  ·rw[if_pos f]at d;cases d
  rw[if_neg f]at d;cases hq:jH a b with
  |none=>rw[hq]at d;cases d
  |some q=>
   rw[hq]at d;simp only[dL,aK]at d;rw[t q hq,←d,dv];rfl
theorem Od(p q:Nat)(U:n.l=(p:Int))(V:n.r=(q:Int))(a b:iB Int)(E:ks[p]?=some a)(H:ks[q]?=some b)(G:a.l.length≤bC)(u:a.l.length=b.l.length) :
  ∃d,bw I.qdt [.cptr t (uf bn ns bk ks bf fs) 0,n.a]=some (fb [.aa false (cT d),aC (jH a.l b.l).isSome])∧∀r,jH a.l b.l=some r→d=r:=by
 obtain⟨d,S,D,T⟩:=ND b.l a.l [] true u;refine⟨d,?_,by simpa using T⟩;rw[aS ZY rfl];have N:=(ak.1 E).1;have F:∀y:p<ks.length,ks[p]'y=a:=fun y=>(ak.1 E).2;have M:((p:Int)<(ks.length:Int)):=by omega
 have P:=(ak.1 H).1;have J:∀y:q<ks.length,ks[q]'y=b:=fun y=>(ak.1 H).2;have O:((q:Int)<(ks.length:Int)):=by omega
 have R:=JO t bn ns bk ks bf fs;have l:∀base σ m,fz false true base σ (m+4) (.cptr t (uf bn ns bk ks bf fs) 0)=.cptr t (uf bn ns bk ks bf fs) 0:=fun base σ m=>by cases t<;>simp
 have W:∀base σ m,fz true false base σ (m+3) n.a=n.a:=fun base σ m=>Ft.ft true false base σ m n rfl;have C:∀base σ m,fz false true base σ (m+3) n.a=n.a:=fun base σ m=>Ft.ft false true base σ m n rfl;have n3:aM n.a=12∧isAgg n.a=true:=⟨rfl,rfl⟩;have k1:(cellsOf n.a)[1]?=some (ap n.l):=rfl;have k2:(cellsOf n.a)[2]?=some (ap n.r):=rfl;have g:b.l.length≤bC:=by omega
 have h:=jA (base:=2) (clr:=[9,10,15,16]) (b:=xl) b.l
  (fun k (s:Bool×List Int)=>⟨[.cptr t (uf bn ns bk ks bf fs) 0,n.a,aI 0 0 0 0,.ai,aC false,.aa a.b (cT a.l),.aa b.b (cT b.l),.sl 1 0 0 a.l.length,aC s.1,am,am,aC false,.aa b.b (cT b.l),ap b.l.length,ap k,am,am],[aB 12 0 [n.a],aB 1 0 (cT s.2)]⟩)
  (fun _ s=>s.2.length=a.l.length) unG
  (fun s=>(.ext 0,⟨[.cptr t (uf bn ns bk ks bf fs) 0,n.a,aI 0 0 0 0,.ai,aC false,.aa a.b (cT a.l),.aa b.b (cT b.l),.sl 1 0 0 a.l.length,aC s.1,am,am,aC false,.aa b.b (cT b.l),ap b.l.length,ap b.l.length,aC false,am],[aB 12 0 [n.a],aB 1 0 (cT s.2)]⟩))
  (fun (r:Empty) _=>r.elim)
  (fun k o s A B v=>by
   obtain⟨ok,X⟩:=s;simp only at v;unfold unG;have z:((k:Int)<(b.l.length:Int)):=by omega
   have e:k<X.length:=by omega
   have j:k<a.l.length:=by omega
   refine⟨?_,by simp only;split<;>simp[v]⟩;have f:X[k]?=some (X.getD k 0):=by simp[aQ,e]
   have i:∀h:k<X.length,X[k]'h=X.getD k 0:=fun h=>(ak.1 f).2;generalize Y:X.getD k 0=w at *;by_cases c:w=0
   ·subst c;cases ok<;>by_cases x:o=0
    all_goals simp[xl,z,B,f,i,e,j,v,n3,cW A g,bR,bA,l,C,x,eW]
   cases ok
   ·simp[xl,z,B,f,i,e,j,v,n3,cW A g,bR,bA,l,C,c,eW c]
   by_cases x:w=o
   ·subst x;simp[xl,z,B,f,i,e,j,v,n3,cW A g,bR,bA,l,C,c,eW c]
   simp[xl,z,B,f,i,e,j,v,n3,cW A g,bR,bA,l,C,c,eW c,x,eW x])
  (fun s _=>by simp[xl]) (true,a.l) rfl
 simp only[bD,bX]at S;rw[S]at h;obtain⟨_,h⟩:=h;have K:=pU (enc:=.int .i64) a.b a.l G;have L:((a.l.length:Int) != (b.l.length:Int))=false:=by simp[u]
 simp only[show ((0:Nat):Int)=0 from rfl]at h;simp at D;have Q:List.take a.l.length (d.map (aq.int .i64))=d.map (.int .i64):=ay (by simp[D]);simp only[cT]at *;simp[asX,Yz,R,W,n3,k1,k2,U,V,E,H,N,F,M,P,J,O,L,K,h,D,Q]
end
end
section
section
variable (t bn:Bool) (ns:List cL) (bk:Bool) (ks:List (iB Int)) (bf:Bool) (fs:List Nat) (n:cL)
theorem Rr(p q:Nat)(s:n.l=(p:Int))(u:n.r=(q:Int))(a b:iB Int)(d:ks[p]?=some a)(f:ks[q]?=some b)(r:a.l.length≠b.l.length) :
  bw I.qdt [.cptr t (uf bn ns bk ks bf fs) 0,n.a]=some (fb [.aa false [],aC false]):=by
 rw[aS ZY rfl];have j:=(ak.1 d).1;have e:∀c:p<ks.length,ks[p]'c=a:=fun c=>(ak.1 d).2;have i:((p:Int)<(ks.length:Int)):=by omega
 have l:=(ak.1 f).1;have g:∀c:q<ks.length,ks[q]'c=b:=fun c=>(ak.1 f).2;have k:((q:Int)<(ks.length:Int)):=by omega
 have o:=JO t bn ns bk ks bf fs;have v:∀base σ m,fz true false base σ (m+3) n.a=n.a:=fun base σ m=>Ft.ft true false base σ m n rfl;have n3:aM n.a=12∧isAgg n.a=true:=⟨rfl,rfl⟩;have k1:(cellsOf n.a)[1]?=some (ap n.l):=rfl;have k2:(cellsOf n.a)[2]?=some (ap n.r):=rfl;have h:((a.l.length:Int) != (b.l.length:Int))=true:=by simp;omega
 simp[asX,Yz,o,v,n3,k1,k2,s,u,d,f,j,e,i,l,g,k,h]
def vz(a:List Int):Bool:=Eh n&&vA n.keys a
def ZD(a:List Int)(s:Nat×List Int)(x:Int):Nat×List Int:=(s.1+1,s.2++[a.getD x.toNat 0])
theorem J6(a:List Int):∀(l:List Int) (ep:Nat) (b:List Int),l.foldl (ZD a) (ep,b)=(ep+l.length,b++l.map fun x=>a.getD x.toNat 0)
 |[],ep,b=>by simp
 |x::l,ep,b=>by
  rw[eu,ZD,J6 a l];simp[dB,g9 1]
def abC(a:List Int)(s:Bool×Nat×List Int)(g:lf):Bool×Nat×List Int:=(s.1&&(CR a g).1,s.2.1+1,s.2.2++[uT a g])
theorem KW(a:List Int):∀(l:List lf) (ok:Bool) (ep:Nat) (b:List Int),l.foldl (abC a) (ok,ep,b)=(ok&&l.all (fun g=>(CR a g).1),ep+l.length,b++l.map (uT a))
 |[],ok,ep,b=>by simp
 |g::l,ok,ep,b=>by
  rw[eu,abC,KW a l];simp[kD,dB,g9 1]
theorem NT(p:Nat)(z:n.l=(p:Int))(a:iB Int)(q:ks[p]?=some a)(S:n.keys.length≤uP)(Q:n.ah.length≤uP)(he:∀g∈n.ah,g.arg.length≤bC)(K:a.l.length≤bC) :
  bw I.qdm [.cptr t (uf bn ns bk ks bf fs) 0,n.a]=some (if vz n a.l then fb [.aa false (cT ((n.keys.map fun x=>a.l.getD x.toNat 0)++n.ah.map (uT a.l))),aC (n.ah.all fun g=>(CR a.l g).1)] else fb [.aa false [],aC false]):=by
 rw[aS aeQ rfl];have y:n.keys.length≤bC:=bH S (by decide);have M:n.ah.length≤bC:=bH Q (by decide);have ab:n.keys.length+n.ah.length≤68719476736:=bH (Nat.add_le_add S Q) (by decide);have A:IntKind.i64.wrap ((n.keys.length:Int)+(n.ah.length:Int))=(n.keys.length:Int)+n.ah.length:=qL (by omega) (by omega);have i:=(ak.1 q).1;have f:∀R:p<ks.length,ks[p]'R=a:=fun R=>(ak.1 q).2;have h:((p:Int)<(ks.length:Int)):=by omega
 have j:=JO t bn ns bk ks bf fs;have C:∀base σ m,fz false true base σ (m+4) (.cptr t (uf bn ns bk ks bf fs) 0)=.cptr t (uf bn ns bk ks bf fs) 0:=fun base σ m=>by cases t<;>simp
 have F:∀base σ m,fz true false base σ (m+3) n.a=n.a:=fun base σ m=>Ft.ft true false base σ m n rfl;have T:∀base σ m,fz false true base σ (m+3) n.a=n.a:=fun base σ m=>Ft.ft false true base σ m n rfl;have n3:aM n.a=12∧isAgg n.a=true:=⟨rfl,rfl⟩;have k1:(cellsOf n.a)[1]?=some (ap n.l):=rfl;have D:(cellsOf n.a)[7]?=some (.aa n.by' (n.keys.map (.int .i64))):=rfl;have E:(cellsOf n.a)[8]?=some (.aa n.bg (n.ah.map lf.a)):=rfl;have v:=fun b bk=>OV b n.keys bk a.l y;simp only[cT]at v;by_cases U:n.keys.length≤3
 ·have c:(n.keys.length:Int)≤3:=by omega
  by_cases V:n.ah.length≤12
  ·have d:(n.ah.length:Int)≤12:=by omega
   by_cases c3:0<n.keys.length+n.ah.length
   ·have l:(0:Int)<(n.keys.length:Int)+n.ah.length:=by omega
    cases c4:vA n.keys a.l with
    |false=>
     have e:vz n a.l=false:=by unfold vz;rw[c4];simp
     rw[c4]at v;simp[arT,Ka,j,F,n3,k1,D,E,z,q,f,i,h,c,d,l,A,v,e]
    |true=>
     have e:vz n a.l=true:=by unfold vz Eh;rw[c4];simp[U,V];omega
     rw[c4]at v;have O:∀x∈n.keys,0≤x∧x<a.l.length:=fun x hx=>by
      unfold vA at c4;simp only[gA,cR]at c4;have:=c4 x hx;simp at this;omega
     have H:=(gB (base:=2) (clr:=[8,16]) (b:=GN) n.keys
      (fun k (s:Nat×List Int)=>⟨[.cptr t (uf bn ns bk ks bf fs) 0,n.a,aI 0 0 0 0,.ai,aC false,.aa a.b (cT a.l),aC true,.sl 1 s.1 0 s.2.length,am,am,am,am,aC false,.aa n.by' (n.keys.map (.int .i64)),ap n.keys.length,ap k,am,am,am,am,am],[aB 12 0 [n.a],aB 1 s.1 (cT s.2)]⟩)
      (fun k s=>s.2.length≤k) (ZD a.l)
      (fun s=>(.ext 0,⟨[.cptr t (uf bn ns bk ks bf fs) 0,n.a,aI 0 0 0 0,.ai,aC false,.aa a.b (cT a.l),aC true,.sl 1 s.1 0 s.2.length,am,am,am,am,aC false,.aa n.by' (n.keys.map (.int .i64)),ap n.keys.length,ap n.keys.length,aC false,am,am,am,am],[aB 12 0 [n.a],aB 1 s.1 (cT s.2)]⟩))
      (fun k x s r B P=>by
       obtain⟨ep,o⟩:=s;simp only at P;have G:((k:Int)<(n.keys.length:Int)):=by omega
       have J:o.length+1≤bC:=by omega
       obtain⟨x0,x1⟩:=O x (aN B);refine⟨?_,by simp[ZD];omega⟩;have W:a.l[x.toNat]?=some (a.l.getD x.toNat 0):=by
        have:x.toNat < a.l.length:=by omega
        simp[aQ,this]
       unfold ZD;generalize a.l.getD x.toNat 0=w at *;simp[GN,G,B,x0,W,append,J,cW r y,bR,bA,C,T])
      (fun s _=>by simp[GN]) (0,[]) (by simp)).1
     have u:=(gB (base:=2) (clr:=[9,10,11,20]) (b:=GJ) n.ah
      (fun k (s:Bool×Nat×List Int)=>⟨[.cptr t (uf bn ns bk ks bf fs) 0,n.a,aI 0 0 0 0,.ai,aC false,.aa a.b (cT a.l),aC s.1,.sl 1 s.2.1 0 s.2.2.length,am,am,am,am,aC false,.aa n.by' (n.keys.map (.int .i64)),ap n.keys.length,ap n.keys.length,aC false,.aa n.bg (n.ah.map lf.a),ap n.ah.length,ap k,am],[aB 12 0 [n.a],aB 1 s.2.1 (cT s.2.2)]⟩)
      (fun k s=>s.2.2.length≤n.keys.length+k) (abC a.l)
      (fun s=>(.ext 2,⟨[.cptr t (uf bn ns bk ks bf fs) 0,n.a,aI 0 0 0 0,.ai,aC false,.aa a.b (cT a.l),aC s.1,.sl 1 s.2.1 0 s.2.2.length,am,am,am,am,aC false,.aa n.by' (n.keys.map (.int .i64)),ap n.keys.length,ap n.keys.length,aC false,.aa n.bg (n.ah.map lf.a),ap n.ah.length,ap n.ah.length,aC false],[aB 12 0 [n.a],aB 1 s.2.1 (cT s.2.2)]⟩))
      (fun k g s r B P=>by
       obtain⟨ok,ep,o⟩:=s;simp only at P;have G:((k:Int)<(n.ah.length:Int)):=by omega
       have J:o.length+1≤bC:=by unfold bC;omega
       have N:aM g.a=2∧isAgg g.a=true:=⟨rfl,rfl⟩;have X:∀base σ m,fz true false base σ (m+3) g.a=g.a:=fun base σ m=>Ft.ft true false base σ m g rfl;have Y:∀base σ m,fz false true base σ (m+3) g.a=g.a:=fun base σ m=>Ft.ft false true base σ m g rfl;have Z:=fun bk=>V4 g bk a.l (he g (aN B)) K;refine⟨?_,by simp[abC];omega⟩;unfold abC;cases ok<;>simp[GJ,G,B,N,X,Y,Z,append,J,cW r M,bR,bA,C,T])
      (fun s _=>by simp[GJ]) (true,n.keys.length,n.keys.map fun x=>a.l.getD x.toNat 0) (by simp)).1
     rw[J6]at H;rw[KW]at u;simp only[ej]at u;generalize hL:(n.keys.map fun x=>a.l.getD x.toNat 0)++n.ah.map (uT a.l)=L at u ⊢;simp at H u;simp only[cT]at *;simp[arT,Ka,j,F,n3,k1,D,E,z,q,f,i,h,c,d,l,A,v,e,H,u]
   have l:¬(0:Int)<(n.keys.length:Int)+n.ah.length:=by omega
   have e:vz n a.l=false:=by unfold vz Eh;simp;omega
   simp[arT,Ka,j,F,n3,k1,D,E,z,q,f,i,h,c,d,l,A,e]
  have d:¬(n.ah.length:Int)≤12:=by omega
  have e:vz n a.l=false:=by unfold vz Eh;simp;omega
  simp[arT,Ka,j,F,n3,k1,D,E,z,q,f,i,h,c,d,A,e]
 have c:¬(n.keys.length:Int)≤3:=by omega
 have e:vz n a.l=false:=by unfold vz Eh;simp;omega
 simp[arT,Ka,j,F,n3,k1,D,E,z,q,f,i,h,c,A,e]
end
end
section
def nk(n:cL):List aq:=[ap n.op,ap n.l,ap n.r,ap (if n.op=1 then 0 else n.tab),if n.op=1 then .ai else .aa n.bk (n.ac.map (.int .i64)),aC (if n.op=2 then false else n.left),
 if n.op=2∨n.op=3 then .ai else .aa n.bc (n.cond.map EN.a),if n.op=4 then .ai else .aa n.by' (n.keys.map (.int .i64)),if n.op=4 then .ai else .aa n.bg (n.ah.map lf.a),if n.op=5 then .ai else .aa n.bi (n.items.map Al.a),
 if n.op=8 then .ai else .aa n.bo (n.ords.map im),ap (if n.op=8 then 0 else n.limit)]
def Kx(n:cL):cL:=⟨n.op,n.l,n.r,if n.op=1 then 0 else n.tab,if n.op=1 then false else n.bk,if n.op=1 then [] else n.ac,if n.op=2 then false else n.left,
 if n.op=2∨n.op=3 then false else n.bc,if n.op=2∨n.op=3 then [] else n.cond,if n.op=4 then false else n.by',if n.op=4 then [] else n.keys,if n.op=4 then false else n.bg,if n.op=4 then [] else n.ah,
 if n.op=5 then false else n.bi,if n.op=5 then [] else n.items,if n.op=8 then false else n.bo,if n.op=8 then [] else n.ords,if n.op=8 then 0 else n.limit⟩
def ZM(n:cL):List aq:=cellsOf (Kx n).a
theorem WS(n:cL)(base:Nat)(σ:aw)(m:Nat):(nk n).map (fz true false base σ (m+2))=ZM n:=by
 unfold nk ZM Kx cL.a;by_cases a:n.op=1
 ·simp[a]
 by_cases b:n.op=2
 ·simp[b]
 by_cases c:n.op=3
 ·simp[c]
 by_cases d:n.op=4
 ·simp[d]
 by_cases c5:n.op=5
 ·simp[c5]
 by_cases e:n.op=8
 ·simp[e]
 simp[a,b,c,d,c5,e]
theorem SD(n:cL)(σ:aw):cC code I.qdg [n.a] σ=some (aH (nk n),σ++[aB 12 0 [aH (nk n)],aB 12 0 [aH (nk n)]]):=by
 rw[cw ak4 rfl];unfold nk cL.a;by_cases a:n.op=1
 ·simp[arH,EV,a]
 by_cases b:n.op=2
 ·simp[arH,EV,b]
 by_cases c:n.op=3
 ·simp[arH,EV,c]
 by_cases d:n.op=4
 ·simp[arH,EV,d]
 by_cases c5:n.op=5
 ·simp[arH,EV,c5]
 by_cases e:n.op=8
 ·simp[arH,EV,e]
 simp[arH,EV,a,b,c,d,c5,e,eW a,eW b,eW c,eW d,eW c5,eW e]
theorem Qo(n:cL):bw I.qee [aH (ZM n)]=some (aC (N6 (Kx n))):=QP (Kx n)
theorem aa2{n:cL}(h:1≤n.op∧n.op≤8):N6 (Kx n)=ig n:=by
 have d:∀{b:Type} (l:List b),(l.length==0)=decide (l=[]):=fun l=>by cases l<;>simp
 unfold N6 Kx ig;have:n.op=1∨n.op=2∨n.op=3∨n.op=4∨n.op=5∨n.op=6∨n.op=7∨n.op=8:=by omega
 have a:((n.keys.length:Int)+n.ah.length==0)=(n.keys.length==0&&n.ah.length==0):=by
  rw[eK,ax,aX,aX,aX];omega
 rw[a];rcases this with c|c|c|c|c|c|c|c<;>simp[c]<;>(rw[eK];simp[and_assoc,and_left_comm,and_comm])
theorem PA(c:aq)(n:cL)(σ:aw)(m:n.ac.length≤bC):cC code I.qdr [c,n.a] σ=some (fb [.aa n.bk (n.ac.map (.int .i64)),aC (Ia n)],σ++[aB 12 0 [n.a]]):=by
 rw[cw alY rfl];have j:=fun b=>rc (enc:=.int .i64) (b:=b) (l:=n.ac) (f:=.fn 39 [] []) (p:=fun k=>decide (k<1) ||decide (3<k)) m (fun _=>⟨rfl,rfl⟩) (fun σ=>by simp) (fun k _=>by simp[N5]);unfold Ia;have n3:aM n.a=12∧isAgg n.a=true:=⟨rfl,rfl⟩;have k3:(cellsOf n.a)[3]?=some (ap n.tab):=rfl;have k4:(cellsOf n.a)[4]?=some (.aa n.bk (n.ac.map (.int .i64))):=rfl;by_cases e:0≤n.tab
 ·by_cases g:n.tab<4
  ·by_cases h:0<n.ac.length
   ·have a:(1:Int)≤(n.ac.length:Int):=by omega
    by_cases i:n.ac.length≤4
    ·have d:(n.ac.length:Int)≤4:=by omega
     cases hA:(n.ac.any fun k=>decide (k<1) ||decide (3<k))<;>rw[hA]at j<;>simp[arV,Kv,n3,k3,k4,j,e,g,h,a,i,d]
    have d:¬(n.ac.length:Int)≤4:=by omega
    simp[arV,Kv,n3,k3,k4,e,g,a,i,d]
   have a:¬(1:Int)≤(n.ac.length:Int):=by omega
   simp[arV,Kv,n3,k3,k4,e,g,h,a]
  simp[arV,Kv,n3,k3,k4,e,g]
 simp[arV,Kv,n3,k3,k4,e]
structure AtL (σ:aw) (id ik jf:Nat) (bn:Bool) (ns:List cL) (ep:Nat) (ks:List (iB Int)) (ef:Nat) (fs:List Nat):Prop where
 hd:σ[id]?=some (aB 3 0 [aH [.aa bn (ns.map cL.a),.sl ik ep 0 ks.length,.sl jf ef 0 fs.length]])
 hk:σ[ik]?=some (aB 1 ep (ks.map (iB.c (.int .i64))))
 hf:σ[jf]?=some (aB 1 ef (pF fs))
theorem AtL.more{σ:aw}{id ik jf:Nat}{bn:Bool}{ns:List cL}{ep:Nat}{ks:List (iB Int)}{ef:Nat}{fs:List Nat}(h:AtL σ id ik jf bn ns ep ks ef fs)(X:aw):AtL (σ++X) id ik jf bn ns ep ks ef fs:=
 ⟨by rw[aU (ak.1 h.hd).1];exact h.hd,by rw[aU (ak.1 h.hk).1];exact h.hk,by rw[aU (ak.1 h.hf).1];exact h.hf⟩
section
variable {σ:aw} {id ik jf:Nat} {bn:Bool} {ns:List cL} {ep:Nat} {ks:List (iB Int)} {ef:Nat} {fs:List Nat} (h:AtL σ id ik jf bn ns ep ks ef fs) (n:cL) (p:Nat) (hp:n.l=(p:Int)) (a:iB Int) (ha:ks[p]?=some a)
include h hp ha
theorem FK:cC code I.qdk [aI id 0 0 0,n.a] σ=some (fb [.aa a.b (cT a.l),aC true],σ++[aB 12 0 [n.a]]):=by
 rw[cw an6 rfl];obtain⟨f,g,i⟩:=h.more [aB 12 0 [n.a]];have d:=(ak.1 ha).1;have b:∀e:p<ks.length,ks[p]'e=a:=fun e=>(ak.1 ha).2;have c:((p:Int)<(ks.length:Int)):=by omega
 have n3:aM n.a=12∧isAgg n.a=true:=⟨rfl,rfl⟩;have k1:(cellsOf n.a)[1]?=some (ap n.l):=rfl;simp[auQ,aeU,n3,k1,hp,ha,b,d,c,f,g]
theorem JA(m:n.cond.length≤bC)(o:a.l.length≤bC):cC code I.qdl [aI id 0 0 0,n.a] σ=some (fb [.aa a.b (cT a.l),aC (jt n.cond a.l)],σ++[aB 12 0 [n.a]]):=by
 rw[cw alx rfl];obtain⟨j,k,q⟩:=h.more [aB 12 0 [n.a]];have l:=fun g i=>Fh g n.cond i a.l m o;have d:=(ak.1 ha).1;have b:∀f:p<ks.length,ks[p]'f=a:=fun f=>(ak.1 ha).2;have c:((p:Int)<(ks.length:Int)):=by omega
 have n3:aM n.a=12∧isAgg n.a=true:=⟨rfl,rfl⟩;have k1:(cellsOf n.a)[1]?=some (ap n.l):=rfl;have k6:List.take 1 (List.drop 6 (cellsOf n.a))=[.aa n.bc (n.cond.map EN.a)]:=rfl;have e:(cellsOf n.a)[6]?=some (.aa n.bc (n.cond.map EN.a)):=rfl;simp[auI,afe,n3,k1,k6,e,hp,ha,b,d,c,j,k,l]
theorem Ly(D:n.ords.length≤bC)(J:a.l.length≤bC)(B:ks.length≤8000)(C:ns.length≤8000):∃X Y,cC code I.qdo [aI id 0 0 0,n.a] σ=some (fb [.aa a.b (cT a.l),aC (Jf n a.l&&decide (ks.length+1=ns.length))],σ++[X,Y]):=by
 refine⟨aB 12 0 [n.a],aB 1 0 [.aa a.b (cT a.l)],?_⟩;rw[cw anB rfl];obtain⟨s,t,G⟩:=h.more [aB 12 0 [n.a]];obtain⟨u,v,H⟩:=h.more [aB 12 0 [n.a],aB 1 0 [.aa a.b (cT a.l)]];obtain⟨d,e,A⟩:=h.more [aB 12 0 [n.a],aB 1 0 [.ai]];have j:=(ak.1 ha).1;have g:∀z:p<ks.length,ks[p]'z=a:=fun z=>(ak.1 ha).2;have i:((p:Int)<(ks.length:Int)):=by omega
 have n3:aM n.a=12∧isAgg n.a=true:=⟨rfl,rfl⟩;have k1:(cellsOf n.a)[1]?=some (ap n.l):=rfl;have k:(cellsOf n.a)[10]?=some (.aa n.bo (n.ords.map im)):=rfl;have m:(cellsOf n.a)[11]?=some (ap n.limit):=rfl;have w:=qL (n:=(ns.length:Int)-1) (by omega) (by omega)
 have q:=vF (enc:=im) (b:=n.bo) (l:=n.ords) (f:=.fn 203 [] [.cptr true (.aa a.b (cT a.l)) 0]) (p:=fun o=>decide (o.1<0) ||decide ((a.l.length:Int)≤o.1)) D (fun _=>⟨rfl,rfl⟩) (fun σ=>by simp) (fun o _=>by
  have F:∀σ,fz true false 0 σ 20 (im o)=im o:=fun σ=>Fx.fx true false 0 σ 17 o;simp[F,PD])
 have E:((ks.length:Int)==(ns.length:Int)-1)=decide (ks.length+1=ns.length):=by
  rw[eK];simp;omega
 unfold Jf;by_cases r:n.ords.length≤3
 ·have c:(n.ords.length:Int)≤3:=by omega
  cases hA:(n.ords.any fun o=>decide (o.1<0) ||decide ((a.l.length:Int)≤o.1)) with
  |true=>
   rw[hA]at q;simp[arS,Ki,n3,k1,k,m,hp,ha,g,j,i,s,t,u,v,d,e,w,q,r,c]
  |false=>
   rw[hA]at q;by_cases x:-1≤n.limit
   ·by_cases y:n.limit≤2147483647
    ·simp[arS,Ki,n3,k1,k,m,hp,ha,g,j,i,s,t,u,v,d,e,w,q,r,c,x,y,E]
    simp[arS,Ki,n3,k1,k,m,hp,ha,g,j,i,s,t,u,v,d,e,w,q,r,c,x,y]
   simp[arS,Ki,n3,k1,k,m,hp,ha,g,j,i,s,t,u,v,d,e,w,q,r,c,x]
 have c:¬(n.ords.length:Int)≤3:=by omega
 simp[arS,Ki,n3,k1,k,m,hp,ha,g,j,i,s,t,u,v,d,e,w,r,c]
end
end
def fH(n:cL)(i:Nat)(fs:List Nat):Int×Bool:=
 if ip n.op=0 then ((i:Int),n.l == -1&&n.r == -1)
 else if ip n.op=1 then (if n.l≠(i:Int)-1∨n.r≠-1∨i=0 then (0,false) else ((fs.getD (i-1) 0:Nat),true))
 else if n.r≠(i:Int)-1∨i=0∨n.l≠(fs.getD (i-1) 0:Nat)-1∨n.l<0 then (0,false) else ((fs.getD n.l.toNat 0:Nat),true)
theorem sX(op:Int):ip op=0∨ip op=1∨ip op=2:=by
 unfold ip
 repeat' split
 all_goals simp
theorem QM(t H:Bool)(x:List cL)(G:Bool)(ks:List (iB Int))(F:Bool)(fs:List Nat)(i:Nat)(n:cL)(hi:x[i]?=some n)(P:fs.length=i)(E:∀f∈fs,f≤i)(R:i≤8000) :
  bw I.qdj [.cptr t (uf H x G ks F fs) 0,ap i]=some (fb [ap (fH n i fs).1,aC (fH n i fs).2]):=by
 rw[aS ak2 rfl];have b:=(ak.1 hi).1;have a:∀K:i<x.length,x[i]'K=n:=fun K=>(ak.1 hi).2;have e:((i:Int)<(x.length:Int)):=by omega
 have S:∀base σ m,fz true false base σ (m+3) n.a=n.a:=fun base σ m=>Ft.ft true false base σ m n rfl;have n3:aM n.a=12∧isAgg n.a=true:=⟨rfl,rfl⟩;have o:(cellsOf n.a)[0]?=some (ap n.op):=rfl;have k1:(cellsOf n.a)[1]?=some (ap n.l):=rfl;have k2:(cellsOf n.a)[2]?=some (ap n.r):=rfl;have c:=JO t H x G ks F fs;have w:=qL (n:=(i:Int)-1) (by omega) (by omega);have k:=PC n.op;have w0:IntKind.i64.wrap (-1)=-1:=by decide
 unfold fH;rcases sX n.op with C|C|C
 ·rw[C]at k ⊢;by_cases j:n.l=-1
  ·simp[arv,xJ,c,hi,a,b,e,n3,o,k1,k2,k,j]
  simp[arv,xJ,c,hi,a,b,e,n3,o,k1,k2,k,j,eW j]
 ·rw[C]at k ⊢;by_cases j:n.l=(i:Int)-1
  ·by_cases p:n.r=-1
   ·by_cases u:i=0
    ·subst u;have r:n.l=-1:=by omega
     simp[arv,xJ,c,hi,a,b,n3,o,k1,k2,k,r,p,w0]
    have d:¬((i:Int)=0):=by omega
    have y:(1:Int)≤(i:Int):=by omega
    have z:((i:Int)-1).toNat=i-1:=by omega
    have v:i-1<fs.length:=by omega
    have A:((i:Int)-1<(fs.length:Int)):=by omega
    have g:fs[i-1]?=some (fs.getD (i-1) 0):=by simp[aQ,v]
    have l:∀h:i-1<fs.length,fs[i-1]'h=fs.getD (i-1) 0:=fun h=>(ak.1 g).2;generalize fs.getD (i-1) 0=f at *;simp[arv,xJ,c,hi,a,b,e,n3,o,k1,k2,k,w,j,p,u,d,eW d,y,z,v,A,g,l]
   simp[arv,xJ,c,hi,a,b,e,n3,o,k1,k2,k,w,j,p,Dm p]
  simp[arv,xJ,c,hi,a,b,e,n3,o,k1,k2,k,w,j,Dm j]
 rw[C]at k ⊢;by_cases j:n.r=(i:Int)-1
 ·by_cases u:i=0
  ·subst u;have r:n.r=-1:=by omega
   simp[arv,xJ,c,hi,a,b,n3,o,k1,k2,k,r,w0]
  have d:¬((i:Int)=0):=by omega
  have y:(1:Int)≤(i:Int):=by omega
  have z:((i:Int)-1).toNat=i-1:=by omega
  have v:i-1<fs.length:=by omega
  have A:((i:Int)-1<(fs.length:Int)):=by omega
  have g:fs[i-1]?=some (fs.getD (i-1) 0):=by simp[aQ,v]
  have l:∀h:i-1<fs.length,fs[i-1]'h=fs.getD (i-1) 0:=fun h=>(ak.1 g).2;have O:=E _ (aN g);have L:=qL (n:=((fs.getD (i-1) 0:Nat):Int)-1) (by omega) (by omega);generalize fs.getD (i-1) 0=f at *;by_cases p:n.l=(f:Int)-1
  ·by_cases M:n.l<0
   ·obtain rfl:f=0:=by omega
    have s:n.l=-1:=by omega
    simp[arv,xJ,c,hi,a,b,e,n3,o,k1,k2,k,w,j,u,d,eW d,y,z,v,A,g,l,s,w0]
   have D:0≤n.l:=by omega
   have J:n.l.toNat < fs.length:=by omega
   have N:(n.l<(fs.length:Int)):=by omega
   have q:fs[n.l.toNat]?=some (fs.getD n.l.toNat 0):=by simp[aQ,J]
   have B:∀h:n.l.toNat < fs.length,fs[n.l.toNat]'h=fs.getD n.l.toNat 0:=fun h=>(ak.1 q).2;generalize fs.getD n.l.toNat 0=Q at *;have s:(n.l != (f:Int)-1)=false:=by simp[p]
   generalize n.l=T at *;simp[arv,xJ,c,hi,a,b,e,n3,o,k1,k2,k,w,L,j,u,d,eW d,y,z,v,A,g,l,s,M,D,J,N,q,B];simp[p]
  simp[arv,xJ,c,hi,a,b,e,n3,o,k1,k2,k,w,L,j,u,d,eW d,y,z,v,A,g,l,p,Dm p]
 simp[arv,xJ,c,hi,a,b,e,n3,o,k1,k2,k,w,j,Dm j]
theorem Wa{n:cL}{i:Nat}{fs:List Nat}(g:fs.length=i)(b:∀f∈fs,f≤i)(h:(fH n i fs).2=true):(fH n i fs).1=(((fH n i fs).1.toNat:Nat):Int)∧(fH n i fs).1.toNat≤i:=by
 have d:∀k,fs.getD k 0≤i:=fun k=>by
  by_cases e:k<fs.length
  ·rw[aQ,au e];exact b _ (aJ e)
  rw[aQ,fP (by omega)];exact cI _
 unfold fH at *;rcases sX n.op with c|c|c<;>rw[c]at h ⊢<;>simp at h ⊢
 ·split at h
  ·cases h
  rename_i a;rw[if_neg a];exact⟨by simp,by simpa using d (i-1)⟩
 split at h
 ·cases h
 rename_i a;rw[if_neg a];exact⟨by simp,by simpa using d n.l.toNat⟩
def Zq(id:Nat)(op:Int):aq:=
 if op=1 then .fn 80 [aI id 0 0 0] [] else if op=2 then .fn 199 [aI id 0 0 0] [] else if op=3 then .fn 91 [aI id 0 0 0] [] else if op=4 then .fn 200 [aI id 0 0 0] [] else
 if op=5 then .fn 106 [aI id 0 0 0] [] else if op=6 then .fn 201 [aI id 0 0 0] [] else if op=7 then .fn 202 [aI id 0 0 0] [] else if op=8 then .fn 159 [aI id 0 0 0] [] else .nilf
def uV(id:Nat):List (aq×aq):=[(ap 1,.fn 80 [aI id 0 0 0] []),(ap 2,.fn 199 [aI id 0 0 0] []),(ap 3,.fn 91 [aI id 0 0 0] []),(ap 4,.fn 200 [aI id 0 0 0] []),
 (ap 5,.fn 106 [aI id 0 0 0] []),(ap 6,.fn 201 [aI id 0 0 0] []),(ap 7,.fn 202 [aI id 0 0 0] []),(ap 8,.fn 159 [aI id 0 0 0] [])]
theorem OX(id:Nat)(op:Int):lookup (ap op) (uV id)=some (if 1≤op∧op≤8 then some (Zq id op) else none):=by
 unfold uV Zq;by_cases h:1≤op∧op≤8
 ·rw[if_pos h];have:op=1∨op=2∨op=3∨op=4∨op=5∨op=6∨op=7∨op=8:=by omega
  rcases this with rfl|rfl|rfl|rfl|rfl|rfl|rfl|rfl<;>rfl
 rw[if_neg h];have a:¬1=op:=by omega
 have b:¬2=op:=by omega
 have c:¬3=op:=by omega
 have d:¬4=op:=by omega
 have e:¬5=op:=by omega
 have f:¬6=op:=by omega
 have g:¬7=op:=by omega
 have i:¬8=op:=by omega
 simp[lookup,qI,eW a,eW b,eW c,eW d,eW e,eW f,eW g,eW i]
def kS(N:Nat)(ks:List (iB Int))(n:cL):Option (iB Int):=
 if n.op=1 then (if Ia n then some ⟨n.bk,n.ac⟩ else none)
 else (ks[n.l.toNat]?).bind fun a=>
  if n.op=2 then (ks[n.r.toNat]?).bind fun b=>if jt n.cond (a.l++b.l) then some ⟨false,a.l++b.l⟩ else none
  else if n.op=3 then (if jt n.cond a.l then some a else none)
  else if n.op=4 then (if vz n a.l&&n.ah.all (fun g=>(CR a.l g).1) then some ⟨false,(n.keys.map fun x=>a.l.getD x.toNat 0)++n.ah.map (uT a.l)⟩ else none)
  else if n.op=5 then (if decide (1≤n.items.length)&&decide (n.items.length≤16)&&n.items.all (fun e=>(eF e.l a.l).2==0) then some ⟨false,n.items.map fun e=>(eF e.l a.l).1⟩ else none)
  else if n.op=6 then some a
  else if n.op=7 then (ks[n.r.toNat]?).bind fun b=>if a.l.length=b.l.length then (jH a.l b.l).map fun r=>⟨false,r⟩ else none
  else if n.op=8 then (if Jf n a.l&&decide (ks.length+1=N) then some a else none)
  else none
def Z1(call:Option (aq×aw))(σ:aw)(o:Option (iB Int)):Prop:=∃b l X,call=some (fb [.aa b (cT l),aC o.isSome],σ++X)∧∀r,o=some r→r=⟨b,l⟩
theorem pO{call:Option (aq×aw)}{σ:aw}{b:Bool}{l:List Int}{X:aw}{t:Bool}(h:call=some (fb [.aa b (cT l),aC t],σ++X)):Z1 call σ (if t then some ⟨b,l⟩ else none):=by
 refine⟨b,l,X,?_,?_⟩
 ·rw[h];cases t<;>rfl
 intro r a;cases t with
 |true=>simpa using a.symm
 |false=>cases a
theorem AtL.snapped{σ:aw}{id g i:Nat}{a:Bool}{b:List cL}{ep:Nat}{ks:List (iB Int)}{f:Nat}{fs:List Nat}(h:AtL σ id g i a b ep ks f fs):fz true false 0 σ 20 (aI id 0 0 0)=.cptr true (uf a b true ks true fs) 0:=by
 obtain⟨c,d,e⟩:=h;have j:List.take ks.length (ks.map (iB.c (.int .i64)))=ks.map (iB.c (.int .i64)):=ay (by simp);have k:List.take fs.length (pF fs)=pF fs:=ay (by simp);simp[c,d,e,j,k]
theorem WC{σ:aw}{id U V:Nat}{C:Bool}{k:List cL}{ep:Nat}{ks:List (iB Int)}{M:Nat}{fs:List Nat}(h:AtL σ id U V C k ep ks M fs)(n:cL)(y:ub n)(T:1≤n.op∧n.op≤8)
  {fs0:List Nat} (z:(fH n ks.length fs0).2=true) (I:∀f∈fs0,f≤ks.length) (Q:fs0.length=ks.length) (o:∀a∈ks,a.l.length≤16) (H:ks.length≤8000) (J:k.length≤8000):Z1 (iY code (Zq id n.op) [n.a] σ) σ (kS k.length ks n):=by
 have B:uP≤bC:=by decide
 have E:∀base σ m,fz true false base σ (m+3) n.a=n.a:=fun base σ m=>Ft.ft true false base σ m n rfl;have s:=h.snapped;have at1:n.op=3∨n.op=4∨n.op=5∨n.op=6∨n.op=8→∃p:Nat,∃a,n.l=(p:Int)∧ks[p]?=some a:=fun u=>by
  unfold fH at z;rw[if_neg (by unfold ip;rw[if_neg (by omega)];split<;>omega),if_pos (by unfold ip;rw[if_neg (by omega),if_neg (by omega)])]at z;split at z
  ·cases z
  rename_i A;have N:ks.length≠0:=fun K=>A (.inr (.inr K));have O:n.l=(ks.length:Int)-1:=by
   by_cases v:n.l=(ks.length:Int)-1
   ·exact v
   exact absurd (.inl v) A
  exact⟨ks.length-1,ks[ks.length-1]'(by omega),by omega,au _⟩
 have at2:n.op=2∨n.op=7→∃p q:Nat,∃a b,n.l=(p:Int)∧n.r=(q:Int)∧ks[p]?=some a∧ks[q]?=some b:=fun u=>by
  unfold fH at z;rw[if_neg (by unfold ip;rw[if_neg (by omega),if_pos u];omega),if_neg (by unfold ip;rw[if_neg (by omega),if_pos u];omega)]at z;split at z
  ·cases z
  rename_i A;have N:ks.length≠0:=fun K=>A (.inr (.inl K));have O:n.r=(ks.length:Int)-1:=by
   by_cases v:n.r=(ks.length:Int)-1
   ·exact v
   exact absurd (.inl v) A
  have W:0≤n.l:=by
   by_cases v:n.l<0
   ·exact absurd (.inr (.inr (.inr v))) A
   omega
  have Z:n.l=((fs0.getD (ks.length-1) 0:Nat):Int)-1:=by
   by_cases v:n.l=((fs0.getD (ks.length-1) 0:Nat):Int)-1
   ·exact v
   exact absurd (.inr (.inr (.inl v))) A
  have h4:fs0.getD (ks.length-1) 0≤ks.length:=by
   have:ks.length-1<fs0.length:=by omega
   rw[aQ,au this];exact I _ (aJ this)
  exact⟨n.l.toNat,ks.length-1,ks[n.l.toNat]'(by omega),ks[ks.length-1]'(by omega),by omega,by omega,au _,au _⟩
 have:n.op=1∨n.op=2∨n.op=3∨n.op=4∨n.op=5∨n.op=6∨n.op=7∨n.op=8:=by omega
 rcases this with c|c|c|c|c|c|c|c
 ·have j:=PA (aI id 0 0 0) n σ (bH y.ac B);have e:kS k.length ks n=if Ia n then some ⟨n.bk,n.ac⟩ else none:=by unfold kS;rw[if_pos c]
  rw[e,show Zq id n.op=.fn 80 [aI id 0 0 0] [] by rw[c];rfl];exact pO j
 ·obtain⟨p,q,a,b,i,u,d,l⟩:=at2 (.inl c);have t:=o _ (aN d);have R:=o _ (aN l);have j:=P2 true C k true ks true fs n p q i u a b d l (bH y.cond B) (by unfold bC;omega);have e:kS k.length ks n=if jt n.cond (a.l++b.l) then some ⟨false,a.l++b.l⟩ else none:=by unfold kS;simp[c,i,u,d,l]
  rw[e,show Zq id n.op=.fn 199 [aI id 0 0 0] [] by rw[c];rfl];refine pO (X:=[]) ?_;simp[s,E,j]
 ·obtain⟨p,a,i,d⟩:=at1 (.inl c);have t:=o _ (aN d);have j:=JA h n p i a d (bH y.cond B) (by unfold bC;omega);have e:kS k.length ks n=if jt n.cond a.l then some a else none:=by unfold kS;simp[c,i,d]
  rw[e,show Zq id n.op=.fn 91 [aI id 0 0 0] [] by rw[c];rfl];exact pO j
 ·obtain⟨p,a,i,d⟩:=at1 (.inr (.inl c));have t:=o _ (aN d);have j:=NT true C k true ks true fs n p i a d y.keys y.ah (fun g D=>bH (y.args g D) B) (by unfold bC;omega);rw[show Zq id n.op=.fn 200 [aI id 0 0 0] [] by rw[c];rfl];by_cases D:vz n a.l=true
  ·rw[if_pos D]at j;have e:kS k.length ks n=if n.ah.all (fun g=>(CR a.l g).1) then some ⟨false,(n.keys.map fun x=>a.l.getD x.toNat 0)++n.ah.map (uT a.l)⟩ else none:=by unfold kS;simp[c,i,d,D]
   rw[e];refine pO (X:=[]) ?_;simp only[dJ];rw[ai1,ajZ];simp only[bY,bX,dJ,aW,bm,Ge,s,E,j,dL]
  rw[if_neg D]at j;have e:kS k.length ks n=if false then some ⟨false,[]⟩ else none:=by unfold kS;simp[c,i,d,D]
  rw[e];refine pO (X:=[]) ?_;simp[s,E,j]
 ·obtain⟨p,a,i,d⟩:=at1 (.inr (.inr (.inl c)));have t:=o _ (aN d);have j:=JH true C k true ks true fs n p i a d (bH y.items B) (fun e P=>bH (y.exprs e P) B) (by unfold bC;omega);have e:kS k.length ks n=if decide (1≤n.items.length)&&decide (n.items.length≤16)&&n.items.all (fun e=>(eF e.l a.l).2==0) then some ⟨false,n.items.map fun e=>(eF e.l a.l).1⟩ else none:=by unfold kS;simp[c,i,d]
  rw[e,show Zq id n.op=.fn 106 [aI id 0 0 0] [] by rw[c];rfl];refine pO (X:=[]) ?_;rw[ai1,am0];simp only[bY,bX,dJ,aW,bm,Ge,s,E,j,dL]
 ·obtain⟨p,a,i,d⟩:=at1 (.inr (.inr (.inr (.inl c))));have j:=FK h n p i a d;have e:kS k.length ks n=if true then some a else none:=by unfold kS;simp[c,i,d]
  rw[e,show Zq id n.op=.fn 201 [aI id 0 0 0] [] by rw[c];rfl];exact pO j
 ·obtain⟨p,q,a,b,i,u,d,l⟩:=at2 (.inr c);have t:=o _ (aN d);rw[show Zq id n.op=.fn 202 [aI id 0 0 0] [] by rw[c];rfl];by_cases F:a.l.length=b.l.length
  ·obtain⟨L,j,S⟩:=Od true C k true ks true fs n p q i u a b d l (by unfold bC;omega) F;have e:kS k.length ks n=(jH a.l b.l).map fun r=>⟨false,r⟩:=by unfold kS;simp[c,i,u,d,l,F]
   rw[e];refine⟨false,L,[],?_,?_⟩
   ·rw[ai1,amb];simp only[bY,bX,dJ,aW,bm,Ge,s,E,j,dL,Option.isSome_map]
   intro r G;cases hu:jH a.l b.l with
   |none=>rw[hu]at G;cases G
   |some w=>
    rw[hu]at G;cases G;rw[S w hu]
  have j:=Rr true C k true ks true fs n p q i u a b d l F;have e:kS k.length ks n=if false then some ⟨false,[]⟩ else none:=by unfold kS;simp[c,i,u,d,l,F]
  rw[e];refine pO (X:=[]) ?_;simp[s,E,j]
 obtain⟨p,a,i,d⟩:=at1 (.inr (.inr (.inr (.inr c))));have t:=o _ (aN d);obtain⟨X,Y,j⟩:=Ly h n p i a d (bH y.ords B) (by unfold bC;omega) H J;have e:kS k.length ks n=if Jf n a.l&&decide (ks.length+1=k.length) then some a else none:=by unfold kS;simp[c,i,d]
 rw[e,show Zq id n.op=.fn 159 [aI id 0 0 0] [] by rw[c];rfl];exact pO j
def oK(N:Nat)(n:cL)(ks:List (iB Int))(fs:List Nat):Option (iB Int×Nat):=
 if (decide (1≤n.op)&&decide (n.op≤8)&&ig n&&(fH n ks.length fs).2)=false then none else
 match kS N ks n with
 |none=>none
 |some r=>if 16<r.l.length then none else some (r,(fH n ks.length fs).1.toNat)
def iu(N:Nat)(k:Nat)(n:cL)(s:List (iB Int)×List Nat):(List (iB Int)×List Nat)⊕Nat:=match oK N n s.1 s.2 with
 |some r=>.inl (s.1++[r.1],s.2++[r.2])
 |none=>.inr k
abbrev acl(L:Nat)(bn:Bool)(ns:List cL):List aq:=
 [aH [.aa bn (ns.map cL.a)],aI L 0 0 0,aI (L+1) 0 0 0,aI (L+2) 0 0 0,aI (L+3) 0 0 0,aI (L+5) 0 0 0,ap ns.length,am,am,aC false,.fn 79 [] [aI (L+6) 0 0 0],am,am,am]
abbrev stL(L:Nat)(P:aw)(bn:Bool)(ns:List cL)(r2 r3 r4:aq)(ep:Nat)(kc:List aq)(ef:Nat)(fc:List aq)(o:Obj):aw:=
 P++[aB 1 0 [aH [.aa bn (ns.map cL.a)]],aB 1 0 [r2],aB 1 0 [r3],aB 1 0 [r4],aB 3 0 [aH [.aa bn (ns.map cL.a),.sl (L+7) ep 0 kc.length,.sl (L+8) ef 0 fc.length]],aB 1 0 [aI (L+4) 0 0 0],aB 1 0 [aI (L+4) 0 0 0],aB 1 ep kc,aB 1 ef fc,o]
theorem UA(L:Nat)(P:aw)(i:(L=1∧∃a,P=[aB 1 0 [a]])∨(L=2∧∃a b,P=[aB 1 0 [a],aB 1 0 [b]]))(c:Bool)(d:List cL)(k:Nat)(ok:Bool)(ep:Nat)(h:List aq)(e:Nat)(f:List aq)(X:aw) :
  cC code 35 (.frs (L+9) []::(acl L c d++[ap k,aC ok])) (stL L P c d .nilp (ap 0) (aC false) ep h e f (.pend false none)++X) =
   some (aC ok,if ok then stL L P c d .nilp (ap 0) (aC false) ep h e f (.pend false none)++X else stL L P c d (aI (L+4) 0 0 0) (ap k) (aC false) ep h e f (.pend false (some .ret))++X):=by
 rw[Fk good (g:=qF) rfl];rcases i with⟨rfl,a,rfl⟩|⟨rfl,a,b,rfl⟩
 all_goals
  cases ok
  ·simp[qF,sC,tZ,sz,rS,lD]
  simp[qF,sC,tZ,sz,rS,lD]
end Go.AM
namespace Go.AM
open P
set_option maxHeartbeats 64000000
set_option maxRecDepth 40000

end Go.AM
namespace Go.AM
open P
set_option maxHeartbeats 2000000
set_option maxRecDepth 4000
end Go.AM
namespace Go.AM
open P
set_option maxHeartbeats 64000000
set_option maxRecDepth 40000
attribute [local simp] aG bj
def Lm(r:OC):aq:=.aa false (r.map wy.a)
instance:Nc Lm 1 false:=⟨fun _=>rfl,fun _=>rfl⟩
instance:Fx Lm:=⟨fun fl top base σ n y=>by simp[Lm]⟩
@[simp] theorem aoE(r:OC):aM (Lm r)=1:=rfl
@[simp] theorem amF(r:OC):isAgg (Lm r)=false:=rfl
instance:Nc (iB.c Lm) 1 false:=⟨fun _=>rfl,fun _=>rfl⟩

instance:Nc (aq.int .u8) 1 false:=⟨fun _=>rfl,fun _=>rfl⟩
instance:Fx (aq.int .u8):=⟨fun _ _ _ _ _ _=>rfl⟩
instance:Nc (fun (c:UInt8)=>aq.int .u8 (c.toNat:Int)) 1 false:=⟨fun _=>rfl,fun _=>rfl⟩
instance:Fx (fun (c:UInt8)=>aq.int .u8 (c.toNat:Int)):=⟨fun _ _ _ _ _ _=>rfl⟩



@[simp] theorem apb(l a:Nat)(env args:List aq)(σ:aw):iY code (.yld l a env) args σ=if po σ l then cC code a (.frs l []::env++args) σ else none:=rfl
@[simp] theorem ajH(l:Nat)(env:List aq)(r:aq×aw):Uj l env (some r)=sG l env r.2:=rfl
def aiD(g:OC×al0):aq:=aH [Lm g.1,.aa false (g.2.map Lm)]
instance:Nc aiD 2 true:=⟨fun _=>rfl,fun _=>rfl⟩
instance:Fx aiD:=⟨fun fl top base σ n y=>by
 cases fl<;>simp[aiD,Lm]⟩

theorem PV(fl top:Bool)(base:Nat)(σ:aw)(n l s:Nat)(e:List aq):fz fl top base σ (n+1) (.yld l s e)=if (decide (l<base)&&top)=true then .yld l s (e.map (fz fl top base σ n)) else am:=by
 simp only[fz]
abbrev LC(L:Nat)(bn:Bool)(ns:List cL)(k:Nat)(c:aq):List aq:=
 [.yld (L+9) 35 (acl L bn ns),aI (L+6) 0 0 0,.mp (L+10),am,am,am,am,am,am,am,.aa bn (ns.map cL.a),ap ns.length,ap k,c,am,am,am]
abbrev stA(L:Nat)(P:aw)(bn:Bool)(ns:List cL)(k:Nat)(ks:List (iB Int))(fs:List Nat):aw:=
 stL L P bn ns .nilp (ap 0) (aC false) k (ks.map (iB.c (.int .i64))) k (pF fs) (.pend false none)++[.map (uV (L+4))]
theorem UT(id base:Nat)(σ:aw)(h:id<base):(uV id).map (fun e=>(e.1,fz false true base σ 20 e.2))=uV id:=by
 simp[uV,h]
def Nq(L:Nat)(P:aw)(bn:Bool)(ns:List cL)(k:Nat)(τ:aw):Prop:=
 ∃ep kc ef fc X,τ=stL L P bn ns (aI (L+4) 0 0 0) (ap k) (aC false) ep kc ef fc (.pend false (some .ret))++X
theorem ajs(L:Nat)(P:aw)(C:(L=1∧∃a,P=[aB 1 0 [a]])∨(L=2∧∃a b,P=[aB 1 0 [a],aB 1 0 [b]]))(N:∀x,aB 1 0 [x]∈P→∀base σ m,fz false true base σ (m+3) x=x)(p:Bool)(i:List cL)(hN:∀n∈i,ub n)(hl:i.length≤60) :
  match dA (iu i.length) i 0 ([],[]) with
  |.inl s=>(s.1.length=i.length∧s.2.length=i.length)∧bU code (L+11) [3,4,5,6,7,8,9,13,14,15,16] o7 ⟨LC L p i 0 .any,stA L P p i 0 [] []⟩=some (.ext 0,⟨LC L p i i.length (.bool false),stA L P p i i.length s.1 s.2⟩)
  |.inr k=>∃env τ,bU code (L+11) [3,4,5,6,7,8,9,13,14,15,16] o7 ⟨LC L p i 0 .any,stA L P p i 0 [] []⟩=some (.ret,⟨env,τ⟩)∧Nq L P p i k τ:=by
 have hm:i.length≤bC:=by unfold bC;omega
 have key:=jA (base:=L+11) (clr:=[3,4,5,6,7,8,9,13,14,15,16]) (b:=o7) i
  (fun k (s:List (iB Int)×List Nat)=>⟨LC L p i k am,stA L P p i k s.1 s.2⟩)
  (fun k s=>(s.1.length=k∧s.2.length=k)∧(∀f∈s.2,f≤k)∧∀a∈s.1,a.l.length≤16) (iu i.length)
  (fun s=>(.ext 0,⟨LC L p i i.length (aC false),stA L P p i i.length s.1 s.2⟩))
  (fun (k:Nat) o=>∃env τ,o=(.ret,⟨env,τ⟩)∧Nq L P p i k τ)
  (fun k n s hk I hs=>by
   obtain⟨ks,fs⟩:=s;obtain⟨⟨c,d⟩,z,O⟩:=hs;simp only at c d z O;have K:((k:Int)<(i.length:Int)):=by omega
   have n1:∀base σ m,fz true false base σ (m+3) n.a=n.a:=fun base σ m=>Ft.ft true false base σ m n rfl;have n3:aM n.a=12∧isAgg n.a=true:=⟨rfl,rfl⟩;have R:(cellsOf n.a)[0]?=some (ap n.op):=rfl;have t:k+1≤bC:=by unfold bC;omega
   have j:=OX (L+4) n.op;have T:=SD n;have y:=fun σ=>WS n 0 σ 17;have F:=Qo n;have ab:=hN n (aN I);have W:=fun ep kc U V X=>UA L P C p i k true ep kc U V X;have E:=fun ep kc U V X=>UA L P C p i k false ep kc U V X;have u:List.take k (ks.map (iB.c (.int .i64)))=ks.map (iB.c (.int .i64)):=ay (by simp[c]);have A:List.take k (pF fs)=pF fs:=ay (by simp[d]);unfold iu oK;simp only;by_cases M:1≤n.op∧n.op≤8
   ·rw[if_pos M]at j;rw[aa2 M]at F;have d1:decide (1≤n.op)=true:=qK M.1;have d2:decide (n.op≤8)=true:=qK M.2;rw[d1,d2];cases c2:ig n with
    |false=>
     rw[c2]at F;have J:=E (k+1) (ks.map (iB.c (.int .i64))++[.ai]) k (pF fs) [.map (uV (L+4)),aB 12 0 [n.a],aB 12 0 [(aH (nk n))],aB 12 0 [(aH (nk n))]];rcases C with⟨g,a,rfl⟩|⟨g,a,b,rfl⟩
     all_goals
      simp only[g,Nat.reduceAdd]at j;simp[c,d,g]at J;exact⟨_,by simp[o7,g,K,I,n3,R,lT,j,c,d,append,t,u,T,y,F,J,po];rfl,_,_,rfl,k+1,ks.map (iB.c (.int .i64))++[.ai],k,pF fs,[.map (uV (L+4)),aB 12 0 [n.a],aB 12 0 [(aH (nk n))],aB 12 0 [(aH (nk n))]],rfl⟩
    |true=>
     rw[c2]at F;have q:=QM true p i true ks true fs k n I d z (by omega);cases c3:(fH n k fs).2 with
     |false=>
      rw[c3]at q;rw[c,c3];have J:=E (k+1) (ks.map (iB.c (.int .i64))++[.ai]) (k+1) (pF fs++[ap (fH n k fs).1]) [.map (uV (L+4)),aB 12 0 [n.a],aB 12 0 [(aH (nk n))],aB 12 0 [(aH (nk n))]];rcases C with⟨g,a,rfl⟩|⟨g,a,b,rfl⟩
      all_goals
       simp only[g,Nat.reduceAdd]at j;simp[c,d,g]at J;exact⟨_,by simp[o7,g,K,I,n3,R,lT,j,c,d,append,t,u,A,T,y,F,q,J,po];rfl,_,_,rfl,k+1,ks.map (iB.c (.int .i64))++[.ai],k+1,pF fs++[ap (fH n k fs).1],[.map (uV (L+4)),aB 12 0 [n.a],aB 12 0 [(aH (nk n))],aB 12 0 [(aH (nk n))]],rfl⟩
     |true=>
      rw[c3]at q;rw[c,c3];obtain⟨Z,ae⟩:=Wa d z c3;rw[Z]at q;generalize (fH n k fs).1.toNat=f at *;have Y:AtL (stL L P p i .nilp (ap 0) (aC false) k (ks.map (iB.c (.int .i64))) (k+1) (pF (fs++[f])) (.pend false none)++[.map (uV (L+4)),aB 12 0 [n.a],aB 12 0 [aH (nk n)],aB 12 0 [aH (nk n)]]) (L+4) (L+7) (L+8) p i k ks (k+1) (fs++[f]):=by
       rcases C with⟨g,a,rfl⟩|⟨g,a,b,rfl⟩
       all_goals
        subst g;exact⟨by simp only[stL,dm];rfl,rfl,rfl⟩
      obtain⟨S,l,X,D,hr⟩:=WC Y n ab M (fs0:=fs) (by rw[c];exact c3) (by rw[c];exact z) (by rw[c];exact d) O (by omega) (by omega);have af:(cT l).length=l.length:=by simp
      have ag:aM (.aa S (cT l))=1∧isAgg (.aa S (cT l))=false:=⟨rfl,rfl⟩;have v:=E (k+1) (ks.map (iB.c (.int .i64))++[.aa S (cT l)]) (k+1) (pF (fs++[f])) (.map (uV (L+4))::aB 12 0 [n.a]::aB 12 0 [aH (nk n)]::aB 12 0 [aH (nk n)]::X);have w:=W (k+1) (ks.map (iB.c (.int .i64))++[.aa S (cT l)]) (k+1) (pF (fs++[f])) (.map (uV (L+4))::aB 12 0 [n.a]::aB 12 0 [aH (nk n)]::aB 12 0 [aH (nk n)]::X);cases hA:kS i.length ks n with
      |none=>
       rw[hA]at D;simp only[jD,Bool.true_eq_false,cH];rcases C with⟨g,a,rfl⟩|⟨g,a,b,rfl⟩
       all_goals
        simp only[g,Nat.reduceAdd]at j;simp[c,d,g]at v D;exact⟨_,by simp[o7,g,K,I,n3,R,lT,j,c,d,append,t,u,A,T,y,F,q,D,v,po];rfl,_,_,rfl,k+1,ks.map (iB.c (.int .i64))++[.aa S (cT l)],k+1,pF (fs++[f]),.map (uV (L+4))::aB 12 0 [n.a]::aB 12 0 [aH (nk n)]::aB 12 0 [aH (nk n)]::X,rfl⟩
      |some r=>
       obtain rfl:=hr r hA;rw[hA]at D;simp only;by_cases hw:16<l.length
       ·have H:¬((l.length:Int)≤16):=by omega
        rw[if_pos hw];rcases C with⟨g,a,rfl⟩|⟨g,a,b,rfl⟩
        all_goals
         simp only[g,Nat.reduceAdd]at j;simp[c,d,g]at v D;exact⟨_,by simp[o7,g,K,I,n3,R,lT,j,c,d,append,t,u,A,T,y,F,q,D,H,v,po];rfl,_,_,rfl,k+1,ks.map (iB.c (.int .i64))++[.aa S (cT l)],k+1,pF (fs++[f]),.map (uV (L+4))::aB 12 0 [n.a]::aB 12 0 [aH (nk n)]::aB 12 0 [aH (nk n)]::X,rfl⟩
       have H:((l.length:Int)≤16):=by omega
       rw[if_neg hw];refine⟨?_,⟨by simp[c],by simp[d]⟩,?_,?_⟩
       ·have G:=fun base σ h=>UT (L+4) base σ h;rcases C with⟨g,a,rfl⟩|⟨g,a,b,rfl⟩
        ·have Q:=N a (by simp);simp only[g,Nat.reduceAdd]at j G;simp[c,d,g]at w D;simp[LC,o7,g,K,I,n3,R,lT,j,c,d,append,t,u,A,T,y,F,q,D,H,w,po,bR,bA,PV,Q,G,cW hk hm]
        have Q:=N a (by simp);have ad:=N b (by simp);simp only[g,Nat.reduceAdd]at j G;simp[c,d,g]at w D;simp[LC,o7,g,K,I,n3,R,lT,j,c,d,append,t,u,A,T,y,F,q,D,H,w,po,bR,bA,PV,Q,ad,G,cW hk hm]
       ·intro x B;rcases aY.1 B with B|B
        ·exact Nat.le_succ_of_le (z x B)
        rw[aP.1 B];omega
       intro x B;rcases aY.1 B with B|B
       ·exact O x B
       rw[aP.1 B];simp;omega
   rw[if_neg M]at j;have e:(decide (1≤n.op)&&decide (n.op≤8)&&ig n&&(fH n ks.length fs).2)=false:=by
    by_cases h:1≤n.op
    ·have:¬n.op≤8:=fun h'=>M ⟨h,h'⟩;simp[this]
    simp[h]
   rw[if_pos e];have J:=E (k+1) (ks.map (iB.c (.int .i64))++[.ai]) k (pF fs) [.map (uV (L+4)),aB 12 0 [n.a]];rcases C with⟨g,a,rfl⟩|⟨g,a,b,rfl⟩
   all_goals
    simp only[g,Nat.reduceAdd]at j;simp[c,d,g]at J;exact⟨_,by simp[o7,g,K,I,n3,R,lT,j,c,d,append,t,u,J,po];rfl,_,_,rfl,k+1,ks.map (iB.c (.int .i64))++[.ai],k,pF fs,[.map (uV (L+4)),aB 12 0 [n.a]],rfl⟩)
  (fun s hs=>by
   rcases C with⟨rfl,a,rfl⟩|⟨rfl,a,b,rfl⟩
   all_goals simp[o7]) ([],[]) ⟨⟨rfl,rfl⟩,by simp,by simp⟩
 simp only[show ((0:Nat):Int)=0 from rfl]at key;cases hf:dA (iu i.length) i 0 ([],[]) with
 |inl s=>
  rw[hf]at key;exact⟨key.1.1,key.2⟩
 |inr k=>
  rw[hf]at key;obtain⟨o,h1,env,τ,rfl,h2⟩:=key;exact⟨env,τ,h1,h2⟩
def lookF(ns:List cL):Option (List (iB Int)×List Nat):=
 if ns.length<1∨60<ns.length then none else match dA (iu ns.length) ns 0 ([],[]) with
 |.inl s=>if s.2.getD (ns.length-1) 0=0 then some s else none
 |.inr _=>none
abbrev stE(L:Nat)(P:aw)(bn:Bool)(ns:List cL)(s:List (iB Int)×List Nat)(t:Bool):aw:=
 stL L P bn ns (aI (L+4) 0 0 0) (ap ((ns.length:Int)-1)) (aC t) ns.length (s.1.map (iB.c (.int .i64))) ns.length (pF s.2) .dead++[.map (uV (L+4))]
theorem NH(id:Nat)(N:aq)(σ:aw)(h:σ[id]?=some (aB 3 0 [aH [N,.ai,.ai]])) :
  cC code I.qdh [aI id 0 0 0] σ=some (.fn 79 [] [aI σ.length 0 0 0],(σ.set id (aB 3 0 [aH [N,.sl (σ.length+1) 0 0 0,.sl (σ.length+2) 0 0 0]]))++[aB 1 0 [aI id 0 0 0],aB 1 0 [],aB 1 0 []]):=by
 rw[cw anY rfl];have a:=(ak.1 h).1;have b:(σ++[aB 1 0 [aI id 0 0 0]])[id]?=some (aB 3 0 [aH [N,.ai,.ai]]):=by rw[aU a,h]
 have c:∀X t,(σ.set id X++t)[id]?=some X:=fun X t=>by rw[aU (by simpa using a)];simp[a]
 simp[auv,ae3,h,b,c,a]
theorem DV(L:Nat)(P:aw)(g:(L=1∧∃a,P=[aB 1 0 [a]])∨(L=2∧∃a b,P=[aB 1 0 [a],aB 1 0 [b]]))(h:∀x,aB 1 0 [x]∈P→∀base σ m,fz false true base σ (m+3) x=x)(e:Bool)(c:List cL)(l:∀n∈c,ub n)(j:c.length≤60) :
  match dA (iu c.length) c 0 ([],[]) with
  |.inl s=>(s.1.length=c.length∧s.2.length=c.length)∧cC code 79 [.yld (L+9) 35 (acl L e c),.ptr (L+6) 0 0 0] (stL L P e c .nilp (.int .i64 0) (.bool false) 0 [] 0 [] (.pend false none))=some (.tup [],stA L P e c c.length s.1 s.2)
  |.inr k=>∃τ,cC code 79 [.yld (L+9) 35 (acl L e c),.ptr (L+6) 0 0 0] (stL L P e c .nilp (.int .i64 0) (.bool false) 0 [] 0 [] (.pend false none))=some (.tup [],τ)∧Nq L P e c k τ:=by
 have d:=ajs L P g h e c l j;cases hf:dA (iu c.length) c 0 ([],[]) with
 |inl s=>
  rw[hf]at d;obtain⟨i,d⟩:=d;refine⟨i,?_⟩;rw[cw afG rfl];rcases g with⟨f,a,rfl⟩|⟨f,a,b,rfl⟩
  all_goals
   subst f;simp[LC,uV]at d;simp[asJ,X8,lT,mput,qI,uV,d]
 |inr k=>
  rw[hf]at d;obtain⟨env,τ,d,o⟩:=d;refine⟨τ,?_,o⟩;rw[cw afG rfl];rcases g with⟨f,a,rfl⟩|⟨f,a,b,rfl⟩
  all_goals
   subst f;simp[LC,uV]at d;simp[asJ,X8,lT,mput,qI,uV,d]
theorem acD(L:Nat)(P:aw)(o:(L=1∧∃a,P=[aB 1 0 [a]])∨(L=2∧∃a b,P=[aB 1 0 [a],aB 1 0 [b]]))(i:∀x,aB 1 0 [x]∈P→∀base σ m,fz false true base σ (m+3) x=x)(g:Bool)(c:List cL)(y:∀n∈c,ub n)
  (G:0<c.length) (v:c.length≤60) (s:List (iB Int)×List Nat) (z:dA (iu c.length) c 0 ([],[])=.inl s) :
  cC code I.qdw [aH [.aa g (c.map cL.a)]] P=some (fb [aI (L+4) 0 0 0,ap ((c.length:Int)-1),aC (s.2.getD (c.length-1) 0==0)],stE L P g c s (s.2.getD (c.length-1) 0==0)):=by
 rw[cw YX rfl];have q:¬((c.length:Int)<1):=by omega
 have r:¬(60<(c.length:Int)):=by omega
 have H:c.length≤bC:=by unfold bC;omega
 have d:=DV L P o i g c y v;rw[z]at d;obtain⟨⟨t,u⟩,d⟩:=d;have A:=qL (n:=(c.length:Int)-1) (by omega) (by omega);have B:(0:Int)≤(c.length:Int)-1:=by omega
 have C:((c.length:Int)-1).toNat=c.length-1:=by omega
 have D:((c.length:Int)-1<(c.length:Int)):=by omega
 have E:(1:Int)≤(c.length:Int):=by omega
 have p:c.length-1<s.2.length:=by omega
 have F:c.length-1<c.length:=by omega
 obtain⟨ks,fs⟩:=s;simp only at *;have e:fs[c.length-1]?=some (fs.getD (c.length-1) 0):=by simp[aQ,p]
 have k:∀h:c.length-1<fs.length,fs[c.length-1]'h=fs.getD (c.length-1) 0:=fun h=>(ak.1 e).2;generalize fs.getD (c.length-1) 0=f at *;have w:=fun id σ h=>NH id (.aa g (c.map cL.a)) σ h;have j:((f:Int)==0)=(f==0):=by rw[eK,aX,aX];omega
 rcases o with⟨l,a,rfl⟩|⟨l,a,b,rfl⟩
 all_goals
  subst l;simp at d;simp[arX,N2,q,r,w,d,sG,A,B,C,D,E,p,F,e,k,t,u,j]
theorem V5(L:Nat)(P:aw)(i:(L=1∧∃a,P=[aB 1 0 [a]])∨(L=2∧∃a b,P=[aB 1 0 [a],aB 1 0 [b]]))(f:∀x,aB 1 0 [x]∈P→∀base σ m,fz false true base σ (m+3) x=x)(e:Bool)(c:List cL)(q:∀n∈c,ub n)
  (u:0<c.length) (o:c.length≤60) (k:Nat) (r:dA (iu c.length) c 0 ([],[])=.inr k) :
  ∃τ,cC code I.qdw [aH [.aa e (c.map cL.a)]] P=some (fb [aI (L+4) 0 0 0,ap k,aC false],τ):=by
 rw[cw YX rfl];have j:¬((c.length:Int)<1):=by omega
 have l:¬(60<(c.length:Int)):=by omega
 have d:=DV L P i f e c q o;rw[r]at d;obtain⟨τ,d,ep,v,s,t,X,rfl⟩:=d;have p:=fun id σ h=>NH id (.aa e (c.map cL.a)) σ h;rcases i with⟨g,a,rfl⟩|⟨g,a,b,rfl⟩
 all_goals
  subst g;simp at d;exact⟨_,by simp[arX,N2,j,l,p,d,sG];rfl⟩
theorem VU(L:Nat)(P:aw)(h:(L=1∧∃a,P=[aB 1 0 [a]])∨(L=2∧∃a b,P=[aB 1 0 [a],aB 1 0 [b]]))(g:Bool)(d:List cL)(j:d.length<1∨60<d.length) :
  ∃τ,cC code I.qdw [aH [.aa g (d.map cL.a)]] P=some (fb [aI (L+4) 0 0 0,ap 0,aC false],τ):=by
 rw[cw YX rfl];rcases h with⟨f,a,rfl⟩|⟨f,a,b,rfl⟩
 all_goals
  subst f;by_cases i:d.length<1
  ·have c:((d.length:Int)<1):=by omega
   exact⟨_,by simp[arX,N2,c];rfl⟩
  have c:¬((d.length:Int)<1):=by omega
  have e:(60<(d.length:Int)):=by omega
  exact⟨_,by simp[arX,N2,c,e];rfl⟩
theorem GK(L:Nat)(P:aw)(i:(L=1∧∃a,P=[aB 1 0 [a]])∨(L=2∧∃a b,P=[aB 1 0 [a],aB 1 0 [b]]))(f:∀x,aB 1 0 [x]∈P→∀base σ m,fz false true base σ (m+3) x=x)(e:Bool)(d:List cL)(o:∀n∈d,ub n) :
  match lookF d with
  |some s=>(0<d.length∧d.length≤60∧s.1.length=d.length∧s.2.length=d.length)∧cC code I.qdw [.agg [.aa e (d.map cL.a)]] P=some (.tup [.ptr (L+4) 0 0 0,.int .i64 ((d.length:Int)-1),.bool true],stE L P e d s true)
  |none=>∃k τ,cC code I.qdw [.agg [.aa e (d.map cL.a)]] P=some (.tup [.ptr (L+4) 0 0 0,.int .i64 k,.bool false],τ):=by
 unfold lookF;by_cases h:d.length<1∨60<d.length
 ·rw[if_pos h];obtain⟨τ,h⟩:=VU L P i e d h;exact⟨_,τ,h⟩
 rw[if_neg h];have l:0<d.length:=by omega
 have g:d.length≤60:=by omega
 cases hf:dA (iu d.length) d 0 ([],[]) with
 |inr k=>
  obtain⟨τ,h⟩:=V5 L P i f e d o l g k hf;exact⟨_,τ,h⟩
 |inl s=>
  have j:=acD L P i f e d o l g s hf;have p:=DV L P i f e d o g;rw[hf]at p;simp only;by_cases c:s.2.getD (d.length-1) 0=0
  ·rw[if_pos c];rw[c]at j;exact⟨⟨l,g,p.1.1,p.1.2⟩,j⟩
  rw[if_neg c];rw[show (s.2.getD (d.length-1) 0==0)=false by simpa using c]at j;exact⟨_,_,j⟩
theorem J0(b:Bool)(a:List cL)(d:∀n∈a,ub n):∃k,bw I.qcx [aH [.aa b (a.map cL.a)]]=some (fb [ap k,ap (if (lookF a).isSome then 0 else 230)]):=by
 have h:=GK 1 [aB 1 0 [aH [.aa b (a.map cL.a)]]] (.inl ⟨rfl,_,rfl⟩) (fun x c base σ m=>by simp at c;rw[c];simp) b a d;cases hl:lookF a with
 |none=>
  rw[hl]at h;obtain⟨k,τ,h⟩:=h;refine⟨k,?_⟩;rw[aS afA rfl];simp[asO,Xt,h]
 |some s=>
  rw[hl]at h;obtain⟨_,h⟩:=h;refine⟨0,?_⟩;rw[aS afA rfl];simp[asO,Xt,h]
theorem VK(d:Bool)(b:List cL)(o:∀n∈b,ub n)(s:List (iB Int)×List Nat)(p:lookF b=some s)(q:∀a∈s.1,a.l.length≤16) :
  bw I.qcy [aH [.aa d (b.map cL.a)]]=some (fb [.aa false (cT (s.1.getD (b.length-1) Y8).l),ap 0]):=by
 have h:=GK 1 [aB 1 0 [aH [.aa d (b.map cL.a)]]] (.inl ⟨rfl,_,rfl⟩) (fun x i base σ m=>by simp at i;rw[i];simp) d b o;rw[p]at h;obtain⟨⟨z,A,k,l⟩,h⟩:=h;rw[aS aeO rfl];obtain⟨ks,fs⟩:=s;simp only at *;have r:=qL (n:=(b.length:Int)-1) (by omega) (by omega);have t:(0:Int)≤(b.length:Int)-1:=by omega
 have u:((b.length:Int)-1).toNat=b.length-1:=by omega
 have v:((b.length:Int)-1<(b.length:Int)):=by omega
 have w:(1:Int)≤(b.length:Int):=by omega
 have j:b.length-1<ks.length:=by omega
 have y:b.length-1<b.length:=by omega
 have c:ks[b.length-1]?=some (ks.getD (b.length-1) Y8):=by simp[aQ,j]
 have f:∀h:b.length-1<ks.length,ks[b.length-1]'h=ks.getD (b.length-1) Y8:=fun h=>(ak.1 c).2;have g:=q _ (aN c);generalize ks.getD (b.length-1) Y8=a at *;have e:=pU (enc:=.int .i64) a.b a.l (by unfold bC;omega);simp at h;simp[asS,XX,h,r,t,u,v,w,j,y,c,f,k,l,e]
end Go.AM
namespace Go.AM
open P
set_option maxHeartbeats 64000000
set_option maxRecDepth 40000
structure NS (n:cL):Prop where
 fit:ub n
 keys:n.keys.length≤8000
 ah:n.ah.length≤8000
 items:n.items.length≤8000
structure NOk (n:cL):Prop where
 l:n.l<100
 r:n.r<100
 ac:n.ac.length≤8000
 ords:n.ords.length≤8000
theorem Qw{N:Nat}{n:cL}{ks:List (iB Int)}{fs:List Nat}{r:iB Int}{f:Nat}(v:ks.length≤60)(q:∀x∈fs,x≤ks.length)(h:oK N n ks fs=some (r,f)):NOk n∧r.l.length≤16∧f≤ks.length:=by
 unfold oK at h;split at h
 ·cases h
 rename_i d;simp only[kM,not_or,Bool.not_eq_false]at d;obtain⟨⟨⟨w,u⟩,p⟩,b⟩:=d;split at h
 ·cases h
 rename_i y c;split at h
 ·cases h
 cases h;have i:∀j,fs.getD j 0≤ks.length:=fun j=>by
  rw[aQ];cases hj:fs[j]? with
  |none=>simp
  |some x=>exact q x (aN hj)
 have e:=p;unfold ig at e;simp only[ax,dK,aX]at e;have s:n.ac.length≤8000:=by
  by_cases d:n.op=1
  ·unfold kS at c;rw[if_pos d]at c;split at c
   ·rename_i k;unfold Ia at k;simp only[ax,cd]at k;omega
   cases c
  have:=e.1.1.1.1.1;simp at u;rcases this with (h|h)|h
  ·exact absurd h d
  ·omega
  omega
 have t:n.ords.length≤8000:=by
  by_cases o:n.op=8
  ·unfold kS at c;rw[if_neg (by omega)]at c;obtain⟨a,_,c⟩:=aL.1 c;rw[if_neg (by omega),if_neg (by omega),if_neg (by omega),if_neg (by omega),if_neg (by omega),if_neg (by omega),if_pos o]at c;split at c
   ·rename_i k;simp only[ax]at k;have:=k.1;unfold Jf at this;simp only[ax,cd]at this;omega
   cases c
  have:=e.2;rcases this with h|h
  ·exact absurd h o
  omega
 have g:n.l<100∧n.r<100∧(fH n ks.length fs).1.toNat≤ks.length:=by
  unfold fH at b ⊢;split at b
  ·rename_i l;rw[if_pos l];simp at b;simp only;omega
  rename_i l;rw[if_neg l];split at b
  ·rename_i d;rw[if_pos d];split at b
   ·cases b
   rename_i m;rw[if_neg m];have:=i (ks.length-1);simp only;omega
  rename_i d;rw[if_neg d];split at b
  ·cases b
  rename_i m;rw[if_neg m];have:=i (ks.length-1);have:=i n.l.toNat;simp only;omega
 exact⟨⟨g.1,g.2.1,s,t⟩,by omega,g.2.2⟩
theorem IS{N:Nat}:∀(u:List cL) (i:Nat) (s s':List (iB Int)×List Nat),s.1.length+u.length≤60→(∀x∈s.2,x≤s.1.length)→(∀a∈s.1,a.l.length≤16)→dA (iu N) u i s=.inl s'→s'.1.length=s.1.length+u.length∧(∀a∈s'.1,a.l.length≤16)∧∀n∈u,NOk n
 |[],_,s,s',_,_,c,h=>by simp only[dA]at h;cases h;exact⟨rfl,c,fun n k=>(by cases k)⟩
 |n::u,i,s,s',j,e,c,h=>by
  cases hq:oK N n s.1 s.2 with
  |none=>simp only[dA,iu,hq]at h;cases h
  |some q=>
   simp only[dA,iu,hq]at h;rw[bB]at j;obtain⟨f,g,l⟩:=Qw (by omega) e hq
   obtain⟨k1,k2,k3⟩:=IS u _ _ _ (by simp;omega) (fun x b=>by
    simp only[cn,List.length_singleton];rcases aY.1 b with b|b
    ·have:=e x b;omega
    ·rw[aP.1 b];omega) (fun a b=>by
    rcases aY.1 b with b|b
    ·exact c a b
    rw[aP.1 b];exact g) h
   refine⟨by rw[k1];simp;omega,k2,fun m d=>?_⟩;rcases dW.1 d with rfl|d
   ·exact f
   exact k3 m d
theorem wY{b:List cL}{s:List (iB Int)×List Nat}(h:lookF b=some s):s.1.length=b.length∧1≤b.length∧(∀a∈s.1,a.l.length≤16)∧∀n∈b,NOk n:=by
 unfold lookF at h;split at h
 ·cases h
 rename_i d;split at h
 ·rename_i e c;split at h
  ·cases h;obtain⟨k1,k2,k3⟩:=IS b 0 _ _ (by simp;omega) (by simp) (by simp) c;exact⟨by simpa using k1,by omega,k2,k3⟩
  cases h
 cases h
def ldK(w:List cL):List Int:=(((lookF w).bind fun s=>s.1[w.length-1]?).map iB.l).getD []
theorem ab2(w:List cL):(ldK w).length≤16:=by
 unfold ldK;cases h:lookF w with
 |none=>simp
 |some s=>
  obtain⟨_,_,a,_⟩:=wY h;cases hq:s.1[w.length-1]? with
  |none=>simp[hq]
  |some r=>simpa [hq] using a r (aN hq)
end Go.AM
namespace Go.AM
open P
set_option maxHeartbeats 64000000
set_option maxRecDepth 40000
attribute [local simp] aG bj
theorem ym{i:Type}{enc:i→aq}[Nc enc 2 true][Fx enc](b:Bool)(l:List i)(k:l.length≤bC):bw I.qgc [.aa b (l.map enc)]=some (.frs 2 (l.map enc)):=by
 cases l with
 |nil=>cases b<;>exact kV (n:=20) (σ:=[]) (by kernel_rfl)
 |cons v r=>
  have a:=G5 (f:=enc) (v::r);have j:((v::r).map enc).length=r.length+1:=by simp
  have e:jJ [] (.aa b ((v::r).map enc))=false:=rfl;unfold bw;rw[kG good afR,e];simp only[bq,cH];unfold lZ;have d:r.length+1≤bC:=by simpa using k
  have c:uq false [] (.aa b ((v::r).map enc))=some (aC false):=rfl;have h:=rz (f:=enc) (v::r) 0 0 [aB 2 0 ((v::r).map enc)] rfl;have g:(v::r).map enc≠[]:=by simp
  have m:∀x,x∈(v::r).map enc→aM x=2:=fun x g=>by simpa using ba.1 a x g
  have o:((v::r).map enc).take (r.length+1)=(v::r).map enc:=ay (by simp);simp only[bB]at h;generalize (v::r).map enc=xs at *;simp[auW,afz,enter,qU,append,a,j,d,-uq,c,g];rw[if_pos m];simp[qU];exact h
@[simp] theorem xx{a:Type}{enc:a→aq}[Nc enc 2 true][Fx enc](b:Bool)(l:List a)(c:l.length≤bC)(σ:aw):cC code I.qgc [.aa b (l.map enc)] σ=some (.frs 2 (l.map enc),σ):=by
 rw[tS afR rfl,ym b l c];rfl
theorem uU{i:Type}{enc:i→aq}[Nc enc 8 true][Fx enc](b:Bool)(l:List i)(k:l.length≤bC):bw I.qga [.aa b (l.map enc)]=some (.frs 8 (l.map enc)):=by
 cases l with
 |nil=>cases b<;>exact kV (n:=20) (σ:=[]) (by kernel_rfl)
 |cons v r=>
  have a:=G5 (f:=enc) (v::r);have j:((v::r).map enc).length=r.length+1:=by simp
  have e:jJ [] (.aa b ((v::r).map enc))=false:=rfl;unfold bw;rw[kG good aeF,e];simp only[bq,cH];unfold lZ;have d:r.length+1≤bC:=by simpa using k
  have c:uq false [] (.aa b ((v::r).map enc))=some (aC false):=rfl;have h:=rz (f:=enc) (v::r) 0 0 [aB 8 0 ((v::r).map enc)] rfl;have g:(v::r).map enc≠[]:=by simp
  have m:∀x,x∈(v::r).map enc→aM x=8:=fun x g=>by simpa using ba.1 a x g
  have o:((v::r).map enc).take (r.length+1)=(v::r).map enc:=ay (by simp);simp only[bB]at h;generalize (v::r).map enc=xs at *;simp[aun,ahd,enter,qU,append,a,j,d,-uq,c,g];rw[if_pos m];simp[qU];exact h
@[simp] theorem jK{a:Type}{enc:a→aq}[Nc enc 8 true][Fx enc](b:Bool)(l:List a)(c:l.length≤bC)(σ:aw):cC code I.qga [.aa b (l.map enc)] σ=some (.frs 8 (l.map enc),σ):=by
 rw[tS aeF rfl,uU b l c];rfl
theorem yh{i:Type}{enc:i→aq}[Nc enc 2 true][Fx enc](b:Bool)(l:List i)(k:l.length≤bC):bw I.qfz [.aa b (l.map enc)]=some (.frs 2 (l.map enc)):=by
 cases l with
 |nil=>cases b<;>exact kV (n:=20) (σ:=[]) (by kernel_rfl)
 |cons v r=>
  have a:=G5 (f:=enc) (v::r);have j:((v::r).map enc).length=r.length+1:=by simp
  have e:jJ [] (.aa b ((v::r).map enc))=false:=rfl;unfold bw;rw[kG good agF,e];simp only[bq,cH];unfold lZ;have d:r.length+1≤bC:=by simpa using k
  have c:uq false [] (.aa b ((v::r).map enc))=some (aC false):=rfl;have h:=rz (f:=enc) (v::r) 0 0 [aB 2 0 ((v::r).map enc)] rfl;have g:(v::r).map enc≠[]:=by simp
  have m:∀x,x∈(v::r).map enc→aM x=2:=fun x g=>by simpa using ba.1 a x g
  have o:((v::r).map enc).take (r.length+1)=(v::r).map enc:=ay (by simp);simp only[bB]at h;generalize (v::r).map enc=xs at *;simp[atQ,afC,enter,qU,append,a,j,d,-uq,c,g];rw[if_pos m];simp[qU];exact h
@[simp] theorem wZ{a:Type}{enc:a→aq}[Nc enc 2 true][Fx enc](b:Bool)(l:List a)(c:l.length≤bC)(σ:aw):cC code I.qfz [.aa b (l.map enc)] σ=some (.frs 2 (l.map enc),σ):=by
 rw[tS agF rfl,yh b l c];rfl
theorem wk{i:Type}{enc:i→aq}[Nc enc 1 true][Fx enc](b:Bool)(l:List i)(k:l.length≤bC):bw I.qgb [.aa b (l.map enc)]=some (.frs 1 (l.map enc)):=by
 cases l with
 |nil=>cases b<;>exact kV (n:=20) (σ:=[]) (by kernel_rfl)
 |cons v r=>
  have a:=G5 (f:=enc) (v::r);have j:((v::r).map enc).length=r.length+1:=by simp
  have e:jJ [] (.aa b ((v::r).map enc))=false:=rfl;unfold bw;rw[kG good ag6,e];simp only[bq,cH];unfold lZ;have d:r.length+1≤bC:=by simpa using k
  have c:uq false [] (.aa b ((v::r).map enc))=some (aC false):=rfl;have h:=rz (f:=enc) (v::r) 0 0 [aB 1 0 ((v::r).map enc)] rfl;have g:(v::r).map enc≠[]:=by simp
  have m:∀x,x∈(v::r).map enc→aM x=1:=fun x g=>by simpa using ba.1 a x g
  have o:((v::r).map enc).take (r.length+1)=(v::r).map enc:=ay (by simp);simp only[bB]at h;generalize (v::r).map enc=xs at *;simp[aud,ae4,enter,qU,append,a,j,d,-uq,c,g];rw[if_pos m];simp[qU];exact h
@[simp] theorem vN{a:Type}{enc:a→aq}[Nc enc 1 true][Fx enc](b:Bool)(l:List a)(c:l.length≤bC)(σ:aw):cC code I.qgb [.aa b (l.map enc)] σ=some (.frs 1 (l.map enc),σ):=by
 rw[tS ag6 rfl,wk b l c];rfl
def vw(g:lf):aq:=aH [ap g.tag,.aa false (g.arg.map EN.a)]
def xM(e:Al):aq:=aH [.aa false (e.l.map EN.a)]
instance:Nc vw 2 true:=⟨fun _=>rfl,fun _=>rfl⟩
instance:Fx vw:=⟨fun fl top base σ n y=>by simp[vw]⟩
instance:Nc xM 1 true:=⟨fun _=>rfl,fun _=>rfl⟩
instance:Fx xM:=⟨fun fl top base σ n y=>by simp[xM]⟩
structure nz (n:cL):Prop where
 ag:∀g∈n.ah,g.b=false
 ex:∀e∈n.items,e.b=false
theorem nz.ags{n:cL}(h:nz n):n.ah.map lf.a=n.ah.map vw:=aT fun g a=>by simp[lf.a,vw,h.ag g a]
theorem nz.exs{n:cL}(h:nz n):n.items.map Al.a=n.items.map xM:=aT fun e a=>by simp[Al.a,xM,h.ex e a]
def gH(by':Int)(n:cL):cL:=⟨n.op,if 0≤n.l then n.l+by' else n.l,if 0≤n.r then n.r+by' else n.r,n.tab,false,n.ac,n.left,false,n.cond,false,n.keys,false,n.ah,false,n.items,false,n.ords,n.limit⟩
abbrev nC(n:cL)(l r:Int):aq:=aH [ap n.op,ap l,ap r,ap n.tab,.sl 2 0 0 n.ac.length,aC n.left,.sl 5 0 0 n.cond.length,.sl 3 0 0 n.keys.length,.sl 6 0 0 n.ah.length,.sl 7 0 0 n.items.length,.sl 4 0 0 n.ords.length,ap n.limit]
abbrev stC(n:cL)(l r:Int)(z:aq):aw:=[aB 12 0 [nC n l r],aB 12 0 [z],aB 1 0 (n.ac.map (.int .i64)),aB 1 0 (n.keys.map (.int .i64)),aB 2 0 (n.ords.map im),aB 8 0 (n.cond.map EN.a),aB 2 0 (n.ah.map vw),aB 1 0 (n.items.map xM)]
abbrev Pk:aq:=aH [ap 0,ap 0,ap 0,ap 0,.ai,aC false,.ai,.ai,.ai,.ai,.ai,ap 0]
theorem GR{a:Type}{l:List a}{k:Nat}{x:a}(h:l[k]?=some x):l.set k x=l:=by
 obtain⟨b,rfl⟩:=ak.1 h;exact List.set_getElem_self b
theorem HM(n:cL)(M:nz n)(p:ub n)(c:Int)(K:0≤n.l→-9223372036854775808≤n.l+c∧n.l+c < 9223372036854775808)(L:0≤n.r→-9223372036854775808≤n.r+c∧n.r+c < 9223372036854775808) :
  bw I.qdu [n.a,ap c]=some (gH c n).a:=by
 rw[aS amP rfl];have o:uP≤bC:=by decide
 have k1:=fun b=>pU (enc:=.int .i64) b n.ac (bH p.ac o);have k2:=fun b=>pU (enc:=.int .i64) b n.keys (bH p.keys o);have k3:=fun b=>xx (enc:=im) b n.ords (bH p.ords o);have k4:=fun b=>jK (enc:=EN.a) b n.cond (bH p.cond o);have k5:=fun b=>wZ (enc:=vw) b n.ah (bH p.ah o);have k6:=fun b=>vN (enc:=xM) b n.items (bH p.items o);have H:=M.ags;have J:=M.exs;generalize v:(if 0≤n.l then n.l+c else n.l)=w;generalize j:(if 0≤n.r then n.r+c else n.r)=y;have N:gH c n=⟨n.op,w,y,n.tab,false,n.ac,n.left,false,n.cond,false,n.keys,false,n.ah,false,n.items,false,n.ords,n.limit⟩:=by unfold gH;rw[v,j]
 have d:=fun z A:Bool=>(gB (base:=8) (clr:=[4,10]) (b:=F0) n.ah
  (fun k (_:Unit)=>⟨[n.a,ap c,aI 0 0 0 0,aI 1 0 0 0,am,am,aC z,aC A,ap n.ah.length,ap k,am,am,am,am],stC n w y Pk⟩)
  (fun _ _=>True) (fun _ _=>())
  (fun _=>(.ext 0,⟨[n.a,ap c,aI 0 0 0 0,aI 1 0 0 0,am,am,aC z,aC A,ap n.ah.length,ap n.ah.length,aC false,am,am,am],stC n w y Pk⟩))
  (fun k g _ B q _=>by
   have E:((k:Int)<(n.ah.length:Int)):=by omega
   refine⟨?_,trivial⟩;have t:=fun b=>jK (enc:=EN.a) b g.arg (bH (p.args g (aN q)) o);have u:∀h:k<n.ah.length,n.ah[k]'h=g:=fun h=>(ak.1 q).2;have G:∀base σ m,fz false true base σ (m+3) n.a=n.a:=fun base σ m=>Ft.ft false true base σ m n rfl;have l:(n.ah.map vw).set k (aH [ap g.tag,.aa false (g.arg.map EN.a)])=n.ah.map vw:=GR (by rw[ed,q];rfl);simp[F0,E,q,B,u,vw,t,G,cW B (bH p.ah o),bR,bA,l])
  (fun _ _=>by simp[F0]) () trivial).1
 have e:=fun z A:Bool=>(gB (base:=8) (clr:=[5,13]) (b:=GF) n.items
  (fun k (_:Unit)=>⟨[n.a,ap c,aI 0 0 0 0,aI 1 0 0 0,am,am,aC z,aC A,ap n.ah.length,ap n.ah.length,aC false,ap n.items.length,ap k,am],stC n w y Pk⟩)
  (fun _ _=>True) (fun _ _=>())
  (fun _=>(.ext 2,⟨[n.a,ap c,aI 0 0 0 0,aI 1 0 0 0,am,am,aC z,aC A,ap n.ah.length,ap n.ah.length,aC false,ap n.items.length,ap n.items.length,aC false],stC n w y Pk⟩))
  (fun k g _ B q _=>by
   have E:((k:Int)<(n.items.length:Int)):=by omega
   refine⟨?_,trivial⟩;have t:=fun b=>jK (enc:=EN.a) b g.l (bH (p.exprs g (aN q)) o);have u:∀h:k<n.items.length,n.items[k]'h=g:=fun h=>(ak.1 q).2;have G:∀base σ m,fz false true base σ (m+3) n.a=n.a:=fun base σ m=>Ft.ft false true base σ m n rfl;have l:(n.items.map xM).set k (aH [.aa false (g.l.map EN.a)])=n.items.map xM:=GR (by rw[ed,q];rfl);simp[GF,E,q,B,u,xM,t,G,cW B (bH p.items o),bR,bA,l])
  (fun _ _=>by simp[GF]) () trivial).1
 have C:n.a=aH [ap n.op,ap n.l,ap n.r,ap n.tab,.aa n.bk (n.ac.map (.int .i64)),aC n.left,.aa n.bc (n.cond.map EN.a),.aa n.by' (n.keys.map (.int .i64)),.aa n.bg (n.ah.map vw),.aa n.bi (n.items.map xM),.aa n.bo (n.ords.map im),ap n.limit]:=by unfold cL.a;rw[H,J]
 have F:(gH c n).a=aH [ap n.op,ap w,ap y,ap n.tab,.aa false (n.ac.map (.int .i64)),aC n.left,.aa false (n.cond.map EN.a),.aa false (n.keys.map (.int .i64)),.aa false (n.ah.map vw),.aa false (n.items.map xM),.aa false (n.ords.map im),ap n.limit]:=by rw[N];unfold cL.a;simp only;rw[H,J]
 rw[F];simp only[show ((0:Nat):Int)=0 from rfl,stC,Pk,nC,C]at d e;rw[C];have D:=fun h=>qL (K h).1 (K h).2;have r:=fun h=>qL (L h).1 (L h).2;by_cases s:0≤n.l
 ·rw[if_pos s]at v;rw[v]at D;have D:=D s;by_cases i:0≤n.r
  ·rw[if_pos i]at j;rw[j]at r;have r:=r i;simp[ar3,Pq,s,i,v,j,D,r,k1,k2,k3,k4,k5,k6,d,e];exact⟨fun a _=>by rw[Fx.fx (f:=vw) false false 0 _ 15 a],fun a _=>by rw[Fx.fx (f:=xM) false false 0 _ 15 a],fun a x h=>by rcases h with⟨_,rfl⟩|⟨_,rfl⟩<;>rw[Fx.fx (f:=im) false false 0 _ 15 _]⟩
  rw[if_neg i]at j;subst j;simp[ar3,Pq,s,i,v,D,k1,k2,k3,k4,k5,k6,d,e];exact⟨fun a _=>by rw[Fx.fx (f:=vw) false false 0 _ 15 a],fun a _=>by rw[Fx.fx (f:=xM) false false 0 _ 15 a],fun a x h=>by rcases h with⟨_,rfl⟩|⟨_,rfl⟩<;>rw[Fx.fx (f:=im) false false 0 _ 15 _]⟩
 rw[if_neg s]at v;subst v;by_cases i:0≤n.r
 ·rw[if_pos i]at j;rw[j]at r;have r:=r i;simp[ar3,Pq,s,i,j,r,k1,k2,k3,k4,k5,k6,d,e];exact⟨fun a _=>by rw[Fx.fx (f:=vw) false false 0 _ 15 a],fun a _=>by rw[Fx.fx (f:=xM) false false 0 _ 15 a],fun a x h=>by rcases h with⟨_,rfl⟩|⟨_,rfl⟩<;>rw[Fx.fx (f:=im) false false 0 _ 15 _]⟩
 rw[if_neg i]at j;subst j;simp[ar3,Pq,s,i,k1,k2,k3,k4,k5,k6,d,e];exact⟨fun a _=>by rw[Fx.fx (f:=vw) false false 0 _ 15 a],fun a _=>by rw[Fx.fx (f:=xM) false false 0 _ 15 a],fun a x h=>by rcases h with⟨_,rfl⟩|⟨_,rfl⟩<;>rw[Fx.fx (f:=im) false false 0 _ 15 _]⟩
def tI(n:cL):aq:=aH [ap n.op,ap n.l,ap n.r,ap n.tab,.aa false (n.ac.map (.int .i64)),aC n.left,.aa false (n.cond.map EN.a),.aa false (n.keys.map (.int .i64)),.aa false (n.ah.map vw),.aa false (n.items.map xM),.aa false (n.ords.map im),ap n.limit]
instance:Nc tI 12 true:=⟨fun _=>rfl,fun _=>rfl⟩
instance:Fx tI:=⟨fun fl top base σ n y=>by simp[tI]⟩
def lnC(n:cL):List aq:=cellsOf (tI n)
theorem Nt(n:cL)(fl top:Bool)(base:Nat)(σ:aw)(m:Nat):(lnC n).map (fz fl top base σ (m+2))=lnC n:=by
 have h:fz fl top base σ (m+3) (tI n)=tI n:=Fx.fx fl top base σ m n;have e:tI n=aH (lnC n):=rfl;rw[e]at h;simpa using h
theorem F4{n:cL}(h:nz n)(a:Int):(gH a n).a=tI (gH a n):=by
 have b:(gH a n).ah.map lf.a=(gH a n).ah.map vw:=h.ags;have c:(gH a n).items.map Al.a=(gH a n).items.map xM:=h.exs;unfold cL.a tI;rw[b,c];rfl
def uy(ns:List cL)(f k:Nat):List cL:=((ns.drop f).take k).map (gH (-(f:Int)))
theorem HC{a:List cL}{f k:Nat}(h:f+k≤a.length):(uy a f k).length=k:=by
 unfold uy;simp;omega
theorem VN{a:List cL}{f k:Nat}{n:cL}(h:a[f+k]?=some n):uy a f (k+1)=uy a f k++[gH (-(f:Int)) n]:=by
 unfold uy;have b:(a.drop f)[k]?=some n:=by rw[mT];exact h
 rw[eY,b];simp
theorem aih{a:List cL}(d:∀n∈a,nz n)(f k:Nat):(uy a f k).map cL.a=(uy a f k).map tI:=by
 refine aT fun m b=>?_;unfold uy at b;obtain⟨n,c,rfl⟩:=bM.1 b;exact F4 (d n (dR (cJ c))) _
abbrev WE(N L:aq)(e4:aq)(i by' len idx:Int)(b15:Bool)(bp:Bool)(ps:List cL)(k:Nat):List aq:=
 [N,L,aI 0 0 0 0,aI 1 0 0 0,e4,aI 2 0 0 0,ap i,aI 4 0 0 0,ap 0,ap by',am,am,L,ap len,ap idx,aC b15,aC false,.aa bp (ps.map cL.a),ap ps.length,ap k,am,am,am]
abbrev stJ(nb res:aq)(ep:Nat)(o:List cL)(P:aq):aw:=[aB 12 0 [nb],aB 1 0 [res],aB 1 0 [aH [.sl 3 ep 0 o.length]],aB 12 ep (o.map tI),aB 1 0 [P]]
theorem YG(N L q p e:aq)(i len g:Int)(f j:Bool)(a o:List cL)(ep:Nat)(F:∀n∈a,nz n)(I:∀n∈a,ub n)(R:a.length≤60)(Q:o.length≤8000)(r:∀n∈a,n.l<100∧n.r<100)
  (A:aM p=12) (B:∀base σ m,fz false true base σ (m+3) p=p) (C:∀base σ m,fz false true base σ (m+3) e=e) (w:∀base σ m,fz false true base σ (m+3) N=N) (v:∀base σ m,fz false true base σ (m+3) L=L) (x:∀base σ m,fz false true base σ (m+3) q=q) :
  bU code 5 [10,20] Cc ⟨WE N L q i o.length len g f j a 0,stJ p e ep o (aH [.aa j (a.map cL.a)])⟩ =
   some (.ext 2,⟨(WE N L q i o.length len g f j a a.length).set 20 (aC false),stJ p e (ep+a.length) (o++a.map (gH o.length)) (aH [.aa j (a.map cL.a)])⟩):=by
 have loop:=cX (base:=5) (clr:=[10,20]) (b:=Cc)
  (fun k=>⟨WE N L q i o.length len g f j a k,stJ p e (ep+k) (o++(a.take k).map (gH o.length)) (aH [.aa j (a.map cL.a)])⟩) a.length
  (.ext 2,⟨(WE N L q i o.length len g f j a a.length).set 20 (aC false),stJ p e (ep+a.length) (o++a.map (gH o.length)) (aH [.aa j (a.map cL.a)])⟩)
  (fun k u=>by
   have E:a[k]?=some a[k]:=au u;have y:∀h:k<a.length,a[k]'h=a[k]'u:=fun _=>rfl;have d:=aJ u;have l:=HM a[k] (F _ d) (I _ d) (o.length:Int) (fun h=>by have:=r _ d;omega) (fun h=>by have:=r _ d;omega);rw[F4 (F _ d)]at l;have K:(a.take (k+1)).map (gH (o.length:Int))=(a.take k).map (gH (o.length:Int))++[gH (o.length:Int) a[k]]:=by rw[eY,E,df];rfl
   have s:((a.take k).map (gH (o.length:Int))).length=k:=by simp;omega
   generalize J:(a.take k).map (gH (o.length:Int))=cs at *;generalize a[k]=n at *;rw[K];have n3:aM n.a=12∧isAgg n.a=true:=⟨rfl,rfl⟩;have M:∀base σ m,fz true false base σ (m+3) n.a=n.a:=fun base σ m=>Ft.ft true false base σ m n rfl;have O:∀base σ m,fz false true base σ (m+3) n.a=n.a:=fun base σ m=>Ft.ft false true base σ m n rfl;have z:o.length+(k+1)≤bC:=by unfold bC;omega
   have P:IntKind.i64.wrap ((k:Int)+1)=(k:Int)+1:=qL (by omega) (by omega);have D:List.take (o.length+k) (o.map tI++cs.map tI)=o.map tI++cs.map tI:=ay (by simp[s]);generalize gH (o.length:Int) n=c at *;have t:tI c=aH (lnC c):=rfl;have G:(lnC c).length=12:=rfl;have H:=Nt c;rw[t]at l;simp[WE,stJ,Cc,u,E,y,M,O,n3,P,l,append,z,D,s,t,G,H,bR,bA,B,C,w,v,x,A,cr,dH,dB])
  (by
   simp[Cc])
 simpa using loop
structure yg where
 b:Bool
 l:List cL
def yg.a(t:yg):aq:=aH [.aa t.b (t.l.map cL.a)]
instance:Nc yg.a 1 true:=⟨fun _=>rfl,fun _=>rfl⟩
instance:Ft yg.a:=⟨fun fl top base σ n y h=>by cases fl<;>cases top<;>simp_all[yg.a]⟩
def eZ(n:cL)(l r:Int):cL:={ n with l:=l,r:=r }
def oZ(k:Nat)(t:yg)(s:List cL×Int×Int):(List cL×Int×Int)⊕Unit:=
 if (lookF t.l).isSome then .inl (s.1++t.l.map (gH s.1.length),if k=0 then (s.1.length:Int)+t.l.length-1 else s.2.1,if k=0 then s.2.2 else (s.1.length:Int)+t.l.length-1) else .inr ()
abbrev nLR(n:cL)(l r:Int):aq:=aH [ap n.op,ap l,ap r,ap n.tab,.aa n.bk (n.ac.map (.int .i64)),aC n.left,.aa n.bc (n.cond.map EN.a),.aa n.by' (n.keys.map (.int .i64)),.aa n.bg (n.ah.map lf.a),.aa n.bi (n.items.map Al.a),.aa n.bo (n.ords.map im),ap n.limit]
abbrev AT(n:cL)(bl:Bool)(ts:List yg)(k:Nat):List aq:=
 [n.a,.aa bl (ts.map yg.a),aI 0 0 0 0,aI 1 0 0 0,aq.any,aI 2 0 0 0,am,am,am,am,am,am,.aa bl (ts.map yg.a),ap ts.length,ap k,am,am,am,am,am,am,am,am]
abbrev JB(n:cL)(s:List cL×Int×Int):aw:=[aB 12 0 [nLR n s.2.1 s.2.2],aB 1 0 [aH [.ai]],aB 1 0 [aH [.sl 3 s.1.length 0 s.1.length]],aB 12 s.1.length (s.1.map tI)]
structure TOk (t:yg):Prop where
 fl:∀n∈t.l,nz n
 fit:∀n∈t.l,ub n
 lr:(lookF t.l).isSome→∀n∈t.l,n.l<100∧n.r<100
theorem IZ{a:List cL}(h:(lookF a).isSome):1≤a.length∧a.length≤60:=by
 unfold lookF at h;split at h
 ·cases h
 omega
theorem Rc(n:cL)(j:Bool)(a:List yg)(C:a.length≤100)(k:Nat)(t:yg)(s:List cL×Int×Int)(v:k<a.length)(u:a[k]?=some t)(p:TOk t)(z:s.1.length≤k*60) :
  match oZ k t s with
  |.inl s'=>dg 4 [4,6,7,8,9,10,15,16,17,18,19,20,21] pQ (run code pQ ⟨AT n j a k,JB n s⟩)=bU code 4 [4,6,7,8,9,10,15,16,17,18,19,20,21] pQ ⟨AT n j a (k+1),JB n s'⟩∧s'.1.length≤(k+1)*60
  |.inr _=>∃o,dg 4 [4,6,7,8,9,10,15,16,17,18,19,20,21] pQ (run code pQ ⟨AT n j a k,JB n s⟩)=some o∧∃q,o=(.ret,q)∧q.st[1]?=some (.arr 1 0 [.agg [.ai]])∧q.env[3]?=some (.ptr 1 0 0 0)∧q.env[4]?=some (.int .i64 230):=by
 obtain⟨c,b⟩:=J0 t.b t.l p.fit;have e:∀h:k<a.length,a[k]'h=t:=fun h=>(ak.1 u).2;have n3:aM t.a=1∧isAgg t.a=true:=⟨rfl,rfl⟩;obtain⟨o,l,r⟩:=s;simp only at z ⊢;unfold oZ;cases hl:(lookF t.l).isSome with
 |false=>
  rw[hl]at b;simp only[bq,cH]at b ⊢;exact⟨_,by simp[pQ,v,u,e,n3,b,yg.a];rfl,_,rfl,rfl,rfl,rfl⟩
 |true=>
  rw[hl]at b;simp only[cz]at b ⊢;obtain⟨D,A⟩:=IZ hl;have f:=YG n.a (.aa j (a.map yg.a)) am (nLR n l r) (aH [.ai]) k a.length k true t.b t.l o o.length p.fl p.fit A (by omega) (p.lr hl) rfl (by simp) (by simp) (fun base σ m=>Ft.ft false true base σ m n rfl) (by simp) (by simp);simp only[WE,stJ,List.set,bd]at f;have i:o.length≤bC:=by unfold bC;omega
  have B:IntKind.i64.wrap ((k:Int)+1)=(k:Int)+1:=qL (by omega) (by omega);have y:IntKind.i64.wrap ((o.length:Int)+(t.l.length:Int)-1)=(o.length:Int)+(t.l.length:Int)-1:=qL (by omega) (by omega);have g:∀base σ m,fz false true base σ (m+3) n.a=n.a:=fun base σ m=>Ft.ft false true base σ m n rfl;have d:(t.l.map (gH (o.length:Int))).length=t.l.length:=by simp
  generalize t.l.map (gH (o.length:Int))=cs at *;have x:IntKind.i64.wrap 1=1:=rfl;refine⟨?_,by simp[d];omega⟩;by_cases w:k=0
  ·subst w;simp at f;simp[AT,JB,pQ,v,u,e,n3,b,yg.a,f,i,x,y,g,d,bR,bA]
  have k1:((k:Int)==0)=false:=by simp;omega
  simp[w]at f;simp[AT,JB,pQ,v,u,e,n3,b,yg.a,f,i,x,B,y,g,d,w,k1,bR,bA]
def iw(n:cL)(ts:List yg):Option (List cL):=
 match dA oZ ts 0 ([],-1,-1) with
 |.inl s=>if (lookF (s.1++[gH 0 (eZ n s.2.1 s.2.2)])).isSome then some (s.1++[gH 0 (eZ n s.2.1 s.2.2)]) else none
 |.inr _=>none
structure mS (n:cL):Prop where
 fl:nz n
 fit:ub n
 z:n.a=tI n
theorem tR{n:cL}(h:nz n)(a:ub n)(b:Int):mS (gH b n):=⟨⟨h.ag,h.ex⟩,⟨a.ac,a.cond,a.keys,a.ah,a.args,a.items,a.exprs,a.ords⟩,F4 h b⟩
structure abl (k:Nat) (s:List cL×Int×Int):Prop where
 len:s.1.length≤k*60
 own:∀m∈s.1,mS m
 l:-1≤s.2.1∧s.2.1≤k*60
 r:-1≤s.2.2∧s.2.2≤k*60
theorem NG{a:List cL}(h:∀m∈a,mS m):a.map cL.a=a.map tI:=aT fun m b=>(h m b).z
theorem KA{k:Nat}{t:yg}{s s':List cL×Int×Int}(c:TOk t)(b:abl k s)(h:oZ k t s=.inl s'):abl (k+1) s':=by
 unfold oZ at h;split at h
 ·rename_i e;obtain⟨f,g⟩:=IZ e;cases h;have:=b.len;have:=b.l;have:=b.r;refine⟨by simp;omega,fun m a=>?_,?_,?_⟩
  ·rcases aY.1 a with a|a
   ·exact b.own m a
   obtain⟨n,d,rfl⟩:=bM.1 a;exact tR (c.fl n d) (c.fit n d) _
  all_goals
   simp only;split<;>omega
 cases h
theorem Rp(n:cL)(F:nz n)(d:ub n)(E:Bool)(g:List yg)(T:g.length≤100)(Q:∀t∈g,TOk t) :
  bw I.qdv [n.a,.aa E (g.map yg.a)]=some (fb [aH [.aa false (((iw n g).getD []).map cL.a)],ap (if (iw n g).isSome then 0 else 230)]) ∧
  ∀w,iw n g=some w→∀m∈w,mS m:=by
 have key:=jA (base:=4) (clr:=[4,6,7,8,9,10,15,16,17,18,19,20,21]) (b:=pQ) g (fun k s=>⟨AT n E g k,JB n s⟩) abl oZ
  (fun s=>(.ext 0,⟨(AT n E g g.length).set 15 (aC false),JB n s⟩)) (fun _ o=>∃q,o=(.ret,q)∧q.st[1]?=some (aB 1 0 [aH [.ai]])∧q.env[3]?=some (aI 1 0 0 0)∧q.env[4]?=some (ap 230))
  (fun k t s S P p=>by
   have y:=Q t (aN P);have h:=Rc n E g T k t s S P y p.len;have hi:=fun s'=>KA (s':=s') y p;revert h hi;cases oZ k t s with
   |inl s'=>exact fun h hi=>⟨h.1,hi s' rfl⟩
   |inr r=>exact fun h _=>h)
  (fun s _=>by simp[AT,JB,pQ]) ([],-1,-1) ⟨by simp,fun m i=>by simp at i,by simp,by simp⟩
 unfold iw;revert key;cases dA oZ g 0 ([],-1,-1) with
 |inr u=>
  rintro⟨o,key,q,rfl,U,V,W⟩;refine⟨?_,fun w h=>by cases h⟩;simp only[AT,JB,bd,bm,bD]at key;rw[aS afj rfl];have v:n.a=nLR n n.l n.r:=rfl;simp only[v,nLR]at key ⊢;simp[asb,Vd,key,U,V,W]
 |inl s=>
  rintro⟨p,key⟩;obtain⟨o,l,r⟩:=s;have H:=tR (n:=eZ n l r) ⟨F.ag,F.ex⟩ ⟨d.ac,d.cond,d.keys,d.ah,d.args,d.items,d.exprs,d.ords⟩ 0;have f:=HM (eZ n l r) ⟨F.ag,F.ex⟩ ⟨d.ac,d.cond,d.keys,d.ah,d.args,d.items,d.exprs,d.ords⟩ 0 (fun h=>by have:=p.l;simp[eZ]at *;omega) (fun h=>by have:=p.r;simp[eZ]at *;omega);rw[H.z]at f;have J:(eZ n l r).a=nLR n l r:=rfl;have O:=p.own;have A:=p.len;simp only at O A ⊢;have G:∀m∈o++[gH 0 (eZ n l r)],mS m:=fun m i=>by
   rcases aY.1 i with i|i
   ·exact O m i
   rw[aP.1 i];exact H
  obtain⟨X,e⟩:=J0 true (o++[gH 0 (eZ n l r)]) fun m i=>(G m i).fit;rw[NG G]at e;have R:=H.z;generalize gH 0 (eZ n l r)=c at *;simp only[AT,JB,bd,bm,bD,List.set]at key;have v:n.a=nLR n n.l n.r:=rfl;rw[J]at f;simp only[v,nLR]at key f ⊢;have z:o.length+1≤bC:=by unfold bC;omega
  have C:List.take o.length (o.map tI)=o.map tI:=ay (by simp);have L:tI c=aH (lnC c):=rfl;have M:(lnC c).length=12:=rfl;have N:=Nt c;have K:(o++[c]).map cL.a=(o++[c]).map tI:=NG G;have x:(o++[c]).length=o.length+1:=by simp
  have D:o.map tI++[aq.agg (lnC c)]=(o++[c]).map tI:=by rw[df];rfl
  rw[L]at f;generalize o++[c]=w at *;have B:∀fl top base σ m a,fz fl top base σ (m+3) (tI a)=tI a:=fun fl top base σ m a=>Fx.fx fl top base σ m a;have j:List.take (o.length+1) (w.map tI)=w.map tI:=ay (by simp[x]);rw[aS afj rfl];cases hl:(lookF w).isSome with
  |true=>
   rw[hl]at e;refine⟨?_,fun w h=>by cases h;exact G⟩;simp at e;simp[asb,Vd,key,f,e,append,z,C,j,B,D,x,M,N,K]
  |false=>
   rw[hl]at e;refine⟨?_,fun w h=>by cases h⟩;simp at e;simp[asb,Vd,key,f,e,append,z,C,j,B,D,x,M,N]
def Pc(c:Int)(o:Option (List cL)):aq:=fb [aH [.aa false ((o.getD []).map cL.a)],ap (if o.isSome then 0 else c)]
theorem ahS(n:cL)(c:nz n)(d:ub n):bw I.qcz [n.a]=some (Pc 230 (iw n [])):=by
 have h:=(Rp n c d false [] (by simp) (fun t h=>by simp at h)).1;have b:∀base σ m,fz true false base σ (m+3) n.a=n.a:=fun base σ m=>Ft.ft true false base σ m n rfl;have n3:aM n.a=12∧isAgg n.a=true:=⟨rfl,rfl⟩;rw[aS amp rfl];simp at h;unfold Pc;generalize iw n []=o at *;have e:∀a∈o.getD [],True:=fun _ _=>trivial;simp[atH,aff,b,n3,h]
theorem aof(n:cL)(c:nz n)(d:ub n)(t:yg)(e:TOk t):bw I.qda [n.a,t.a]=some (Pc 230 (iw n [t])):=by
 have h:=(Rp n c d true [t] (by simp) (fun g h=>by rw[aP.1 h];exact e)).1;have a:∀base σ m,fz true false base σ (m+3) n.a=n.a:=fun base σ m=>Ft.ft true false base σ m n rfl;have n3:aM n.a=12∧isAgg n.a=true:=⟨rfl,rfl⟩;have b:∀base σ m,fz true false base σ (m+3) t.a=t.a:=fun base σ m=>Ft.ft true false base σ m t rfl;have f:aM t.a=1∧isAgg t.a=true:=⟨rfl,rfl⟩;rw[aS aou rfl];simp at h;unfold Pc;generalize iw n [t]=o at *;simp[aut,afb,a,n3,b,f,h]
theorem aos(n:cL)(c:nz n)(d:ub n)(t u:yg)(e:TOk t)(f:TOk u):bw I.qde [n.a,t.a,u.a]=some (Pc 230 (iw n [t,u])):=by
 have h:=(Rp n c d true [t,u] (by simp) (fun i h=>by
  rcases dW.1 h with rfl|h
  ·exact e
  rw[aP.1 h];exact f)).1
 have a:∀base σ m,fz true false base σ (m+3) n.a=n.a:=fun base σ m=>Ft.ft true false base σ m n rfl;have n3:aM n.a=12∧isAgg n.a=true:=⟨rfl,rfl⟩;have b:∀(t:yg) base σ m,fz true false base σ (m+3) t.a=t.a:=fun t base σ m=>Ft.ft true false base σ m t rfl;have g:∀t:yg,aM t.a=1∧isAgg t.a=true:=fun t=>⟨rfl,rfl⟩;rw[aS an5 rfl];simp at h;unfold Pc;generalize iw n [t,u]=o at *;simp[atG,aeT,a,n3,b,g,h]
end Go.AM
