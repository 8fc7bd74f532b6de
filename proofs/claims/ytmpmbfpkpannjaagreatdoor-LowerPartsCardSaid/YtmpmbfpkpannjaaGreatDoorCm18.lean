/- Part of the proof. -/
import Derived.Test.YtmpmbfpkpannjaaGreatDoorCm17
set_option linter.unusedVariables false
set_option linter.unusedSimpArgs false
set_option linter.unusedSectionVars false
namespace Go.AM
open P
set_option maxHeartbeats 64000000
set_option maxRecDepth 40000
theorem Nu{f:Nat}{g:br}(h:code.fns f=.nilfn g)(a:g.mode.isPure=true){x:aq}{σ:aw}{xs:List aq}(j:snap σ x=.aa true xs)(i:jK σ x=xs.isEmpty) :
  cD code f [x] σ=(bB f [.aa true xs]).map (·,σ):=by
 have k:∀b,jK [] (.aa b xs)=xs.isEmpty:=fun b=>by cases xs<;>simp[jK,rd]
 have e:=tS h a true xs σ;rw[←e,kI good h,kI good h,i];have c:jK σ (.aa true xs)=xs.isEmpty:=by cases xs<;>simp[jK,rd]
 rw[c];have d:snap σ (.aa true xs)=.aa true xs:=by simp
 cases xs.isEmpty with
 |true=>rfl
 |false=>
  simp only[bq,cH];rw[vB a [x] σ,vB a [.aa true xs] σ];simp only[aV,bm,j,d]
def sk{β:Type}(Gr:EN→List β→β×Int)(_:Nat)(n:EN)(st:List β):List β⊕Int:=
 if (Gr n (st.drop (st.length-(dv n.tag).toNat))).2=0 then .inl (st.take (st.length-(dv n.tag).toNat)++[(Gr n (st.drop (st.length-(dv n.tag).toNat))).1])
 else .inr (Gr n (st.drop (st.length-(dv n.tag).toNat))).2
def CN{β:Type}(z:β)(Gr:EN→List β→β×Int)(e:List EN):β×Int:=
 match dt (sk Gr) e 0 [] with
 |.inl st=>(st.headD z,0)
 |.inr no=>(z,no)
theorem tK:∀(l:List EN) (n:EN) (i:Nat) (a o:List Nat),iw (l++[n]) i a o=(iw l i a o).bind fun q=>sW (i+l.length) n q.1 q.2
 |[],n,i,a,o=>by simp[iw];cases sW i n a o<;>rfl
 |m::l,n,i,a,o=>by
  simp only[bY,iw,bw];cases sW i m a o with
  |none=>rfl
  |some q=>
   simp only[cF];rw[tK l n (i+1) q.1 q.2];simp only[dB,im 1]
theorem Yj{e:List EN}(b:wk e=true){k:Nat}(d:k≤e.length):∃a o,iw (e.take k) 0 [] []=some (a,o):=by
 cases h:iw (e.take k) 0 [] [] with
 |some q=>exact⟨q.1,q.2,rfl⟩
 |none=>
  have key:∀m,k≤m→m≤e.length→iw (e.take m) 0 [] []=none:=by
   intro m c;induction c with
   |refl=>intro _;exact h
   |@step m c f=>
    intro g;rw[dr (by omega),tK,f (by omega)];rfl
  have:=key e.length d (aF _);rw[dw]at this;unfold wk at b;rw[this]at b;cases b
theorem NX{e:List EN}(m:wk e=true){k:Nat}{n:EN}(l:e[k]?=some n){a o:List Nat}(h:iw (e.take k) 0 [] []=some (a,o)) :
  ∃c o',iw (e.take (k+1)) 0 [] []=some (c,o')∧sW k n a o=some (c,o')∧0≤dv n.tag∧dv n.tag≤o.length∧iv n=true∧o'.length=o.length-(dv n.tag).toNat+1:=by
 obtain⟨g,j⟩:=ak.1 l;obtain⟨c,o',f⟩:=Yj m (k:=k+1) (by omega);have b:=f;rw[dr g,tK,h,j]at b;simp only[cF,de,eK (Nat.le_of_lt g),cE]at b;refine⟨c,o',f,b,?_⟩;unfold sW at b;split at b
 ·cases b
 rename_i i;have d:0≤dv n.tag∧dv n.tag≤o.length∧iv n=true:=by
  refine⟨by omega,by omega,?_⟩;cases hq:iv n
  ·exact absurd (.inr (.inr hq)) i
  rfl
 refine⟨d.1,d.2.1,d.2.2,?_⟩;have hd:(o.drop (o.length-(dv n.tag).toNat)).length=(dv n.tag).toNat:=by rw[jp];omega
 have:=wD n.tag;rcases hL:o.drop (o.length-(dv n.tag).toNat) with _|⟨p,_|⟨q,_|⟨r,t⟩⟩⟩<;>rw[hL]at b hd<;>simp only[bE,bw]at b hd<;>(try split at b)<;>(try cases b)<;>simp<;>omega
theorem adl{e:List EN}(b:wk e=true){a o:List Nat}(h:iw e 0 [] []=some (a,o)):o.length=1:=by
 unfold wk at b;rw[h]at b;simp at b;exact b.1
theorem adW{f:Int→aq}(j:f=(aq.int .i64))(st:List Int)(k ep:Nat)(l:k≤st.length)(o:st.length≤bD)(b c:Obj) :
  cD code I.qcd [ap k,aI 1 0 0 0] [b,aB 1 0 [.sl 2 ep 0 st.length],aB 1 ep (st.map f),c] =
   some (.sl 4 0 0 k,[b,aB 1 0 [.sl 2 ep 0 (st.length-k)],aB 1 ep (st.map f),c,aB 1 0 ((st.drop (st.length-k)).map f)]):=by
 subst j;rw[cz alH rfl];have p:st.length≤68719476736:=o;have r:=pT (n:=(st.length:Int)-(k:Int)) (by omega) (by omega);have s:((st.length:Int)-(k:Int)).toNat=st.length-k:=by omega
 have t:(0:Int)≤(st.length:Int)-(k:Int):=by omega
 have h:st.length-k+k=st.length:=by omega
 have g:st.length-(st.length-k)=k:=by omega
 have hd:(st.drop (st.length-k)).length=k:=by rw[jp];omega
 have d:=AK (enc:=(aq.int .i64)) true (st.drop (st.length-k)) (by rw[hd];omega);have q:snap [b,aB 1 0 [.sl 2 ep 0 st.length],aB 1 ep (st.map (aq.int .i64)),c] (.sl 2 ep (st.length-k) k)=.aa true ((st.drop (st.length-k)).map (aq.int .i64)):=by
  have e:(st.drop (st.length-k)).take k=st.drop (st.length-k):=ay (by omega);simp[h,←List.map_drop,e,←List.map_take]
 have i:jK [b,aB 1 0 [.sl 2 ep 0 st.length],aB 1 ep (st.map (aq.int .i64)),c] (.sl 2 ep (st.length-k) k)=((st.drop (st.length-k)).map (aq.int .i64)).isEmpty:=by
  have e:(st.drop (st.length-k)).take k=st.drop (st.length-k):=ay (by omega);simp only[jK,rd,sliceAt];simp[h,←List.map_drop,e,←List.map_take];cases st.drop (st.length-k)<;>simp
 have a:=Nu aax rfl q i;rw[d]at a;have m:(st.length:Int)-(k:Int)≤st.length:=by omega
 simp[atN,agE,r,s,t,g,a,hd,l]
def zQ(Gr:EN→List Int→Int×Int)(k:Nat)(n:EN)(s:Nat×List Int):Nat×List Int⊕Int:=match sk Gr k n s.2 with
 |.inl st=>.inl (s.1+1,st)
 |.inr r=>.inr r
theorem yK(Gr:EN→List Int→Int×Int):∀(l:List EN) (k ep:Nat) (st:List Int),dt (zQ Gr) l k (ep,st)=match dt (sk Gr) l k st with
  |.inl a=>.inl (ep+l.length,a)
  |.inr r=>.inr r
 |[],k,ep,st=>rfl
 |n::l,k,ep,st=>by
  simp only[dt,zQ];cases sk Gr k n st with
  |inl a=>
   simp only;rw[yK Gr l (k+1) (ep+1) a];cases dt (sk Gr) l (k+1) a<;>simp[dB,im 1]
  |inr r=>rfl
theorem XC(b:Bool)(e:List EN)(hn:e.length≤bD)(U:wk e=true)(g:aq)(T:∀fl top base σ,(fl ||top)=true→fz fl top base σ 20 g=g)(Gr:EN→List Int→Int×Int)
  (Iv:Int→Prop) (L:∀n∈e,∀l:List Int,l.length=(dv n.tag).toNat→iv n=true→(∀y∈l,Iv y)→(Gr n l).2=0→Iv (Gr n l).1)
  (M:∀n∈e,∀l:List Int,l.length=(dv n.tag).toNat→iv n=true→(∀y∈l,Iv y)→∀σ x,snap σ x=.aa true (l.map (aq.int .i64))→jh code g [n.a,x] σ=some (fb [(aq.int .i64) (Gr n l).1,ap (Gr n l).2],σ)) :
  bB I.qcc [aH [.aa b (e.map EN.a)],g]=some (fb [(aq.int .i64) (CN 0 Gr e).1,ap (CN 0 Gr e).2]):=by
 rw[aR amp rfl];have u:=T true false 0 [] rfl;have h:=iL (base:=3) (clr:=[9,10,11,15,16]) (b:=Cm) e
  (fun k (s:Nat×List Int)=>⟨[aH [.aa b (e.map EN.a)],g,aI 0 0 0 0,ap 0,ap 0,aI 1 0 0 0,ap 0,.fn I.qcd [] [aI 1 0 0 0],ap 0,am,am,am,.aa b (e.map EN.a),ap e.length,ap k,am,am,am],[aB 1 0 [aH [.aa b (e.map EN.a)]],aB 1 0 [.sl 2 s.1 0 s.2.length],aB 1 s.1 (s.2.map (aq.int .i64))]⟩)
  (fun k s=>s.2.length≤k∧(∀y∈s.2,Iv y)∧∃a o,iw (e.take k) 0 [] []=some (a,o)∧s.2.length=o.length)
  (zQ Gr)
  (fun s=>(.ext 0,⟨[aH [.aa b (e.map EN.a)],g,aI 0 0 0 0,ap 0,ap 0,aI 1 0 0 0,ap 0,.fn I.qcd [] [aI 1 0 0 0],ap 0,am,am,am,.aa b (e.map EN.a),ap e.length,ap e.length,aC false,am,am],[aB 1 0 [aH [.aa b (e.map EN.a)]],aB 1 0 [.sl 2 s.1 0 s.2.length],aB 1 s.1 (s.2.map (aq.int .i64))]⟩))
  (fun r o=>r≠0∧∃k X G A τ,o=(.ext 0,⟨[aH [.aa b (e.map EN.a)],g,aI 0 0 0 0,ap 0,ap 0,aI 1 0 0 0,ap 0,.fn I.qcd [] [aI 1 0 0 0],ap r,X,G,ap r,.aa b (e.map EN.a),ap e.length,k,aC true,aC true,am],aB 1 0 [aH [.aa b (e.map EN.a)]]::A::τ⟩))
  (fun k n s hk E hi=>by
   obtain⟨ep,st⟩:=s;obtain⟨P,v,a,o,J,z⟩:=hi;simp only at P z;obtain⟨a',o',N,hs,K,H,f,h4⟩:=NX U E J;have S:((k:Int)<(e.length:Int)):=by omega
   have O:(dv n.tag).toNat≤st.length:=by omega
   have Q:((dv n.tag).toNat:Int)=dv n.tag:=by omega
   have hd:(st.drop (st.length-(dv n.tag).toNat)).length=(dv n.tag).toNat:=by rw[jp];omega
   have V:=Bf n.tag;have d:=fun Y Z=>adW rfl st (dv n.tag).toNat ep O (by omega) Y Z;rw[Q]at d;have j:∀y∈st.drop (st.length-(dv n.tag).toNat),Iv y:=fun y p=>v y (dR p);have t:=M n (aN E) (st.drop (st.length-(dv n.tag).toNat)) hd f j;have i:=L n (aN E) (st.drop (st.length-(dv n.tag).toNat)) hd f j;have w:st.length-(dv n.tag).toNat+1≤bD:=by omega
   have D:(st.take (st.length-(dv n.tag).toNat)).length=st.length-(dv n.tag).toNat:=by rw[de];omega
   have c:=t [aB 1 0 [aH [.aa b (e.map EN.a)]],aB 1 0 [.sl 2 ep 0 (st.length-(dv n.tag).toNat)],aB 1 ep (st.map (aq.int .i64)),aB 8 0 [n.a],aB 1 0 ((st.drop (st.length-(dv n.tag).toNat)).map (aq.int .i64))] (.sl 4 0 0 (dv n.tag).toNat) (by
    have:=ay (Nat.le_of_eq hd);simp[←List.map_drop,hd,←List.map_take,this])
   unfold zQ sk;rcases hr:Gr n (st.drop (st.length-(dv n.tag).toNat)) with⟨x,no⟩;rw[hr]at c i;simp only[wB]at c;simp only;have W:∀x,aM ((aq.int .i64) x)=1∧isAgg ((aq.int .i64) x)=false:=fun x=>⟨rfl,rfl⟩;have F:∀fl top base σ n,fz fl top base σ (n+3) ((aq.int .i64) x)=(aq.int .i64) x:=fun fl top base σ n=>Fx.fx fl top base σ n x;have B:∀fl top base σ R,fz fl top base σ (R+3) n.a=n.a:=fun fl top base σ R=>Fx.fx fl top base σ R n;have C:aM n.a=8∧isAgg n.a=true:=⟨rfl,rfl⟩;have m:(cellsOf n.a)[0]?=some (ap n.tag):=rfl;by_cases q:no=0
   ·subst q;refine⟨?_,by simp;omega,fun y p=>(ba.1 p).elim (fun h=>v y (cL h)) (fun h=>by rw[aP.1 h];exact i rfl),a',o',N,by simp[D,h4,z]⟩;simp[Cm,S,E,V,d,c,m,W,F,B,C,append,w,D,cU hk hn,bN,bA,T]
   rw[if_neg q];exact⟨_,by simp[Cm,S,E,V,d,c,m,W,F,B,C,CW q];and_intros<;>rfl,q,_,_,_,_,_,rfl⟩)
  (fun s _=>by simp[Cm]) (0,[]) ⟨aF _,by simp,[],[],by simp[iw],rfl⟩
 rw[yK]at h;unfold CN;cases J:dt (sk Gr) e 0 [] with
 |inl st=>
  rw[J]at h;obtain⟨⟨_,_,a,o,K,H⟩,f⟩:=h;simp only at H;rw[dw]at K;rw[adl U K]at H
  match st,H with
  |[x],_=>
   simp at f;simp[asP,XV,u,f]
 |inr r=>
  rw[J]at h;obtain⟨_,f,q,k,X,G,A,τ,rfl⟩:=h;simp at f;simp[asP,XV,u,f,CW q]
end Go.AM
namespace Go.AM
open P
set_option maxHeartbeats 64000000
set_option maxRecDepth 40000
attribute [local simp] aG bj
def Bl(k:Int):Bool:=decide (k<0) ||decide (3<k)
def eG(e:List EN)(ac:List Int):Int×Int:=
 if wk e=false then (0,200) else if ac.any Bl then (0,2) else if (nQ e).any (fun c=>decide ((ac.length:Int)≤c)) then (0,2) else CN 0 (uE ac) e
theorem Kt{e:List EN}{n:EN}(h:n∈e)(a:n.tag=2):n.col∈nQ e:=by
 unfold nQ;rw[Cr,EG];exact lj.2 ⟨n,h,by rw[if_pos a];simp⟩
theorem WC{e:List EN}{c:Int}(h:c∈nQ e):∃n∈e,n.tag=2∧n.col=c:=by
 unfold nQ at h;rw[Cr,EG]at h;obtain⟨n,b,a⟩:=lj.1 h;split at a
 ·rename_i d;exact⟨n,b,d,(aP.1 a).symm⟩
 cases a
theorem Jh{n:EN}(h:iv n=true)(a:n.tag=2):0≤n.col∧n.col<16:=by
 unfold iv at h;rw[if_neg (by omega),if_pos a]at h;simp at h;exact⟨h.1.2,h.2⟩
theorem ZW(e:List EN):(nQ e).length≤e.length:=by
 unfold nQ;have a:=yB (rY (sU e));have b:=Ar (sU e);have c:=Px e;omega
theorem pK(b:Bool)(e:List EN)(a:Bool)(ac:List Int)(B:e.length≤bD)(K:ac.length≤bD) :
  bB I.qbq [aH [.aa b (e.map EN.a)],.aa a (cV ac)]=some (fb [ap (eG e ac).1,ap (eG e ac).2]):=by
 rw[aR am5 rfl];have p:=fun b=>zf b e B;simp only[Ki,AC]at p;unfold eG;cases ho:wk e with
 |false=>
  rw[ho]at p;simp[ar8,NK,p]
 |true=>
  rw[ho]at p;have f:=om (base:=2) (clr:=[4,5,7,13,14]) (b:=KR) ac
   (fun k=>⟨[aH [.aa b (e.map EN.a)],.aa a (cV ac),aI 0 0 0 0,aI 1 0 0 0,am,am,ap 0,am,am,aC false,.aa a (cV ac),ap ac.length,ap k,am,am,am,am,am,am,am],[aB 1 0 [aH [.aa b (e.map EN.a)]],aB 1 0 [.aa a (cV ac)]]⟩) Bl
   (.ext 0,⟨[aH [.aa b (e.map EN.a)],.aa a (cV ac),aI 0 0 0 0,aI 1 0 0 0,am,am,ap 0,am,am,aC false,.aa a (cV ac),ap ac.length,ap ac.length,aC false,am,am,am,am,am,am],[aB 1 0 [aH [.aa b (e.map EN.a)]],aB 1 0 [.aa a (cV ac)]]⟩)
   (fun o=>∃s,o=(.ret,s)∧wG .pure [.env 4,.env 5] (some (.ret,s))=some (fb [ap 0,ap 2]))
   (fun k y d m i=>by
    have j:((k:Int)<(ac.length:Int)):=by omega
    unfold Bl at i;simp at i;have t:¬(y<0):=by omega
    have v:¬(3<y):=by omega
    simp[KR,j,m,t,v,cU d K,cO])
   (fun k y d m i=>by
    have j:((k:Int)<(ac.length:Int)):=by omega
    unfold Bl at i;simp at i;by_cases t:y<0
    ·exact⟨_,by simp[KR,j,m,t];rfl,_,rfl,by simp⟩
    have v:3<y:=by omega
    exact⟨_,by simp[KR,j,m,t,v];rfl,_,rfl,by simp⟩)
   (by simp[KR])
  rcases f with⟨w,f⟩|⟨w,o,f,s,rfl,g⟩
  ·rw[w];have E:=fun b=>VN b e B ho;have J:=ZW e;have g:=om (base:=2) (clr:=[4,5,8,18,19]) (b:=Cd) (nQ e)
    (fun k=>⟨[aH [.aa b (e.map EN.a)],.aa a (cV ac),aI 0 0 0 0,aI 1 0 0 0,am,am,ap 0,am,am,aC false,.aa a (cV ac),ap ac.length,ap ac.length,aC false,am,.aa false (cV (nQ e)),ap (nQ e).length,ap k,am,am],[aB 1 0 [aH [.aa b (e.map EN.a)]],aB 1 0 [.aa a (cV ac)]]⟩)
    (fun c=>decide ((ac.length:Int)≤c))
    (.ext 2,⟨[aH [.aa b (e.map EN.a)],.aa a (cV ac),aI 0 0 0 0,aI 1 0 0 0,am,am,ap 0,am,am,aC false,.aa a (cV ac),ap ac.length,ap ac.length,aC false,am,.aa false (cV (nQ e)),ap (nQ e).length,ap (nQ e).length,aC false,am],[aB 1 0 [aH [.aa b (e.map EN.a)]],aB 1 0 [.aa a (cV ac)]]⟩)
    (fun o=>∃s,o=(.ret,s)∧wG .pure [.env 4,.env 5] (some (.ret,s))=some (fb [ap 0,ap 2]))
    (fun k y d m i=>by
     have j:((k:Int)<((nQ e).length:Int)):=by omega
     have r:¬((ac.length:Int)≤y):=by simpa using i
     simp[Cd,j,m,r,cU d (by omega),cO])
    (fun k y d m i=>by
     have j:((k:Int)<((nQ e).length:Int)):=by omega
     have r:((ac.length:Int)≤y):=by simpa using i
     exact⟨_,by simp[Cd,j,m,r];rfl,_,rfl,by simp⟩)
    (by simp[Cd])
   simp at f;rcases g with⟨u,g⟩|⟨u,o,g,s,rfl,H⟩
   ·rw[u]
    have q:=fun b=>XC b e B ho (.fn I.qbr [] [.cptr true (.aa a (cV ac)) 0]) (fun fl top base σ h=>by cases fl<;>cases top<;>simp at h ⊢) (uE ac) (fun _=>True) (fun _ _ _ _ _ _ _=>trivial)
     (fun n D l L z _ σ x G=>by
      have:=wD n.tag
      have A:=RR n true l a ac (by unfold bD;omega) (fun F=>by
       obtain⟨f,g⟩:=Jh z F;have:=cS.1 u n.col (Kt D F);simp at this;exact⟨f,by omega⟩)
      have C:fz true false 0 σ 20 n.a=n.a:=Fx.fx true false 0 σ 17 n;simp only[GN]at G;simp[G,C,A])
    simp at g;simp[ar8,NK,p,f,E,g,q]
   rw[u];simp at g;simp[ar8,NK,p,f,E,g,-AQ];exact H
  rw[w];simp at f;simp[ar8,NK,p,f,-AQ];exact g
def jq(e:List EN)(ac:List Int):Bool:=(eG e ac).2==0&&((eG e ac).1==0 ||(eG e ac).1==1)
abbrev amm(nd c1 c2:aq)(n:cJ)(a b r:aq):Obj:=aB 18 0 [aH [nd,c1,c2,ap n.op,ap n.l,ap n.r,ap n.tab,.aa n.bk (n.ac.map (.int .i64)),aC n.left,.aa n.bc (n.cond.map EN.a),.aa n.by' (n.keys.map (.int .i64)),.aa n.bg (n.ah.map kU.a),.aa n.bi (n.items.map yV.a),.aa n.bo (n.ords.map gT),ap n.limit,a,b,r]]
def Hn(n:cJ):Bool:=!(n.ac.any fun k=>decide (k<1) ||decide (3<k))&&decide (0≤n.tab)&&decide (n.tab<4)&&decide (0<n.ac.length)&&decide (n.ac.length≤4)
def Js(n:cJ)(a:List Int):Bool:=!(n.ords.any fun o=>decide (o.1<0) ||decide ((a.length:Int)≤o.1))&&decide (n.ords.length≤3)&&decide (-1≤n.limit)&&decide (n.limit≤2147483647)
abbrev akD(bn:Bool)(ab:List cJ)(ep1 m1 ep2 m2:Nat)(n:cJ)(a b r:aq):Obj:=amm (.aa bn (ab.map cJ.a)) (.sl 1 ep1 0 m1) (.sl 2 ep2 0 m2) n a b r
def jw:List Int→List Int→Option (List Int)
 |[],_=>some []
 |_::_,[]=>none
 |k::a,o::b=>if o≠0∧o≠(if k=0 then o else k) then none else (jw a b).map ((if k=0 then o else k)::·)
def Cz(a:List Int)(g:kU):Bool×Int:=
 if g.tag=1 then (g.arg.length==0,2)
 else ((eG g.arg a).2==0&&decide (1<g.tag)&&decide (g.tag≤5)&&(g.tag != 3 ||(eG g.arg a).1==2 ||(eG g.arg a).1==0),if g.tag=4∨g.tag=5 then (eG g.arg a).1 else 2)
def D3(n:cJ):Bool:=decide (n.keys.length≤3)&&decide (n.ah.length≤12)&&decide (0<n.keys.length+n.ah.length)
abbrev apM(n:cJ):Obj:=aB 12 0 [aH [ap n.op,ap n.l,ap n.r,ap n.tab,.aa n.bk (n.ac.map (.int .i64)),aC n.left,.aa n.bc (n.cond.map EN.a),.aa n.by' (n.keys.map (.int .i64)),.aa n.bg (n.ah.map kU.a),.aa n.bi (n.items.map yV.a),.aa n.bo (n.ords.map gT),ap n.limit]]

theorem Fp(b:Bool)(e:List EN)(a:Bool)(ac:List Int)(d:e.length≤bD)(c:ac.length≤bD) :
  bB I.qed [aH [.aa b (e.map EN.a)],.aa a (cV ac)]=some (aC (jq e ac)):=by
 rw[aR al2 rfl];have h:=fun b a=>pK b e a ac d c;unfold jq;simp[auh,agK,h]
 repeat' (split<;>(try simp_all))
theorem MQ(c:Int)(t a:Bool)(ac:List Int):bB I.qdz [ap c,.cptr t (.aa a (cV ac)) 0]=some (aC (decide (c<0) ||decide ((ac.length:Int)≤c))):=by
 rw[aR alm rfl];cases t<;>simp[aup,afP]<;>(repeat' (split<;>(try simp_all)))<;>omega
def vh(l ac:List Int):Bool:=!(l.any fun c=>decide (c<0) ||decide ((ac.length:Int)≤c))
theorem Pc(b:Bool)(l:List Int)(d:Bool)(ac:List Int)(e:l.length≤bD):bB I.qdy [.aa b (l.map (.int .i64)),.aa d (cV ac)]=some (aC (vh l ac)):=by
 rw[aR am2 rfl];have a:=rj (enc:=.int .i64) (b:=b) (l:=l) (f:=snap [aB 1 0 [.aa d (cV ac)]] (.fn 272 [] [aI 0 0 0 0])) (p:=fun c=>decide (c<0) ||decide ((ac.length:Int)≤c)) e (fun _=>⟨rfl,rfl⟩) (fun σ=>pO _ _ _) (fun c _=>by
  simp[MQ])
 unfold vh;simp at a;cases hA:(l.any fun c=>decide (c<0) ||decide ((ac.length:Int)≤c))<;>rw[hA]at a<;>simp[auz,afE,a]
theorem PJ(k:Int):bB I.qea [ap k]=some (aC (k==1 ||k==2 ||k==3)):=by
 rw[aR alG rfl];simp[au3,afF]
 repeat' (split<;>(try simp_all))
theorem Oc(k:Int):bB I.qds [ap k]=some (aC (decide (k<1) ||decide (3<k))):=by
 rw[aR akP rfl];have h:=PJ k;have e:(!(k==1 ||k==2 ||k==3))=(decide (k<1) ||decide (3<k)):=by
  rw[eL];simp;omega
 rw[←e];simp[aul,ahf,h]
theorem NY(o:Int×Bool)(t b:Bool)(a:List Int):bB I.qdp [gT o,.cptr t (.aa b (cV a)) 0]=some (aC (decide (o.1<0) ||decide ((a.length:Int)≤o.1))):=by
 rw[aR akI rfl];obtain⟨c,d⟩:=o;cases t<;>simp[atS,afw,gT]<;>(repeat' (split<;>(try simp_all)))<;>omega
def iq(op:Int):Int:=if op=1 then 0 else if op=2∨op=7 then 2 else 1
theorem N5(op:Int):bB I.qdx [ap op]=some (ap (iq op)):=by
 rw[aR alk rfl];unfold iq;simp[auy,agB]
 repeat' (split<;>(try simp_all))
def OL(n:cJ):Bool:=n.tab==0&&n.ac.length==0&&!n.left&&n.cond.length==0&&n.keys.length==0&&n.ah.length==0&&n.items.length==0&&n.ords.length==0&&n.limit==0
theorem Rp(n:cJ):bB I.qee [n.a]=some (aC (OL n)):=by
 rw[aR anW rfl];have j:∀{w:Type} (l:List w),(l=[]∧((l.length:Int)==0)=true∧(l.length==0)=true)∨(l≠[]∧((l.length:Int)==0)=false∧(l.length==0)=false):=fun l=>by
  cases l with
  |nil=>exact .inl ⟨rfl,rfl,rfl⟩
  |cons x r=>exact .inr ⟨by simp,by simp;omega,by simp⟩
 unfold OL;by_cases a:n.tab=0
 ·rcases j n.ac with⟨b,k,c⟩|⟨b,k,c⟩
  ·cases c3:n.left with
   |true=>simp[arI,A0,cJ.a,a,b,c3]
   |false=>
    rcases j n.cond with⟨i,m,d⟩|⟨i,m,d⟩
    ·rcases j n.keys with⟨c5,o,e⟩|⟨c5,o,e⟩
     ·rcases j n.ah with⟨t,p,f⟩|⟨t,p,f⟩
      ·rcases j n.items with⟨u,q,g⟩|⟨u,q,g⟩
       ·rcases j n.ords with⟨v,s,h⟩|⟨v,s,h⟩
        ·simp[arI,A0,cJ.a,a,b,c3,i,c5,t,u,v]
        simp[arI,A0,cJ.a,a,b,c3,i,c5,t,u,s,h]
       simp[arI,A0,cJ.a,a,b,c3,i,c5,t,q,g]
      simp[arI,A0,cJ.a,a,b,c3,i,c5,p,f]
     simp[arI,A0,cJ.a,a,b,c3,i,o,e]
    simp[arI,A0,cJ.a,a,b,c3,m,d]
  simp[arI,A0,cJ.a,a,k,c]
 simp[arI,A0,cJ.a,a,fa a]
def vb(ac:List Int)(g:kU):Int:=if g.tag=1∨g.tag=2∨g.tag=3 then 2 else if g.tag=4∨g.tag=5 then (eG g.arg ac).1 else 0
theorem Wj(g:kU)(d:Bool)(ac:List Int)(l:g.arg.length≤bD)(n:ac.length≤bD) :
  bB I.qdf [g.a,.aa d (cV ac)]=some (fb [ap (vb ac g),aC (Cz ac g).1]):=by
 rw[aR amA rfl];have h:=fun b d=>pK b g.arg d ac l n;unfold Cz vb;by_cases c:g.tag=1
 ·rw[if_pos c];simp[ar1,Ke,kU.a,c];rw[eL];simp
 rw[if_neg c];generalize (eG g.arg ac).1=i at *;generalize (eG g.arg ac).2=o at *;by_cases e:g.tag=2
 ·simp[ar1,Ke,kU.a,e,h]
 by_cases f:g.tag=3
 ·simp[ar1,Ke,kU.a,f,h]
  repeat' (split<;>(try simp_all))
 by_cases a:g.tag=4∨g.tag=5
 ·rcases a with t|t<;>simp[ar1,Ke,kU.a,t,h]
 have j:¬g.tag=4:=fun h=>a (.inl h);have k:¬g.tag=5:=fun h=>a (.inr h);have:(o==0&&decide (1<g.tag)&&decide (g.tag≤5)&&(g.tag != 3 ||i==2 ||i==0))=false:=by
  rw[nR];intro m;simp at m;omega
 rw[this];simp[ar1,Ke,kU.a,c,e,f,j,k,fa c,fa e,fa f,fa j,fa k,h]
theorem Wb(b:Bool)(l:List Int)(x:Int)(n:l.length≤bD):bB I.qhf [.aa b (cV l),ap x]=some (ap (wc (fun y=>x==y) l)):=by
 rw[aR amj rfl];have c:∀k,k<l.length→∀y,l[k]?=some y→(x==y)=false→dh 0 [2,3,6,7] tB (run code tB ⟨[.aa b (cV l),ap x,am,am,ap l.length,ap k,am,am],[]⟩) =
   bT code 0 [2,3,6,7] tB ⟨[.aa b (cV l),ap x,am,am,ap l.length,ap (k+1:Nat),am,am],[]⟩:=fun k d y j i=>by
  have g:((k:Int)<(l.length:Int)):=by omega
  simp[tB,j,i,g,cU d n,cO]
 unfold wc;by_cases h:(l.any fun y=>x==y)=true
 ·have g:=bQ (cB.1 h);have i:(x==l[l.findIdx fun y=>x==y])=true:=du (p:=fun y=>x==y) (w:=g);have a:=cY (base:=0) (clr:=[2,3,6,7]) (b:=tB) (fun k=>⟨[.aa b (cV l),ap x,am,am,ap l.length,ap k,am,am],[]⟩) (l.findIdx fun y=>x==y)
   (.ret,⟨[.aa b (cV l),ap x,ap (l.findIdx fun y=>x==y:Nat),ap (l.findIdx fun y=>x==y:Nat),ap l.length,ap (l.findIdx fun y=>x==y:Nat),aC true,aC true],[]⟩)
   (fun k d=>c k (by omega) _ (au (by omega)) (by simpa using cW d))
   (by
    have m:l[l.findIdx fun y=>x==y]?=some l[l.findIdx fun y=>x==y]:=au g;have f:(((l.findIdx fun y=>x==y:Nat):Int)<(l.length:Int)):=by omega
    generalize o:(l.findIdx fun y=>x==y)=L at *;generalize l[L]=y at *;simp[tB,m,i,f])
  rw[if_pos h];generalize (l.findIdx fun y=>x==y)=L at *;simp at a;simp[asX,Zn,a]
 have e:∀y∈l,(x==y)=false:=fun y j=>nR.2 (cS.1 (eB _▸h) y j);have a:=cY (base:=0) (clr:=[2,3,6,7]) (b:=tB) (fun k=>⟨[.aa b (cV l),ap x,am,am,ap l.length,ap k,am,am],[]⟩) l.length
  (.ext 0,⟨[.aa b (cV l),ap x,am,am,ap l.length,ap l.length,aC false,am],[]⟩)
  (fun k d=>c k d _ (au d) (e _ (aJ d)))
  (by simp[tB])
 simp at a;rw[if_neg h];simp[asX,Zn,a]
structure aqP (X:aw) (r:aq) (bf:Bool) (res:List Int):Prop where
 nc:aM r=1
 ag:isAgg r=false
 len:∀L K O B N A,td (L::K::O::B::N::A::X) r=some res.length
 fz:∀L K O B N A n,fz false true 3 (L::K::O::B::N::A::X) (n+3) r=.aa bf (cV res)
abbrev pM(l:List Nat):List aq:=l.map fun (k:Nat)=>aq.int .i64 (k:Int)
structure Lq where
 c0:aq
 c1:aq
 c2:aq
 c3:aq
 c4:aq
 c5:aq
 c6:aq
 c7:aq
 c8:aq
 c9:aq
 c10:aq
 c11:aq
abbrev cJ.z(n:cJ):Lq:=⟨ap n.op,ap n.l,ap n.r,ap n.tab,.aa n.bk (n.ac.map (.int .i64)),aC n.left,.aa n.bc (n.cond.map EN.a),.aa n.by' (n.keys.map (.int .i64)),.aa n.bg (n.ah.map kU.a),.aa n.bi (n.items.map yV.a),.aa n.bo (n.ords.map gT),ap n.limit⟩
instance:Nc (fun (k:Nat)=>aq.int .i64 (k:Int)) 1 false:=⟨fun _=>rfl,fun _=>rfl⟩
instance:Fx (fun (k:Nat)=>aq.int .i64 (k:Int)):=⟨fun _ _ _ _ _ _=>rfl⟩
abbrev atO(x y:Int):Obj:=aB 2 0 [aH [ap x,ap y]]
structure TkE where
 bn:Bool
 ab:List cJ
 ep1:Nat
 ep2:Nat
 ac:List (iG Int)
 opn:List Nat
 n0:Lq
 a0:aq
 b0:aq
 r0:aq
 B:Obj
 ask:aq
 i:Nat
 n:cJ
abbrev TkE.st(E:TkE)(A C r:aq)(x y:Int):aw:=[akD E.bn E.ab E.ep1 E.ac.length E.ep2 E.opn.length E.n A C r,aB 1 E.ep1 (E.ac.map (iG.c (.int .i64))),aB 1 E.ep2 (pM E.opn),E.B,apM E.n,atO x y]
structure Tk (E:TkE) (k:Nat) (ps:List Nat):Prop where
 hi:E.ab[E.i]?=some E.n
 hil:E.ab.length≤bD
 hol:E.opn.length≤bD
 hk1:E.n.keys.length≤bD
 hk2:E.n.ah.length≤bD
 hop:ajw E.n.op=k
 hkl:k≤E.opn.length
 hd:E.opn.drop (E.opn.length-k)=ps
 hbl:ir E.n=true
 hB:∀base σ,bA base σ E.B=E.B


abbrev uX:Nat:=4294967296
structure uw (n:cJ):Prop where
 ac:n.ac.length≤uX
 cond:n.cond.length≤uX
 keys:n.keys.length≤uX
 ah:n.ah.length≤uX
 args:∀g∈n.ah,g.arg.length≤uX
 items:n.items.length≤uX
 exprs:∀e∈n.items,e.l.length≤uX
 ords:n.ords.length≤uX
end Go.AM
namespace Go.AM
open P
set_option maxHeartbeats 64000000
set_option maxRecDepth 40000
def abg:iG Int:=⟨false,[]⟩
end Go.AM
namespace Go.AM
open P
set_option maxHeartbeats 64000000
set_option maxRecDepth 40000
attribute [local simp] aG bj
structure KSt where
 ac:List (iG Int)
 opn:List Nat
 z0:Lq
 a0:aq
 b0:aq
 r0:aq
abbrev KSt.l(s:KSt):List aq:=[s.z0.c0,s.z0.c1,s.z0.c2,s.z0.c3,s.z0.c4,s.z0.c5,s.z0.c6,s.z0.c7,s.z0.c8,s.z0.c9,s.z0.c10,s.z0.c11,s.a0,s.b0,s.r0]
section
abbrev uN(bn:Bool)(ns:List cJ)(bk:Bool)(ks:List (iG Int))(bf:Bool)(fs:List Nat):aq:=aH [.aa bn (ns.map cJ.a),.aa bk (ks.map (iG.c (.int .i64))),.aa bf (pM fs)]
section
variable (t bn:Bool) (ns:List cJ) (bk:Bool) (ks:List (iG Int)) (bf:Bool) (fs:List Nat) (n:cJ)
theorem JW:∀base σ m,fz true false base σ (m+4) (.cptr t (uN bn ns bk ks bf fs) 0)=.cptr t (uN bn ns bk ks bf fs) 0:=fun base σ m=>by
 cases t<;>simp
theorem Rl(p q:Nat)(x:n.l=(p:Int))(y:n.r=(q:Int))(a b:iG Int)(e:ks[p]?=some a)(g:ks[q]?=some b)(w:n.cond.length≤bD)(u:a.l.length+b.l.length≤bD) :
  bB I.qdn [.cptr t (uN bn ns bk ks bf fs) 0,n.a]=some (fb [.aa false (cV (a.l++b.l)),aC (jq n.cond (a.l++b.l))]):=by
 rw[aR ak3 rfl];have k:=(ak.1 e).1;have f:∀d:p<ks.length,ks[p]'d=a:=fun d=>(ak.1 e).2;have j:((p:Int)<(ks.length:Int)):=by omega
 have o:=(ak.1 g).1;have i:∀d:q<ks.length,ks[q]'d=b:=fun d=>(ak.1 g).2;have l:((q:Int)<(ks.length:Int)):=by omega
 have h:=fun v bk=>Fp v n.cond bk (a.l++b.l) w (by simpa using u);have c:∀t,bB I.qgf [.aa t [.aa a.b (cV a.l),.aa b.b (cV b.l)]]=some (.aa false (cV (a.l++b.l))):=fun t=>by
  have:=Hr (enc:=.int .i64) t [a,b] (by simpa using u) (by simp[bD]);simpa using this
 have r:=JW t bn ns bk ks bf fs;have z:∀base σ m,fz true false base σ (m+3) n.a=n.a:=fun base σ m=>Ft.ft true false base σ m n rfl;have n3:aM n.a=12∧isAgg n.a=true:=⟨rfl,rfl⟩;have k1:(cellsOf n.a)[1]?=some (ap n.l):=rfl;have k2:(cellsOf n.a)[2]?=some (ap n.r):=rfl;have k6:List.take 1 (List.drop 6 (cellsOf n.a))=[.aa n.bc (n.cond.map EN.a)]:=rfl;have s:(cellsOf n.a)[6]?=some (.aa n.bc (n.cond.map EN.a)):=rfl;simp only[cV,dg]at h c;simp[auU,agj,h,c,r,z,n3,k1,k2,k6,s,x,y,e,g,k,f,j,o,i,l]
def OU(a:List Int)(s:Bool×Nat×List Int)(e:yV):Bool×Nat×List Int:=(s.1&&(eG e.l a).2==0,s.2.1+1,s.2.2++[(eG e.l a).1])
theorem HC(a:List Int):∀(l:List yV) (ok:Bool) (ep:Nat) (b:List Int),l.foldl (OU a) (ok,ep,b)=(ok&&l.all (fun e=>(eG e.l a).2==0),ep+l.length,b++l.map fun e=>(eG e.l a).1)
 |[],ok,ep,b=>by simp
 |e::l,ok,ep,b=>by
  rw[dZ,OU,HC a l];simp[kN,dB,im 1]
theorem Jt(p:Nat)(J:n.l=(p:Int))(a:iG Int)(o:ks[p]?=some a)(hi:n.items.length≤bD)(G:∀e∈n.items,e.l.length≤bD)(r:a.l.length≤bD) :
  bB I.qdq [.cptr t (uN bn ns bk ks bf fs) 0,n.a]=some (fb [.aa false (cV (n.items.map fun e=>(eG e.l a.l).1)),aC (decide (1≤n.items.length)&&decide (n.items.length≤16)&&n.items.all (fun e=>(eG e.l a.l).2==0))]):=by
 rw[aR ae0 rfl];have w:=(ak.1 o).1;have q:∀B:p<ks.length,ks[p]'B=a:=fun B=>(ak.1 o).2;have v:((p:Int)<(ks.length:Int)):=by omega
 have i:=JW t bn ns bk ks bf fs;have x:∀base σ m,fz false true base σ (m+4) (.cptr t (uN bn ns bk ks bf fs) 0)=.cptr t (uN bn ns bk ks bf fs) 0:=fun base σ m=>by cases t<;>simp
 have z:∀base σ m,fz true false base σ (m+3) n.a=n.a:=fun base σ m=>Ft.ft true false base σ m n rfl;have L:∀base σ m,fz false true base σ (m+3) n.a=n.a:=fun base σ m=>Ft.ft false true base σ m n rfl;have n3:aM n.a=12∧isAgg n.a=true:=⟨rfl,rfl⟩;have k1:(cellsOf n.a)[1]?=some (ap n.l):=rfl;have y:(cellsOf n.a)[9]?=some (.aa n.bi (n.items.map yV.a)):=rfl;have h:=fun A:Bool=>(gL (base:=2) (clr:=[7,8,9,13]) (b:=GA) n.items
  (fun k (s:Bool×Nat×List Int)=>⟨[.cptr t (uN bn ns bk ks bf fs) 0,n.a,aI 0 0 0 0,.ai,aC false,aC s.1,.sl 1 s.2.1 0 s.2.2.length,am,am,am,.aa n.bi (n.items.map yV.a),ap n.items.length,ap k,am],[aB 12 0 [n.a],aB 1 s.2.1 (cV s.2.2)]⟩)
  (fun k s=>s.2.2.length≤k) (OU a.l)
  (fun s=>(.ext 0,⟨[.cptr t (uN bn ns bk ks bf fs) 0,n.a,aI 0 0 0 0,.ai,aC false,aC s.1,.sl 1 s.2.1 0 s.2.2.length,am,am,am,.aa n.bi (n.items.map yV.a),ap n.items.length,ap n.items.length,aC false],[aB 12 0 [n.a],aB 1 s.2.1 (cV s.2.2)]⟩))
  (fun k e s H C K=>by
   obtain⟨ok,ep,l⟩:=s;simp only at K;have D:((k:Int)<(n.items.length:Int)):=by omega
   have E:l.length+1≤bD:=by omega
   have u:=fun b bk=>pK b e.l bk a.l (G e (aN C)) r;refine⟨?_,by simp[OU];omega⟩;unfold OU;cases ok<;>simp[GA,D,C,yV.a,u,q,w,v,o,J,n3,k1,append,E,cU H hi,bN,bA,x,L])
  (fun s _=>by simp[GA]) (A,0,[]) (by simp)).1
 simp only[HC]at h;have F:(decide (1≤n.items.length)&&decide (n.items.length≤16))=true∨(1≤n.items.length∧¬n.items.length≤16)∨¬1≤n.items.length:=by
  by_cases f:1≤n.items.length<;>by_cases j:n.items.length≤16<;>simp[f,j]
 simp at h;rcases F with c|⟨f,j⟩|f
 ·simp at c;obtain⟨f,j⟩:=c;have d:(1:Int)≤(n.items.length:Int):=by omega
  have g:(n.items.length:Int)≤16:=by omega
  simp[ash,S8,i,z,n3,y,h,f,j,d,g]
 ·have d:(1:Int)≤(n.items.length:Int):=by omega
  have g:¬(n.items.length:Int)≤16:=by omega
  simp[ash,S8,i,z,n3,y,h,f,j,d,g]
 have d:¬(1:Int)≤(n.items.length:Int):=by omega
 simp[ash,S8,i,z,n3,y,h,f,d]
end
end
section
section
variable (t bn:Bool) (ns:List cJ) (bk:Bool) (ks:List (iG Int)) (bf:Bool) (fs:List Nat) (n:cJ)
def unG(k:Nat)(o:Int)(s:Bool×List Int):Bool×List Int⊕Empty:=.inl (s.1&&((if s.2.getD k 0=0 then o else s.2.getD k 0)==o ||o==0),if s.2.getD k 0=0 then s.2.set k o else s.2)
theorem Ol:∀(b a c:List Int) (ok:Bool),a.length=b.length→∃e,dt unG b c.length (ok,c++a)=.inl (ok&&(jw a b).isSome,e)∧e.length=c.length+a.length∧∀r,jw a b=some r→e=c++r
 |[],a,c,ok,h=>by
  obtain rfl:a=[]:=dc h;exact⟨c,by simp[dt,jw],by simp,fun r d=>by simp[jw]at d;simp[←d]⟩
 |o::b,[],c,ok,h=>by cases h
 |o::b,k::a,c,ok,h=>by
  have v:=Ol b a (c++[if k=0 then o else k]) (ok&&((if k=0 then o else k)==o ||o==0)) (by simpa using h);obtain⟨e,i,s,t⟩:=v;have j:(c++k::a).getD c.length 0=k:=by simp[aS]
  have g:(if k=0 then (c++k::a).set c.length o else c++k::a)=c++[if k=0 then o else k]++a:=by
   by_cases u:k=0
   ·simp[u]
   simp[u]
  have n:jw (k::a) (o::b)=if o≠0∧o≠(if k=0 then o else k) then none else (jw a b).map ((if k=0 then o else k)::·):=rfl
  refine⟨e,?_,by simp at s ⊢;omega,?_⟩
  ·simp only[dt,unG,j,g];rw[show c.length+1=(c++[if k=0 then o else k]).length by simp,i,n];clear i s t g n;generalize (if k=0 then o else k)=w;by_cases f:o≠0∧o≠w
   ·have l:(o==0)=false:=by simp[f.1]
    have m:(w==o)=false:=by simp;exact fun h=>f.2 h.symm
    simp[f,l,m]
   have:(w==o ||o==0)=true:=by
    simp;by_cases p:o=0
    ·exact .inr p
    by_cases i:o=w
    ·exact .inl i.symm
    exact absurd ⟨p,i⟩ f
   rw[if_neg f,this];simp
  intro r d;rw[n]at d;by_cases f:o≠0∧o≠(if k=0 then o else k)
  ·rw[if_pos f]at d;cases d
  rw[if_neg f]at d;cases hq:jw a b with
  |none=>rw[hq]at d;cases d
  |some q=>
   rw[hq]at d;simp only[dJ,aK]at d;rw[t q hq,←d,dy];rfl
theorem OW(p q:Nat)(U:n.l=(p:Int))(V:n.r=(q:Int))(a b:iG Int)(E:ks[p]?=some a)(H:ks[q]?=some b)(G:a.l.length≤bD)(u:a.l.length=b.l.length) :
  ∃d,bB I.qdt [.cptr t (uN bn ns bk ks bf fs) 0,n.a]=some (fb [.aa false (cV d),aC (jw a.l b.l).isSome])∧∀r,jw a.l b.l=some r→d=r:=by
 obtain⟨d,S,D,T⟩:=Ol b.l a.l [] true u;refine⟨d,?_,by simpa using T⟩;rw[aR Xj rfl];have N:=(ak.1 E).1;have F:∀y:p<ks.length,ks[p]'y=a:=fun y=>(ak.1 E).2;have M:((p:Int)<(ks.length:Int)):=by omega
 have P:=(ak.1 H).1;have J:∀y:q<ks.length,ks[q]'y=b:=fun y=>(ak.1 H).2;have O:((q:Int)<(ks.length:Int)):=by omega
 have R:=JW t bn ns bk ks bf fs;have l:∀base σ m,fz false true base σ (m+4) (.cptr t (uN bn ns bk ks bf fs) 0)=.cptr t (uN bn ns bk ks bf fs) 0:=fun base σ m=>by cases t<;>simp
 have W:∀base σ m,fz true false base σ (m+3) n.a=n.a:=fun base σ m=>Ft.ft true false base σ m n rfl;have C:∀base σ m,fz false true base σ (m+3) n.a=n.a:=fun base σ m=>Ft.ft false true base σ m n rfl;have n3:aM n.a=12∧isAgg n.a=true:=⟨rfl,rfl⟩;have k1:(cellsOf n.a)[1]?=some (ap n.l):=rfl;have k2:(cellsOf n.a)[2]?=some (ap n.r):=rfl;have g:b.l.length≤bD:=by omega
 have h:=iL (base:=2) (clr:=[9,10,15,16]) (b:=xG) b.l
  (fun k (s:Bool×List Int)=>⟨[.cptr t (uN bn ns bk ks bf fs) 0,n.a,aI 0 0 0 0,.ai,aC false,.aa a.b (cV a.l),.aa b.b (cV b.l),.sl 1 0 0 a.l.length,aC s.1,am,am,aC false,.aa b.b (cV b.l),ap b.l.length,ap k,am,am],[aB 12 0 [n.a],aB 1 0 (cV s.2)]⟩)
  (fun _ s=>s.2.length=a.l.length) unG
  (fun s=>(.ext 0,⟨[.cptr t (uN bn ns bk ks bf fs) 0,n.a,aI 0 0 0 0,.ai,aC false,.aa a.b (cV a.l),.aa b.b (cV b.l),.sl 1 0 0 a.l.length,aC s.1,am,am,aC false,.aa b.b (cV b.l),ap b.l.length,ap b.l.length,aC false,am],[aB 12 0 [n.a],aB 1 0 (cV s.2)]⟩))
  (fun (r:Empty) _=>r.elim)
  (fun k o s A B v=>by
   obtain⟨ok,X⟩:=s;simp only at v;unfold unG;have z:((k:Int)<(b.l.length:Int)):=by omega
   have e:k<X.length:=by omega
   have j:k<a.l.length:=by omega
   refine⟨?_,by simp only;split<;>simp[v]⟩;have f:X[k]?=some (X.getD k 0):=by simp[aS,e]
   have i:∀h:k<X.length,X[k]'h=X.getD k 0:=fun h=>(ak.1 f).2;generalize Y:X.getD k 0=w at *;by_cases c:w=0
   ·subst c;cases ok<;>by_cases x:o=0
    all_goals simp[xG,z,B,f,i,e,j,v,n3,cU A g,bN,bA,l,C,x,fa]
   cases ok
   ·simp[xG,z,B,f,i,e,j,v,n3,cU A g,bN,bA,l,C,c,fa c]
   by_cases x:w=o
   ·subst x;simp[xG,z,B,f,i,e,j,v,n3,cU A g,bN,bA,l,C,c,fa c]
   simp[xG,z,B,f,i,e,j,v,n3,cU A g,bN,bA,l,C,c,fa c,x,fa x])
  (fun s _=>by simp[xG]) (true,a.l) rfl
 simp only[bE,bX]at S;rw[S]at h;obtain⟨_,h⟩:=h;have K:=qD (enc:=.int .i64) a.b a.l G;have L:((a.l.length:Int) != (b.l.length:Int))=false:=by simp[u]
 simp only[show ((0:Nat):Int)=0 from rfl]at h;simp at D;have Q:List.take a.l.length (d.map (aq.int .i64))=d.map (.int .i64):=ay (by simp[D]);simp only[cV]at *;simp[as6,Yy,R,W,n3,k1,k2,U,V,E,H,N,F,M,P,J,O,L,K,h,D,Q]
end
end
section
section
variable (t bn:Bool) (ns:List cJ) (bk:Bool) (ks:List (iG Int)) (bf:Bool) (fs:List Nat) (n:cJ)
theorem Sw(p q:Nat)(s:n.l=(p:Int))(u:n.r=(q:Int))(a b:iG Int)(d:ks[p]?=some a)(f:ks[q]?=some b)(r:a.l.length≠b.l.length) :
  bB I.qdt [.cptr t (uN bn ns bk ks bf fs) 0,n.a]=some (fb [.aa false [],aC false]):=by
 rw[aR Xj rfl];have j:=(ak.1 d).1;have e:∀c:p<ks.length,ks[p]'c=a:=fun c=>(ak.1 d).2;have i:((p:Int)<(ks.length:Int)):=by omega
 have l:=(ak.1 f).1;have g:∀c:q<ks.length,ks[q]'c=b:=fun c=>(ak.1 f).2;have k:((q:Int)<(ks.length:Int)):=by omega
 have o:=JW t bn ns bk ks bf fs;have v:∀base σ m,fz true false base σ (m+3) n.a=n.a:=fun base σ m=>Ft.ft true false base σ m n rfl;have n3:aM n.a=12∧isAgg n.a=true:=⟨rfl,rfl⟩;have k1:(cellsOf n.a)[1]?=some (ap n.l):=rfl;have k2:(cellsOf n.a)[2]?=some (ap n.r):=rfl;have h:((a.l.length:Int) != (b.l.length:Int))=true:=by simp;omega
 simp[as6,Yy,o,v,n3,k1,k2,s,u,d,f,j,e,i,l,g,k,h]
def vg(a:List Int):Bool:=D3 n&&vh n.keys a
def abw(a:List Int)(s:Nat×List Int)(x:Int):Nat×List Int:=(s.1+1,s.2++[a.getD x.toNat 0])
theorem KN(a:List Int):∀(l:List Int) (ep:Nat) (b:List Int),l.foldl (abw a) (ep,b)=(ep+l.length,b++l.map fun x=>a.getD x.toNat 0)
 |[],ep,b=>by simp
 |x::l,ep,b=>by
  rw[dZ,abw,KN a l];simp[dB,im 1]
def aa6(a:List Int)(s:Bool×Nat×List Int)(g:kU):Bool×Nat×List Int:=(s.1&&(Cz a g).1,s.2.1+1,s.2.2++[vb a g])
theorem Kk(a:List Int):∀(l:List kU) (ok:Bool) (ep:Nat) (b:List Int),l.foldl (aa6 a) (ok,ep,b)=(ok&&l.all (fun g=>(Cz a g).1),ep+l.length,b++l.map (vb a))
 |[],ok,ep,b=>by simp
 |g::l,ok,ep,b=>by
  rw[dZ,aa6,Kk a l];simp[kN,dB,im 1]
theorem Pe(p:Nat)(z:n.l=(p:Int))(a:iG Int)(q:ks[p]?=some a)(S:n.keys.length≤uX)(Q:n.ah.length≤uX)(he:∀g∈n.ah,g.arg.length≤bD)(K:a.l.length≤bD) :
  bB I.qdm [.cptr t (uN bn ns bk ks bf fs) 0,n.a]=some (if vg n a.l then fb [.aa false (cV ((n.keys.map fun x=>a.l.getD x.toNat 0)++n.ah.map (vb a.l))),aC (n.ah.all fun g=>(Cz a.l g).1)] else fb [.aa false [],aC false]):=by
 rw[aR ae9 rfl];have y:n.keys.length≤bD:=bH S (by decide);have M:n.ah.length≤bD:=bH Q (by decide);have ab:n.keys.length+n.ah.length≤68719476736:=bH (Nat.add_le_add S Q) (by decide);have A:IntKind.i64.wrap ((n.keys.length:Int)+(n.ah.length:Int))=(n.keys.length:Int)+n.ah.length:=pT (by omega) (by omega);have i:=(ak.1 q).1;have f:∀R:p<ks.length,ks[p]'R=a:=fun R=>(ak.1 q).2;have h:((p:Int)<(ks.length:Int)):=by omega
 have j:=JW t bn ns bk ks bf fs;have C:∀base σ m,fz false true base σ (m+4) (.cptr t (uN bn ns bk ks bf fs) 0)=.cptr t (uN bn ns bk ks bf fs) 0:=fun base σ m=>by cases t<;>simp
 have F:∀base σ m,fz true false base σ (m+3) n.a=n.a:=fun base σ m=>Ft.ft true false base σ m n rfl;have T:∀base σ m,fz false true base σ (m+3) n.a=n.a:=fun base σ m=>Ft.ft false true base σ m n rfl;have n3:aM n.a=12∧isAgg n.a=true:=⟨rfl,rfl⟩;have k1:(cellsOf n.a)[1]?=some (ap n.l):=rfl;have D:(cellsOf n.a)[7]?=some (.aa n.by' (n.keys.map (.int .i64))):=rfl;have E:(cellsOf n.a)[8]?=some (.aa n.bg (n.ah.map kU.a)):=rfl;have v:=fun b bk=>Pc b n.keys bk a.l y;simp only[cV]at v;by_cases U:n.keys.length≤3
 ·have c:(n.keys.length:Int)≤3:=by omega
  by_cases V:n.ah.length≤12
  ·have d:(n.ah.length:Int)≤12:=by omega
   by_cases c3:0<n.keys.length+n.ah.length
   ·have l:(0:Int)<(n.keys.length:Int)+n.ah.length:=by omega
    cases c4:vh n.keys a.l with
    |false=>
     have e:vg n a.l=false:=by unfold vg;rw[c4];simp
     rw[c4]at v;simp[arW,KE,j,F,n3,k1,D,E,z,q,f,i,h,c,d,l,A,v,e]
    |true=>
     have e:vg n a.l=true:=by unfold vg D3;rw[c4];simp[U,V];omega
     rw[c4]at v;have O:∀x∈n.keys,0≤x∧x<a.l.length:=fun x hx=>by
      unfold vh at c4;simp only[gM,cS]at c4;have:=c4 x hx;simp at this;omega
     have H:=(gL (base:=2) (clr:=[8,16]) (b:=Gd) n.keys
      (fun k (s:Nat×List Int)=>⟨[.cptr t (uN bn ns bk ks bf fs) 0,n.a,aI 0 0 0 0,.ai,aC false,.aa a.b (cV a.l),aC true,.sl 1 s.1 0 s.2.length,am,am,am,am,aC false,.aa n.by' (n.keys.map (.int .i64)),ap n.keys.length,ap k,am,am,am,am,am],[aB 12 0 [n.a],aB 1 s.1 (cV s.2)]⟩)
      (fun k s=>s.2.length≤k) (abw a.l)
      (fun s=>(.ext 0,⟨[.cptr t (uN bn ns bk ks bf fs) 0,n.a,aI 0 0 0 0,.ai,aC false,.aa a.b (cV a.l),aC true,.sl 1 s.1 0 s.2.length,am,am,am,am,aC false,.aa n.by' (n.keys.map (.int .i64)),ap n.keys.length,ap n.keys.length,aC false,am,am,am,am],[aB 12 0 [n.a],aB 1 s.1 (cV s.2)]⟩))
      (fun k x s r B P=>by
       obtain⟨ep,o⟩:=s;simp only at P;have G:((k:Int)<(n.keys.length:Int)):=by omega
       have J:o.length+1≤bD:=by omega
       obtain⟨x0,x1⟩:=O x (aN B);refine⟨?_,by simp[abw];omega⟩;have W:a.l[x.toNat]?=some (a.l.getD x.toNat 0):=by
        have:x.toNat < a.l.length:=by omega
        simp[aS,this]
       unfold abw;generalize a.l.getD x.toNat 0=w at *;simp[Gd,G,B,x0,W,append,J,cU r y,bN,bA,C,T])
      (fun s _=>by simp[Gd]) (0,[]) (by simp)).1
     have u:=(gL (base:=2) (clr:=[9,10,11,20]) (b:=Ga) n.ah
      (fun k (s:Bool×Nat×List Int)=>⟨[.cptr t (uN bn ns bk ks bf fs) 0,n.a,aI 0 0 0 0,.ai,aC false,.aa a.b (cV a.l),aC s.1,.sl 1 s.2.1 0 s.2.2.length,am,am,am,am,aC false,.aa n.by' (n.keys.map (.int .i64)),ap n.keys.length,ap n.keys.length,aC false,.aa n.bg (n.ah.map kU.a),ap n.ah.length,ap k,am],[aB 12 0 [n.a],aB 1 s.2.1 (cV s.2.2)]⟩)
      (fun k s=>s.2.2.length≤n.keys.length+k) (aa6 a.l)
      (fun s=>(.ext 2,⟨[.cptr t (uN bn ns bk ks bf fs) 0,n.a,aI 0 0 0 0,.ai,aC false,.aa a.b (cV a.l),aC s.1,.sl 1 s.2.1 0 s.2.2.length,am,am,am,am,aC false,.aa n.by' (n.keys.map (.int .i64)),ap n.keys.length,ap n.keys.length,aC false,.aa n.bg (n.ah.map kU.a),ap n.ah.length,ap n.ah.length,aC false],[aB 12 0 [n.a],aB 1 s.2.1 (cV s.2.2)]⟩))
      (fun k g s r B P=>by
       obtain⟨ok,ep,o⟩:=s;simp only at P;have G:((k:Int)<(n.ah.length:Int)):=by omega
       have J:o.length+1≤bD:=by unfold bD;omega
       have N:aM g.a=2∧isAgg g.a=true:=⟨rfl,rfl⟩;have X:∀base σ m,fz true false base σ (m+3) g.a=g.a:=fun base σ m=>Ft.ft true false base σ m g rfl;have Y:∀base σ m,fz false true base σ (m+3) g.a=g.a:=fun base σ m=>Ft.ft false true base σ m g rfl;have Z:=fun bk=>Wj g bk a.l (he g (aN B)) K;refine⟨?_,by simp[aa6];omega⟩;unfold aa6;cases ok<;>simp[Ga,G,B,N,X,Y,Z,append,J,cU r M,bN,bA,C,T])
      (fun s _=>by simp[Ga]) (true,n.keys.length,n.keys.map fun x=>a.l.getD x.toNat 0) (by simp)).1
     rw[KN]at H;rw[Kk]at u;simp only[ej]at u;generalize hL:(n.keys.map fun x=>a.l.getD x.toNat 0)++n.ah.map (vb a.l)=L at u ⊢;simp at H u;simp only[cV]at *;simp[arW,KE,j,F,n3,k1,D,E,z,q,f,i,h,c,d,l,A,v,e,H,u]
   have l:¬(0:Int)<(n.keys.length:Int)+n.ah.length:=by omega
   have e:vg n a.l=false:=by unfold vg D3;simp;omega
   simp[arW,KE,j,F,n3,k1,D,E,z,q,f,i,h,c,d,l,A,e]
  have d:¬(n.ah.length:Int)≤12:=by omega
  have e:vg n a.l=false:=by unfold vg D3;simp;omega
  simp[arW,KE,j,F,n3,k1,D,E,z,q,f,i,h,c,d,A,e]
 have c:¬(n.keys.length:Int)≤3:=by omega
 have e:vg n a.l=false:=by unfold vg D3;simp;omega
 simp[arW,KE,j,F,n3,k1,D,E,z,q,f,i,h,c,A,e]
end
end
section
def nA(n:cJ):List aq:=[ap n.op,ap n.l,ap n.r,ap (if n.op=1 then 0 else n.tab),if n.op=1 then .ai else .aa n.bk (n.ac.map (.int .i64)),aC (if n.op=2 then false else n.left),
 if n.op=2∨n.op=3 then .ai else .aa n.bc (n.cond.map EN.a),if n.op=4 then .ai else .aa n.by' (n.keys.map (.int .i64)),if n.op=4 then .ai else .aa n.bg (n.ah.map kU.a),if n.op=5 then .ai else .aa n.bi (n.items.map yV.a),
 if n.op=8 then .ai else .aa n.bo (n.ords.map gT),ap (if n.op=8 then 0 else n.limit)]
def J5(n:cJ):cJ:=⟨n.op,n.l,n.r,if n.op=1 then 0 else n.tab,if n.op=1 then false else n.bk,if n.op=1 then [] else n.ac,if n.op=2 then false else n.left,
 if n.op=2∨n.op=3 then false else n.bc,if n.op=2∨n.op=3 then [] else n.cond,if n.op=4 then false else n.by',if n.op=4 then [] else n.keys,if n.op=4 then false else n.bg,if n.op=4 then [] else n.ah,
 if n.op=5 then false else n.bi,if n.op=5 then [] else n.items,if n.op=8 then false else n.bo,if n.op=8 then [] else n.ords,if n.op=8 then 0 else n.limit⟩
def aaB(n:cJ):List aq:=cellsOf (J5 n).a
theorem VV(n:cJ)(base:Nat)(σ:aw)(m:Nat):(nA n).map (fz true false base σ (m+2))=aaB n:=by
 unfold nA aaB J5 cJ.a;by_cases a:n.op=1
 ·simp[a]
 by_cases b:n.op=2
 ·simp[b]
 by_cases c:n.op=3
 ·simp[c]
 by_cases d:n.op=4
 ·simp[d]
 by_cases c5:n.op=5
 ·simp[c5]
 by_cases e:n.op=8
 ·simp[e]
 simp[a,b,c,d,c5,e]
theorem Ry(n:cJ)(σ:aw):cD code I.qdg [n.a] σ=some (aH (nA n),σ++[aB 12 0 [aH (nA n)],aB 12 0 [aH (nA n)]]):=by
 rw[cz ak2 rfl];unfold nA cJ.a;by_cases a:n.op=1
 ·simp[arQ,Fl,a]
 by_cases b:n.op=2
 ·simp[arQ,Fl,b]
 by_cases c:n.op=3
 ·simp[arQ,Fl,c]
 by_cases d:n.op=4
 ·simp[arQ,Fl,d]
 by_cases c5:n.op=5
 ·simp[arQ,Fl,c5]
 by_cases e:n.op=8
 ·simp[arQ,Fl,e]
 simp[arQ,Fl,a,b,c,d,c5,e,fa a,fa b,fa c,fa d,fa c5,fa e]
theorem Ru(n:cJ):bB I.qee [aH (aaB n)]=some (aC (OL (J5 n))):=Rp (J5 n)
theorem Z0{n:cJ}(h:1≤n.op∧n.op≤8):OL (J5 n)=ir n:=by
 have d:∀{b:Type} (l:List b),(l.length==0)=decide (l=[]):=fun l=>by cases l<;>simp
 unfold OL J5 ir;have:n.op=1∨n.op=2∨n.op=3∨n.op=4∨n.op=5∨n.op=6∨n.op=7∨n.op=8:=by omega
 have a:((n.keys.length:Int)+n.ah.length==0)=(n.keys.length==0&&n.ah.length==0):=by
  rw[eL,ax,aX,aX,aX];omega
 rw[a];rcases this with c|c|c|c|c|c|c|c<;>simp[c]<;>(rw[eL];simp[and_assoc,and_left_comm,and_comm])
theorem NE(c:aq)(n:cJ)(σ:aw)(m:n.ac.length≤bD):cD code I.qdr [c,n.a] σ=some (fb [.aa n.bk (n.ac.map (.int .i64)),aC (Hn n)],σ++[aB 12 0 [n.a]]):=by
 rw[cz anp rfl];have j:=fun b=>rj (enc:=.int .i64) (b:=b) (l:=n.ac) (f:=.fn 39 [] []) (p:=fun k=>decide (k<1) ||decide (3<k)) m (fun _=>⟨rfl,rfl⟩) (fun σ=>by simp) (fun k _=>by simp[Oc]);unfold Hn;have n3:aM n.a=12∧isAgg n.a=true:=⟨rfl,rfl⟩;have k3:(cellsOf n.a)[3]?=some (ap n.tab):=rfl;have k4:(cellsOf n.a)[4]?=some (.aa n.bk (n.ac.map (.int .i64))):=rfl;by_cases e:0≤n.tab
 ·by_cases g:n.tab<4
  ·by_cases h:0<n.ac.length
   ·have a:(1:Int)≤(n.ac.length:Int):=by omega
    by_cases i:n.ac.length≤4
    ·have d:(n.ac.length:Int)≤4:=by omega
     cases hA:(n.ac.any fun k=>decide (k<1) ||decide (3<k))<;>rw[hA]at j<;>simp[ar7,Kc,n3,k3,k4,j,e,g,h,a,i,d]
    have d:¬(n.ac.length:Int)≤4:=by omega
    simp[ar7,Kc,n3,k3,k4,e,g,a,i,d]
   have a:¬(1:Int)≤(n.ac.length:Int):=by omega
   simp[ar7,Kc,n3,k3,k4,e,g,h,a]
  simp[ar7,Kc,n3,k3,k4,e,g]
 simp[ar7,Kc,n3,k3,k4,e]
structure AtL (σ:aw) (id ik jf:Nat) (bn:Bool) (ns:List cJ) (ep:Nat) (ks:List (iG Int)) (ef:Nat) (fs:List Nat):Prop where
 hd:σ[id]?=some (aB 3 0 [aH [.aa bn (ns.map cJ.a),.sl ik ep 0 ks.length,.sl jf ef 0 fs.length]])
 hk:σ[ik]?=some (aB 1 ep (ks.map (iG.c (.int .i64))))
 hf:σ[jf]?=some (aB 1 ef (pM fs))
theorem AtL.more{σ:aw}{id ik jf:Nat}{bn:Bool}{ns:List cJ}{ep:Nat}{ks:List (iG Int)}{ef:Nat}{fs:List Nat}(h:AtL σ id ik jf bn ns ep ks ef fs)(X:aw):AtL (σ++X) id ik jf bn ns ep ks ef fs:=
 ⟨by rw[aQ (ak.1 h.hd).1];exact h.hd,by rw[aQ (ak.1 h.hk).1];exact h.hk,by rw[aQ (ak.1 h.hf).1];exact h.hf⟩
section
variable {σ:aw} {id ik jf:Nat} {bn:Bool} {ns:List cJ} {ep:Nat} {ks:List (iG Int)} {ef:Nat} {fs:List Nat} (h:AtL σ id ik jf bn ns ep ks ef fs) (n:cJ) (p:Nat) (hp:n.l=(p:Int)) (a:iG Int) (ha:ks[p]?=some a)
include h hp ha
theorem FV:cD code I.qdk [aI id 0 0 0,n.a] σ=some (fb [.aa a.b (cV a.l),aC true],σ++[aB 12 0 [n.a]]):=by
 rw[cz anK rfl];obtain⟨f,g,i⟩:=h.more [aB 12 0 [n.a]];have d:=(ak.1 ha).1;have b:∀e:p<ks.length,ks[p]'e=a:=fun e=>(ak.1 ha).2;have c:((p:Int)<(ks.length:Int)):=by omega
 have n3:aM n.a=12∧isAgg n.a=true:=⟨rfl,rfl⟩;have k1:(cellsOf n.a)[1]?=some (ap n.l):=rfl;simp[aux,agT,n3,k1,hp,ha,b,d,c,f,g]
theorem JA(m:n.cond.length≤bD)(o:a.l.length≤bD):cD code I.qdl [aI id 0 0 0,n.a] σ=some (fb [.aa a.b (cV a.l),aC (jq n.cond a.l)],σ++[aB 12 0 [n.a]]):=by
 rw[cz amE rfl];obtain⟨j,k,q⟩:=h.more [aB 12 0 [n.a]];have l:=fun g i=>Fp g n.cond i a.l m o;have d:=(ak.1 ha).1;have b:∀f:p<ks.length,ks[p]'f=a:=fun f=>(ak.1 ha).2;have c:((p:Int)<(ks.length:Int)):=by omega
 have n3:aM n.a=12∧isAgg n.a=true:=⟨rfl,rfl⟩;have k1:(cellsOf n.a)[1]?=some (ap n.l):=rfl;have k6:List.take 1 (List.drop 6 (cellsOf n.a))=[.aa n.bc (n.cond.map EN.a)]:=rfl;have e:(cellsOf n.a)[6]?=some (.aa n.bc (n.cond.map EN.a)):=rfl;simp[au2,ag8,n3,k1,k6,e,hp,ha,b,d,c,j,k,l]
theorem Lo(D:n.ords.length≤bD)(J:a.l.length≤bD)(B:ks.length≤8000)(C:ns.length≤8000):∃X Y,cD code I.qdo [aI id 0 0 0,n.a] σ=some (fb [.aa a.b (cV a.l),aC (Js n a.l&&decide (ks.length+1=ns.length))],σ++[X,Y]):=by
 refine⟨aB 12 0 [n.a],aB 1 0 [.aa a.b (cV a.l)],?_⟩;rw[cz alD rfl];obtain⟨s,t,G⟩:=h.more [aB 12 0 [n.a]];obtain⟨u,v,H⟩:=h.more [aB 12 0 [n.a],aB 1 0 [.aa a.b (cV a.l)]];obtain⟨d,e,A⟩:=h.more [aB 12 0 [n.a],aB 1 0 [.ai]];have j:=(ak.1 ha).1;have g:∀z:p<ks.length,ks[p]'z=a:=fun z=>(ak.1 ha).2;have i:((p:Int)<(ks.length:Int)):=by omega
 have n3:aM n.a=12∧isAgg n.a=true:=⟨rfl,rfl⟩;have k1:(cellsOf n.a)[1]?=some (ap n.l):=rfl;have k:(cellsOf n.a)[10]?=some (.aa n.bo (n.ords.map gT)):=rfl;have m:(cellsOf n.a)[11]?=some (ap n.limit):=rfl;have w:=pT (n:=(ns.length:Int)-1) (by omega) (by omega)
 have q:=vL (enc:=gT) (b:=n.bo) (l:=n.ords) (f:=.fn 203 [] [.cptr true (.aa a.b (cV a.l)) 0]) (p:=fun o=>decide (o.1<0) ||decide ((a.l.length:Int)≤o.1)) D (fun _=>⟨rfl,rfl⟩) (fun σ=>by simp) (fun o _=>by
  have F:∀σ,fz true false 0 σ 20 (gT o)=gT o:=fun σ=>Fx.fx true false 0 σ 17 o;simp[F,NY])
 have E:((ks.length:Int)==(ns.length:Int)-1)=decide (ks.length+1=ns.length):=by
  rw[eL];simp;omega
 unfold Js;by_cases r:n.ords.length≤3
 ·have c:(n.ords.length:Int)≤3:=by omega
  cases hA:(n.ords.any fun o=>decide (o.1<0) ||decide ((a.l.length:Int)≤o.1)) with
  |true=>
   rw[hA]at q;simp[ar6,Kj,n3,k1,k,m,hp,ha,g,j,i,s,t,u,v,d,e,w,q,r,c]
  |false=>
   rw[hA]at q;by_cases x:-1≤n.limit
   ·by_cases y:n.limit≤2147483647
    ·simp[ar6,Kj,n3,k1,k,m,hp,ha,g,j,i,s,t,u,v,d,e,w,q,r,c,x,y,E]
    simp[ar6,Kj,n3,k1,k,m,hp,ha,g,j,i,s,t,u,v,d,e,w,q,r,c,x,y]
   simp[ar6,Kj,n3,k1,k,m,hp,ha,g,j,i,s,t,u,v,d,e,w,q,r,c,x]
 have c:¬(n.ords.length:Int)≤3:=by omega
 simp[ar6,Kj,n3,k1,k,m,hp,ha,g,j,i,s,t,u,v,d,e,w,r,c]
end
end
def fI(n:cJ)(i:Nat)(fs:List Nat):Int×Bool:=
 if iq n.op=0 then ((i:Int),n.l == -1&&n.r == -1)
 else if iq n.op=1 then (if n.l≠(i:Int)-1∨n.r≠-1∨i=0 then (0,false) else ((fs.getD (i-1) 0:Nat),true))
 else if n.r≠(i:Int)-1∨i=0∨n.l≠(fs.getD (i-1) 0:Nat)-1∨n.l<0 then (0,false) else ((fs.getD n.l.toNat 0:Nat),true)
theorem tI(op:Int):iq op=0∨iq op=1∨iq op=2:=by
 unfold iq
 repeat' split
 all_goals simp
theorem SG(t H:Bool)(x:List cJ)(G:Bool)(ks:List (iG Int))(F:Bool)(fs:List Nat)(i:Nat)(n:cJ)(hi:x[i]?=some n)(P:fs.length=i)(E:∀f∈fs,f≤i)(R:i≤8000) :
  bB I.qdj [.cptr t (uN H x G ks F fs) 0,ap i]=some (fb [ap (fI n i fs).1,aC (fI n i fs).2]):=by
 rw[aR aoj rfl];have b:=(ak.1 hi).1;have a:∀K:i<x.length,x[i]'K=n:=fun K=>(ak.1 hi).2;have e:((i:Int)<(x.length:Int)):=by omega
 have S:∀base σ m,fz true false base σ (m+3) n.a=n.a:=fun base σ m=>Ft.ft true false base σ m n rfl;have n3:aM n.a=12∧isAgg n.a=true:=⟨rfl,rfl⟩;have o:(cellsOf n.a)[0]?=some (ap n.op):=rfl;have k1:(cellsOf n.a)[1]?=some (ap n.l):=rfl;have k2:(cellsOf n.a)[2]?=some (ap n.r):=rfl;have c:=JW t H x G ks F fs;have w:=pT (n:=(i:Int)-1) (by omega) (by omega);have k:=N5 n.op;have w0:IntKind.i64.wrap (-1)=-1:=by decide
 unfold fI;rcases tI n.op with C|C|C
 ·rw[C]at k ⊢;by_cases j:n.l=-1
  ·simp[arH,xR,c,hi,a,b,e,n3,o,k1,k2,k,j]
  simp[arH,xR,c,hi,a,b,e,n3,o,k1,k2,k,j,fa j]
 ·rw[C]at k ⊢;by_cases j:n.l=(i:Int)-1
  ·by_cases p:n.r=-1
   ·by_cases u:i=0
    ·subst u;have r:n.l=-1:=by omega
     simp[arH,xR,c,hi,a,b,n3,o,k1,k2,k,r,p,w0]
    have d:¬((i:Int)=0):=by omega
    have y:(1:Int)≤(i:Int):=by omega
    have z:((i:Int)-1).toNat=i-1:=by omega
    have v:i-1<fs.length:=by omega
    have A:((i:Int)-1<(fs.length:Int)):=by omega
    have g:fs[i-1]?=some (fs.getD (i-1) 0):=by simp[aS,v]
    have l:∀h:i-1<fs.length,fs[i-1]'h=fs.getD (i-1) 0:=fun h=>(ak.1 g).2;generalize fs.getD (i-1) 0=f at *;simp[arH,xR,c,hi,a,b,e,n3,o,k1,k2,k,w,j,p,u,d,fa d,y,z,v,A,g,l]
   simp[arH,xR,c,hi,a,b,e,n3,o,k1,k2,k,w,j,p,CW p]
  simp[arH,xR,c,hi,a,b,e,n3,o,k1,k2,k,w,j,CW j]
 rw[C]at k ⊢;by_cases j:n.r=(i:Int)-1
 ·by_cases u:i=0
  ·subst u;have r:n.r=-1:=by omega
   simp[arH,xR,c,hi,a,b,n3,o,k1,k2,k,r,w0]
  have d:¬((i:Int)=0):=by omega
  have y:(1:Int)≤(i:Int):=by omega
  have z:((i:Int)-1).toNat=i-1:=by omega
  have v:i-1<fs.length:=by omega
  have A:((i:Int)-1<(fs.length:Int)):=by omega
  have g:fs[i-1]?=some (fs.getD (i-1) 0):=by simp[aS,v]
  have l:∀h:i-1<fs.length,fs[i-1]'h=fs.getD (i-1) 0:=fun h=>(ak.1 g).2;have O:=E _ (aN g);have L:=pT (n:=((fs.getD (i-1) 0:Nat):Int)-1) (by omega) (by omega);generalize fs.getD (i-1) 0=f at *;by_cases p:n.l=(f:Int)-1
  ·by_cases M:n.l<0
   ·obtain rfl:f=0:=by omega
    have s:n.l=-1:=by omega
    simp[arH,xR,c,hi,a,b,e,n3,o,k1,k2,k,w,j,u,d,fa d,y,z,v,A,g,l,s,w0]
   have D:0≤n.l:=by omega
   have J:n.l.toNat < fs.length:=by omega
   have N:(n.l<(fs.length:Int)):=by omega
   have q:fs[n.l.toNat]?=some (fs.getD n.l.toNat 0):=by simp[aS,J]
   have B:∀h:n.l.toNat < fs.length,fs[n.l.toNat]'h=fs.getD n.l.toNat 0:=fun h=>(ak.1 q).2;generalize fs.getD n.l.toNat 0=Q at *;have s:(n.l != (f:Int)-1)=false:=by simp[p]
   generalize n.l=T at *;simp[arH,xR,c,hi,a,b,e,n3,o,k1,k2,k,w,L,j,u,d,fa d,y,z,v,A,g,l,s,M,D,J,N,q,B];simp[p]
  simp[arH,xR,c,hi,a,b,e,n3,o,k1,k2,k,w,L,j,u,d,fa d,y,z,v,A,g,l,p,CW p]
 simp[arH,xR,c,hi,a,b,e,n3,o,k1,k2,k,w,j,CW j]
theorem Wi{n:cJ}{i:Nat}{fs:List Nat}(g:fs.length=i)(b:∀f∈fs,f≤i)(h:(fI n i fs).2=true):(fI n i fs).1=(((fI n i fs).1.toNat:Nat):Int)∧(fI n i fs).1.toNat≤i:=by
 have d:∀k,fs.getD k 0≤i:=fun k=>by
  by_cases e:k<fs.length
  ·rw[aS,au e];exact b _ (aJ e)
  rw[aS,fR (by omega)];exact cI _
 unfold fI at *;rcases tI n.op with c|c|c<;>rw[c]at h ⊢<;>simp at h ⊢
 ·split at h
  ·cases h
  rename_i a;rw[if_neg a];exact⟨by simp,by simpa using d (i-1)⟩
 split at h
 ·cases h
 rename_i a;rw[if_neg a];exact⟨by simp,by simpa using d n.l.toNat⟩
def ZL(id:Nat)(op:Int):aq:=
 if op=1 then .fn 80 [aI id 0 0 0] [] else if op=2 then .fn 199 [aI id 0 0 0] [] else if op=3 then .fn 91 [aI id 0 0 0] [] else if op=4 then .fn 200 [aI id 0 0 0] [] else
 if op=5 then .fn 106 [aI id 0 0 0] [] else if op=6 then .fn 201 [aI id 0 0 0] [] else if op=7 then .fn 202 [aI id 0 0 0] [] else if op=8 then .fn 159 [aI id 0 0 0] [] else .nilf
def u0(id:Nat):List (aq×aq):=[(ap 1,.fn 80 [aI id 0 0 0] []),(ap 2,.fn 199 [aI id 0 0 0] []),(ap 3,.fn 91 [aI id 0 0 0] []),(ap 4,.fn 200 [aI id 0 0 0] []),
 (ap 5,.fn 106 [aI id 0 0 0] []),(ap 6,.fn 201 [aI id 0 0 0] []),(ap 7,.fn 202 [aI id 0 0 0] []),(ap 8,.fn 159 [aI id 0 0 0] [])]
theorem O1(id:Nat)(op:Int):lookup (ap op) (u0 id)=some (if 1≤op∧op≤8 then some (ZL id op) else none):=by
 unfold u0 ZL;by_cases h:1≤op∧op≤8
 ·rw[if_pos h];have:op=1∨op=2∨op=3∨op=4∨op=5∨op=6∨op=7∨op=8:=by omega
  rcases this with rfl|rfl|rfl|rfl|rfl|rfl|rfl|rfl<;>rfl
 rw[if_neg h];have a:¬1=op:=by omega
 have b:¬2=op:=by omega
 have c:¬3=op:=by omega
 have d:¬4=op:=by omega
 have e:¬5=op:=by omega
 have f:¬6=op:=by omega
 have g:¬7=op:=by omega
 have i:¬8=op:=by omega
 simp[lookup,qK,fa a,fa b,fa c,fa d,fa e,fa f,fa g,fa i]
def lc(N:Nat)(ks:List (iG Int))(n:cJ):Option (iG Int):=
 if n.op=1 then (if Hn n then some ⟨n.bk,n.ac⟩ else none)
 else (ks[n.l.toNat]?).bind fun a=>
  if n.op=2 then (ks[n.r.toNat]?).bind fun b=>if jq n.cond (a.l++b.l) then some ⟨false,a.l++b.l⟩ else none
  else if n.op=3 then (if jq n.cond a.l then some a else none)
  else if n.op=4 then (if vg n a.l&&n.ah.all (fun g=>(Cz a.l g).1) then some ⟨false,(n.keys.map fun x=>a.l.getD x.toNat 0)++n.ah.map (vb a.l)⟩ else none)
  else if n.op=5 then (if decide (1≤n.items.length)&&decide (n.items.length≤16)&&n.items.all (fun e=>(eG e.l a.l).2==0) then some ⟨false,n.items.map fun e=>(eG e.l a.l).1⟩ else none)
  else if n.op=6 then some a
  else if n.op=7 then (ks[n.r.toNat]?).bind fun b=>if a.l.length=b.l.length then (jw a.l b.l).map fun r=>⟨false,r⟩ else none
  else if n.op=8 then (if Js n a.l&&decide (ks.length+1=N) then some a else none)
  else none
def ZC(call:Option (aq×aw))(σ:aw)(o:Option (iG Int)):Prop:=∃b l X,call=some (fb [.aa b (cV l),aC o.isSome],σ++X)∧∀r,o=some r→r=⟨b,l⟩
theorem p9{call:Option (aq×aw)}{σ:aw}{b:Bool}{l:List Int}{X:aw}{t:Bool}(h:call=some (fb [.aa b (cV l),aC t],σ++X)):ZC call σ (if t then some ⟨b,l⟩ else none):=by
 refine⟨b,l,X,?_,?_⟩
 ·rw[h];cases t<;>rfl
 intro r a;cases t with
 |true=>simpa using a.symm
 |false=>cases a
theorem AtL.snapped{σ:aw}{id g i:Nat}{a:Bool}{b:List cJ}{ep:Nat}{ks:List (iG Int)}{f:Nat}{fs:List Nat}(h:AtL σ id g i a b ep ks f fs):fz true false 0 σ 20 (aI id 0 0 0)=.cptr true (uN a b true ks true fs) 0:=by
 obtain⟨c,d,e⟩:=h;have j:List.take ks.length (ks.map (iG.c (.int .i64)))=ks.map (iG.c (.int .i64)):=ay (by simp);have k:List.take fs.length (pM fs)=pM fs:=ay (by simp);simp[c,d,e,j,k]
theorem WT{σ:aw}{id U V:Nat}{C:Bool}{k:List cJ}{ep:Nat}{ks:List (iG Int)}{M:Nat}{fs:List Nat}(h:AtL σ id U V C k ep ks M fs)(n:cJ)(y:uw n)(T:1≤n.op∧n.op≤8)
  {fs0:List Nat} (z:(fI n ks.length fs0).2=true) (I:∀f∈fs0,f≤ks.length) (Q:fs0.length=ks.length) (o:∀a∈ks,a.l.length≤16) (H:ks.length≤8000) (J:k.length≤8000):ZC (jh code (ZL id n.op) [n.a] σ) σ (lc k.length ks n):=by
 have B:uX≤bD:=by decide
 have E:∀base σ m,fz true false base σ (m+3) n.a=n.a:=fun base σ m=>Ft.ft true false base σ m n rfl;have s:=h.snapped;have at1:n.op=3∨n.op=4∨n.op=5∨n.op=6∨n.op=8→∃p:Nat,∃a,n.l=(p:Int)∧ks[p]?=some a:=fun u=>by
  unfold fI at z;rw[if_neg (by unfold iq;rw[if_neg (by omega)];split<;>omega),if_pos (by unfold iq;rw[if_neg (by omega),if_neg (by omega)])]at z;split at z
  ·cases z
  rename_i A;have N:ks.length≠0:=fun K=>A (.inr (.inr K));have O:n.l=(ks.length:Int)-1:=by
   by_cases v:n.l=(ks.length:Int)-1
   ·exact v
   exact absurd (.inl v) A
  exact⟨ks.length-1,ks[ks.length-1]'(by omega),by omega,au _⟩
 have at2:n.op=2∨n.op=7→∃p q:Nat,∃a b,n.l=(p:Int)∧n.r=(q:Int)∧ks[p]?=some a∧ks[q]?=some b:=fun u=>by
  unfold fI at z;rw[if_neg (by unfold iq;rw[if_neg (by omega),if_pos u];omega),if_neg (by unfold iq;rw[if_neg (by omega),if_pos u];omega)]at z;split at z
  ·cases z
  rename_i A;have N:ks.length≠0:=fun K=>A (.inr (.inl K));have O:n.r=(ks.length:Int)-1:=by
   by_cases v:n.r=(ks.length:Int)-1
   ·exact v
   exact absurd (.inl v) A
  have W:0≤n.l:=by
   by_cases v:n.l<0
   ·exact absurd (.inr (.inr (.inr v))) A
   omega
  have Z:n.l=((fs0.getD (ks.length-1) 0:Nat):Int)-1:=by
   by_cases v:n.l=((fs0.getD (ks.length-1) 0:Nat):Int)-1
   ·exact v
   exact absurd (.inr (.inr (.inl v))) A
  have h4:fs0.getD (ks.length-1) 0≤ks.length:=by
   have:ks.length-1<fs0.length:=by omega
   rw[aS,au this];exact I _ (aJ this)
  exact⟨n.l.toNat,ks.length-1,ks[n.l.toNat]'(by omega),ks[ks.length-1]'(by omega),by omega,by omega,au _,au _⟩
 have:n.op=1∨n.op=2∨n.op=3∨n.op=4∨n.op=5∨n.op=6∨n.op=7∨n.op=8:=by omega
 rcases this with c|c|c|c|c|c|c|c
 ·have j:=NE (aI id 0 0 0) n σ (bH y.ac B);have e:lc k.length ks n=if Hn n then some ⟨n.bk,n.ac⟩ else none:=by unfold lc;rw[if_pos c]
  rw[e,show ZL id n.op=.fn 80 [aI id 0 0 0] [] by rw[c];rfl];exact p9 j
 ·obtain⟨p,q,a,b,i,u,d,l⟩:=at2 (.inl c);have t:=o _ (aN d);have R:=o _ (aN l);have j:=Rl true C k true ks true fs n p q i u a b d l (bH y.cond B) (by unfold bD;omega);have e:lc k.length ks n=if jq n.cond (a.l++b.l) then some ⟨false,a.l++b.l⟩ else none:=by unfold lc;simp[c,i,u,d,l]
  rw[e,show ZL id n.op=.fn 199 [aI id 0 0 0] [] by rw[c];rfl];refine p9 (X:=[]) ?_;simp[s,E,j]
 ·obtain⟨p,a,i,d⟩:=at1 (.inl c);have t:=o _ (aN d);have j:=JA h n p i a d (bH y.cond B) (by unfold bD;omega);have e:lc k.length ks n=if jq n.cond a.l then some a else none:=by unfold lc;simp[c,i,d]
  rw[e,show ZL id n.op=.fn 91 [aI id 0 0 0] [] by rw[c];rfl];exact p9 j
 ·obtain⟨p,a,i,d⟩:=at1 (.inr (.inl c));have t:=o _ (aN d);have j:=Pe true C k true ks true fs n p i a d y.keys y.ah (fun g D=>bH (y.args g D) B) (by unfold bD;omega);rw[show ZL id n.op=.fn 200 [aI id 0 0 0] [] by rw[c];rfl];by_cases D:vg n a.l=true
  ·rw[if_pos D]at j;have e:lc k.length ks n=if n.ah.all (fun g=>(Cz a.l g).1) then some ⟨false,(n.keys.map fun x=>a.l.getD x.toNat 0)++n.ah.map (vb a.l)⟩ else none:=by unfold lc;simp[c,i,d,D]
   rw[e];refine p9 (X:=[]) ?_;simp only[dK];rw[aiQ,ako];simp only[bY,bX,dK,aV,bm,GN,s,E,j,dJ]
  rw[if_neg D]at j;have e:lc k.length ks n=if false then some ⟨false,[]⟩ else none:=by unfold lc;simp[c,i,d,D]
  rw[e];refine p9 (X:=[]) ?_;simp[s,E,j]
 ·obtain⟨p,a,i,d⟩:=at1 (.inr (.inr (.inl c)));have t:=o _ (aN d);have j:=Jt true C k true ks true fs n p i a d (bH y.items B) (fun e P=>bH (y.exprs e P) B) (by unfold bD;omega);have e:lc k.length ks n=if decide (1≤n.items.length)&&decide (n.items.length≤16)&&n.items.all (fun e=>(eG e.l a.l).2==0) then some ⟨false,n.items.map fun e=>(eG e.l a.l).1⟩ else none:=by unfold lc;simp[c,i,d]
  rw[e,show ZL id n.op=.fn 106 [aI id 0 0 0] [] by rw[c];rfl];refine p9 (X:=[]) ?_;rw[aiQ,am7];simp only[bY,bX,dK,aV,bm,GN,s,E,j,dJ]
 ·obtain⟨p,a,i,d⟩:=at1 (.inr (.inr (.inr (.inl c))));have j:=FV h n p i a d;have e:lc k.length ks n=if true then some a else none:=by unfold lc;simp[c,i,d]
  rw[e,show ZL id n.op=.fn 201 [aI id 0 0 0] [] by rw[c];rfl];exact p9 j
 ·obtain⟨p,q,a,b,i,u,d,l⟩:=at2 (.inr c);have t:=o _ (aN d);rw[show ZL id n.op=.fn 202 [aI id 0 0 0] [] by rw[c];rfl];by_cases F:a.l.length=b.l.length
  ·obtain⟨L,j,S⟩:=OW true C k true ks true fs n p q i u a b d l (by unfold bD;omega) F;have e:lc k.length ks n=(jw a.l b.l).map fun r=>⟨false,r⟩:=by unfold lc;simp[c,i,u,d,l,F]
   rw[e];refine⟨false,L,[],?_,?_⟩
   ·rw[aiQ,ank];simp only[bY,bX,dK,aV,bm,GN,s,E,j,dJ,Option.isSome_map]
   intro r G;cases hu:jw a.l b.l with
   |none=>rw[hu]at G;cases G
   |some w=>
    rw[hu]at G;cases G;rw[S w hu]
  have j:=Sw true C k true ks true fs n p q i u a b d l F;have e:lc k.length ks n=if false then some ⟨false,[]⟩ else none:=by unfold lc;simp[c,i,u,d,l,F]
  rw[e];refine p9 (X:=[]) ?_;simp[s,E,j]
 obtain⟨p,a,i,d⟩:=at1 (.inr (.inr (.inr (.inr c))));have t:=o _ (aN d);obtain⟨X,Y,j⟩:=Lo h n p i a d (bH y.ords B) (by unfold bD;omega) H J;have e:lc k.length ks n=if Js n a.l&&decide (ks.length+1=k.length) then some a else none:=by unfold lc;simp[c,i,d]
 rw[e,show ZL id n.op=.fn 159 [aI id 0 0 0] [] by rw[c];rfl];exact p9 j
def oO(N:Nat)(n:cJ)(ks:List (iG Int))(fs:List Nat):Option (iG Int×Nat):=
 if (decide (1≤n.op)&&decide (n.op≤8)&&ir n&&(fI n ks.length fs).2)=false then none else
 match lc N ks n with
 |none=>none
 |some r=>if 16<r.l.length then none else some (r,(fI n ks.length fs).1.toNat)
def iz(N:Nat)(k:Nat)(n:cJ)(s:List (iG Int)×List Nat):(List (iG Int)×List Nat)⊕Nat:=match oO N n s.1 s.2 with
 |some r=>.inl (s.1++[r.1],s.2++[r.2])
 |none=>.inr k
abbrev ad5(L:Nat)(bn:Bool)(ns:List cJ):List aq:=
 [aH [.aa bn (ns.map cJ.a)],aI L 0 0 0,aI (L+1) 0 0 0,aI (L+2) 0 0 0,aI (L+3) 0 0 0,aI (L+5) 0 0 0,ap ns.length,am,am,aC false,.fn 79 [] [aI (L+6) 0 0 0],am,am,am]
abbrev stL(L:Nat)(P:aw)(bn:Bool)(ns:List cJ)(r2 r3 r4:aq)(ep:Nat)(kc:List aq)(ef:Nat)(fc:List aq)(o:Obj):aw:=
 P++[aB 1 0 [aH [.aa bn (ns.map cJ.a)]],aB 1 0 [r2],aB 1 0 [r3],aB 1 0 [r4],aB 3 0 [aH [.aa bn (ns.map cJ.a),.sl (L+7) ep 0 kc.length,.sl (L+8) ef 0 fc.length]],aB 1 0 [aI (L+4) 0 0 0],aB 1 0 [aI (L+4) 0 0 0],aB 1 ep kc,aB 1 ef fc,o]
theorem TB(L:Nat)(P:aw)(i:(L=1∧∃a,P=[aB 1 0 [a]])∨(L=2∧∃a b,P=[aB 1 0 [a],aB 1 0 [b]]))(c:Bool)(d:List cJ)(k:Nat)(ok:Bool)(ep:Nat)(h:List aq)(e:Nat)(f:List aq)(X:aw) :
  cD code 35 (.frs (L+9) []::(ad5 L c d++[ap k,aC ok])) (stL L P c d .nilp (ap 0) (aC false) ep h e f (.pend false none)++X) =
   some (aC ok,if ok then stL L P c d .nilp (ap 0) (aC false) ep h e f (.pend false none)++X else stL L P c d (aI (L+4) 0 0 0) (ap k) (aC false) ep h e f (.pend false (some .ret))++X):=by
 rw[EQ good (g:=qG) rfl];rcases i with⟨rfl,a,rfl⟩|⟨rfl,a,b,rfl⟩
 all_goals
  cases ok
  ·simp[qG,sB,ud,sH,sg,lF]
  simp[qG,sB,ud,sH,sg,lF]
end Go.AM
namespace Go.AM
open P
set_option maxHeartbeats 64000000
set_option maxRecDepth 40000

end Go.AM
namespace Go.AM
open P
set_option maxHeartbeats 2000000
set_option maxRecDepth 4000
end Go.AM
namespace Go.AM
open P
set_option maxHeartbeats 64000000
set_option maxRecDepth 40000
attribute [local simp] aG bj
def Nt(r:Pr):aq:=.aa false (r.map wC.a)
instance:Nc Nt 1 false:=⟨fun _=>rfl,fun _=>rfl⟩
instance:Fx Nt:=⟨fun fl top base σ n y=>by simp[Nt]⟩
@[simp] theorem apb(r:Pr):aM (Nt r)=1:=rfl
@[simp] theorem ann(r:Pr):isAgg (Nt r)=false:=rfl
instance:Nc (iG.c Nt) 1 false:=⟨fun _=>rfl,fun _=>rfl⟩

instance:Nc (aq.int .u8) 1 false:=⟨fun _=>rfl,fun _=>rfl⟩
instance:Fx (aq.int .u8):=⟨fun _ _ _ _ _ _=>rfl⟩
instance:Nc (fun (c:UInt8)=>aq.int .u8 (c.toNat:Int)) 1 false:=⟨fun _=>rfl,fun _=>rfl⟩
instance:Fx (fun (c:UInt8)=>aq.int .u8 (c.toNat:Int)):=⟨fun _ _ _ _ _ _=>rfl⟩



@[simp] theorem apj(l a:Nat)(env args:List aq)(σ:aw):jh code (.yld l a env) args σ=if pt σ l then cD code a (.frs l []::env++args) σ else none:=rfl
@[simp] theorem ajH(l:Nat)(env:List aq)(r:aq×aw):Uo l env (some r)=sK l env r.2:=rfl
def aiE(g:Pr×al0):aq:=aH [Nt g.1,.aa false (g.2.map Nt)]
instance:Nc aiE 2 true:=⟨fun _=>rfl,fun _=>rfl⟩
instance:Fx aiE:=⟨fun fl top base σ n y=>by
 cases fl<;>simp[aiE,Nt]⟩

theorem Qm(fl top:Bool)(base:Nat)(σ:aw)(n l s:Nat)(e:List aq):fz fl top base σ (n+1) (.yld l s e)=if (decide (l<base)&&top)=true then .yld l s (e.map (fz fl top base σ n)) else am:=by
 simp only[fz]
abbrev Mt(L:Nat)(bn:Bool)(ns:List cJ)(k:Nat)(c:aq):List aq:=
 [.yld (L+9) 35 (ad5 L bn ns),aI (L+6) 0 0 0,.mp (L+10),am,am,am,am,am,am,am,.aa bn (ns.map cJ.a),ap ns.length,ap k,c,am,am,am]
abbrev stA(L:Nat)(P:aw)(bn:Bool)(ns:List cJ)(k:Nat)(ks:List (iG Int))(fs:List Nat):aw:=
 stL L P bn ns .nilp (ap 0) (aC false) k (ks.map (iG.c (.int .i64))) k (pM fs) (.pend false none)++[.map (u0 (L+4))]
theorem UT(id base:Nat)(σ:aw)(h:id<base):(u0 id).map (fun e=>(e.1,fz false true base σ 20 e.2))=u0 id:=by
 simp[u0,h]
def Lj(L:Nat)(P:aw)(bn:Bool)(ns:List cJ)(k:Nat)(τ:aw):Prop:=
 ∃ep kc ef fc X,τ=stL L P bn ns (aI (L+4) 0 0 0) (ap k) (aC false) ep kc ef fc (.pend false (some .ret))++X
theorem aiX(L:Nat)(P:aw)(C:(L=1∧∃a,P=[aB 1 0 [a]])∨(L=2∧∃a b,P=[aB 1 0 [a],aB 1 0 [b]]))(N:∀x,aB 1 0 [x]∈P→∀base σ m,fz false true base σ (m+3) x=x)(p:Bool)(i:List cJ)(hN:∀n∈i,uw n)(hl:i.length≤60) :
  match dt (iz i.length) i 0 ([],[]) with
  |.inl s=>(s.1.length=i.length∧s.2.length=i.length)∧bT code (L+11) [3,4,5,6,7,8,9,13,14,15,16] pd ⟨Mt L p i 0 .any,stA L P p i 0 [] []⟩=some (.ext 0,⟨Mt L p i i.length (.bool false),stA L P p i i.length s.1 s.2⟩)
  |.inr k=>∃env τ,bT code (L+11) [3,4,5,6,7,8,9,13,14,15,16] pd ⟨Mt L p i 0 .any,stA L P p i 0 [] []⟩=some (.ret,⟨env,τ⟩)∧Lj L P p i k τ:=by
 have hm:i.length≤bD:=by unfold bD;omega
 have key:=iL (base:=L+11) (clr:=[3,4,5,6,7,8,9,13,14,15,16]) (b:=pd) i
  (fun k (s:List (iG Int)×List Nat)=>⟨Mt L p i k am,stA L P p i k s.1 s.2⟩)
  (fun k s=>(s.1.length=k∧s.2.length=k)∧(∀f∈s.2,f≤k)∧∀a∈s.1,a.l.length≤16) (iz i.length)
  (fun s=>(.ext 0,⟨Mt L p i i.length (aC false),stA L P p i i.length s.1 s.2⟩))
  (fun (k:Nat) o=>∃env τ,o=(.ret,⟨env,τ⟩)∧Lj L P p i k τ)
  (fun k n s hk I hs=>by
   obtain⟨ks,fs⟩:=s;obtain⟨⟨c,d⟩,z,O⟩:=hs;simp only at c d z O;have K:((k:Int)<(i.length:Int)):=by omega
   have n1:∀base σ m,fz true false base σ (m+3) n.a=n.a:=fun base σ m=>Ft.ft true false base σ m n rfl;have n3:aM n.a=12∧isAgg n.a=true:=⟨rfl,rfl⟩;have R:(cellsOf n.a)[0]?=some (ap n.op):=rfl;have t:k+1≤bD:=by unfold bD;omega
   have j:=O1 (L+4) n.op;have T:=Ry n;have y:=fun σ=>VV n 0 σ 17;have F:=Ru n;have ab:=hN n (aN I);have W:=fun ep kc U V X=>TB L P C p i k true ep kc U V X;have E:=fun ep kc U V X=>TB L P C p i k false ep kc U V X;have u:List.take k (ks.map (iG.c (.int .i64)))=ks.map (iG.c (.int .i64)):=ay (by simp[c]);have A:List.take k (pM fs)=pM fs:=ay (by simp[d]);unfold iz oO;simp only;by_cases M:1≤n.op∧n.op≤8
   ·rw[if_pos M]at j;rw[Z0 M]at F;have d1:decide (1≤n.op)=true:=qR M.1;have d2:decide (n.op≤8)=true:=qR M.2;rw[d1,d2];cases c2:ir n with
    |false=>
     rw[c2]at F;have J:=E (k+1) (ks.map (iG.c (.int .i64))++[.ai]) k (pM fs) [.map (u0 (L+4)),aB 12 0 [n.a],aB 12 0 [(aH (nA n))],aB 12 0 [(aH (nA n))]];rcases C with⟨g,a,rfl⟩|⟨g,a,b,rfl⟩
     all_goals
      simp only[g,Nat.reduceAdd]at j;simp[c,d,g]at J;exact⟨_,by simp[pd,g,K,I,n3,R,lX,j,c,d,append,t,u,T,y,F,J,pt];rfl,_,_,rfl,k+1,ks.map (iG.c (.int .i64))++[.ai],k,pM fs,[.map (u0 (L+4)),aB 12 0 [n.a],aB 12 0 [(aH (nA n))],aB 12 0 [(aH (nA n))]],rfl⟩
    |true=>
     rw[c2]at F;have q:=SG true p i true ks true fs k n I d z (by omega);cases c3:(fI n k fs).2 with
     |false=>
      rw[c3]at q;rw[c,c3];have J:=E (k+1) (ks.map (iG.c (.int .i64))++[.ai]) (k+1) (pM fs++[ap (fI n k fs).1]) [.map (u0 (L+4)),aB 12 0 [n.a],aB 12 0 [(aH (nA n))],aB 12 0 [(aH (nA n))]];rcases C with⟨g,a,rfl⟩|⟨g,a,b,rfl⟩
      all_goals
       simp only[g,Nat.reduceAdd]at j;simp[c,d,g]at J;exact⟨_,by simp[pd,g,K,I,n3,R,lX,j,c,d,append,t,u,A,T,y,F,q,J,pt];rfl,_,_,rfl,k+1,ks.map (iG.c (.int .i64))++[.ai],k+1,pM fs++[ap (fI n k fs).1],[.map (u0 (L+4)),aB 12 0 [n.a],aB 12 0 [(aH (nA n))],aB 12 0 [(aH (nA n))]],rfl⟩
     |true=>
      rw[c3]at q;rw[c,c3];obtain⟨Z,ae⟩:=Wi d z c3;rw[Z]at q;generalize (fI n k fs).1.toNat=f at *;have Y:AtL (stL L P p i .nilp (ap 0) (aC false) k (ks.map (iG.c (.int .i64))) (k+1) (pM (fs++[f])) (.pend false none)++[.map (u0 (L+4)),aB 12 0 [n.a],aB 12 0 [aH (nA n)],aB 12 0 [aH (nA n)]]) (L+4) (L+7) (L+8) p i k ks (k+1) (fs++[f]):=by
       rcases C with⟨g,a,rfl⟩|⟨g,a,b,rfl⟩
       all_goals
        subst g;exact⟨by simp only[stL,df];rfl,rfl,rfl⟩
      obtain⟨S,l,X,D,hr⟩:=WT Y n ab M (fs0:=fs) (by rw[c];exact c3) (by rw[c];exact z) (by rw[c];exact d) O (by omega) (by omega);have af:(cV l).length=l.length:=by simp
      have ag:aM (.aa S (cV l))=1∧isAgg (.aa S (cV l))=false:=⟨rfl,rfl⟩;have v:=E (k+1) (ks.map (iG.c (.int .i64))++[.aa S (cV l)]) (k+1) (pM (fs++[f])) (.map (u0 (L+4))::aB 12 0 [n.a]::aB 12 0 [aH (nA n)]::aB 12 0 [aH (nA n)]::X);have w:=W (k+1) (ks.map (iG.c (.int .i64))++[.aa S (cV l)]) (k+1) (pM (fs++[f])) (.map (u0 (L+4))::aB 12 0 [n.a]::aB 12 0 [aH (nA n)]::aB 12 0 [aH (nA n)]::X);cases hA:lc i.length ks n with
      |none=>
       rw[hA]at D;simp only[jI,Bool.true_eq_false,cH];rcases C with⟨g,a,rfl⟩|⟨g,a,b,rfl⟩
       all_goals
        simp only[g,Nat.reduceAdd]at j;simp[c,d,g]at v D;exact⟨_,by simp[pd,g,K,I,n3,R,lX,j,c,d,append,t,u,A,T,y,F,q,D,v,pt];rfl,_,_,rfl,k+1,ks.map (iG.c (.int .i64))++[.aa S (cV l)],k+1,pM (fs++[f]),.map (u0 (L+4))::aB 12 0 [n.a]::aB 12 0 [aH (nA n)]::aB 12 0 [aH (nA n)]::X,rfl⟩
      |some r=>
       obtain rfl:=hr r hA;rw[hA]at D;simp only;by_cases hw:16<l.length
       ·have H:¬((l.length:Int)≤16):=by omega
        rw[if_pos hw];rcases C with⟨g,a,rfl⟩|⟨g,a,b,rfl⟩
        all_goals
         simp only[g,Nat.reduceAdd]at j;simp[c,d,g]at v D;exact⟨_,by simp[pd,g,K,I,n3,R,lX,j,c,d,append,t,u,A,T,y,F,q,D,H,v,pt];rfl,_,_,rfl,k+1,ks.map (iG.c (.int .i64))++[.aa S (cV l)],k+1,pM (fs++[f]),.map (u0 (L+4))::aB 12 0 [n.a]::aB 12 0 [aH (nA n)]::aB 12 0 [aH (nA n)]::X,rfl⟩
       have H:((l.length:Int)≤16):=by omega
       rw[if_neg hw];refine⟨?_,⟨by simp[c],by simp[d]⟩,?_,?_⟩
       ·have G:=fun base σ h=>UT (L+4) base σ h;rcases C with⟨g,a,rfl⟩|⟨g,a,b,rfl⟩
        ·have Q:=N a (by simp);simp only[g,Nat.reduceAdd]at j G;simp[c,d,g]at w D;simp[Mt,pd,g,K,I,n3,R,lX,j,c,d,append,t,u,A,T,y,F,q,D,H,w,pt,bN,bA,Qm,Q,G,cU hk hm]
        have Q:=N a (by simp);have ad:=N b (by simp);simp only[g,Nat.reduceAdd]at j G;simp[c,d,g]at w D;simp[Mt,pd,g,K,I,n3,R,lX,j,c,d,append,t,u,A,T,y,F,q,D,H,w,pt,bN,bA,Qm,Q,ad,G,cU hk hm]
       ·intro x B;rcases ba.1 B with B|B
        ·exact Nat.le_succ_of_le (z x B)
        rw[aP.1 B];omega
       intro x B;rcases ba.1 B with B|B
       ·exact O x B
       rw[aP.1 B];simp;omega
   rw[if_neg M]at j;have e:(decide (1≤n.op)&&decide (n.op≤8)&&ir n&&(fI n ks.length fs).2)=false:=by
    by_cases h:1≤n.op
    ·have:¬n.op≤8:=fun h'=>M ⟨h,h'⟩;simp[this]
    simp[h]
   rw[if_pos e];have J:=E (k+1) (ks.map (iG.c (.int .i64))++[.ai]) k (pM fs) [.map (u0 (L+4)),aB 12 0 [n.a]];rcases C with⟨g,a,rfl⟩|⟨g,a,b,rfl⟩
   all_goals
    simp only[g,Nat.reduceAdd]at j;simp[c,d,g]at J;exact⟨_,by simp[pd,g,K,I,n3,R,lX,j,c,d,append,t,u,J,pt];rfl,_,_,rfl,k+1,ks.map (iG.c (.int .i64))++[.ai],k,pM fs,[.map (u0 (L+4)),aB 12 0 [n.a]],rfl⟩)
  (fun s hs=>by
   rcases C with⟨rfl,a,rfl⟩|⟨rfl,a,b,rfl⟩
   all_goals simp[pd]) ([],[]) ⟨⟨rfl,rfl⟩,by simp,by simp⟩
 simp only[show ((0:Nat):Int)=0 from rfl]at key;cases hf:dt (iz i.length) i 0 ([],[]) with
 |inl s=>
  rw[hf]at key;exact⟨key.1.1,key.2⟩
 |inr k=>
  rw[hf]at key;obtain⟨o,h1,env,τ,rfl,h2⟩:=key;exact⟨env,τ,h1,h2⟩
def lookF(ns:List cJ):Option (List (iG Int)×List Nat):=
 if ns.length<1∨60<ns.length then none else match dt (iz ns.length) ns 0 ([],[]) with
 |.inl s=>if s.2.getD (ns.length-1) 0=0 then some s else none
 |.inr _=>none
abbrev stE(L:Nat)(P:aw)(bn:Bool)(ns:List cJ)(s:List (iG Int)×List Nat)(t:Bool):aw:=
 stL L P bn ns (aI (L+4) 0 0 0) (ap ((ns.length:Int)-1)) (aC t) ns.length (s.1.map (iG.c (.int .i64))) ns.length (pM s.2) .dead++[.map (u0 (L+4))]
theorem Ps(id:Nat)(N:aq)(σ:aw)(h:σ[id]?=some (aB 3 0 [aH [N,.ai,.ai]])) :
  cD code I.qdh [aI id 0 0 0] σ=some (.fn 79 [] [aI σ.length 0 0 0],(σ.set id (aB 3 0 [aH [N,.sl (σ.length+1) 0 0 0,.sl (σ.length+2) 0 0 0]]))++[aB 1 0 [aI id 0 0 0],aB 1 0 [],aB 1 0 []]):=by
 rw[cz amP rfl];have a:=(ak.1 h).1;have b:(σ++[aB 1 0 [aI id 0 0 0]])[id]?=some (aB 3 0 [aH [N,.ai,.ai]]):=by rw[aQ a,h]
 have c:∀X t,(σ.set id X++t)[id]?=some X:=fun X t=>by rw[aQ (by simpa using a)];simp[a]
 simp[atA,aho,h,b,c,a]
theorem Ek(L:Nat)(P:aw)(g:(L=1∧∃a,P=[aB 1 0 [a]])∨(L=2∧∃a b,P=[aB 1 0 [a],aB 1 0 [b]]))(h:∀x,aB 1 0 [x]∈P→∀base σ m,fz false true base σ (m+3) x=x)(e:Bool)(c:List cJ)(l:∀n∈c,uw n)(j:c.length≤60) :
  match dt (iz c.length) c 0 ([],[]) with
  |.inl s=>(s.1.length=c.length∧s.2.length=c.length)∧cD code 79 [.yld (L+9) 35 (ad5 L e c),.ptr (L+6) 0 0 0] (stL L P e c .nilp (.int .i64 0) (.bool false) 0 [] 0 [] (.pend false none))=some (.tup [],stA L P e c c.length s.1 s.2)
  |.inr k=>∃τ,cD code 79 [.yld (L+9) 35 (ad5 L e c),.ptr (L+6) 0 0 0] (stL L P e c .nilp (.int .i64 0) (.bool false) 0 [] 0 [] (.pend false none))=some (.tup [],τ)∧Lj L P e c k τ:=by
 have d:=aiX L P g h e c l j;cases hf:dt (iz c.length) c 0 ([],[]) with
 |inl s=>
  rw[hf]at d;obtain⟨i,d⟩:=d;refine⟨i,?_⟩;rw[cz agy rfl];rcases g with⟨f,a,rfl⟩|⟨f,a,b,rfl⟩
  all_goals
   subst f;simp[Mt,u0]at d;simp[atm,YC,lX,mput,qK,u0,d]
 |inr k=>
  rw[hf]at d;obtain⟨env,τ,d,o⟩:=d;refine⟨τ,?_,o⟩;rw[cz agy rfl];rcases g with⟨f,a,rfl⟩|⟨f,a,b,rfl⟩
  all_goals
   subst f;simp[Mt,u0]at d;simp[atm,YC,lX,mput,qK,u0,d]
theorem adU(L:Nat)(P:aw)(o:(L=1∧∃a,P=[aB 1 0 [a]])∨(L=2∧∃a b,P=[aB 1 0 [a],aB 1 0 [b]]))(i:∀x,aB 1 0 [x]∈P→∀base σ m,fz false true base σ (m+3) x=x)(g:Bool)(c:List cJ)(y:∀n∈c,uw n)
  (G:0<c.length) (v:c.length≤60) (s:List (iG Int)×List Nat) (z:dt (iz c.length) c 0 ([],[])=.inl s) :
  cD code I.qdw [aH [.aa g (c.map cJ.a)]] P=some (fb [aI (L+4) 0 0 0,ap ((c.length:Int)-1),aC (s.2.getD (c.length-1) 0==0)],stE L P g c s (s.2.getD (c.length-1) 0==0)):=by
 rw[cz Zc rfl];have q:¬((c.length:Int)<1):=by omega
 have r:¬(60<(c.length:Int)):=by omega
 have H:c.length≤bD:=by unfold bD;omega
 have d:=Ek L P o i g c y v;rw[z]at d;obtain⟨⟨t,u⟩,d⟩:=d;have A:=pT (n:=(c.length:Int)-1) (by omega) (by omega);have B:(0:Int)≤(c.length:Int)-1:=by omega
 have C:((c.length:Int)-1).toNat=c.length-1:=by omega
 have D:((c.length:Int)-1<(c.length:Int)):=by omega
 have E:(1:Int)≤(c.length:Int):=by omega
 have p:c.length-1<s.2.length:=by omega
 have F:c.length-1<c.length:=by omega
 obtain⟨ks,fs⟩:=s;simp only at *;have e:fs[c.length-1]?=some (fs.getD (c.length-1) 0):=by simp[aS,p]
 have k:∀h:c.length-1<fs.length,fs[c.length-1]'h=fs.getD (c.length-1) 0:=fun h=>(ak.1 e).2;generalize fs.getD (c.length-1) 0=f at *;have w:=fun id σ h=>Ps id (.aa g (c.map cJ.a)) σ h;have j:((f:Int)==0)=(f==0):=by rw[eL,aX,aX];omega
 rcases o with⟨l,a,rfl⟩|⟨l,a,b,rfl⟩
 all_goals
  subst l;simp at d;simp[asd,NV,q,r,w,d,sK,A,B,C,D,E,p,F,e,k,t,u,j]
theorem VO(L:Nat)(P:aw)(i:(L=1∧∃a,P=[aB 1 0 [a]])∨(L=2∧∃a b,P=[aB 1 0 [a],aB 1 0 [b]]))(f:∀x,aB 1 0 [x]∈P→∀base σ m,fz false true base σ (m+3) x=x)(e:Bool)(c:List cJ)(q:∀n∈c,uw n)
  (u:0<c.length) (o:c.length≤60) (k:Nat) (r:dt (iz c.length) c 0 ([],[])=.inr k) :
  ∃τ,cD code I.qdw [aH [.aa e (c.map cJ.a)]] P=some (fb [aI (L+4) 0 0 0,ap k,aC false],τ):=by
 rw[cz Zc rfl];have j:¬((c.length:Int)<1):=by omega
 have l:¬(60<(c.length:Int)):=by omega
 have d:=Ek L P i f e c q o;rw[r]at d;obtain⟨τ,d,ep,v,s,t,X,rfl⟩:=d;have p:=fun id σ h=>Ps id (.aa e (c.map cJ.a)) σ h;rcases i with⟨g,a,rfl⟩|⟨g,a,b,rfl⟩
 all_goals
  subst g;simp at d;exact⟨_,by simp[asd,NV,j,l,p,d,sK];rfl⟩
theorem WP(L:Nat)(P:aw)(h:(L=1∧∃a,P=[aB 1 0 [a]])∨(L=2∧∃a b,P=[aB 1 0 [a],aB 1 0 [b]]))(g:Bool)(d:List cJ)(j:d.length<1∨60<d.length) :
  ∃τ,cD code I.qdw [aH [.aa g (d.map cJ.a)]] P=some (fb [aI (L+4) 0 0 0,ap 0,aC false],τ):=by
 rw[cz Zc rfl];rcases h with⟨f,a,rfl⟩|⟨f,a,b,rfl⟩
 all_goals
  subst f;by_cases i:d.length<1
  ·have c:((d.length:Int)<1):=by omega
   exact⟨_,by simp[asd,NV,c];rfl⟩
  have c:¬((d.length:Int)<1):=by omega
  have e:(60<(d.length:Int)):=by omega
  exact⟨_,by simp[asd,NV,c,e];rfl⟩
theorem GO(L:Nat)(P:aw)(i:(L=1∧∃a,P=[aB 1 0 [a]])∨(L=2∧∃a b,P=[aB 1 0 [a],aB 1 0 [b]]))(f:∀x,aB 1 0 [x]∈P→∀base σ m,fz false true base σ (m+3) x=x)(e:Bool)(d:List cJ)(o:∀n∈d,uw n) :
  match lookF d with
  |some s=>(0<d.length∧d.length≤60∧s.1.length=d.length∧s.2.length=d.length)∧cD code I.qdw [.agg [.aa e (d.map cJ.a)]] P=some (.tup [.ptr (L+4) 0 0 0,.int .i64 ((d.length:Int)-1),.bool true],stE L P e d s true)
  |none=>∃k τ,cD code I.qdw [.agg [.aa e (d.map cJ.a)]] P=some (.tup [.ptr (L+4) 0 0 0,.int .i64 k,.bool false],τ):=by
 unfold lookF;by_cases h:d.length<1∨60<d.length
 ·rw[if_pos h];obtain⟨τ,h⟩:=WP L P i e d h;exact⟨_,τ,h⟩
 rw[if_neg h];have l:0<d.length:=by omega
 have g:d.length≤60:=by omega
 cases hf:dt (iz d.length) d 0 ([],[]) with
 |inr k=>
  obtain⟨τ,h⟩:=VO L P i f e d o l g k hf;exact⟨_,τ,h⟩
 |inl s=>
  have j:=adU L P i f e d o l g s hf;have p:=Ek L P i f e d o g;rw[hf]at p;simp only;by_cases c:s.2.getD (d.length-1) 0=0
  ·rw[if_pos c];rw[c]at j;exact⟨⟨l,g,p.1.1,p.1.2⟩,j⟩
  rw[if_neg c];rw[show (s.2.getD (d.length-1) 0==0)=false by simpa using c]at j;exact⟨_,_,j⟩
theorem JT(b:Bool)(a:List cJ)(d:∀n∈a,uw n):∃k,bB I.qcx [aH [.aa b (a.map cJ.a)]]=some (fb [ap k,ap (if (lookF a).isSome then 0 else 230)]):=by
 have h:=GO 1 [aB 1 0 [aH [.aa b (a.map cJ.a)]]] (.inl ⟨rfl,_,rfl⟩) (fun x c base σ m=>by simp at c;rw[c];simp) b a d;cases hl:lookF a with
 |none=>
  rw[hl]at h;obtain⟨k,τ,h⟩:=h;refine⟨k,?_⟩;rw[aR agk rfl];simp[atc,Y2,h]
 |some s=>
  rw[hl]at h;obtain⟨_,h⟩:=h;refine⟨0,?_⟩;rw[aR agk rfl];simp[atc,Y2,h]
theorem Ws(d:Bool)(b:List cJ)(o:∀n∈b,uw n)(s:List (iG Int)×List Nat)(p:lookF b=some s)(q:∀a∈s.1,a.l.length≤16) :
  bB I.qcy [aH [.aa d (b.map cJ.a)]]=some (fb [.aa false (cV (s.1.getD (b.length-1) abg).l),ap 0]):=by
 have h:=GO 1 [aB 1 0 [aH [.aa d (b.map cJ.a)]]] (.inl ⟨rfl,_,rfl⟩) (fun x i base σ m=>by simp at i;rw[i];simp) d b o;rw[p]at h;obtain⟨⟨z,A,k,l⟩,h⟩:=h;rw[aR agc rfl];obtain⟨ks,fs⟩:=s;simp only at *;have r:=pT (n:=(b.length:Int)-1) (by omega) (by omega);have t:(0:Int)≤(b.length:Int)-1:=by omega
 have u:((b.length:Int)-1).toNat=b.length-1:=by omega
 have v:((b.length:Int)-1<(b.length:Int)):=by omega
 have w:(1:Int)≤(b.length:Int):=by omega
 have j:b.length-1<ks.length:=by omega
 have y:b.length-1<b.length:=by omega
 have c:ks[b.length-1]?=some (ks.getD (b.length-1) abg):=by simp[aS,j]
 have f:∀h:b.length-1<ks.length,ks[b.length-1]'h=ks.getD (b.length-1) abg:=fun h=>(ak.1 c).2;have g:=q _ (aN c);generalize ks.getD (b.length-1) abg=a at *;have e:=qD (enc:=.int .i64) a.b a.l (by unfold bD;omega);simp at h;simp[as1,Xs,h,r,t,u,v,w,j,y,c,f,k,l,e]
end Go.AM
namespace Go.AM
open P
set_option maxHeartbeats 64000000
set_option maxRecDepth 40000
structure NS (n:cJ):Prop where
 fit:uw n
 keys:n.keys.length≤8000
 ah:n.ah.length≤8000
 items:n.items.length≤8000
structure NOk (n:cJ):Prop where
 l:n.l<100
 r:n.r<100
 ac:n.ac.length≤8000
 ords:n.ords.length≤8000
theorem QA{N:Nat}{n:cJ}{ks:List (iG Int)}{fs:List Nat}{r:iG Int}{f:Nat}(v:ks.length≤60)(q:∀x∈fs,x≤ks.length)(h:oO N n ks fs=some (r,f)):NOk n∧r.l.length≤16∧f≤ks.length:=by
 unfold oO at h;split at h
 ·cases h
 rename_i d;simp only[kV,not_or,Bool.not_eq_false]at d;obtain⟨⟨⟨w,u⟩,p⟩,b⟩:=d;split at h
 ·cases h
 rename_i y c;split at h
 ·cases h
 cases h;have i:∀j,fs.getD j 0≤ks.length:=fun j=>by
  rw[aS];cases hj:fs[j]? with
  |none=>simp
  |some x=>exact q x (aN hj)
 have e:=p;unfold ir at e;simp only[ax,dL,aX]at e;have s:n.ac.length≤8000:=by
  by_cases d:n.op=1
  ·unfold lc at c;rw[if_pos d]at c;split at c
   ·rename_i k;unfold Hn at k;simp only[ax,bZ]at k;omega
   cases c
  have:=e.1.1.1.1.1;simp at u;rcases this with (h|h)|h
  ·exact absurd h d
  ·omega
  omega
 have t:n.ords.length≤8000:=by
  by_cases o:n.op=8
  ·unfold lc at c;rw[if_neg (by omega)]at c;obtain⟨a,_,c⟩:=aL.1 c;rw[if_neg (by omega),if_neg (by omega),if_neg (by omega),if_neg (by omega),if_neg (by omega),if_neg (by omega),if_pos o]at c;split at c
   ·rename_i k;simp only[ax]at k;have:=k.1;unfold Js at this;simp only[ax,bZ]at this;omega
   cases c
  have:=e.2;rcases this with h|h
  ·exact absurd h o
  omega
 have g:n.l<100∧n.r<100∧(fI n ks.length fs).1.toNat≤ks.length:=by
  unfold fI at b ⊢;split at b
  ·rename_i l;rw[if_pos l];simp at b;simp only;omega
  rename_i l;rw[if_neg l];split at b
  ·rename_i d;rw[if_pos d];split at b
   ·cases b
   rename_i m;rw[if_neg m];have:=i (ks.length-1);simp only;omega
  rename_i d;rw[if_neg d];split at b
  ·cases b
  rename_i m;rw[if_neg m];have:=i (ks.length-1);have:=i n.l.toNat;simp only;omega
 exact⟨⟨g.1,g.2.1,s,t⟩,by omega,g.2.2⟩
theorem GX{N:Nat}:∀(u:List cJ) (i:Nat) (s s':List (iG Int)×List Nat),s.1.length+u.length≤60→(∀x∈s.2,x≤s.1.length)→(∀a∈s.1,a.l.length≤16)→dt (iz N) u i s=.inl s'→s'.1.length=s.1.length+u.length∧(∀a∈s'.1,a.l.length≤16)∧∀n∈u,NOk n
 |[],_,s,s',_,_,c,h=>by simp only[dt]at h;cases h;exact⟨rfl,c,fun n k=>(by cases k)⟩
 |n::u,i,s,s',j,e,c,h=>by
  cases hq:oO N n s.1 s.2 with
  |none=>simp only[dt,iz,hq]at h;cases h
  |some q=>
   simp only[dt,iz,hq]at h;rw[bw]at j;obtain⟨f,g,l⟩:=QA (by omega) e hq
   obtain⟨k1,k2,k3⟩:=GX u _ _ _ (by simp;omega) (fun x b=>by
    simp only[cn,List.length_singleton];rcases ba.1 b with b|b
    ·have:=e x b;omega
    ·rw[aP.1 b];omega) (fun a b=>by
    rcases ba.1 b with b|b
    ·exact c a b
    rw[aP.1 b];exact g) h
   refine⟨by rw[k1];simp;omega,k2,fun m d=>?_⟩;rcases dX.1 d with rfl|d
   ·exact f
   exact k3 m d
theorem wQ{b:List cJ}{s:List (iG Int)×List Nat}(h:lookF b=some s):s.1.length=b.length∧1≤b.length∧(∀a∈s.1,a.l.length≤16)∧∀n∈b,NOk n:=by
 unfold lookF at h;split at h
 ·cases h
 rename_i d;split at h
 ·rename_i e c;split at h
  ·cases h;obtain⟨k1,k2,k3⟩:=GX b 0 _ _ (by simp;omega) (by simp) (by simp) c;exact⟨by simpa using k1,by omega,k2,k3⟩
  cases h
 cases h
def ldK(w:List cJ):List Int:=(((lookF w).bind fun s=>s.1[w.length-1]?).map iG.l).getD []
theorem aeq(w:List cJ):(ldK w).length≤16:=by
 unfold ldK;cases h:lookF w with
 |none=>simp
 |some s=>
  obtain⟨_,_,a,_⟩:=wQ h;cases hq:s.1[w.length-1]? with
  |none=>simp[hq]
  |some r=>simpa [hq] using a r (aN hq)
end Go.AM
namespace Go.AM
open P
set_option maxHeartbeats 64000000
set_option maxRecDepth 40000
attribute [local simp] aG bj
theorem yl{i:Type}{enc:i→aq}[Nc enc 2 true][Fx enc](b:Bool)(l:List i)(k:l.length≤bD):bB I.qgc [.aa b (l.map enc)]=some (.frs 2 (l.map enc)):=by
 cases l with
 |nil=>cases b<;>exact kQ (n:=20) (σ:=[]) (by kernel_rfl)
 |cons v r=>
  have a:=Hv (f:=enc) (v::r);have j:((v::r).map enc).length=r.length+1:=by simp
  have e:jK [] (.aa b ((v::r).map enc))=false:=rfl;unfold bB;rw[kI good agX,e];simp only[bq,cH];unfold me;have d:r.length+1≤bD:=by simpa using k
  have c:ut false [] (.aa b ((v::r).map enc))=some (aC false):=rfl;have h:=ro (f:=enc) (v::r) 0 0 [aB 2 0 ((v::r).map enc)] rfl;have g:(v::r).map enc≠[]:=by simp
  have m:∀x,x∈(v::r).map enc→aM x=2:=fun x g=>by simpa using bd.1 a x g
  have o:((v::r).map enc).take (r.length+1)=(v::r).map enc:=ay (by simp);simp only[bw]at h;generalize (v::r).map enc=xs at *;simp[auQ,agP,enter,qV,append,a,j,d,-ut,c,g];rw[if_pos m];simp[qV];exact h
@[simp] theorem wM{a:Type}{enc:a→aq}[Nc enc 2 true][Fx enc](b:Bool)(l:List a)(c:l.length≤bD)(σ:aw):cD code I.qgc [.aa b (l.map enc)] σ=some (.frs 2 (l.map enc),σ):=by
 rw[tS agX rfl,yl b l c];rfl
theorem uZ{i:Type}{enc:i→aq}[Nc enc 8 true][Fx enc](b:Bool)(l:List i)(k:l.length≤bD):bB I.qga [.aa b (l.map enc)]=some (.frs 8 (l.map enc)):=by
 cases l with
 |nil=>cases b<;>exact kQ (n:=20) (σ:=[]) (by kernel_rfl)
 |cons v r=>
  have a:=Hv (f:=enc) (v::r);have j:((v::r).map enc).length=r.length+1:=by simp
  have e:jK [] (.aa b ((v::r).map enc))=false:=rfl;unfold bB;rw[kI good agC,e];simp only[bq,cH];unfold me;have d:r.length+1≤bD:=by simpa using k
  have c:ut false [] (.aa b ((v::r).map enc))=some (aC false):=rfl;have h:=ro (f:=enc) (v::r) 0 0 [aB 8 0 ((v::r).map enc)] rfl;have g:(v::r).map enc≠[]:=by simp
  have m:∀x,x∈(v::r).map enc→aM x=8:=fun x g=>by simpa using bd.1 a x g
  have o:((v::r).map enc).take (r.length+1)=(v::r).map enc:=ay (by simp);simp only[bw]at h;generalize (v::r).map enc=xs at *;simp[auA,af4,enter,qV,append,a,j,d,-ut,c,g];rw[if_pos m];simp[qV];exact h
@[simp] theorem jY{a:Type}{enc:a→aq}[Nc enc 8 true][Fx enc](b:Bool)(l:List a)(c:l.length≤bD)(σ:aw):cD code I.qga [.aa b (l.map enc)] σ=some (.frs 8 (l.map enc),σ):=by
 rw[tS agC rfl,uZ b l c];rfl
theorem yj{i:Type}{enc:i→aq}[Nc enc 2 true][Fx enc](b:Bool)(l:List i)(k:l.length≤bD):bB I.qfz [.aa b (l.map enc)]=some (.frs 2 (l.map enc)):=by
 cases l with
 |nil=>cases b<;>exact kQ (n:=20) (σ:=[]) (by kernel_rfl)
 |cons v r=>
  have a:=Hv (f:=enc) (v::r);have j:((v::r).map enc).length=r.length+1:=by simp
  have e:jK [] (.aa b ((v::r).map enc))=false:=rfl;unfold bB;rw[kI good agU,e];simp only[bq,cH];unfold me;have d:r.length+1≤bD:=by simpa using k
  have c:ut false [] (.aa b ((v::r).map enc))=some (aC false):=rfl;have h:=ro (f:=enc) (v::r) 0 0 [aB 2 0 ((v::r).map enc)] rfl;have g:(v::r).map enc≠[]:=by simp
  have m:∀x,x∈(v::r).map enc→aM x=2:=fun x g=>by simpa using bd.1 a x g
  have o:((v::r).map enc).take (r.length+1)=(v::r).map enc:=ay (by simp);simp only[bw]at h;generalize (v::r).map enc=xs at *;simp[at5,aeO,enter,qV,append,a,j,d,-ut,c,g];rw[if_pos m];simp[qV];exact h
@[simp] theorem xM{a:Type}{enc:a→aq}[Nc enc 2 true][Fx enc](b:Bool)(l:List a)(c:l.length≤bD)(σ:aw):cD code I.qfz [.aa b (l.map enc)] σ=some (.frs 2 (l.map enc),σ):=by
 rw[tS agU rfl,yj b l c];rfl
theorem wm{i:Type}{enc:i→aq}[Nc enc 1 true][Fx enc](b:Bool)(l:List i)(k:l.length≤bD):bB I.qgb [.aa b (l.map enc)]=some (.frs 1 (l.map enc)):=by
 cases l with
 |nil=>cases b<;>exact kQ (n:=20) (σ:=[]) (by kernel_rfl)
 |cons v r=>
  have a:=Hv (f:=enc) (v::r);have j:((v::r).map enc).length=r.length+1:=by simp
  have e:jK [] (.aa b ((v::r).map enc))=false:=rfl;unfold bB;rw[kI good agt,e];simp only[bq,cH];unfold me;have d:r.length+1≤bD:=by simpa using k
  have c:ut false [] (.aa b ((v::r).map enc))=some (aC false):=rfl;have h:=ro (f:=enc) (v::r) 0 0 [aB 1 0 ((v::r).map enc)] rfl;have g:(v::r).map enc≠[]:=by simp
  have m:∀x,x∈(v::r).map enc→aM x=1:=fun x g=>by simpa using bd.1 a x g
  have o:((v::r).map enc).take (r.length+1)=(v::r).map enc:=ay (by simp);simp only[bw]at h;generalize (v::r).map enc=xs at *;simp[aut,ae2,enter,qV,append,a,j,d,-ut,c,g];rw[if_pos m];simp[qV];exact h
@[simp] theorem vX{a:Type}{enc:a→aq}[Nc enc 1 true][Fx enc](b:Bool)(l:List a)(c:l.length≤bD)(σ:aw):cD code I.qgb [.aa b (l.map enc)] σ=some (.frs 1 (l.map enc),σ):=by
 rw[tS agt rfl,wm b l c];rfl
def va(g:kU):aq:=aH [ap g.tag,.aa false (g.arg.map EN.a)]
def xE(e:yV):aq:=aH [.aa false (e.l.map EN.a)]
instance:Nc va 2 true:=⟨fun _=>rfl,fun _=>rfl⟩
instance:Fx va:=⟨fun fl top base σ n y=>by simp[va]⟩
instance:Nc xE 1 true:=⟨fun _=>rfl,fun _=>rfl⟩
instance:Fx xE:=⟨fun fl top base σ n y=>by simp[xE]⟩
structure nE (n:cJ):Prop where
 ag:∀g∈n.ah,g.b=false
 ex:∀e∈n.items,e.b=false
theorem nE.ags{n:cJ}(h:nE n):n.ah.map kU.a=n.ah.map va:=aU fun g a=>by simp[kU.a,va,h.ag g a]
theorem nE.exs{n:cJ}(h:nE n):n.items.map yV.a=n.items.map xE:=aU fun e a=>by simp[yV.a,xE,h.ex e a]
def gJ(by':Int)(n:cJ):cJ:=⟨n.op,if 0≤n.l then n.l+by' else n.l,if 0≤n.r then n.r+by' else n.r,n.tab,false,n.ac,n.left,false,n.cond,false,n.keys,false,n.ah,false,n.items,false,n.ords,n.limit⟩
abbrev nC(n:cJ)(l r:Int):aq:=aH [ap n.op,ap l,ap r,ap n.tab,.sl 2 0 0 n.ac.length,aC n.left,.sl 5 0 0 n.cond.length,.sl 3 0 0 n.keys.length,.sl 6 0 0 n.ah.length,.sl 7 0 0 n.items.length,.sl 4 0 0 n.ords.length,ap n.limit]
abbrev stC(n:cJ)(l r:Int)(z:aq):aw:=[aB 12 0 [nC n l r],aB 12 0 [z],aB 1 0 (n.ac.map (.int .i64)),aB 1 0 (n.keys.map (.int .i64)),aB 2 0 (n.ords.map gT),aB 8 0 (n.cond.map EN.a),aB 2 0 (n.ah.map va),aB 1 0 (n.items.map xE)]
abbrev Oh:aq:=aH [ap 0,ap 0,ap 0,ap 0,.ai,aC false,.ai,.ai,.ai,.ai,.ai,ap 0]
theorem Jq{a:Type}{l:List a}{k:Nat}{x:a}(h:l[k]?=some x):l.set k x=l:=by
 obtain⟨b,rfl⟩:=ak.1 h;exact List.set_getElem_self b
theorem Ja(n:cJ)(M:nE n)(p:uw n)(c:Int)(K:0≤n.l→-9223372036854775808≤n.l+c∧n.l+c < 9223372036854775808)(L:0≤n.r→-9223372036854775808≤n.r+c∧n.r+c < 9223372036854775808) :
  bB I.qdu [n.a,ap c]=some (gJ c n).a:=by
 rw[aR am4 rfl];have o:uX≤bD:=by decide
 have k1:=fun b=>qD (enc:=.int .i64) b n.ac (bH p.ac o);have k2:=fun b=>qD (enc:=.int .i64) b n.keys (bH p.keys o);have k3:=fun b=>wM (enc:=gT) b n.ords (bH p.ords o);have k4:=fun b=>jY (enc:=EN.a) b n.cond (bH p.cond o);have k5:=fun b=>xM (enc:=va) b n.ah (bH p.ah o);have k6:=fun b=>vX (enc:=xE) b n.items (bH p.items o);have H:=M.ags;have J:=M.exs;generalize v:(if 0≤n.l then n.l+c else n.l)=w;generalize j:(if 0≤n.r then n.r+c else n.r)=y;have N:gJ c n=⟨n.op,w,y,n.tab,false,n.ac,n.left,false,n.cond,false,n.keys,false,n.ah,false,n.items,false,n.ords,n.limit⟩:=by unfold gJ;rw[v,j]
 have d:=fun z A:Bool=>(gL (base:=8) (clr:=[4,10]) (b:=F9) n.ah
  (fun k (_:Unit)=>⟨[n.a,ap c,aI 0 0 0 0,aI 1 0 0 0,am,am,aC z,aC A,ap n.ah.length,ap k,am,am,am,am],stC n w y Oh⟩)
  (fun _ _=>True) (fun _ _=>())
  (fun _=>(.ext 0,⟨[n.a,ap c,aI 0 0 0 0,aI 1 0 0 0,am,am,aC z,aC A,ap n.ah.length,ap n.ah.length,aC false,am,am,am],stC n w y Oh⟩))
  (fun k g _ B q _=>by
   have E:((k:Int)<(n.ah.length:Int)):=by omega
   refine⟨?_,trivial⟩;have t:=fun b=>jY (enc:=EN.a) b g.arg (bH (p.args g (aN q)) o);have u:∀h:k<n.ah.length,n.ah[k]'h=g:=fun h=>(ak.1 q).2;have G:∀base σ m,fz false true base σ (m+3) n.a=n.a:=fun base σ m=>Ft.ft false true base σ m n rfl;have l:(n.ah.map va).set k (aH [ap g.tag,.aa false (g.arg.map EN.a)])=n.ah.map va:=Jq (by rw[dP,q];rfl);simp[F9,E,q,B,u,va,t,G,cU B (bH p.ah o),bN,bA,l])
  (fun _ _=>by simp[F9]) () trivial).1
 have e:=fun z A:Bool=>(gL (base:=8) (clr:=[5,13]) (b:=F0) n.items
  (fun k (_:Unit)=>⟨[n.a,ap c,aI 0 0 0 0,aI 1 0 0 0,am,am,aC z,aC A,ap n.ah.length,ap n.ah.length,aC false,ap n.items.length,ap k,am],stC n w y Oh⟩)
  (fun _ _=>True) (fun _ _=>())
  (fun _=>(.ext 2,⟨[n.a,ap c,aI 0 0 0 0,aI 1 0 0 0,am,am,aC z,aC A,ap n.ah.length,ap n.ah.length,aC false,ap n.items.length,ap n.items.length,aC false],stC n w y Oh⟩))
  (fun k g _ B q _=>by
   have E:((k:Int)<(n.items.length:Int)):=by omega
   refine⟨?_,trivial⟩;have t:=fun b=>jY (enc:=EN.a) b g.l (bH (p.exprs g (aN q)) o);have u:∀h:k<n.items.length,n.items[k]'h=g:=fun h=>(ak.1 q).2;have G:∀base σ m,fz false true base σ (m+3) n.a=n.a:=fun base σ m=>Ft.ft false true base σ m n rfl;have l:(n.items.map xE).set k (aH [.aa false (g.l.map EN.a)])=n.items.map xE:=Jq (by rw[dP,q];rfl);simp[F0,E,q,B,u,xE,t,G,cU B (bH p.items o),bN,bA,l])
  (fun _ _=>by simp[F0]) () trivial).1
 have C:n.a=aH [ap n.op,ap n.l,ap n.r,ap n.tab,.aa n.bk (n.ac.map (.int .i64)),aC n.left,.aa n.bc (n.cond.map EN.a),.aa n.by' (n.keys.map (.int .i64)),.aa n.bg (n.ah.map va),.aa n.bi (n.items.map xE),.aa n.bo (n.ords.map gT),ap n.limit]:=by unfold cJ.a;rw[H,J]
 have F:(gJ c n).a=aH [ap n.op,ap w,ap y,ap n.tab,.aa false (n.ac.map (.int .i64)),aC n.left,.aa false (n.cond.map EN.a),.aa false (n.keys.map (.int .i64)),.aa false (n.ah.map va),.aa false (n.items.map xE),.aa false (n.ords.map gT),ap n.limit]:=by rw[N];unfold cJ.a;simp only;rw[H,J]
 rw[F];simp only[show ((0:Nat):Int)=0 from rfl,stC,Oh,nC,C]at d e;rw[C];have D:=fun h=>pT (K h).1 (K h).2;have r:=fun h=>pT (L h).1 (L h).2;by_cases s:0≤n.l
 ·rw[if_pos s]at v;rw[v]at D;have D:=D s;by_cases i:0≤n.r
  ·rw[if_pos i]at j;rw[j]at r;have r:=r i;simp[ase,PI,s,i,v,j,D,r,k1,k2,k3,k4,k5,k6,d,e];exact⟨fun a _=>by rw[Fx.fx (f:=va) false false 0 _ 15 a],fun a _=>by rw[Fx.fx (f:=xE) false false 0 _ 15 a],fun a x h=>by rcases h with⟨_,rfl⟩|⟨_,rfl⟩<;>rw[Fx.fx (f:=gT) false false 0 _ 15 _]⟩
  rw[if_neg i]at j;subst j;simp[ase,PI,s,i,v,D,k1,k2,k3,k4,k5,k6,d,e];exact⟨fun a _=>by rw[Fx.fx (f:=va) false false 0 _ 15 a],fun a _=>by rw[Fx.fx (f:=xE) false false 0 _ 15 a],fun a x h=>by rcases h with⟨_,rfl⟩|⟨_,rfl⟩<;>rw[Fx.fx (f:=gT) false false 0 _ 15 _]⟩
 rw[if_neg s]at v;subst v;by_cases i:0≤n.r
 ·rw[if_pos i]at j;rw[j]at r;have r:=r i;simp[ase,PI,s,i,j,r,k1,k2,k3,k4,k5,k6,d,e];exact⟨fun a _=>by rw[Fx.fx (f:=va) false false 0 _ 15 a],fun a _=>by rw[Fx.fx (f:=xE) false false 0 _ 15 a],fun a x h=>by rcases h with⟨_,rfl⟩|⟨_,rfl⟩<;>rw[Fx.fx (f:=gT) false false 0 _ 15 _]⟩
 rw[if_neg i]at j;subst j;simp[ase,PI,s,i,k1,k2,k3,k4,k5,k6,d,e];exact⟨fun a _=>by rw[Fx.fx (f:=va) false false 0 _ 15 a],fun a _=>by rw[Fx.fx (f:=xE) false false 0 _ 15 a],fun a x h=>by rcases h with⟨_,rfl⟩|⟨_,rfl⟩<;>rw[Fx.fx (f:=gT) false false 0 _ 15 _]⟩
def tu(n:cJ):aq:=aH [ap n.op,ap n.l,ap n.r,ap n.tab,.aa false (n.ac.map (.int .i64)),aC n.left,.aa false (n.cond.map EN.a),.aa false (n.keys.map (.int .i64)),.aa false (n.ah.map va),.aa false (n.items.map xE),.aa false (n.ords.map gT),ap n.limit]
instance:Nc tu 12 true:=⟨fun _=>rfl,fun _=>rfl⟩
instance:Fx tu:=⟨fun fl top base σ n y=>by simp[tu]⟩
def ZQ(n:cJ):List aq:=cellsOf (tu n)
theorem LO(n:cJ)(fl top:Bool)(base:Nat)(σ:aw)(m:Nat):(ZQ n).map (fz fl top base σ (m+2))=ZQ n:=by
 have h:fz fl top base σ (m+3) (tu n)=tu n:=Fx.fx fl top base σ m n;have e:tu n=aH (ZQ n):=rfl;rw[e]at h;simpa using h
theorem Gz{n:cJ}(h:nE n)(a:Int):(gJ a n).a=tu (gJ a n):=by
 have b:(gJ a n).ah.map kU.a=(gJ a n).ah.map va:=h.ags;have c:(gJ a n).items.map yV.a=(gJ a n).items.map xE:=h.exs;unfold cJ.a tu;rw[b,c];rfl
def uL(ns:List cJ)(f k:Nat):List cJ:=((ns.drop f).take k).map (gJ (-(f:Int)))
theorem Is{a:List cJ}{f k:Nat}(h:f+k≤a.length):(uL a f k).length=k:=by
 unfold uL;simp;omega
theorem WK{a:List cJ}{f k:Nat}{n:cJ}(h:a[f+k]?=some n):uL a f (k+1)=uL a f k++[gJ (-(f:Int)) n]:=by
 unfold uL;have b:(a.drop f)[k]?=some n:=by rw[mW];exact h
 rw[eW,b];simp
theorem aiO{a:List cJ}(d:∀n∈a,nE n)(f k:Nat):(uL a f k).map cJ.a=(uL a f k).map tu:=by
 refine aU fun m b=>?_;unfold uL at b;obtain⟨n,c,rfl⟩:=bM.1 b;exact Gz (d n (dR (cL c))) _
abbrev V6(N L:aq)(e4:aq)(i by' len idx:Int)(b15:Bool)(bp:Bool)(ps:List cJ)(k:Nat):List aq:=
 [N,L,aI 0 0 0 0,aI 1 0 0 0,e4,aI 2 0 0 0,ap i,aI 4 0 0 0,ap 0,ap by',am,am,L,ap len,ap idx,aC b15,aC false,.aa bp (ps.map cJ.a),ap ps.length,ap k,am,am,am]
abbrev stJ(nb res:aq)(ep:Nat)(o:List cJ)(P:aq):aw:=[aB 12 0 [nb],aB 1 0 [res],aB 1 0 [aH [.sl 3 ep 0 o.length]],aB 12 ep (o.map tu),aB 1 0 [P]]
theorem YI(N L q p e:aq)(i len g:Int)(f j:Bool)(a o:List cJ)(ep:Nat)(F:∀n∈a,nE n)(I:∀n∈a,uw n)(R:a.length≤60)(Q:o.length≤8000)(r:∀n∈a,n.l<100∧n.r<100)
  (A:aM p=12) (B:∀base σ m,fz false true base σ (m+3) p=p) (C:∀base σ m,fz false true base σ (m+3) e=e) (w:∀base σ m,fz false true base σ (m+3) N=N) (v:∀base σ m,fz false true base σ (m+3) L=L) (x:∀base σ m,fz false true base σ (m+3) q=q) :
  bT code 5 [10,20] CM ⟨V6 N L q i o.length len g f j a 0,stJ p e ep o (aH [.aa j (a.map cJ.a)])⟩ =
   some (.ext 2,⟨(V6 N L q i o.length len g f j a a.length).set 20 (aC false),stJ p e (ep+a.length) (o++a.map (gJ o.length)) (aH [.aa j (a.map cJ.a)])⟩):=by
 have loop:=cY (base:=5) (clr:=[10,20]) (b:=CM)
  (fun k=>⟨V6 N L q i o.length len g f j a k,stJ p e (ep+k) (o++(a.take k).map (gJ o.length)) (aH [.aa j (a.map cJ.a)])⟩) a.length
  (.ext 2,⟨(V6 N L q i o.length len g f j a a.length).set 20 (aC false),stJ p e (ep+a.length) (o++a.map (gJ o.length)) (aH [.aa j (a.map cJ.a)])⟩)
  (fun k u=>by
   have E:a[k]?=some a[k]:=au u;have y:∀h:k<a.length,a[k]'h=a[k]'u:=fun _=>rfl;have d:=aJ u;have l:=Ja a[k] (F _ d) (I _ d) (o.length:Int) (fun h=>by have:=r _ d;omega) (fun h=>by have:=r _ d;omega);rw[Gz (F _ d)]at l;have K:(a.take (k+1)).map (gJ (o.length:Int))=(a.take k).map (gJ (o.length:Int))++[gJ (o.length:Int) a[k]]:=by rw[eW,E,dg];rfl
   have s:((a.take k).map (gJ (o.length:Int))).length=k:=by simp;omega
   generalize J:(a.take k).map (gJ (o.length:Int))=cs at *;generalize a[k]=n at *;rw[K];have n3:aM n.a=12∧isAgg n.a=true:=⟨rfl,rfl⟩;have M:∀base σ m,fz true false base σ (m+3) n.a=n.a:=fun base σ m=>Ft.ft true false base σ m n rfl;have O:∀base σ m,fz false true base σ (m+3) n.a=n.a:=fun base σ m=>Ft.ft false true base σ m n rfl;have z:o.length+(k+1)≤bD:=by unfold bD;omega
   have P:IntKind.i64.wrap ((k:Int)+1)=(k:Int)+1:=pT (by omega) (by omega);have D:List.take (o.length+k) (o.map tu++cs.map tu)=o.map tu++cs.map tu:=ay (by simp[s]);generalize gJ (o.length:Int) n=c at *;have t:tu c=aH (ZQ c):=rfl;have G:(ZQ c).length=12:=rfl;have H:=LO c;rw[t]at l;simp[V6,stJ,CM,u,E,y,M,O,n3,P,l,append,z,D,s,t,G,H,bN,bA,B,C,w,v,x,A,cq,dF,dB])
  (by
   simp[CM])
 simpa using loop
structure yg where
 b:Bool
 l:List cJ
def yg.a(t:yg):aq:=aH [.aa t.b (t.l.map cJ.a)]
instance:Nc yg.a 1 true:=⟨fun _=>rfl,fun _=>rfl⟩
instance:Ft yg.a:=⟨fun fl top base σ n y h=>by cases fl<;>cases top<;>simp_all[yg.a]⟩
def eQ(n:cJ)(l r:Int):cJ:={ n with l:=l,r:=r }
def pc(k:Nat)(t:yg)(s:List cJ×Int×Int):(List cJ×Int×Int)⊕Unit:=
 if (lookF t.l).isSome then .inl (s.1++t.l.map (gJ s.1.length),if k=0 then (s.1.length:Int)+t.l.length-1 else s.2.1,if k=0 then s.2.2 else (s.1.length:Int)+t.l.length-1) else .inr ()
abbrev nLR(n:cJ)(l r:Int):aq:=aH [ap n.op,ap l,ap r,ap n.tab,.aa n.bk (n.ac.map (.int .i64)),aC n.left,.aa n.bc (n.cond.map EN.a),.aa n.by' (n.keys.map (.int .i64)),.aa n.bg (n.ah.map kU.a),.aa n.bi (n.items.map yV.a),.aa n.bo (n.ords.map gT),ap n.limit]
abbrev AH(n:cJ)(bl:Bool)(ts:List yg)(k:Nat):List aq:=
 [n.a,.aa bl (ts.map yg.a),aI 0 0 0 0,aI 1 0 0 0,aq.any,aI 2 0 0 0,am,am,am,am,am,am,.aa bl (ts.map yg.a),ap ts.length,ap k,am,am,am,am,am,am,am,am]
abbrev JD(n:cJ)(s:List cJ×Int×Int):aw:=[aB 12 0 [nLR n s.2.1 s.2.2],aB 1 0 [aH [.ai]],aB 1 0 [aH [.sl 3 s.1.length 0 s.1.length]],aB 12 s.1.length (s.1.map tu)]
structure TOk (t:yg):Prop where
 fl:∀n∈t.l,nE n
 fit:∀n∈t.l,uw n
 lr:(lookF t.l).isSome→∀n∈t.l,n.l<100∧n.r<100
theorem Hc{a:List cJ}(h:(lookF a).isSome):1≤a.length∧a.length≤60:=by
 unfold lookF at h;split at h
 ·cases h
 omega
theorem PX(n:cJ)(j:Bool)(a:List yg)(C:a.length≤100)(k:Nat)(t:yg)(s:List cJ×Int×Int)(v:k<a.length)(u:a[k]?=some t)(p:TOk t)(z:s.1.length≤k*60) :
  match pc k t s with
  |.inl s'=>dh 4 [4,6,7,8,9,10,15,16,17,18,19,20,21] qL (run code qL ⟨AH n j a k,JD n s⟩)=bT code 4 [4,6,7,8,9,10,15,16,17,18,19,20,21] qL ⟨AH n j a (k+1),JD n s'⟩∧s'.1.length≤(k+1)*60
  |.inr _=>∃o,dh 4 [4,6,7,8,9,10,15,16,17,18,19,20,21] qL (run code qL ⟨AH n j a k,JD n s⟩)=some o∧∃q,o=(.ret,q)∧q.st[1]?=some (.arr 1 0 [.agg [.ai]])∧q.env[3]?=some (.ptr 1 0 0 0)∧q.env[4]?=some (.int .i64 230):=by
 obtain⟨c,b⟩:=JT t.b t.l p.fit;have e:∀h:k<a.length,a[k]'h=t:=fun h=>(ak.1 u).2;have n3:aM t.a=1∧isAgg t.a=true:=⟨rfl,rfl⟩;obtain⟨o,l,r⟩:=s;simp only at z ⊢;unfold pc;cases hl:(lookF t.l).isSome with
 |false=>
  rw[hl]at b;simp only[bq,cH]at b ⊢;exact⟨_,by simp[qL,v,u,e,n3,b,yg.a];rfl,_,rfl,rfl,rfl,rfl⟩
 |true=>
  rw[hl]at b;simp only[cw]at b ⊢;obtain⟨D,A⟩:=Hc hl;have f:=YI n.a (.aa j (a.map yg.a)) am (nLR n l r) (aH [.ai]) k a.length k true t.b t.l o o.length p.fl p.fit A (by omega) (p.lr hl) rfl (by simp) (by simp) (fun base σ m=>Ft.ft false true base σ m n rfl) (by simp) (by simp);simp only[V6,stJ,List.set,aY]at f;have i:o.length≤bD:=by unfold bD;omega
  have B:IntKind.i64.wrap ((k:Int)+1)=(k:Int)+1:=pT (by omega) (by omega);have y:IntKind.i64.wrap ((o.length:Int)+(t.l.length:Int)-1)=(o.length:Int)+(t.l.length:Int)-1:=pT (by omega) (by omega);have g:∀base σ m,fz false true base σ (m+3) n.a=n.a:=fun base σ m=>Ft.ft false true base σ m n rfl;have d:(t.l.map (gJ (o.length:Int))).length=t.l.length:=by simp
  generalize t.l.map (gJ (o.length:Int))=cs at *;have x:IntKind.i64.wrap 1=1:=rfl;refine⟨?_,by simp[d];omega⟩;by_cases w:k=0
  ·subst w;simp at f;simp[AH,JD,qL,v,u,e,n3,b,yg.a,f,i,x,y,g,d,bN,bA]
  have k1:((k:Int)==0)=false:=by simp;omega
  simp[w]at f;simp[AH,JD,qL,v,u,e,n3,b,yg.a,f,i,x,B,y,g,d,w,k1,bN,bA]
def iA(n:cJ)(ts:List yg):Option (List cJ):=
 match dt pc ts 0 ([],-1,-1) with
 |.inl s=>if (lookF (s.1++[gJ 0 (eQ n s.2.1 s.2.2)])).isSome then some (s.1++[gJ 0 (eQ n s.2.1 s.2.2)]) else none
 |.inr _=>none
structure mQ (n:cJ):Prop where
 fl:nE n
 fit:uw n
 z:n.a=tu n
theorem tY{n:cJ}(h:nE n)(a:uw n)(b:Int):mQ (gJ b n):=⟨⟨h.ag,h.ex⟩,⟨a.ac,a.cond,a.keys,a.ah,a.args,a.items,a.exprs,a.ords⟩,Gz h b⟩
structure abp (k:Nat) (s:List cJ×Int×Int):Prop where
 len:s.1.length≤k*60
 own:∀m∈s.1,mQ m
 l:-1≤s.2.1∧s.2.1≤k*60
 r:-1≤s.2.2∧s.2.2≤k*60
theorem OT{a:List cJ}(h:∀m∈a,mQ m):a.map cJ.a=a.map tu:=aU fun m b=>(h m b).z
theorem Kx{k:Nat}{t:yg}{s s':List cJ×Int×Int}(c:TOk t)(b:abp k s)(h:pc k t s=.inl s'):abp (k+1) s':=by
 unfold pc at h;split at h
 ·rename_i e;obtain⟨f,g⟩:=Hc e;cases h;have:=b.len;have:=b.l;have:=b.r;refine⟨by simp;omega,fun m a=>?_,?_,?_⟩
  ·rcases ba.1 a with a|a
   ·exact b.own m a
   obtain⟨n,d,rfl⟩:=bM.1 a;exact tY (c.fl n d) (c.fit n d) _
  all_goals
   simp only;split<;>omega
 cases h
theorem Sz(n:cJ)(F:nE n)(d:uw n)(E:Bool)(g:List yg)(T:g.length≤100)(Q:∀t∈g,TOk t) :
  bB I.qdv [n.a,.aa E (g.map yg.a)]=some (fb [aH [.aa false (((iA n g).getD []).map cJ.a)],ap (if (iA n g).isSome then 0 else 230)]) ∧
  ∀w,iA n g=some w→∀m∈w,mQ m:=by
 have key:=iL (base:=4) (clr:=[4,6,7,8,9,10,15,16,17,18,19,20,21]) (b:=qL) g (fun k s=>⟨AH n E g k,JD n s⟩) abp pc
  (fun s=>(.ext 0,⟨(AH n E g g.length).set 15 (aC false),JD n s⟩)) (fun _ o=>∃q,o=(.ret,q)∧q.st[1]?=some (aB 1 0 [aH [.ai]])∧q.env[3]?=some (aI 1 0 0 0)∧q.env[4]?=some (ap 230))
  (fun k t s S P p=>by
   have y:=Q t (aN P);have h:=PX n E g T k t s S P y p.len;have hi:=fun s'=>Kx (s':=s') y p;revert h hi;cases pc k t s with
   |inl s'=>exact fun h hi=>⟨h.1,hi s' rfl⟩
   |inr r=>exact fun h _=>h)
  (fun s _=>by simp[AH,JD,qL]) ([],-1,-1) ⟨by simp,fun m i=>by simp at i,by simp,by simp⟩
 unfold iA;revert key;cases dt pc g 0 ([],-1,-1) with
 |inr u=>
  rintro⟨o,key,q,rfl,U,V,W⟩;refine⟨?_,fun w h=>by cases h⟩;simp only[AH,JD,aY,bm,bE]at key;rw[aR aff rfl];have v:n.a=nLR n n.l n.r:=rfl;simp only[v,nLR]at key ⊢;simp[asf,Vc,key,U,V,W]
 |inl s=>
  rintro⟨p,key⟩;obtain⟨o,l,r⟩:=s;have H:=tY (n:=eQ n l r) ⟨F.ag,F.ex⟩ ⟨d.ac,d.cond,d.keys,d.ah,d.args,d.items,d.exprs,d.ords⟩ 0;have f:=Ja (eQ n l r) ⟨F.ag,F.ex⟩ ⟨d.ac,d.cond,d.keys,d.ah,d.args,d.items,d.exprs,d.ords⟩ 0 (fun h=>by have:=p.l;simp[eQ]at *;omega) (fun h=>by have:=p.r;simp[eQ]at *;omega);rw[H.z]at f;have J:(eQ n l r).a=nLR n l r:=rfl;have O:=p.own;have A:=p.len;simp only at O A ⊢;have G:∀m∈o++[gJ 0 (eQ n l r)],mQ m:=fun m i=>by
   rcases ba.1 i with i|i
   ·exact O m i
   rw[aP.1 i];exact H
  obtain⟨X,e⟩:=JT true (o++[gJ 0 (eQ n l r)]) fun m i=>(G m i).fit;rw[OT G]at e;have R:=H.z;generalize gJ 0 (eQ n l r)=c at *;simp only[AH,JD,aY,bm,bE,List.set]at key;have v:n.a=nLR n n.l n.r:=rfl;rw[J]at f;simp only[v,nLR]at key f ⊢;have z:o.length+1≤bD:=by unfold bD;omega
  have C:List.take o.length (o.map tu)=o.map tu:=ay (by simp);have L:tu c=aH (ZQ c):=rfl;have M:(ZQ c).length=12:=rfl;have N:=LO c;have K:(o++[c]).map cJ.a=(o++[c]).map tu:=OT G;have x:(o++[c]).length=o.length+1:=by simp
  have D:o.map tu++[aq.agg (ZQ c)]=(o++[c]).map tu:=by rw[dg];rfl
  rw[L]at f;generalize o++[c]=w at *;have B:∀fl top base σ m a,fz fl top base σ (m+3) (tu a)=tu a:=fun fl top base σ m a=>Fx.fx fl top base σ m a;have j:List.take (o.length+1) (w.map tu)=w.map tu:=ay (by simp[x]);rw[aR aff rfl];cases hl:(lookF w).isSome with
  |true=>
   rw[hl]at e;refine⟨?_,fun w h=>by cases h;exact G⟩;simp at e;simp[asf,Vc,key,f,e,append,z,C,j,B,D,x,M,N,K]
  |false=>
   rw[hl]at e;refine⟨?_,fun w h=>by cases h⟩;simp at e;simp[asf,Vc,key,f,e,append,z,C,j,B,D,x,M,N]
def Lb(c:Int)(o:Option (List cJ)):aq:=fb [aH [.aa false ((o.getD []).map cJ.a)],ap (if o.isSome then 0 else c)]
theorem ai5(n:cJ)(c:nE n)(d:uw n):bB I.qcz [n.a]=some (Lb 230 (iA n [])):=by
 have h:=(Sz n c d false [] (by simp) (fun t h=>by simp at h)).1;have b:∀base σ m,fz true false base σ (m+3) n.a=n.a:=fun base σ m=>Ft.ft true false base σ m n rfl;have n3:aM n.a=12∧isAgg n.a=true:=⟨rfl,rfl⟩;rw[aR anw rfl];simp at h;unfold Lb;generalize iA n []=o at *;have e:∀a∈o.getD [],True:=fun _ _=>trivial;simp[auF,afJ,b,n3,h]
theorem anA(n:cJ)(c:nE n)(d:uw n)(t:yg)(e:TOk t):bB I.qda [n.a,t.a]=some (Lb 230 (iA n [t])):=by
 have h:=(Sz n c d true [t] (by simp) (fun g h=>by rw[aP.1 h];exact e)).1;have a:∀base σ m,fz true false base σ (m+3) n.a=n.a:=fun base σ m=>Ft.ft true false base σ m n rfl;have n3:aM n.a=12∧isAgg n.a=true:=⟨rfl,rfl⟩;have b:∀base σ m,fz true false base σ (m+3) t.a=t.a:=fun base σ m=>Ft.ft true false base σ m t rfl;have f:aM t.a=1∧isAgg t.a=true:=⟨rfl,rfl⟩;rw[aR amx rfl];simp at h;unfold Lb;generalize iA n [t]=o at *;simp[au0,afV,a,n3,b,f,h]
theorem ama(n:cJ)(c:nE n)(d:uw n)(t u:yg)(e:TOk t)(f:TOk u):bB I.qde [n.a,t.a,u.a]=some (Lb 230 (iA n [t,u])):=by
 have h:=(Sz n c d true [t,u] (by simp) (fun i h=>by
  rcases dX.1 h with rfl|h
  ·exact e
  rw[aP.1 h];exact f)).1
 have a:∀base σ m,fz true false base σ (m+3) n.a=n.a:=fun base σ m=>Ft.ft true false base σ m n rfl;have n3:aM n.a=12∧isAgg n.a=true:=⟨rfl,rfl⟩;have b:∀(t:yg) base σ m,fz true false base σ (m+3) t.a=t.a:=fun t base σ m=>Ft.ft true false base σ m t rfl;have g:∀t:yg,aM t.a=1∧isAgg t.a=true:=fun t=>⟨rfl,rfl⟩;rw[aR amr rfl];simp at h;unfold Lb;generalize iA n [t,u]=o at *;simp[auY,aeM,a,n3,b,g,h]
end Go.AM
