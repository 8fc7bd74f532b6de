/- Part of the proof. -/
import Derived.Test.YtmpmbfpkpannjaaGreatDoorAm17
set_option linter.unusedVariables false
set_option linter.unusedSimpArgs false
set_option linter.unusedSectionVars false
namespace Go.AM
open P
set_option maxHeartbeats 64000000
set_option maxRecDepth 40000
theorem Nb{f:Nat}{g:br}(h:code.fns f=.nilfn g)(a:g.mode.isPure=true){x:aq}{σ:aw}{xs:List aq}(d:snap σ x=.aa true xs)(i:kw σ x=xs.isEmpty) :
  cC code f [x] σ=(bB f [.aa true xs]).map (·,σ):=by
 have k:∀b,kw [] (.aa b xs)=xs.isEmpty:=fun b=>by cases xs<;>simp[kw,rd]
 have e:=tZ h a true xs σ;rw[←e,kQ good h,kQ good h,i];have c:kw σ (.aa true xs)=xs.isEmpty:=by cases xs<;>simp[kw,rd]
 rw[c];have j:snap σ (.aa true xs)=.aa true xs:=by simp
 cases xs.isEmpty with
 |true=>rfl
 |false=>
  simp only[bq,cI];rw[vm a [x] σ,vm a [.aa true xs] σ];simp only[aV,bm,d,j]
def sd{β:Type}(GE:EN→List β→β×Int)(_:Nat)(n:EN)(st:List β):List β⊕Int:=
 if (GE n (st.drop (st.length-(dv n.tag).toNat))).2=0 then .inl (st.take (st.length-(dv n.tag).toNat)++[(GE n (st.drop (st.length-(dv n.tag).toNat))).1])
 else .inr (GE n (st.drop (st.length-(dv n.tag).toNat))).2
def Cy{β:Type}(z:β)(GE:EN→List β→β×Int)(e:List EN):β×Int:=
 match dp (sd GE) e 0 [] with
 |.inl st=>(st.headD z,0)
 |.inr no=>(z,no)
theorem tF:∀(l:List EN) (n:EN) (i:Nat) (a o:List Nat),iB (l++[n]) i a o=(iB l i a o).bind fun q=>sW (i+l.length) n q.1 q.2
 |[],n,i,a,o=>by simp[iB];cases sW i n a o<;>rfl
 |m::l,n,i,a,o=>by
  simp only[bX,iB,bA];cases sW i m a o with
  |none=>rfl
  |some q=>
   simp only[cH];rw[tF l n (i+1) q.1 q.2];simp only[dA,iu 1]
theorem ZH{e:List EN}(b:wn e=true){k:Nat}(f:k≤e.length):∃a o,iB (e.take k) 0 [] []=some (a,o):=by
 cases h:iB (e.take k) 0 [] [] with
 |some q=>exact⟨q.1,q.2,rfl⟩
 |none=>
  have key:∀m,k≤m→m≤e.length→iB (e.take m) 0 [] []=none:=by
   intro m c;induction c with
   |refl=>intro _;exact h
   |@step m c d=>
    intro g;rw[dt (by omega),tF,d (by omega)];rfl
  have:=key e.length f (aF _);rw[de]at this;unfold wn at b;rw[this]at b;cases b
theorem PH{e:List EN}(l:wn e=true){k:Nat}{n:EN}(j:e[k]?=some n){a o:List Nat}(h:iB (e.take k) 0 [] []=some (a,o)) :
  ∃c o',iB (e.take (k+1)) 0 [] []=some (c,o')∧sW k n a o=some (c,o')∧0≤dv n.tag∧dv n.tag≤o.length∧iA n=true∧o'.length=o.length-(dv n.tag).toNat+1:=by
 obtain⟨f,m⟩:=ak.1 j;obtain⟨c,o',g⟩:=ZH l (k:=k+1) (by omega);have b:=g;rw[dt f,tF,h,m]at b;simp only[cH,cY,eN (Nat.le_of_lt f),cE]at b;refine⟨c,o',g,b,?_⟩;unfold sW at b;split at b
 ·cases b
 rename_i i;have d:0≤dv n.tag∧dv n.tag≤o.length∧iA n=true:=by
  refine⟨by omega,by omega,?_⟩;cases hq:iA n
  ·exact absurd (.inr (.inr hq)) i
  rfl
 refine⟨d.1,d.2.1,d.2.2,?_⟩;have hd:(o.drop (o.length-(dv n.tag).toNat)).length=(dv n.tag).toNat:=by rw[ju];omega
 have:=wr n.tag;rcases hL:o.drop (o.length-(dv n.tag).toNat) with _|⟨p,_|⟨q,_|⟨r,t⟩⟩⟩<;>rw[hL]at b hd<;>simp only[bD,bA]at b hd<;>(try split at b)<;>(try cases b)<;>simp<;>omega
theorem aeq{e:List EN}(b:wn e=true){a o:List Nat}(h:iB e 0 [] []=some (a,o)):o.length=1:=by
 unfold wn at b;rw[h]at b;simp at b;exact b.1
theorem ad1{f:Int→aq}(q:f=(aq.int .i64))(st:List Int)(k ep:Nat)(t:k≤st.length)(i:st.length≤bC)(c b:Obj) :
  cC code I.qcd [ap k,aH 1 0 0 0] [c,aB 1 0 [.sl 2 ep 0 st.length],aB 1 ep (st.map f),b] =
   some (.sl 4 0 0 k,[c,aB 1 0 [.sl 2 ep 0 (st.length-k)],aB 1 ep (st.map f),b,aB 1 0 ((st.drop (st.length-k)).map f)]):=by
 subst q;rw[cz al1 rfl];have j:st.length≤68719476736:=i;have l:=rJ (n:=(st.length:Int)-(k:Int)) (by omega) (by omega);have o:((st.length:Int)-(k:Int)).toNat=st.length-k:=by omega
 have p:(0:Int)≤(st.length:Int)-(k:Int):=by omega
 have h:st.length-k+k=st.length:=by omega
 have g:st.length-(st.length-k)=k:=by omega
 have hd:(st.drop (st.length-k)).length=k:=by rw[ju];omega
 have e:=A0 (enc:=(aq.int .i64)) true (st.drop (st.length-k)) (by rw[hd];omega);have r:snap [c,aB 1 0 [.sl 2 ep 0 st.length],aB 1 ep (st.map (aq.int .i64)),b] (.sl 2 ep (st.length-k) k)=.aa true ((st.drop (st.length-k)).map (aq.int .i64)):=by
  have d:(st.drop (st.length-k)).take k=st.drop (st.length-k):=ay (by omega);simp[h,←List.map_drop,d,←List.map_take]
 have m:kw [c,aB 1 0 [.sl 2 ep 0 st.length],aB 1 ep (st.map (aq.int .i64)),b] (.sl 2 ep (st.length-k) k)=((st.drop (st.length-k)).map (aq.int .i64)).isEmpty:=by
  have d:(st.drop (st.length-k)).take k=st.drop (st.length-k):=ay (by omega);simp only[kw,rd,sliceAt];simp[h,←List.map_drop,d,←List.map_take];cases st.drop (st.length-k)<;>simp
 have a:=Nb YS rfl r m;rw[e]at a;have s:(st.length:Int)-(k:Int)≤st.length:=by omega
 simp[aun,agF,l,o,p,g,a,hd,t]
def Aa(GE:EN→List Int→Int×Int)(k:Nat)(n:EN)(s:Nat×List Int):Nat×List Int⊕Int:=match sd GE k n s.2 with
 |.inl st=>.inl (s.1+1,st)
 |.inr r=>.inr r
theorem yN(GE:EN→List Int→Int×Int):∀(l:List EN) (k ep:Nat) (st:List Int),dp (Aa GE) l k (ep,st)=match dp (sd GE) l k st with
  |.inl a=>.inl (ep+l.length,a)
  |.inr r=>.inr r
 |[],k,ep,st=>rfl
 |n::l,k,ep,st=>by
  simp only[dp,Aa];cases sd GE k n st with
  |inl a=>
   simp only;rw[yN GE l (k+1) (ep+1) a];cases dp (sd GE) l (k+1) a<;>simp[dA,iu 1]
  |inr r=>rfl
theorem abt(b:Bool)(e:List EN)(Y:e.length≤bC)(W:wn e=true)(g:aq)(S:∀fl top base σ,(fl ||top)=true→fz fl top base σ 20 g=g)(GE:EN→List Int→Int×Int)
  (Iv:Int→Prop) (M:∀n∈e,∀l:List Int,l.length=(dv n.tag).toNat→iA n=true→(∀y∈l,Iv y)→(GE n l).2=0→Iv (GE n l).1)
  (Q:∀n∈e,∀l:List Int,l.length=(dv n.tag).toNat→iA n=true→(∀y∈l,Iv y)→∀σ x,snap σ x=.aa true (l.map (aq.int .i64))→jp code g [n.a,x] σ=some (fy [(aq.int .i64) (GE n l).1,ap (GE n l).2],σ)) :
  bB I.qcc [aI [.aa b (e.map EN.a)],g]=some (fy [(aq.int .i64) (Cy 0 GE e).1,ap (Cy 0 GE e).2]):=by
 rw[aT anE rfl];have w:=S true false 0 [] rfl;have h:=iQ (base:=3) (clr:=[9,10,11,15,16]) (b:=Dm) e
  (fun k (s:Nat×List Int)=>⟨[aI [.aa b (e.map EN.a)],g,aH 0 0 0 0,ap 0,ap 0,aH 1 0 0 0,ap 0,.fn I.qcd [] [aH 1 0 0 0],ap 0,am,am,am,.aa b (e.map EN.a),ap e.length,ap k,am,am,am],[aB 1 0 [aI [.aa b (e.map EN.a)]],aB 1 0 [.sl 2 s.1 0 s.2.length],aB 1 s.1 (s.2.map (aq.int .i64))]⟩)
  (fun k s=>s.2.length≤k∧(∀y∈s.2,Iv y)∧∃a o,iB (e.take k) 0 [] []=some (a,o)∧s.2.length=o.length)
  (Aa GE)
  (fun s=>(.ext 0,⟨[aI [.aa b (e.map EN.a)],g,aH 0 0 0 0,ap 0,ap 0,aH 1 0 0 0,ap 0,.fn I.qcd [] [aH 1 0 0 0],ap 0,am,am,am,.aa b (e.map EN.a),ap e.length,ap e.length,aC false,am,am],[aB 1 0 [aI [.aa b (e.map EN.a)]],aB 1 0 [.sl 2 s.1 0 s.2.length],aB 1 s.1 (s.2.map (aq.int .i64))]⟩))
  (fun r o=>r≠0∧∃k X u A τ,o=(.ext 0,⟨[aI [.aa b (e.map EN.a)],g,aH 0 0 0 0,ap 0,ap 0,aH 1 0 0 0,ap 0,.fn I.qcd [] [aH 1 0 0 0],ap r,X,u,ap r,.aa b (e.map EN.a),ap e.length,k,aC true,aC true,am],aB 1 0 [aI [.aa b (e.map EN.a)]]::A::τ⟩))
  (fun k n s hk t hi=>by
   obtain⟨ep,st⟩:=s;obtain⟨R,C,a,o,H,E⟩:=hi;simp only at R E;obtain⟨a',o',O,hs,K,J,j,h4⟩:=PH W t H;have U:((k:Int)<(e.length:Int)):=by omega
   have P:(dv n.tag).toNat≤st.length:=by omega
   have L:((dv n.tag).toNat:Int)=dv n.tag:=by omega
   have hd:(st.drop (st.length-(dv n.tag).toNat)).length=(dv n.tag).toNat:=by rw[ju];omega
   have T:=BU n.tag;have d:=fun OA OB=>ad1 rfl st (dv n.tag).toNat ep P (by omega) OA OB;rw[L]at d;have m:∀y∈st.drop (st.length-(dv n.tag).toNat),Iv y:=fun y p=>C y (ej p);have v:=Q n (aN t) (st.drop (st.length-(dv n.tag).toNat)) hd j m;have f:=M n (aN t) (st.drop (st.length-(dv n.tag).toNat)) hd j m;have D:st.length-(dv n.tag).toNat+1≤bC:=by omega
   have G:(st.take (st.length-(dv n.tag).toNat)).length=st.length-(dv n.tag).toNat:=by rw[cY];omega
   have c:=v [aB 1 0 [aI [.aa b (e.map EN.a)]],aB 1 0 [.sl 2 ep 0 (st.length-(dv n.tag).toNat)],aB 1 ep (st.map (aq.int .i64)),aB 8 0 [n.a],aB 1 0 ((st.drop (st.length-(dv n.tag).toNat)).map (aq.int .i64))] (.sl 4 0 0 (dv n.tag).toNat) (by
    have:=ay (Nat.le_of_eq hd);simp[←List.map_drop,hd,←List.map_take,this])
   unfold Aa sd;rcases hr:GE n (st.drop (st.length-(dv n.tag).toNat)) with⟨x,Z⟩;rw[hr]at c f;simp only[wl]at c;simp only;have V:∀x,aM ((aq.int .i64) x)=1∧isAgg ((aq.int .i64) x)=false:=fun x=>⟨rfl,rfl⟩;have F:∀fl top base σ n,fz fl top base σ (n+3) ((aq.int .i64) x)=(aq.int .i64) x:=fun fl top base σ n=>Fx.fx fl top base σ n x;have B:∀fl top base σ N,fz fl top base σ (N+3) n.a=n.a:=fun fl top base σ N=>Fx.fx fl top base σ N n;have z:aM n.a=8∧isAgg n.a=true:=⟨rfl,rfl⟩;have i:(cellsOf n.a)[0]?=some (ap n.tag):=rfl;by_cases q:Z=0
   ·subst q;refine⟨?_,by simp;omega,fun y p=>(ba.1 p).elim (fun h=>C y (cT h)) (fun h=>by rw[aP.1 h];exact f rfl),a',o',O,by simp[G,h4,E]⟩;simp[Dm,U,t,T,d,c,i,V,F,B,z,append,D,G,cW hk Y,bQ,bw,S]
   rw[if_neg q];exact⟨_,by simp[Dm,U,t,T,d,c,i,V,F,B,z,C1 q];and_intros<;>rfl,q,_,_,_,_,_,rfl⟩)
  (fun s _=>by simp[Dm]) (0,[]) ⟨aF _,by simp,[],[],by simp[iB],rfl⟩
 rw[yN]at h;unfold Cy;cases H:dp (sd GE) e 0 [] with
 |inl st=>
  rw[H]at h;obtain⟨⟨_,_,a,o,K,J⟩,j⟩:=h;simp only at J;rw[de]at K;rw[aeq W K]at J
  match st,J with
  |[x],_=>
   simp at j;simp[atj,XG,w,j]
 |inr r=>
  rw[H]at h;obtain⟨_,j,q,k,X,u,A,τ,rfl⟩:=h;simp at j;simp[atj,XG,w,j,C1 q]
end Go.AM
namespace Go.AM
open P
set_option maxHeartbeats 64000000
set_option maxRecDepth 40000
attribute [local simp] aG bd
def Bf(k:Int):Bool:=decide (k<0) ||decide (3<k)
def eI(e:List EN)(ac:List Int):Int×Int:=
 if wn e=false then (0,200) else if ac.any Bf then (0,2) else if (nT e).any (fun c=>decide ((ac.length:Int)≤c)) then (0,2) else Cy 0 (uB ac) e
theorem JY{e:List EN}{n:EN}(h:n∈e)(a:n.tag=2):n.col∈nT e:=by
 unfold nT;rw[CA,Ec];exact lw.2 ⟨n,h,by rw[if_pos a];simp⟩
theorem Wx{e:List EN}{c:Int}(h:c∈nT e):∃n∈e,n.tag=2∧n.col=c:=by
 unfold nT at h;rw[CA,Ec]at h;obtain⟨n,b,a⟩:=lw.1 h;split at a
 ·rename_i d;exact⟨n,b,d,(aP.1 a).symm⟩
 cases a
theorem Ik{n:EN}(h:iA n=true)(a:n.tag=2):0≤n.col∧n.col<16:=by
 unfold iA at h;rw[if_neg (by omega),if_pos a]at h;simp at h;exact⟨h.1.2,h.2⟩
theorem abl(e:List EN):(nT e).length≤e.length:=by
 unfold nT;have a:=sh (iK (sU e));have b:=oO (sU e);have c:=NL e;omega
theorem pH(b:Bool)(e:List EN)(a:Bool)(ac:List Int)(v:e.length≤bC)(K:ac.length≤bC) :
  bB I.qbq [aI [.aa b (e.map EN.a)],.aa a (cG ac)]=some (fy [ap (eI e ac).1,ap (eI e ac).2]):=by
 rw[aT ama rfl];have r:=fun b=>zq b e v;simp only[KT,AC]at r;unfold eI;cases ho:wn e with
 |false=>
  rw[ho]at r;simp[arZ,Pq,r]
 |true=>
  rw[ho]at r;have f:=oA (base:=2) (clr:=[4,5,7,13,14]) (b:=J7) ac
   (fun k=>⟨[aI [.aa b (e.map EN.a)],.aa a (cG ac),aH 0 0 0 0,aH 1 0 0 0,am,am,ap 0,am,am,aC false,.aa a (cG ac),ap ac.length,ap k,am,am,am,am,am,am,am],[aB 1 0 [aI [.aa b (e.map EN.a)]],aB 1 0 [.aa a (cG ac)]]⟩) Bf
   (.ext 0,⟨[aI [.aa b (e.map EN.a)],.aa a (cG ac),aH 0 0 0 0,aH 1 0 0 0,am,am,ap 0,am,am,aC false,.aa a (cG ac),ap ac.length,ap ac.length,aC false,am,am,am,am,am,am],[aB 1 0 [aI [.aa b (e.map EN.a)]],aB 1 0 [.aa a (cG ac)]]⟩)
   (fun o=>∃s,o=(.ret,s)∧wh .pure [.env 4,.env 5] (some (.ret,s))=some (fy [ap 0,ap 2]))
   (fun k y d j i=>by
    have m:((k:Int)<(ac.length:Int)):=by omega
    unfold Bf at i;simp at i;have t:¬(y<0):=by omega
    have w:¬(3<y):=by omega
    simp[J7,m,j,t,w,cW d K,cN])
   (fun k y d j i=>by
    have m:((k:Int)<(ac.length:Int)):=by omega
    unfold Bf at i;simp at i;by_cases t:y<0
    ·exact⟨_,by simp[J7,m,j,t];rfl,_,rfl,by simp⟩
    have w:3<y:=by omega
    exact⟨_,by simp[J7,m,j,t,w];rfl,_,rfl,by simp⟩)
   (by simp[J7])
  rcases f with⟨B,f⟩|⟨B,o,f,s,rfl,g⟩
  ·rw[B];have F:=fun b=>Wp b e v ho;have J:=abl e;have g:=oA (base:=2) (clr:=[4,5,8,18,19]) (b:=Cx) (nT e)
    (fun k=>⟨[aI [.aa b (e.map EN.a)],.aa a (cG ac),aH 0 0 0 0,aH 1 0 0 0,am,am,ap 0,am,am,aC false,.aa a (cG ac),ap ac.length,ap ac.length,aC false,am,.aa false (cG (nT e)),ap (nT e).length,ap k,am,am],[aB 1 0 [aI [.aa b (e.map EN.a)]],aB 1 0 [.aa a (cG ac)]]⟩)
    (fun c=>decide ((ac.length:Int)≤c))
    (.ext 2,⟨[aI [.aa b (e.map EN.a)],.aa a (cG ac),aH 0 0 0 0,aH 1 0 0 0,am,am,ap 0,am,am,aC false,.aa a (cG ac),ap ac.length,ap ac.length,aC false,am,.aa false (cG (nT e)),ap (nT e).length,ap (nT e).length,aC false,am],[aB 1 0 [aI [.aa b (e.map EN.a)]],aB 1 0 [.aa a (cG ac)]]⟩)
    (fun o=>∃s,o=(.ret,s)∧wh .pure [.env 4,.env 5] (some (.ret,s))=some (fy [ap 0,ap 2]))
    (fun k y d j i=>by
     have m:((k:Int)<((nT e).length:Int)):=by omega
     have p:¬((ac.length:Int)≤y):=by simpa using i
     simp[Cx,m,j,p,cW d (by omega),cN])
    (fun k y d j i=>by
     have m:((k:Int)<((nT e).length:Int)):=by omega
     have p:((ac.length:Int)≤y):=by simpa using i
     exact⟨_,by simp[Cx,m,j,p];rfl,_,rfl,by simp⟩)
    (by simp[Cx])
   simp at f;rcases g with⟨u,g⟩|⟨u,o,g,s,rfl,H⟩
   ·rw[u]
    have q:=fun b=>abt b e v ho (.fn I.qbr [] [.cptr true (.aa a (cG ac)) 0]) (fun fl top base σ h=>by cases fl<;>cases top<;>simp at h ⊢) (uB ac) (fun _=>True) (fun _ _ _ _ _ _ _=>trivial)
     (fun n A l L D _ σ x G=>by
      have:=wr n.tag
      have z:=Rn n true l a ac (by unfold bC;omega) (fun E=>by
       obtain⟨f,g⟩:=Ik D E;have:=cQ.1 u n.col (JY A E);simp at this;exact⟨f,by omega⟩)
      have C:fz true false 0 σ 20 n.a=n.a:=Fx.fx true false 0 σ 17 n;simp only[GD]at G;simp[G,C,z])
    simp at g;simp[arZ,Pq,r,f,F,g,q]
   rw[u];simp at g;simp[arZ,Pq,r,f,F,g,-AQ];exact H
  rw[B];simp at f;simp[arZ,Pq,r,f,-AQ];exact g
def jE(e:List EN)(ac:List Int):Bool:=(eI e ac).2==0&&((eI e ac).1==0 ||(eI e ac).1==1)
abbrev alf(nd c1 c2:aq)(n:cJ)(a b r:aq):Obj:=aB 18 0 [aI [nd,c1,c2,ap n.op,ap n.l,ap n.r,ap n.tab,.aa n.bk (n.ac.map (.int .i64)),aC n.left,.aa n.bc (n.cond.map EN.a),.aa n.by' (n.keys.map (.int .i64)),.aa n.bg (n.ah.map ll.a),.aa n.bi (n.items.map yK.a),.aa n.bo (n.ords.map iq),ap n.limit,a,b,r]]
def Iq(n:cJ):Bool:=!(n.ac.any fun k=>decide (k<1) ||decide (3<k))&&decide (0≤n.tab)&&decide (n.tab<4)&&decide (0<n.ac.length)&&decide (n.ac.length≤4)
def Il(n:cJ)(a:List Int):Bool:=!(n.ords.any fun o=>decide (o.1<0) ||decide ((a.length:Int)≤o.1))&&decide (n.ords.length≤3)&&decide (-1≤n.limit)&&decide (n.limit≤2147483647)
abbrev anU(bn:Bool)(ab:List cJ)(ep1 m1 ep2 m2:Nat)(n:cJ)(a b r:aq):Obj:=alf (.aa bn (ab.map cJ.a)) (.sl 1 ep1 0 m1) (.sl 2 ep2 0 m2) n a b r
def kq:List Int→List Int→Option (List Int)
 |[],_=>some []
 |_::_,[]=>none
 |k::a,o::b=>if o≠0∧o≠(if k=0 then o else k) then none else (kq a b).map ((if k=0 then o else k)::·)
def Dw(a:List Int)(g:ll):Bool×Int:=
 if g.tag=1 then (g.arg.length==0,2)
 else ((eI g.arg a).2==0&&decide (1<g.tag)&&decide (g.tag≤5)&&(g.tag != 3 ||(eI g.arg a).1==2 ||(eI g.arg a).1==0),if g.tag=4∨g.tag=5 then (eI g.arg a).1 else 2)
def Er(n:cJ):Bool:=decide (n.keys.length≤3)&&decide (n.ah.length≤12)&&decide (0<n.keys.length+n.ah.length)
abbrev apd(n:cJ):Obj:=aB 12 0 [aI [ap n.op,ap n.l,ap n.r,ap n.tab,.aa n.bk (n.ac.map (.int .i64)),aC n.left,.aa n.bc (n.cond.map EN.a),.aa n.by' (n.keys.map (.int .i64)),.aa n.bg (n.ah.map ll.a),.aa n.bi (n.items.map yK.a),.aa n.bo (n.ords.map iq),ap n.limit]]

theorem EX(b:Bool)(e:List EN)(a:Bool)(ac:List Int)(c:e.length≤bC)(d:ac.length≤bC) :
  bB I.qed [aI [.aa b (e.map EN.a)],.aa a (cG ac)]=some (aC (jE e ac)):=by
 rw[aT akV rfl];have h:=fun b a=>pH b e a ac c d;unfold jE;simp[atI,ahf,h]
 repeat' (split<;>(try simp_all))
theorem K5(c:Int)(t a:Bool)(ac:List Int):bB I.qdz [ap c,.cptr t (.aa a (cG ac)) 0]=some (aC (decide (c<0) ||decide ((ac.length:Int)≤c))):=by
 rw[aT alB rfl];cases t<;>simp[atU,aeC]<;>(repeat' (split<;>(try simp_all)))<;>omega
def vc(l ac:List Int):Bool:=!(l.any fun c=>decide (c<0) ||decide ((ac.length:Int)≤c))
theorem PJ(b:Bool)(l:List Int)(d:Bool)(ac:List Int)(e:l.length≤bC):bB I.qdy [.aa b (l.map (.int .i64)),.aa d (cG ac)]=some (aC (vc l ac)):=by
 rw[aT akB rfl];have a:=rD (enc:=.int .i64) (b:=b) (l:=l) (f:=snap [aB 1 0 [.aa d (cG ac)]] (.fn 272 [] [aH 0 0 0 0])) (p:=fun c=>decide (c<0) ||decide ((ac.length:Int)≤c)) e (fun _=>⟨rfl,rfl⟩) (fun σ=>pK _ _ _) (fun c _=>by
  simp[K5])
 unfold vc;simp at a;cases hA:(l.any fun c=>decide (c<0) ||decide ((ac.length:Int)≤c))<;>rw[hA]at a<;>simp[at5,afe,a]
theorem Ot(k:Int):bB I.qea [ap k]=some (aC (k==1 ||k==2 ||k==3)):=by
 rw[aT aku rfl];simp[auv,aeX]
 repeat' (split<;>(try simp_all))
theorem Po(k:Int):bB I.qds [ap k]=some (aC (decide (k<1) ||decide (3<k))):=by
 rw[aT ak7 rfl];have h:=Ot k;have e:(!(k==1 ||k==2 ||k==3))=(decide (k<1) ||decide (3<k)):=by
  rw[eM];simp;omega
 rw[←e];simp[auo,ahe,h]
theorem OZ(o:Int×Bool)(t b:Bool)(a:List Int):bB I.qdp [iq o,.cptr t (.aa b (cG a)) 0]=some (aC (decide (o.1<0) ||decide ((a.length:Int)≤o.1))):=by
 rw[aT ak4 rfl];obtain⟨c,d⟩:=o;cases t<;>simp[aub,agB,iq]<;>(repeat' (split<;>(try simp_all)))<;>omega
def iz(op:Int):Int:=if op=1 then 0 else if op=2∨op=7 then 2 else 1
theorem NW(op:Int):bB I.qdx [ap op]=some (ap (iz op)):=by
 rw[aT amR rfl];unfold iz;simp[auR,agO]
 repeat' (split<;>(try simp_all))
def OU(n:cJ):Bool:=n.tab==0&&n.ac.length==0&&!n.left&&n.cond.length==0&&n.keys.length==0&&n.ah.length==0&&n.items.length==0&&n.ords.length==0&&n.limit==0
theorem SN(n:cJ):bB I.qee [n.a]=some (aC (OU n)):=by
 rw[aT aoh rfl];have i:∀{w:Type} (l:List w),(l=[]∧((l.length:Int)==0)=true∧(l.length==0)=true)∨(l≠[]∧((l.length:Int)==0)=false∧(l.length==0)=false):=fun l=>by
  cases l with
  |nil=>exact .inl ⟨rfl,rfl,rfl⟩
  |cons x r=>exact .inr ⟨by simp,by simp;omega,by simp⟩
 unfold OU;by_cases a:n.tab=0
 ·rcases i n.ac with⟨f,k,b⟩|⟨f,k,b⟩
  ·cases c3:n.left with
   |true=>simp[arB,AY,cJ.a,a,f,c3]
   |false=>
    rcases i n.cond with⟨j,o,e⟩|⟨j,o,e⟩
    ·rcases i n.keys with⟨c5,m,h⟩|⟨c5,m,h⟩
     ·rcases i n.ah with⟨t,p,g⟩|⟨t,p,g⟩
      ·rcases i n.items with⟨u,q,c⟩|⟨u,q,c⟩
       ·rcases i n.ords with⟨v,s,d⟩|⟨v,s,d⟩
        ·simp[arB,AY,cJ.a,a,f,c3,j,c5,t,u,v]
        simp[arB,AY,cJ.a,a,f,c3,j,c5,t,u,s,d]
       simp[arB,AY,cJ.a,a,f,c3,j,c5,t,q,c]
      simp[arB,AY,cJ.a,a,f,c3,j,c5,p,g]
     simp[arB,AY,cJ.a,a,f,c3,j,m,h]
    simp[arB,AY,cJ.a,a,f,c3,o,e]
  simp[arB,AY,cJ.a,a,k,b]
 simp[arB,AY,cJ.a,a,fa a]
def uY(ac:List Int)(g:ll):Int:=if g.tag=1∨g.tag=2∨g.tag=3 then 2 else if g.tag=4∨g.tag=5 then (eI g.arg ac).1 else 0
theorem W3(g:ll)(d:Bool)(ac:List Int)(n:g.arg.length≤bC)(o:ac.length≤bC) :
  bB I.qdf [g.a,.aa d (cG ac)]=some (fy [ap (uY ac g),aC (Dw ac g).1]):=by
 rw[aT aoy rfl];have h:=fun b d=>pH b g.arg d ac n o;unfold Dw uY;by_cases c:g.tag=1
 ·rw[if_pos c];simp[arR,KC,ll.a,c];rw[eM];simp
 rw[if_neg c];generalize (eI g.arg ac).1=j at *;generalize (eI g.arg ac).2=l at *;by_cases f:g.tag=2
 ·simp[arR,KC,ll.a,f,h]
 by_cases e:g.tag=3
 ·simp[arR,KC,ll.a,e,h]
  repeat' (split<;>(try simp_all))
 by_cases a:g.tag=4∨g.tag=5
 ·rcases a with t|t<;>simp[arR,KC,ll.a,t,h]
 have i:¬g.tag=4:=fun h=>a (.inl h);have k:¬g.tag=5:=fun h=>a (.inr h);have:(l==0&&decide (1<g.tag)&&decide (g.tag≤5)&&(g.tag != 3 ||j==2 ||j==0))=false:=by
  rw[og];intro m;simp at m;omega
 rw[this];simp[arR,KC,ll.a,c,f,e,i,k,fa c,fa f,fa e,fa i,fa k,h]
theorem WQ(b:Bool)(l:List Int)(x:Int)(m:l.length≤bC):bB I.qhf [.aa b (cG l),ap x]=some (ap (wd (fun y=>x==y) l)):=by
 rw[aT am8 rfl];have c:∀k,k<l.length→∀y,l[k]?=some y→(x==y)=false→dh 0 [2,3,6,7] tc (run code tc ⟨[.aa b (cG l),ap x,am,am,ap l.length,ap k,am,am],[]⟩) =
   bU code 0 [2,3,6,7] tc ⟨[.aa b (cG l),ap x,am,am,ap l.length,ap (k+1:Nat),am,am],[]⟩:=fun k d y i j=>by
  have g:((k:Int)<(l.length:Int)):=by omega
  simp[tc,i,j,g,cW d m,cN]
 unfold wd;by_cases h:(l.any fun y=>x==y)=true
 ·have g:=bM (cB.1 h);have j:(x==l[l.findIdx fun y=>x==y])=true:=du (p:=fun y=>x==y) (w:=g);have a:=dl (base:=0) (clr:=[2,3,6,7]) (b:=tc) (fun k=>⟨[.aa b (cG l),ap x,am,am,ap l.length,ap k,am,am],[]⟩) (l.findIdx fun y=>x==y)
   (.ret,⟨[.aa b (cG l),ap x,ap (l.findIdx fun y=>x==y:Nat),ap (l.findIdx fun y=>x==y:Nat),ap l.length,ap (l.findIdx fun y=>x==y:Nat),aC true,aC true],[]⟩)
   (fun k d=>c k (by omega) _ (au (by omega)) (by simpa using cU d))
   (by
    have n:l[l.findIdx fun y=>x==y]?=some l[l.findIdx fun y=>x==y]:=au g;have f:(((l.findIdx fun y=>x==y:Nat):Int)<(l.length:Int)):=by omega
    generalize o:(l.findIdx fun y=>x==y)=L at *;generalize l[L]=y at *;simp[tc,n,j,f])
  rw[if_pos h];generalize (l.findIdx fun y=>x==y)=L at *;simp at a;simp[aso,XH,a]
 have e:∀y∈l,(x==y)=false:=fun y i=>og.2 (cQ.1 (eB _▸h) y i);have a:=dl (base:=0) (clr:=[2,3,6,7]) (b:=tc) (fun k=>⟨[.aa b (cG l),ap x,am,am,ap l.length,ap k,am,am],[]⟩) l.length
  (.ext 0,⟨[.aa b (cG l),ap x,am,am,ap l.length,ap l.length,aC false,am],[]⟩)
  (fun k d=>c k d _ (au d) (e _ (aJ d)))
  (by simp[tc])
 simp at a;rw[if_neg h];simp[aso,XH,a]
structure aqF (X:aw) (r:aq) (bf:Bool) (res:List Int):Prop where
 nc:aM r=1
 ag:isAgg r=false
 len:∀L K O B N A,tI (L::K::O::B::N::A::X) r=some res.length
 fz:∀L K O B N A n,fz false true 3 (L::K::O::B::N::A::X) (n+3) r=.aa bf (cG res)
abbrev pL(l:List Nat):List aq:=l.map fun (k:Nat)=>aq.int .i64 (k:Int)
structure Nd where
 c0:aq
 c1:aq
 c2:aq
 c3:aq
 c4:aq
 c5:aq
 c6:aq
 c7:aq
 c8:aq
 c9:aq
 c10:aq
 c11:aq
abbrev cJ.z(n:cJ):Nd:=⟨ap n.op,ap n.l,ap n.r,ap n.tab,.aa n.bk (n.ac.map (.int .i64)),aC n.left,.aa n.bc (n.cond.map EN.a),.aa n.by' (n.keys.map (.int .i64)),.aa n.bg (n.ah.map ll.a),.aa n.bi (n.items.map yK.a),.aa n.bo (n.ords.map iq),ap n.limit⟩
instance:Nc (fun (k:Nat)=>aq.int .i64 (k:Int)) 1 false:=⟨fun _=>rfl,fun _=>rfl⟩
instance:Fx (fun (k:Nat)=>aq.int .i64 (k:Int)):=⟨fun _ _ _ _ _ _=>rfl⟩
abbrev atO(x y:Int):Obj:=aB 2 0 [aI [ap x,ap y]]
structure TkE where
 bn:Bool
 ab:List cJ
 ep1:Nat
 ep2:Nat
 ac:List (iN Int)
 opn:List Nat
 n0:Nd
 a0:aq
 b0:aq
 r0:aq
 B:Obj
 ask:aq
 i:Nat
 n:cJ
abbrev TkE.st(E:TkE)(A C r:aq)(x y:Int):aw:=[anU E.bn E.ab E.ep1 E.ac.length E.ep2 E.opn.length E.n A C r,aB 1 E.ep1 (E.ac.map (iN.c (.int .i64))),aB 1 E.ep2 (pL E.opn),E.B,apd E.n,atO x y]
structure Tk (E:TkE) (k:Nat) (ps:List Nat):Prop where
 hi:E.ab[E.i]?=some E.n
 hil:E.ab.length≤bC
 hol:E.opn.length≤bC
 hk1:E.n.keys.length≤bC
 hk2:E.n.ah.length≤bC
 hop:aiq E.n.op=k
 hkl:k≤E.opn.length
 hd:E.opn.drop (E.opn.length-k)=ps
 hbl:iy E.n=true
 hB:∀base σ,bw base σ E.B=E.B


abbrev uZ:Nat:=4294967296
structure sZ (n:cJ):Prop where
 ac:n.ac.length≤uZ
 cond:n.cond.length≤uZ
 keys:n.keys.length≤uZ
 ah:n.ah.length≤uZ
 args:∀g∈n.ah,g.arg.length≤uZ
 items:n.items.length≤uZ
 exprs:∀e∈n.items,e.l.length≤uZ
 ords:n.ords.length≤uZ
end Go.AM
namespace Go.AM
open P
set_option maxHeartbeats 64000000
set_option maxRecDepth 40000
def Zc:iN Int:=⟨false,[]⟩
end Go.AM
namespace Go.AM
open P
set_option maxHeartbeats 64000000
set_option maxRecDepth 40000
attribute [local simp] aG bd
structure KSt where
 ac:List (iN Int)
 opn:List Nat
 z0:Nd
 a0:aq
 b0:aq
 r0:aq
abbrev KSt.l(s:KSt):List aq:=[s.z0.c0,s.z0.c1,s.z0.c2,s.z0.c3,s.z0.c4,s.z0.c5,s.z0.c6,s.z0.c7,s.z0.c8,s.z0.c9,s.z0.c10,s.z0.c11,s.a0,s.b0,s.r0]
section
abbrev ur(bn:Bool)(ns:List cJ)(bk:Bool)(ks:List (iN Int))(bf:Bool)(fs:List Nat):aq:=aI [.aa bn (ns.map cJ.a),.aa bk (ks.map (iN.c (.int .i64))),.aa bf (pL fs)]
section
variable (t bn:Bool) (ns:List cJ) (bk:Bool) (ks:List (iN Int)) (bf:Bool) (fs:List Nat) (n:cJ)
theorem JI:∀base σ m,fz true false base σ (m+4) (.cptr t (ur bn ns bk ks bf fs) 0)=.cptr t (ur bn ns bk ks bf fs) 0:=fun base σ m=>by
 cases t<;>simp
theorem RM(p q:Nat)(x:n.l=(p:Int))(y:n.r=(q:Int))(a b:iN Int)(r:ks[p]?=some a)(s:ks[q]?=some b)(z:n.cond.length≤bC)(u:a.l.length+b.l.length≤bC) :
  bB I.qdn [.cptr t (ur bn ns bk ks bf fs) 0,n.a]=some (fy [.aa false (cG (a.l++b.l)),aC (jE n.cond (a.l++b.l))]):=by
 rw[aT alL rfl];have j:=(ak.1 r).1;have l:∀d:p<ks.length,ks[p]'d=a:=fun d=>(ak.1 r).2;have i:((p:Int)<(ks.length:Int)):=by omega
 have e:=(ak.1 s).1;have f:∀d:q<ks.length,ks[q]'d=b:=fun d=>(ak.1 s).2;have o:((q:Int)<(ks.length:Int)):=by omega
 have h:=fun v bk=>EX v n.cond bk (a.l++b.l) z (by simpa using u);have c:∀t,bB I.qgf [.aa t [.aa a.b (cG a.l),.aa b.b (cG b.l)]]=some (.aa false (cG (a.l++b.l))):=fun t=>by
  have:=HT (enc:=.int .i64) t [a,b] (by simpa using u) (by simp[bC]);simpa using this
 have g:=JI t bn ns bk ks bf fs;have w:∀base σ m,fz true false base σ (m+3) n.a=n.a:=fun base σ m=>Ft.ft true false base σ m n rfl;have n3:aM n.a=12∧isAgg n.a=true:=⟨rfl,rfl⟩;have k1:(cellsOf n.a)[1]?=some (ap n.l):=rfl;have k2:(cellsOf n.a)[2]?=some (ap n.r):=rfl;have k6:List.take 1 (List.drop 6 (cellsOf n.a))=[.aa n.bc (n.cond.map EN.a)]:=rfl;have k:(cellsOf n.a)[6]?=some (.aa n.bc (n.cond.map EN.a)):=rfl;simp only[cG,df]at h c;simp[atw,af8,h,c,g,w,n3,k1,k2,k6,k,x,y,r,s,j,l,i,e,f,o]
def N7(a:List Int)(s:Bool×Nat×List Int)(e:yK):Bool×Nat×List Int:=(s.1&&(eI e.l a).2==0,s.2.1+1,s.2.2++[(eI e.l a).1])
theorem Hi(a:List Int):∀(l:List yK) (ok:Bool) (ep:Nat) (b:List Int),l.foldl (N7 a) (ok,ep,b)=(ok&&l.all (fun e=>(eI e.l a).2==0),ep+l.length,b++l.map fun e=>(eI e.l a).1)
 |[],ok,ep,b=>by simp
 |e::l,ok,ep,b=>by
  rw[dX,N7,Hi a l];simp[kT,dA,iu 1]
theorem Jy(p:Nat)(E:n.l=(p:Int))(a:iN Int)(A:ks[p]?=some a)(hi:n.items.length≤bC)(F:∀e∈n.items,e.l.length≤bC)(l:a.l.length≤bC) :
  bB I.qdq [.cptr t (ur bn ns bk ks bf fs) 0,n.a]=some (fy [.aa false (cG (n.items.map fun e=>(eI e.l a.l).1)),aC (decide (1≤n.items.length)&&decide (n.items.length≤16)&&n.items.all (fun e=>(eI e.l a.l).2==0))]):=by
 rw[aT ae2 rfl];have v:=(ak.1 A).1;have w:∀C:p<ks.length,ks[p]'C=a:=fun C=>(ak.1 A).2;have u:((p:Int)<(ks.length:Int)):=by omega
 have g:=JI t bn ns bk ks bf fs;have q:∀base σ m,fz false true base σ (m+4) (.cptr t (ur bn ns bk ks bf fs) 0)=.cptr t (ur bn ns bk ks bf fs) 0:=fun base σ m=>by cases t<;>simp
 have r:∀base σ m,fz true false base σ (m+3) n.a=n.a:=fun base σ m=>Ft.ft true false base σ m n rfl;have H:∀base σ m,fz false true base σ (m+3) n.a=n.a:=fun base σ m=>Ft.ft false true base σ m n rfl;have n3:aM n.a=12∧isAgg n.a=true:=⟨rfl,rfl⟩;have k1:(cellsOf n.a)[1]?=some (ap n.l):=rfl;have y:(cellsOf n.a)[9]?=some (.aa n.bi (n.items.map yK.a)):=rfl;have h:=fun x:Bool=>(gL (base:=2) (clr:=[7,8,9,13]) (b:=Gv) n.items
  (fun k (s:Bool×Nat×List Int)=>⟨[.cptr t (ur bn ns bk ks bf fs) 0,n.a,aH 0 0 0 0,.ai,aC false,aC s.1,.sl 1 s.2.1 0 s.2.2.length,am,am,am,.aa n.bi (n.items.map yK.a),ap n.items.length,ap k,am],[aB 12 0 [n.a],aB 1 s.2.1 (cG s.2.2)]⟩)
  (fun k s=>s.2.2.length≤k) (N7 a.l)
  (fun s=>(.ext 0,⟨[.cptr t (ur bn ns bk ks bf fs) 0,n.a,aH 0 0 0 0,.ai,aC false,aC s.1,.sl 1 s.2.1 0 s.2.2.length,am,am,am,.aa n.bi (n.items.map yK.a),ap n.items.length,ap n.items.length,aC false],[aB 12 0 [n.a],aB 1 s.2.1 (cG s.2.2)]⟩))
  (fun k e s K B J=>by
   obtain⟨ok,ep,z⟩:=s;simp only at J;have G:((k:Int)<(n.items.length:Int)):=by omega
   have L:z.length+1≤bC:=by omega
   have o:=fun b bk=>pH b e.l bk a.l (F e (aN B)) l;refine⟨?_,by simp[N7];omega⟩;unfold N7;cases ok<;>simp[Gv,G,B,yK.a,o,w,v,u,A,E,n3,k1,append,L,cW K hi,bQ,bw,q,H])
  (fun s _=>by simp[Gv]) (x,0,[]) (by simp)).1
 simp only[Hi]at h;have D:(decide (1≤n.items.length)&&decide (n.items.length≤16))=true∨(1≤n.items.length∧¬n.items.length≤16)∨¬1≤n.items.length:=by
  by_cases i:1≤n.items.length<;>by_cases j:n.items.length≤16<;>simp[i,j]
 simp at h;rcases D with c|⟨i,j⟩|i
 ·simp at c;obtain⟨i,j⟩:=c;have d:(1:Int)≤(n.items.length:Int):=by omega
  have f:(n.items.length:Int)≤16:=by omega
  simp[asm,UG,g,r,n3,y,h,i,j,d,f]
 ·have d:(1:Int)≤(n.items.length:Int):=by omega
  have f:¬(n.items.length:Int)≤16:=by omega
  simp[asm,UG,g,r,n3,y,h,i,j,d,f]
 have d:¬(1:Int)≤(n.items.length:Int):=by omega
 simp[asm,UG,g,r,n3,y,h,i,d]
end
end
section
section
variable (t bn:Bool) (ns:List cJ) (bk:Bool) (ks:List (iN Int)) (bf:Bool) (fs:List Nat) (n:cJ)
def unG(k:Nat)(o:Int)(s:Bool×List Int):Bool×List Int⊕Empty:=.inl (s.1&&((if s.2.getD k 0=0 then o else s.2.getD k 0)==o ||o==0),if s.2.getD k 0=0 then s.2.set k o else s.2)
theorem Pw:∀(b a c:List Int) (ok:Bool),a.length=b.length→∃e,dp unG b c.length (ok,c++a)=.inl (ok&&(kq a b).isSome,e)∧e.length=c.length+a.length∧∀r,kq a b=some r→e=c++r
 |[],a,c,ok,h=>by
  obtain rfl:a=[]:=da h;exact⟨c,by simp[dp,kq],by simp,fun r d=>by simp[kq]at d;simp[←d]⟩
 |o::b,[],c,ok,h=>by cases h
 |o::b,k::a,c,ok,h=>by
  have v:=Pw b a (c++[if k=0 then o else k]) (ok&&((if k=0 then o else k)==o ||o==0)) (by simpa using h);obtain⟨e,j,u,t⟩:=v;have i:(c++k::a).getD c.length 0=k:=by simp[aR]
  have g:(if k=0 then (c++k::a).set c.length o else c++k::a)=c++[if k=0 then o else k]++a:=by
   by_cases s:k=0
   ·simp[s]
   simp[s]
  have m:kq (k::a) (o::b)=if o≠0∧o≠(if k=0 then o else k) then none else (kq a b).map ((if k=0 then o else k)::·):=rfl
  refine⟨e,?_,by simp at u ⊢;omega,?_⟩
  ·simp only[dp,unG,i,g];rw[show c.length+1=(c++[if k=0 then o else k]).length by simp,j,m];clear j u t g m;generalize (if k=0 then o else k)=w;by_cases f:o≠0∧o≠w
   ·have n:(o==0)=false:=by simp[f.1]
    have l:(w==o)=false:=by simp;exact fun h=>f.2 h.symm
    simp[f,n,l]
   have:(w==o ||o==0)=true:=by
    simp;by_cases p:o=0
    ·exact .inr p
    by_cases j:o=w
    ·exact .inl j.symm
    exact absurd ⟨p,j⟩ f
   rw[if_neg f,this];simp
  intro r d;rw[m]at d;by_cases f:o≠0∧o≠(if k=0 then o else k)
  ·rw[if_pos f]at d;cases d
  rw[if_neg f]at d;cases hq:kq a b with
  |none=>rw[hq]at d;cases d
  |some q=>
   rw[hq]at d;simp only[dK,aL]at d;rw[t q hq,←d,dG];rfl
theorem Og(p q:Nat)(V:n.l=(p:Int))(W:n.r=(q:Int))(a b:iN Int)(P:ks[p]?=some a)(Q:ks[q]?=some b)(D:a.l.length≤bC)(u:a.l.length=b.l.length) :
  ∃d,bB I.qdt [.cptr t (ur bn ns bk ks bf fs) 0,n.a]=some (fy [.aa false (cG d),aC (kq a.l b.l).isSome])∧∀r,kq a.l b.l=some r→d=r:=by
 obtain⟨d,S,R,U⟩:=Pw b.l a.l [] true u;refine⟨d,?_,by simpa using U⟩;rw[aT Xt rfl];have K:=(ak.1 P).1;have L:∀x:p<ks.length,ks[p]'x=a:=fun x=>(ak.1 P).2;have H:((p:Int)<(ks.length:Int)):=by omega
 have E:=(ak.1 Q).1;have F:∀x:q<ks.length,ks[q]'x=b:=fun x=>(ak.1 Q).2;have M:((q:Int)<(ks.length:Int)):=by omega
 have G:=JI t bn ns bk ks bf fs;have g:∀base σ m,fz false true base σ (m+4) (.cptr t (ur bn ns bk ks bf fs) 0)=.cptr t (ur bn ns bk ks bf fs) 0:=fun base σ m=>by cases t<;>simp
 have T:∀base σ m,fz true false base σ (m+3) n.a=n.a:=fun base σ m=>Ft.ft true false base σ m n rfl;have B:∀base σ m,fz false true base σ (m+3) n.a=n.a:=fun base σ m=>Ft.ft false true base σ m n rfl;have n3:aM n.a=12∧isAgg n.a=true:=⟨rfl,rfl⟩;have k1:(cellsOf n.a)[1]?=some (ap n.l):=rfl;have k2:(cellsOf n.a)[2]?=some (ap n.r):=rfl;have i:b.l.length≤bC:=by omega
 have h:=iQ (base:=2) (clr:=[9,10,15,16]) (b:=wZ) b.l
  (fun k (s:Bool×List Int)=>⟨[.cptr t (ur bn ns bk ks bf fs) 0,n.a,aH 0 0 0 0,.ai,aC false,.aa a.b (cG a.l),.aa b.b (cG b.l),.sl 1 0 0 a.l.length,aC s.1,am,am,aC false,.aa b.b (cG b.l),ap b.l.length,ap k,am,am],[aB 12 0 [n.a],aB 1 0 (cG s.2)]⟩)
  (fun _ s=>s.2.length=a.l.length) unG
  (fun s=>(.ext 0,⟨[.cptr t (ur bn ns bk ks bf fs) 0,n.a,aH 0 0 0 0,.ai,aC false,.aa a.b (cG a.l),.aa b.b (cG b.l),.sl 1 0 0 a.l.length,aC s.1,am,am,aC false,.aa b.b (cG b.l),ap b.l.length,ap b.l.length,aC false,am],[aB 12 0 [n.a],aB 1 0 (cG s.2)]⟩))
  (fun (r:Empty) _=>r.elim)
  (fun k o s C z v=>by
   obtain⟨ok,X⟩:=s;simp only at v;unfold unG;have A:((k:Int)<(b.l.length:Int)):=by omega
   have e:k<X.length:=by omega
   have l:k<a.l.length:=by omega
   refine⟨?_,by simp only;split<;>simp[v]⟩;have f:X[k]?=some (X.getD k 0):=by simp[aR,e]
   have j:∀h:k<X.length,X[k]'h=X.getD k 0:=fun h=>(ak.1 f).2;generalize Y:X.getD k 0=w at *;by_cases c:w=0
   ·subst c;cases ok<;>by_cases y:o=0
    all_goals simp[wZ,A,z,f,j,e,l,v,n3,cW C i,bQ,bw,g,B,y,fa]
   cases ok
   ·simp[wZ,A,z,f,j,e,l,v,n3,cW C i,bQ,bw,g,B,c,fa c]
   by_cases y:w=o
   ·subst y;simp[wZ,A,z,f,j,e,l,v,n3,cW C i,bQ,bw,g,B,c,fa c]
   simp[wZ,A,z,f,j,e,l,v,n3,cW C i,bQ,bw,g,B,c,fa c,y,fa y])
  (fun s _=>by simp[wZ]) (true,a.l) rfl
 simp only[bD,bT]at S;rw[S]at h;obtain⟨_,h⟩:=h;have O:=p6 (enc:=.int .i64) a.b a.l D;have N:((a.l.length:Int) != (b.l.length:Int))=false:=by simp[u]
 simp only[show ((0:Nat):Int)=0 from rfl]at h;simp at R;have J:List.take a.l.length (d.map (aq.int .i64))=d.map (.int .i64):=ay (by simp[R]);simp only[cG]at *;simp[asy,Zy,G,T,n3,k1,k2,V,W,P,Q,K,L,H,E,F,M,N,O,h,R,J]
end
end
section
section
variable (t bn:Bool) (ns:List cJ) (bk:Bool) (ks:List (iN Int)) (bf:Bool) (fs:List Nat) (n:cJ)
theorem RE(p q:Nat)(u:n.l=(p:Int))(v:n.r=(q:Int))(a b:iN Int)(l:ks[p]?=some a)(o:ks[q]?=some b)(r:a.l.length≠b.l.length) :
  bB I.qdt [.cptr t (ur bn ns bk ks bf fs) 0,n.a]=some (fy [.aa false [],aC false]):=by
 rw[aT Xt rfl];have h:=(ak.1 l).1;have i:∀c:p<ks.length,ks[p]'c=a:=fun c=>(ak.1 l).2;have g:((p:Int)<(ks.length:Int)):=by omega
 have d:=(ak.1 o).1;have e:∀c:q<ks.length,ks[q]'c=b:=fun c=>(ak.1 o).2;have j:((q:Int)<(ks.length:Int)):=by omega
 have f:=JI t bn ns bk ks bf fs;have s:∀base σ m,fz true false base σ (m+3) n.a=n.a:=fun base σ m=>Ft.ft true false base σ m n rfl;have n3:aM n.a=12∧isAgg n.a=true:=⟨rfl,rfl⟩;have k1:(cellsOf n.a)[1]?=some (ap n.l):=rfl;have k2:(cellsOf n.a)[2]?=some (ap n.r):=rfl;have k:((a.l.length:Int) != (b.l.length:Int))=true:=by simp;omega
 simp[asy,Zy,f,s,n3,k1,k2,u,v,l,o,h,i,g,d,e,j,k]
def vA(a:List Int):Bool:=Er n&&vc n.keys a
def Zq(a:List Int)(s:Nat×List Int)(x:Int):Nat×List Int:=(s.1+1,s.2++[a.getD x.toNat 0])
theorem JU(a:List Int):∀(l:List Int) (ep:Nat) (b:List Int),l.foldl (Zq a) (ep,b)=(ep+l.length,b++l.map fun x=>a.getD x.toNat 0)
 |[],ep,b=>by simp
 |x::l,ep,b=>by
  rw[dX,Zq,JU a l];simp[dA,iu 1]
def Yv(a:List Int)(s:Bool×Nat×List Int)(g:ll):Bool×Nat×List Int:=(s.1&&(Dw a g).1,s.2.1+1,s.2.2++[uY a g])
theorem KE(a:List Int):∀(l:List ll) (ok:Bool) (ep:Nat) (b:List Int),l.foldl (Yv a) (ok,ep,b)=(ok&&l.all (fun g=>(Dw a g).1),ep+l.length,b++l.map (uY a))
 |[],ok,ep,b=>by simp
 |g::l,ok,ep,b=>by
  rw[dX,Yv,KE a l];simp[kT,dA,iu 1]
theorem OX(p:Nat)(D:n.l=(p:Int))(a:iN Int)(r:ks[p]?=some a)(T:n.keys.length≤uZ)(Q:n.ah.length≤uZ)(Y:∀g∈n.ah,g.arg.length≤bC)(G:a.l.length≤bC) :
  bB I.qdm [.cptr t (ur bn ns bk ks bf fs) 0,n.a]=some (if vA n a.l then fy [.aa false (cG ((n.keys.map fun x=>a.l.getD x.toNat 0)++n.ah.map (uY a.l))),aC (n.ah.all fun g=>(Dw a.l g).1)] else fy [.aa false [],aC false]):=by
 rw[aT ahb rfl];have u:n.keys.length≤bC:=bR T (by decide);have J:n.ah.length≤bC:=bR Q (by decide);have V:n.keys.length+n.ah.length≤68719476736:=bR (Nat.add_le_add T Q) (by decide);have A:IntKind.i64.wrap ((n.keys.length:Int)+(n.ah.length:Int))=(n.keys.length:Int)+n.ah.length:=rJ (by omega) (by omega);have i:=(ak.1 r).1;have j:∀S:p<ks.length,ks[p]'S=a:=fun S=>(ak.1 r).2;have h:((p:Int)<(ks.length:Int)):=by omega
 have f:=JI t bn ns bk ks bf fs;have y:∀base σ m,fz false true base σ (m+4) (.cptr t (ur bn ns bk ks bf fs) 0)=.cptr t (ur bn ns bk ks bf fs) 0:=fun base σ m=>by cases t<;>simp
 have z:∀base σ m,fz true false base σ (m+3) n.a=n.a:=fun base σ m=>Ft.ft true false base σ m n rfl;have R:∀base σ m,fz false true base σ (m+3) n.a=n.a:=fun base σ m=>Ft.ft false true base σ m n rfl;have n3:aM n.a=12∧isAgg n.a=true:=⟨rfl,rfl⟩;have k1:(cellsOf n.a)[1]?=some (ap n.l):=rfl;have v:(cellsOf n.a)[7]?=some (.aa n.by' (n.keys.map (.int .i64))):=rfl;have E:(cellsOf n.a)[8]?=some (.aa n.bg (n.ah.map ll.a)):=rfl;have C:=fun b bk=>PJ b n.keys bk a.l u;simp only[cG]at C;by_cases c1:n.keys.length≤3
 ·have c:(n.keys.length:Int)≤3:=by omega
  by_cases c2:n.ah.length≤12
  ·have d:(n.ah.length:Int)≤12:=by omega
   by_cases c3:0<n.keys.length+n.ah.length
   ·have l:(0:Int)<(n.keys.length:Int)+n.ah.length:=by omega
    cases c4:vc n.keys a.l with
    |false=>
     have e:vA n a.l=false:=by unfold vA;rw[c4];simp
     rw[c4]at C;simp[arN,KI,f,z,n3,k1,v,E,D,r,j,i,h,c,d,l,A,C,e]
    |true=>
     have e:vA n a.l=true:=by unfold vA Er;rw[c4];simp[c1,c2];omega
     rw[c4]at C;have H:∀x∈n.keys,0≤x∧x<a.l.length:=fun x hx=>by
      unfold vc at c4;simp only[gI,cQ]at c4;have:=c4 x hx;simp at this;omega
     have M:=(gL (base:=2) (clr:=[8,16]) (b:=Gc) n.keys
      (fun k (s:Nat×List Int)=>⟨[.cptr t (ur bn ns bk ks bf fs) 0,n.a,aH 0 0 0 0,.ai,aC false,.aa a.b (cG a.l),aC true,.sl 1 s.1 0 s.2.length,am,am,am,am,aC false,.aa n.by' (n.keys.map (.int .i64)),ap n.keys.length,ap k,am,am,am,am,am],[aB 12 0 [n.a],aB 1 s.1 (cG s.2)]⟩)
      (fun k s=>s.2.length≤k) (Zq a.l)
      (fun s=>(.ext 0,⟨[.cptr t (ur bn ns bk ks bf fs) 0,n.a,aH 0 0 0 0,.ai,aC false,.aa a.b (cG a.l),aC true,.sl 1 s.1 0 s.2.length,am,am,am,am,aC false,.aa n.by' (n.keys.map (.int .i64)),ap n.keys.length,ap n.keys.length,aC false,am,am,am,am],[aB 12 0 [n.a],aB 1 s.1 (cG s.2)]⟩))
      (fun k x s o B N=>by
       obtain⟨ep,q⟩:=s;simp only at N;have K:((k:Int)<(n.keys.length:Int)):=by omega
       have O:q.length+1≤bC:=by omega
       obtain⟨X,x1⟩:=H x (aN B);refine⟨?_,by simp[Zq];omega⟩;have U:a.l[x.toNat]?=some (a.l.getD x.toNat 0):=by
        have:x.toNat < a.l.length:=by omega
        simp[aR,this]
       unfold Zq;generalize a.l.getD x.toNat 0=w at *;simp[Gc,K,B,X,U,append,O,cW o u,bQ,bw,y,R])
      (fun s _=>by simp[Gc]) (0,[]) (by simp)).1
     have F:=(gL (base:=2) (clr:=[9,10,11,20]) (b:=Gf) n.ah
      (fun k (s:Bool×Nat×List Int)=>⟨[.cptr t (ur bn ns bk ks bf fs) 0,n.a,aH 0 0 0 0,.ai,aC false,.aa a.b (cG a.l),aC s.1,.sl 1 s.2.1 0 s.2.2.length,am,am,am,am,aC false,.aa n.by' (n.keys.map (.int .i64)),ap n.keys.length,ap n.keys.length,aC false,.aa n.bg (n.ah.map ll.a),ap n.ah.length,ap k,am],[aB 12 0 [n.a],aB 1 s.2.1 (cG s.2.2)]⟩)
      (fun k s=>s.2.2.length≤n.keys.length+k) (Yv a.l)
      (fun s=>(.ext 2,⟨[.cptr t (ur bn ns bk ks bf fs) 0,n.a,aH 0 0 0 0,.ai,aC false,.aa a.b (cG a.l),aC s.1,.sl 1 s.2.1 0 s.2.2.length,am,am,am,am,aC false,.aa n.by' (n.keys.map (.int .i64)),ap n.keys.length,ap n.keys.length,aC false,.aa n.bg (n.ah.map ll.a),ap n.ah.length,ap n.ah.length,aC false],[aB 12 0 [n.a],aB 1 s.2.1 (cG s.2.2)]⟩))
      (fun k g s o B N=>by
       obtain⟨ok,ep,q⟩:=s;simp only at N;have K:((k:Int)<(n.ah.length:Int)):=by omega
       have O:q.length+1≤bC:=by unfold bC;omega
       have P:aM g.a=2∧isAgg g.a=true:=⟨rfl,rfl⟩;have Z:∀base σ m,fz true false base σ (m+3) g.a=g.a:=fun base σ m=>Ft.ft true false base σ m g rfl;have g2:∀base σ m,fz false true base σ (m+3) g.a=g.a:=fun base σ m=>Ft.ft false true base σ m g rfl;have W:=fun bk=>W3 g bk a.l (Y g (aN B)) G;refine⟨?_,by simp[Yv];omega⟩;unfold Yv;cases ok<;>simp[Gf,K,B,P,Z,g2,W,append,O,cW o J,bQ,bw,y,R])
      (fun s _=>by simp[Gf]) (true,n.keys.length,n.keys.map fun x=>a.l.getD x.toNat 0) (by simp)).1
     rw[JU]at M;rw[KE]at F;simp only[eu]at F;generalize hL:(n.keys.map fun x=>a.l.getD x.toNat 0)++n.ah.map (uY a.l)=L at F ⊢;simp at M F;simp only[cG]at *;simp[arN,KI,f,z,n3,k1,v,E,D,r,j,i,h,c,d,l,A,C,e,M,F]
   have l:¬(0:Int)<(n.keys.length:Int)+n.ah.length:=by omega
   have e:vA n a.l=false:=by unfold vA Er;simp;omega
   simp[arN,KI,f,z,n3,k1,v,E,D,r,j,i,h,c,d,l,A,e]
  have d:¬(n.ah.length:Int)≤12:=by omega
  have e:vA n a.l=false:=by unfold vA Er;simp;omega
  simp[arN,KI,f,z,n3,k1,v,E,D,r,j,i,h,c,d,A,e]
 have c:¬(n.keys.length:Int)≤3:=by omega
 have e:vA n a.l=false:=by unfold vA Er;simp;omega
 simp[arN,KI,f,z,n3,k1,v,E,D,r,j,i,h,c,A,e]
end
end
section
def nE(n:cJ):List aq:=[ap n.op,ap n.l,ap n.r,ap (if n.op=1 then 0 else n.tab),if n.op=1 then .ai else .aa n.bk (n.ac.map (.int .i64)),aC (if n.op=2 then false else n.left),
 if n.op=2∨n.op=3 then .ai else .aa n.bc (n.cond.map EN.a),if n.op=4 then .ai else .aa n.by' (n.keys.map (.int .i64)),if n.op=4 then .ai else .aa n.bg (n.ah.map ll.a),if n.op=5 then .ai else .aa n.bi (n.items.map yK.a),
 if n.op=8 then .ai else .aa n.bo (n.ords.map iq),ap (if n.op=8 then 0 else n.limit)]
def J5(n:cJ):cJ:=⟨n.op,n.l,n.r,if n.op=1 then 0 else n.tab,if n.op=1 then false else n.bk,if n.op=1 then [] else n.ac,if n.op=2 then false else n.left,
 if n.op=2∨n.op=3 then false else n.bc,if n.op=2∨n.op=3 then [] else n.cond,if n.op=4 then false else n.by',if n.op=4 then [] else n.keys,if n.op=4 then false else n.bg,if n.op=4 then [] else n.ah,
 if n.op=5 then false else n.bi,if n.op=5 then [] else n.items,if n.op=8 then false else n.bo,if n.op=8 then [] else n.ords,if n.op=8 then 0 else n.limit⟩
def Y2(n:cJ):List aq:=cellsOf (J5 n).a
theorem WF(n:cJ)(base:Nat)(σ:aw)(m:Nat):(nE n).map (fz true false base σ (m+2))=Y2 n:=by
 unfold nE Y2 J5 cJ.a;by_cases d:n.op=1
 ·simp[d]
 by_cases b:n.op=2
 ·simp[b]
 by_cases c:n.op=3
 ·simp[c]
 by_cases e:n.op=4
 ·simp[e]
 by_cases c5:n.op=5
 ·simp[c5]
 by_cases a:n.op=8
 ·simp[a]
 simp[d,b,c,e,c5,a]
theorem SQ(n:cJ)(σ:aw):cC code I.qdg [n.a] σ=some (aI (nE n),σ++[aB 12 0 [aI (nE n)],aB 12 0 [aI (nE n)]]):=by
 rw[cz am4 rfl];unfold nE cJ.a;by_cases d:n.op=1
 ·simp[arF,FT,d]
 by_cases b:n.op=2
 ·simp[arF,FT,b]
 by_cases c:n.op=3
 ·simp[arF,FT,c]
 by_cases e:n.op=4
 ·simp[arF,FT,e]
 by_cases c5:n.op=5
 ·simp[arF,FT,c5]
 by_cases a:n.op=8
 ·simp[arF,FT,a]
 simp[arF,FT,d,b,c,e,c5,a,fa d,fa b,fa c,fa e,fa c5,fa a]
theorem SM(n:cJ):bB I.qee [aI (Y2 n)]=some (aC (OU (J5 n))):=SN (J5 n)
theorem abx{n:cJ}(h:1≤n.op∧n.op≤8):OU (J5 n)=iy n:=by
 have d:∀{a:Type} (l:List a),(l.length==0)=decide (l=[]):=fun l=>by cases l<;>simp
 unfold OU J5 iy;have:n.op=1∨n.op=2∨n.op=3∨n.op=4∨n.op=5∨n.op=6∨n.op=7∨n.op=8:=by omega
 have b:((n.keys.length:Int)+n.ah.length==0)=(n.keys.length==0&&n.ah.length==0):=by
  rw[eM,ax,aX,aX,aX];omega
 rw[b];rcases this with c|c|c|c|c|c|c|c<;>simp[c]<;>(rw[eM];simp[and_assoc,and_left_comm,and_comm])
theorem OS(c:aq)(n:cJ)(σ:aw)(m:n.ac.length≤bC):cC code I.qdr [c,n.a] σ=some (fy [.aa n.bk (n.ac.map (.int .i64)),aC (Iq n)],σ++[aB 12 0 [n.a]]):=by
 rw[cz akm rfl];have h:=fun b=>rD (enc:=.int .i64) (b:=b) (l:=n.ac) (f:=.fn 39 [] []) (p:=fun k=>decide (k<1) ||decide (3<k)) m (fun _=>⟨rfl,rfl⟩) (fun σ=>by simp) (fun k _=>by simp[Po]);unfold Iq;have n3:aM n.a=12∧isAgg n.a=true:=⟨rfl,rfl⟩;have k3:(cellsOf n.a)[3]?=some (ap n.tab):=rfl;have k4:(cellsOf n.a)[4]?=some (.aa n.bk (n.ac.map (.int .i64))):=rfl;by_cases e:0≤n.tab
 ·by_cases g:n.tab<4
  ·by_cases i:0<n.ac.length
   ·have a:(1:Int)≤(n.ac.length:Int):=by omega
    by_cases j:n.ac.length≤4
    ·have d:(n.ac.length:Int)≤4:=by omega
     cases hA:(n.ac.any fun k=>decide (k<1) ||decide (3<k))<;>rw[hA]at h<;>simp[arV,JQ,n3,k3,k4,h,e,g,i,a,j,d]
    have d:¬(n.ac.length:Int)≤4:=by omega
    simp[arV,JQ,n3,k3,k4,e,g,a,j,d]
   have a:¬(1:Int)≤(n.ac.length:Int):=by omega
   simp[arV,JQ,n3,k3,k4,e,g,i,a]
  simp[arV,JQ,n3,k3,k4,e,g]
 simp[arV,JQ,n3,k3,k4,e]
structure AtL (σ:aw) (id ik jf:Nat) (bn:Bool) (ns:List cJ) (ep:Nat) (ks:List (iN Int)) (ef:Nat) (fs:List Nat):Prop where
 hd:σ[id]?=some (aB 3 0 [aI [.aa bn (ns.map cJ.a),.sl ik ep 0 ks.length,.sl jf ef 0 fs.length]])
 hk:σ[ik]?=some (aB 1 ep (ks.map (iN.c (.int .i64))))
 hf:σ[jf]?=some (aB 1 ef (pL fs))
theorem AtL.more{σ:aw}{id ik jf:Nat}{bn:Bool}{ns:List cJ}{ep:Nat}{ks:List (iN Int)}{ef:Nat}{fs:List Nat}(h:AtL σ id ik jf bn ns ep ks ef fs)(X:aw):AtL (σ++X) id ik jf bn ns ep ks ef fs:=
 ⟨by rw[aS (ak.1 h.hd).1];exact h.hd,by rw[aS (ak.1 h.hk).1];exact h.hk,by rw[aS (ak.1 h.hf).1];exact h.hf⟩
section
variable {σ:aw} {id ik jf:Nat} {bn:Bool} {ns:List cJ} {ep:Nat} {ks:List (iN Int)} {ef:Nat} {fs:List Nat} (h:AtL σ id ik jf bn ns ep ks ef fs) (n:cJ) (p:Nat) (hp:n.l=(p:Int)) (a:iN Int) (ha:ks[p]?=some a)
include h hp ha
theorem F1:cC code I.qdk [aH id 0 0 0,n.a] σ=some (fy [.aa a.b (cG a.l),aC true],σ++[aB 12 0 [n.a]]):=by
 rw[cz akN rfl];obtain⟨f,g,i⟩:=h.more [aB 12 0 [n.a]];have b:=(ak.1 ha).1;have d:∀e:p<ks.length,ks[p]'e=a:=fun e=>(ak.1 ha).2;have c:((p:Int)<(ks.length:Int)):=by omega
 have n3:aM n.a=12∧isAgg n.a=true:=⟨rfl,rfl⟩;have k1:(cellsOf n.a)[1]?=some (ap n.l):=rfl;simp[atu,afY,n3,k1,hp,ha,d,b,c,f,g]
theorem Jr(g:n.cond.length≤bC)(o:a.l.length≤bC):cC code I.qdl [aH id 0 0 0,n.a] σ=some (fy [.aa a.b (cG a.l),aC (jE n.cond a.l)],σ++[aB 12 0 [n.a]]):=by
 rw[cz aor rfl];obtain⟨j,l,q⟩:=h.more [aB 12 0 [n.a]];have k:=fun i m=>EX i n.cond m a.l g o;have b:=(ak.1 ha).1;have d:∀f:p<ks.length,ks[p]'f=a:=fun f=>(ak.1 ha).2;have e:((p:Int)<(ks.length:Int)):=by omega
 have n3:aM n.a=12∧isAgg n.a=true:=⟨rfl,rfl⟩;have k1:(cellsOf n.a)[1]?=some (ap n.l):=rfl;have k6:List.take 1 (List.drop 6 (cellsOf n.a))=[.aa n.bc (n.cond.map EN.a)]:=rfl;have c:(cellsOf n.a)[6]?=some (.aa n.bc (n.cond.map EN.a)):=rfl;simp[auE,aey,n3,k1,k6,c,hp,ha,d,b,e,j,l,k]
theorem MF(B:n.ords.length≤bC)(J:a.l.length≤bC)(D:ks.length≤8000)(F:ns.length≤8000):∃X Y,cC code I.qdo [aH id 0 0 0,n.a] σ=some (fy [.aa a.b (cG a.l),aC (Il n a.l&&decide (ks.length+1=ns.length))],σ++[X,Y]):=by
 refine⟨aB 12 0 [n.a],aB 1 0 [.aa a.b (cG a.l)],?_⟩;rw[cz al7 rfl];obtain⟨u,v,H⟩:=h.more [aB 12 0 [n.a]];obtain⟨t,r,G⟩:=h.more [aB 12 0 [n.a],aB 1 0 [.aa a.b (cG a.l)]];obtain⟨g,m,E⟩:=h.more [aB 12 0 [n.a],aB 1 0 [.ai]];have i:=(ak.1 ha).1;have j:∀y:p<ks.length,ks[p]'y=a:=fun y=>(ak.1 ha).2;have d:((p:Int)<(ks.length:Int)):=by omega
 have n3:aM n.a=12∧isAgg n.a=true:=⟨rfl,rfl⟩;have k1:(cellsOf n.a)[1]?=some (ap n.l):=rfl;have k:(cellsOf n.a)[10]?=some (.aa n.bo (n.ords.map iq)):=rfl;have e:(cellsOf n.a)[11]?=some (ap n.limit):=rfl;have s:=rJ (n:=(ns.length:Int)-1) (by omega) (by omega)
 have q:=vP (enc:=iq) (b:=n.bo) (l:=n.ords) (f:=.fn 203 [] [.cptr true (.aa a.b (cG a.l)) 0]) (p:=fun o=>decide (o.1<0) ||decide ((a.l.length:Int)≤o.1)) B (fun _=>⟨rfl,rfl⟩) (fun σ=>by simp) (fun o _=>by
  have A:∀σ,fz true false 0 σ 20 (iq o)=iq o:=fun σ=>Fx.fx true false 0 σ 17 o;simp[A,OZ])
 have C:((ks.length:Int)==(ns.length:Int)-1)=decide (ks.length+1=ns.length):=by
  rw[eM];simp;omega
 unfold Il;by_cases w:n.ords.length≤3
 ·have c:(n.ords.length:Int)≤3:=by omega
  cases hA:(n.ords.any fun o=>decide (o.1<0) ||decide ((a.l.length:Int)≤o.1)) with
  |true=>
   rw[hA]at q;simp[arW,J0,n3,k1,k,e,hp,ha,j,i,d,u,v,t,r,g,m,s,q,w,c]
  |false=>
   rw[hA]at q;by_cases x:-1≤n.limit
   ·by_cases z:n.limit≤2147483647
    ·simp[arW,J0,n3,k1,k,e,hp,ha,j,i,d,u,v,t,r,g,m,s,q,w,c,x,z,C]
    simp[arW,J0,n3,k1,k,e,hp,ha,j,i,d,u,v,t,r,g,m,s,q,w,c,x,z]
   simp[arW,J0,n3,k1,k,e,hp,ha,j,i,d,u,v,t,r,g,m,s,q,w,c,x]
 have c:¬(n.ords.length:Int)≤3:=by omega
 simp[arW,J0,n3,k1,k,e,hp,ha,j,i,d,u,v,t,r,g,m,s,w,c]
end
end
def fK(n:cJ)(i:Nat)(fs:List Nat):Int×Bool:=
 if iz n.op=0 then ((i:Int),n.l == -1&&n.r == -1)
 else if iz n.op=1 then (if n.l≠(i:Int)-1∨n.r≠-1∨i=0 then (0,false) else ((fs.getD (i-1) 0:Nat),true))
 else if n.r≠(i:Int)-1∨i=0∨n.l≠(fs.getD (i-1) 0:Nat)-1∨n.l<0 then (0,false) else ((fs.getD n.l.toNat 0:Nat),true)
theorem tE(op:Int):iz op=0∨iz op=1∨iz op=2:=by
 unfold iz
 repeat' split
 all_goals simp
theorem Qo(t F:Bool)(x:List cJ)(L:Bool)(ks:List (iN Int))(K:Bool)(fs:List Nat)(i:Nat)(n:cJ)(hi:x[i]?=some n)(M:fs.length=i)(E:∀f∈fs,f≤i)(T:i≤8000) :
  bB I.qdj [.cptr t (ur F x L ks K fs) 0,ap i]=some (fy [ap (fK n i fs).1,aC (fK n i fs).2]):=by
 rw[aT akh rfl];have b:=(ak.1 hi).1;have c:∀J:i<x.length,x[i]'J=n:=fun J=>(ak.1 hi).2;have d:((i:Int)<(x.length:Int)):=by omega
 have S:∀base σ m,fz true false base σ (m+3) n.a=n.a:=fun base σ m=>Ft.ft true false base σ m n rfl;have n3:aM n.a=12∧isAgg n.a=true:=⟨rfl,rfl⟩;have l:(cellsOf n.a)[0]?=some (ap n.op):=rfl;have k1:(cellsOf n.a)[1]?=some (ap n.l):=rfl;have k2:(cellsOf n.a)[2]?=some (ap n.r):=rfl;have a:=JI t F x L ks K fs;have v:=rJ (n:=(i:Int)-1) (by omega) (by omega);have j:=NW n.op;have w0:IntKind.i64.wrap (-1)=-1:=by decide
 unfold fK;rcases tE n.op with A|A|A
 ·rw[A]at j ⊢;by_cases k:n.l=-1
  ·simp[ary,xT,a,hi,c,b,d,n3,l,k1,k2,j,k]
  simp[ary,xT,a,hi,c,b,d,n3,l,k1,k2,j,k,fa k]
 ·rw[A]at j ⊢;by_cases k:n.l=(i:Int)-1
  ·by_cases p:n.r=-1
   ·by_cases w:i=0
    ·subst w;have s:n.l=-1:=by omega
     simp[ary,xT,a,hi,c,b,n3,l,k1,k2,j,s,p,w0]
    have e:¬((i:Int)=0):=by omega
    have B:(1:Int)≤(i:Int):=by omega
    have y:((i:Int)-1).toNat=i-1:=by omega
    have r:i-1<fs.length:=by omega
    have z:((i:Int)-1<(fs.length:Int)):=by omega
    have g:fs[i-1]?=some (fs.getD (i-1) 0):=by simp[aR,r]
    have o:∀h:i-1<fs.length,fs[i-1]'h=fs.getD (i-1) 0:=fun h=>(ak.1 g).2;generalize fs.getD (i-1) 0=f at *;simp[ary,xT,a,hi,c,b,d,n3,l,k1,k2,j,v,k,p,w,e,fa e,B,y,r,z,g,o]
   simp[ary,xT,a,hi,c,b,d,n3,l,k1,k2,j,v,k,p,C1 p]
  simp[ary,xT,a,hi,c,b,d,n3,l,k1,k2,j,v,k,C1 k]
 rw[A]at j ⊢;by_cases k:n.r=(i:Int)-1
 ·by_cases w:i=0
  ·subst w;have s:n.r=-1:=by omega
   simp[ary,xT,a,hi,c,b,n3,l,k1,k2,j,s,w0]
  have e:¬((i:Int)=0):=by omega
  have B:(1:Int)≤(i:Int):=by omega
  have y:((i:Int)-1).toNat=i-1:=by omega
  have r:i-1<fs.length:=by omega
  have z:((i:Int)-1<(fs.length:Int)):=by omega
  have g:fs[i-1]?=some (fs.getD (i-1) 0):=by simp[aR,r]
  have o:∀h:i-1<fs.length,fs[i-1]'h=fs.getD (i-1) 0:=fun h=>(ak.1 g).2;have P:=E _ (aN g);have G:=rJ (n:=((fs.getD (i-1) 0:Nat):Int)-1) (by omega) (by omega);generalize fs.getD (i-1) 0=f at *;by_cases p:n.l=(f:Int)-1
  ·by_cases O:n.l<0
   ·obtain rfl:f=0:=by omega
    have u:n.l=-1:=by omega
    simp[ary,xT,a,hi,c,b,d,n3,l,k1,k2,j,v,k,w,e,fa e,B,y,r,z,g,o,u,w0]
   have D:0≤n.l:=by omega
   have H:n.l.toNat < fs.length:=by omega
   have N:(n.l<(fs.length:Int)):=by omega
   have q:fs[n.l.toNat]?=some (fs.getD n.l.toNat 0):=by simp[aR,H]
   have C:∀h:n.l.toNat < fs.length,fs[n.l.toNat]'h=fs.getD n.l.toNat 0:=fun h=>(ak.1 q).2;generalize fs.getD n.l.toNat 0=Q at *;have u:(n.l != (f:Int)-1)=false:=by simp[p]
   generalize n.l=R at *;simp[ary,xT,a,hi,c,b,d,n3,l,k1,k2,j,v,G,k,w,e,fa e,B,y,r,z,g,o,u,O,D,H,N,q,C];simp[p]
  simp[ary,xT,a,hi,c,b,d,n3,l,k1,k2,j,v,G,k,w,e,fa e,B,y,r,z,g,o,p,C1 p]
 simp[ary,xT,a,hi,c,b,d,n3,l,k1,k2,j,v,k,C1 k]
theorem Wi{n:cJ}{i:Nat}{fs:List Nat}(g:fs.length=i)(b:∀f∈fs,f≤i)(h:(fK n i fs).2=true):(fK n i fs).1=(((fK n i fs).1.toNat:Nat):Int)∧(fK n i fs).1.toNat≤i:=by
 have e:∀k,fs.getD k 0≤i:=fun k=>by
  by_cases d:k<fs.length
  ·rw[aR,au d];exact b _ (aJ d)
  rw[aR,fU (by omega)];exact cK _
 unfold fK at *;rcases tE n.op with c|c|c<;>rw[c]at h ⊢<;>simp at h ⊢
 ·split at h
  ·cases h
  rename_i a;rw[if_neg a];exact⟨by simp,by simpa using e (i-1)⟩
 split at h
 ·cases h
 rename_i a;rw[if_neg a];exact⟨by simp,by simpa using e n.l.toNat⟩
def ZR(id:Nat)(op:Int):aq:=
 if op=1 then .fn 80 [aH id 0 0 0] [] else if op=2 then .fn 199 [aH id 0 0 0] [] else if op=3 then .fn 91 [aH id 0 0 0] [] else if op=4 then .fn 200 [aH id 0 0 0] [] else
 if op=5 then .fn 106 [aH id 0 0 0] [] else if op=6 then .fn 201 [aH id 0 0 0] [] else if op=7 then .fn 202 [aH id 0 0 0] [] else if op=8 then .fn 159 [aH id 0 0 0] [] else .nilf
def u0(id:Nat):List (aq×aq):=[(ap 1,.fn 80 [aH id 0 0 0] []),(ap 2,.fn 199 [aH id 0 0 0] []),(ap 3,.fn 91 [aH id 0 0 0] []),(ap 4,.fn 200 [aH id 0 0 0] []),
 (ap 5,.fn 106 [aH id 0 0 0] []),(ap 6,.fn 201 [aH id 0 0 0] []),(ap 7,.fn 202 [aH id 0 0 0] []),(ap 8,.fn 159 [aH id 0 0 0] [])]
theorem Pp(id:Nat)(op:Int):lookup (ap op) (u0 id)=some (if 1≤op∧op≤8 then some (ZR id op) else none):=by
 unfold u0 ZR;by_cases h:1≤op∧op≤8
 ·rw[if_pos h];have:op=1∨op=2∨op=3∨op=4∨op=5∨op=6∨op=7∨op=8:=by omega
  rcases this with rfl|rfl|rfl|rfl|rfl|rfl|rfl|rfl<;>rfl
 rw[if_neg h];have g:¬1=op:=by omega
 have f:¬2=op:=by omega
 have d:¬3=op:=by omega
 have c:¬4=op:=by omega
 have e:¬5=op:=by omega
 have a:¬6=op:=by omega
 have b:¬7=op:=by omega
 have i:¬8=op:=by omega
 simp[lookup,qH,fa g,fa f,fa d,fa c,fa e,fa a,fa b,fa i]
def kX(N:Nat)(ks:List (iN Int))(n:cJ):Option (iN Int):=
 if n.op=1 then (if Iq n then some ⟨n.bk,n.ac⟩ else none)
 else (ks[n.l.toNat]?).bind fun a=>
  if n.op=2 then (ks[n.r.toNat]?).bind fun b=>if jE n.cond (a.l++b.l) then some ⟨false,a.l++b.l⟩ else none
  else if n.op=3 then (if jE n.cond a.l then some a else none)
  else if n.op=4 then (if vA n a.l&&n.ah.all (fun g=>(Dw a.l g).1) then some ⟨false,(n.keys.map fun x=>a.l.getD x.toNat 0)++n.ah.map (uY a.l)⟩ else none)
  else if n.op=5 then (if decide (1≤n.items.length)&&decide (n.items.length≤16)&&n.items.all (fun e=>(eI e.l a.l).2==0) then some ⟨false,n.items.map fun e=>(eI e.l a.l).1⟩ else none)
  else if n.op=6 then some a
  else if n.op=7 then (ks[n.r.toNat]?).bind fun b=>if a.l.length=b.l.length then (kq a.l b.l).map fun r=>⟨false,r⟩ else none
  else if n.op=8 then (if Il n a.l&&decide (ks.length+1=N) then some a else none)
  else none
def Za(call:Option (aq×aw))(σ:aw)(o:Option (iN Int)):Prop:=∃b l X,call=some (fy [.aa b (cG l),aC o.isSome],σ++X)∧∀r,o=some r→r=⟨b,l⟩
theorem qG{call:Option (aq×aw)}{σ:aw}{b:Bool}{l:List Int}{X:aw}{t:Bool}(h:call=some (fy [.aa b (cG l),aC t],σ++X)):Za call σ (if t then some ⟨b,l⟩ else none):=by
 refine⟨b,l,X,?_,?_⟩
 ·rw[h];cases t<;>rfl
 intro r a;cases t with
 |true=>simpa using a.symm
 |false=>cases a
theorem AtL.snapped{σ:aw}{id g c:Nat}{b:Bool}{a:List cJ}{ep:Nat}{ks:List (iN Int)}{e:Nat}{fs:List Nat}(h:AtL σ id g c b a ep ks e fs):fz true false 0 σ 20 (aH id 0 0 0)=.cptr true (ur b a true ks true fs) 0:=by
 obtain⟨d,j,i⟩:=h;have f:List.take ks.length (ks.map (iN.c (.int .i64)))=ks.map (iN.c (.int .i64)):=ay (by simp);have k:List.take fs.length (pL fs)=pL fs:=ay (by simp);simp[d,j,i,f,k]
theorem VJ{σ:aw}{id N U:Nat}{E:Bool}{k:List cJ}{ep:Nat}{ks:List (iN Int)}{S:Nat}{fs:List Nat}(h:AtL σ id N U E k ep ks S fs)(n:cJ)(y:sZ n)(R:1≤n.op∧n.op≤8)
  {fs0:List Nat} (z:(fK n ks.length fs0).2=true) (K:∀f∈fs0,f≤ks.length) (V:fs0.length=ks.length) (o:∀a∈ks,a.l.length≤16) (H:ks.length≤8000) (I:k.length≤8000):Za (jp code (ZR id n.op) [n.a] σ) σ (kX k.length ks n):=by
 have B:uZ≤bC:=by decide
 have D:∀base σ m,fz true false base σ (m+3) n.a=n.a:=fun base σ m=>Ft.ft true false base σ m n rfl;have s:=h.snapped;have at1:n.op=3∨n.op=4∨n.op=5∨n.op=6∨n.op=8→∃p:Nat,∃a,n.l=(p:Int)∧ks[p]?=some a:=fun t=>by
  unfold fK at z;rw[if_neg (by unfold iz;rw[if_neg (by omega)];split<;>omega),if_pos (by unfold iz;rw[if_neg (by omega),if_neg (by omega)])]at z;split at z
  ·cases z
  rename_i A;have P:ks.length≠0:=fun J=>A (.inr (.inr J));have Q:n.l=(ks.length:Int)-1:=by
   by_cases v:n.l=(ks.length:Int)-1
   ·exact v
   exact absurd (.inl v) A
  exact⟨ks.length-1,ks[ks.length-1]'(by omega),by omega,au _⟩
 have at2:n.op=2∨n.op=7→∃p q:Nat,∃a b,n.l=(p:Int)∧n.r=(q:Int)∧ks[p]?=some a∧ks[q]?=some b:=fun t=>by
  unfold fK at z;rw[if_neg (by unfold iz;rw[if_neg (by omega),if_pos t];omega),if_neg (by unfold iz;rw[if_neg (by omega),if_pos t];omega)]at z;split at z
  ·cases z
  rename_i A;have P:ks.length≠0:=fun J=>A (.inr (.inl J));have Q:n.r=(ks.length:Int)-1:=by
   by_cases v:n.r=(ks.length:Int)-1
   ·exact v
   exact absurd (.inl v) A
  have h2:0≤n.l:=by
   by_cases v:n.l<0
   ·exact absurd (.inr (.inr (.inr v))) A
   omega
  have W:n.l=((fs0.getD (ks.length-1) 0:Nat):Int)-1:=by
   by_cases v:n.l=((fs0.getD (ks.length-1) 0:Nat):Int)-1
   ·exact v
   exact absurd (.inr (.inr (.inl v))) A
  have Z:fs0.getD (ks.length-1) 0≤ks.length:=by
   have:ks.length-1<fs0.length:=by omega
   rw[aR,au this];exact K _ (aJ this)
  exact⟨n.l.toNat,ks.length-1,ks[n.l.toNat]'(by omega),ks[ks.length-1]'(by omega),by omega,by omega,au _,au _⟩
 have:n.op=1∨n.op=2∨n.op=3∨n.op=4∨n.op=5∨n.op=6∨n.op=7∨n.op=8:=by omega
 rcases this with c|c|c|c|c|c|c|c
 ·have j:=OS (aH id 0 0 0) n σ (bR y.ac B);have e:kX k.length ks n=if Iq n then some ⟨n.bk,n.ac⟩ else none:=by unfold kX;rw[if_pos c]
  rw[e,show ZR id n.op=.fn 80 [aH id 0 0 0] [] by rw[c];rfl];exact qG j
 ·obtain⟨p,q,a,b,i,t,d,l⟩:=at2 (.inl c);have u:=o _ (aN d);have M:=o _ (aN l);have j:=RM true E k true ks true fs n p q i t a b d l (bR y.cond B) (by unfold bC;omega);have e:kX k.length ks n=if jE n.cond (a.l++b.l) then some ⟨false,a.l++b.l⟩ else none:=by unfold kX;simp[c,i,t,d,l]
  rw[e,show ZR id n.op=.fn 199 [aH id 0 0 0] [] by rw[c];rfl];refine qG (X:=[]) ?_;simp[s,D,j]
 ·obtain⟨p,a,i,d⟩:=at1 (.inl c);have u:=o _ (aN d);have j:=Jr h n p i a d (bR y.cond B) (by unfold bC;omega);have e:kX k.length ks n=if jE n.cond a.l then some a else none:=by unfold kX;simp[c,i,d]
  rw[e,show ZR id n.op=.fn 91 [aH id 0 0 0] [] by rw[c];rfl];exact qG j
 ·obtain⟨p,a,i,d⟩:=at1 (.inr (.inl c));have u:=o _ (aN d);have j:=OX true E k true ks true fs n p i a d y.keys y.ah (fun g C=>bR (y.args g C) B) (by unfold bC;omega);rw[show ZR id n.op=.fn 200 [aH id 0 0 0] [] by rw[c];rfl];by_cases C:vA n a.l=true
  ·rw[if_pos C]at j;have e:kX k.length ks n=if n.ah.all (fun g=>(Dw a.l g).1) then some ⟨false,(n.keys.map fun x=>a.l.getD x.toNat 0)++n.ah.map (uY a.l)⟩ else none:=by unfold kX;simp[c,i,d,C]
   rw[e];refine qG (X:=[]) ?_;simp only[dO];rw[ahl,anv];simp only[bX,bT,dO,aV,bm,GD,s,D,j,dK]
  rw[if_neg C]at j;have e:kX k.length ks n=if false then some ⟨false,[]⟩ else none:=by unfold kX;simp[c,i,d,C]
  rw[e];refine qG (X:=[]) ?_;simp[s,D,j]
 ·obtain⟨p,a,i,d⟩:=at1 (.inr (.inr (.inl c)));have u:=o _ (aN d);have j:=Jy true E k true ks true fs n p i a d (bR y.items B) (fun e O=>bR (y.exprs e O) B) (by unfold bC;omega);have e:kX k.length ks n=if decide (1≤n.items.length)&&decide (n.items.length≤16)&&n.items.all (fun e=>(eI e.l a.l).2==0) then some ⟨false,n.items.map fun e=>(eI e.l a.l).1⟩ else none:=by unfold kX;simp[c,i,d]
  rw[e,show ZR id n.op=.fn 106 [aH id 0 0 0] [] by rw[c];rfl];refine qG (X:=[]) ?_;rw[ahl,akR];simp only[bX,bT,dO,aV,bm,GD,s,D,j,dK]
 ·obtain⟨p,a,i,d⟩:=at1 (.inr (.inr (.inr (.inl c))));have j:=F1 h n p i a d;have e:kX k.length ks n=if true then some a else none:=by unfold kX;simp[c,i,d]
  rw[e,show ZR id n.op=.fn 201 [aH id 0 0 0] [] by rw[c];rfl];exact qG j
 ·obtain⟨p,q,a,b,i,t,d,l⟩:=at2 (.inr c);have u:=o _ (aN d);rw[show ZR id n.op=.fn 202 [aH id 0 0 0] [] by rw[c];rfl];by_cases G:a.l.length=b.l.length
  ·obtain⟨L,j,T⟩:=Og true E k true ks true fs n p q i t a b d l (by unfold bC;omega) G;have e:kX k.length ks n=(kq a.l b.l).map fun r=>⟨false,r⟩:=by unfold kX;simp[c,i,t,d,l,G]
   rw[e];refine⟨false,L,[],?_,?_⟩
   ·rw[ahl,amK];simp only[bX,bT,dO,aV,bm,GD,s,D,j,dK,Option.isSome_map]
   intro r F;cases hu:kq a.l b.l with
   |none=>rw[hu]at F;cases F
   |some w=>
    rw[hu]at F;cases F;rw[T w hu]
  have j:=RE true E k true ks true fs n p q i t a b d l G;have e:kX k.length ks n=if false then some ⟨false,[]⟩ else none:=by unfold kX;simp[c,i,t,d,l,G]
  rw[e];refine qG (X:=[]) ?_;simp[s,D,j]
 obtain⟨p,a,i,d⟩:=at1 (.inr (.inr (.inr (.inr c))));have u:=o _ (aN d);obtain⟨X,Y,j⟩:=MF h n p i a d (bR y.ords B) (by unfold bC;omega) H I;have e:kX k.length ks n=if Il n a.l&&decide (ks.length+1=k.length) then some a else none:=by unfold kX;simp[c,i,d]
 rw[e,show ZR id n.op=.fn 159 [aH id 0 0 0] [] by rw[c];rfl];exact qG j
def pd(N:Nat)(n:cJ)(ks:List (iN Int))(fs:List Nat):Option (iN Int×Nat):=
 if (decide (1≤n.op)&&decide (n.op≤8)&&iy n&&(fK n ks.length fs).2)=false then none else
 match kX N ks n with
 |none=>none
 |some r=>if 16<r.l.length then none else some (r,(fK n ks.length fs).1.toNat)
def jK(N:Nat)(k:Nat)(n:cJ)(s:List (iN Int)×List Nat):(List (iN Int)×List Nat)⊕Nat:=match pd N n s.1 s.2 with
 |some r=>.inl (s.1++[r.1],s.2++[r.2])
 |none=>.inr k
abbrev ady(L:Nat)(bn:Bool)(ns:List cJ):List aq:=
 [aI [.aa bn (ns.map cJ.a)],aH L 0 0 0,aH (L+1) 0 0 0,aH (L+2) 0 0 0,aH (L+3) 0 0 0,aH (L+5) 0 0 0,ap ns.length,am,am,aC false,.fn 79 [] [aH (L+6) 0 0 0],am,am,am]
abbrev stL(L:Nat)(P:aw)(bn:Bool)(ns:List cJ)(r2 r3 r4:aq)(ep:Nat)(kc:List aq)(ef:Nat)(fc:List aq)(o:Obj):aw:=
 P++[aB 1 0 [aI [.aa bn (ns.map cJ.a)]],aB 1 0 [r2],aB 1 0 [r3],aB 1 0 [r4],aB 3 0 [aI [.aa bn (ns.map cJ.a),.sl (L+7) ep 0 kc.length,.sl (L+8) ef 0 fc.length]],aB 1 0 [aH (L+4) 0 0 0],aB 1 0 [aH (L+4) 0 0 0],aB 1 ep kc,aB 1 ef fc,o]
theorem UY(L:Nat)(P:aw)(i:(L=1∧∃a,P=[aB 1 0 [a]])∨(L=2∧∃a b,P=[aB 1 0 [a],aB 1 0 [b]]))(c:Bool)(d:List cJ)(k:Nat)(ok:Bool)(ep:Nat)(e:List aq)(f:Nat)(h:List aq)(X:aw) :
  cC code 35 (.frs (L+9) []::(ady L c d++[ap k,aC ok])) (stL L P c d .nilp (ap 0) (aC false) ep e f h (.pend false none)++X) =
   some (aC ok,if ok then stL L P c d .nilp (ap 0) (aC false) ep e f h (.pend false none)++X else stL L P c d (aH (L+4) 0 0 0) (ap k) (aC false) ep e f h (.pend false (some .ret))++X):=by
 rw[Fa good (g:=qK) rfl];rcases i with⟨rfl,a,rfl⟩|⟨rfl,a,b,rfl⟩
 all_goals
  cases ok
  ·simp[qK,sC,uG,sA,sg,lE]
  simp[qK,sC,uG,sA,sg,lE]
end Go.AM
namespace Go.AM
open P
set_option maxHeartbeats 64000000
set_option maxRecDepth 40000

end Go.AM
namespace Go.AM
open P
set_option maxHeartbeats 2000000
set_option maxRecDepth 4000
end Go.AM
namespace Go.AM
open P
set_option maxHeartbeats 64000000
set_option maxRecDepth 40000
attribute [local simp] aG bd
def Ms(r:Pa):aq:=.aa false (r.map wm.a)
instance:Nc Ms 1 false:=⟨fun _=>rfl,fun _=>rfl⟩
instance:Fx Ms:=⟨fun fl top base σ n y=>by simp[Ms]⟩
@[simp] theorem aoS(r:Pa):aM (Ms r)=1:=rfl
@[simp] theorem aoe(r:Pa):isAgg (Ms r)=false:=rfl
instance:Nc (iN.c Ms) 1 false:=⟨fun _=>rfl,fun _=>rfl⟩

instance:Nc (aq.int .u8) 1 false:=⟨fun _=>rfl,fun _=>rfl⟩
instance:Fx (aq.int .u8):=⟨fun _ _ _ _ _ _=>rfl⟩
instance:Nc (fun (c:UInt8)=>aq.int .u8 (c.toNat:Int)) 1 false:=⟨fun _=>rfl,fun _=>rfl⟩
instance:Fx (fun (c:UInt8)=>aq.int .u8 (c.toNat:Int)):=⟨fun _ _ _ _ _ _=>rfl⟩



@[simp] theorem apb(l a:Nat)(env args:List aq)(σ:aw):jp code (.yld l a env) args σ=if pD σ l then cC code a (.frs l []::env++args) σ else none:=rfl
@[simp] theorem ajw(l:Nat)(env:List aq)(r:aq×aw):Vm l env (some r)=sJ l env r.2:=rfl
def ahF(g:Pa×an1):aq:=aI [Ms g.1,.aa false (g.2.map Ms)]
instance:Nc ahF 2 true:=⟨fun _=>rfl,fun _=>rfl⟩
instance:Fx ahF:=⟨fun fl top base σ n y=>by
 cases fl<;>simp[ahF,Ms]⟩

theorem Ry(fl top:Bool)(base:Nat)(σ:aw)(n l s:Nat)(e:List aq):fz fl top base σ (n+1) (.yld l s e)=if (decide (l<base)&&top)=true then .yld l s (e.map (fz fl top base σ n)) else am:=by
 simp only[fz]
abbrev K9(L:Nat)(bn:Bool)(ns:List cJ)(k:Nat)(c:aq):List aq:=
 [.yld (L+9) 35 (ady L bn ns),aH (L+6) 0 0 0,.mp (L+10),am,am,am,am,am,am,am,.aa bn (ns.map cJ.a),ap ns.length,ap k,c,am,am,am]
abbrev stA(L:Nat)(P:aw)(bn:Bool)(ns:List cJ)(k:Nat)(ks:List (iN Int))(fs:List Nat):aw:=
 stL L P bn ns .nilp (ap 0) (aC false) k (ks.map (iN.c (.int .i64))) k (pL fs) (.pend false none)++[.map (u0 (L+4))]
theorem acU(id base:Nat)(σ:aw)(h:id<base):(u0 id).map (fun e=>(e.1,fz false true base σ 20 e.2))=u0 id:=by
 simp[u0,h]
def Ln(L:Nat)(P:aw)(bn:Bool)(ns:List cJ)(k:Nat)(τ:aw):Prop:=
 ∃ep kc ef fc X,τ=stL L P bn ns (aH (L+4) 0 0 0) (ap k) (aC false) ep kc ef fc (.pend false (some .ret))++X
theorem ahp(L:Nat)(P:aw)(C:(L=1∧∃a,P=[aB 1 0 [a]])∨(L=2∧∃a b,P=[aB 1 0 [a],aB 1 0 [b]]))(Q:∀x,aB 1 0 [x]∈P→∀base σ m,fz false true base σ (m+3) x=x)(p:Bool)(i:List cJ)(hN:∀n∈i,sZ n)(hl:i.length≤60) :
  match dp (jK i.length) i 0 ([],[]) with
  |.inl s=>(s.1.length=i.length∧s.2.length=i.length)∧bU code (L+11) [3,4,5,6,7,8,9,13,14,15,16] pt ⟨K9 L p i 0 .any,stA L P p i 0 [] []⟩=some (.ext 0,⟨K9 L p i i.length (.bool false),stA L P p i i.length s.1 s.2⟩)
  |.inr k=>∃env τ,bU code (L+11) [3,4,5,6,7,8,9,13,14,15,16] pt ⟨K9 L p i 0 .any,stA L P p i 0 [] []⟩=some (.ret,⟨env,τ⟩)∧Ln L P p i k τ:=by
 have hm:i.length≤bC:=by unfold bC;omega
 have key:=iQ (base:=L+11) (clr:=[3,4,5,6,7,8,9,13,14,15,16]) (b:=pt) i
  (fun k (s:List (iN Int)×List Nat)=>⟨K9 L p i k am,stA L P p i k s.1 s.2⟩)
  (fun k s=>(s.1.length=k∧s.2.length=k)∧(∀f∈s.2,f≤k)∧∀a∈s.1,a.l.length≤16) (jK i.length)
  (fun s=>(.ext 0,⟨K9 L p i i.length (aC false),stA L P p i i.length s.1 s.2⟩))
  (fun (k:Nat) o=>∃env τ,o=(.ret,⟨env,τ⟩)∧Ln L P p i k τ)
  (fun k n s hk E hs=>by
   obtain⟨ks,fs⟩:=s;obtain⟨⟨c,d⟩,B,K⟩:=hs;simp only at c d B K;have M:((k:Int)<(i.length:Int)):=by omega
   have n1:∀base σ m,fz true false base σ (m+3) n.a=n.a:=fun base σ m=>Ft.ft true false base σ m n rfl;have n3:aM n.a=12∧isAgg n.a=true:=⟨rfl,rfl⟩;have N:(cellsOf n.a)[0]?=some (ap n.op):=rfl;have t:k+1≤bC:=by unfold bC;omega
   have j:=Pp (L+4) n.op;have T:=SQ n;have y:=fun σ=>WF n 0 σ 17;have H:=SM n;have W:=hN n (aN E);have Z:=fun ep Y ef fc X=>UY L P C p i k true ep Y ef fc X;have I:=fun ep Y ef fc X=>UY L P C p i k false ep Y ef fc X;have u:List.take k (ks.map (iN.c (.int .i64)))=ks.map (iN.c (.int .i64)):=ay (by simp[c]);have z:List.take k (pL fs)=pL fs:=ay (by simp[d]);unfold jK pd;simp only;by_cases O:1≤n.op∧n.op≤8
   ·rw[if_pos O]at j;rw[abx O]at H;have d1:decide (1≤n.op)=true:=qL O.1;have d2:decide (n.op≤8)=true:=qL O.2;rw[d1,d2];cases c2:iy n with
    |false=>
     rw[c2]at H;have J:=I (k+1) (ks.map (iN.c (.int .i64))++[.ai]) k (pL fs) [.map (u0 (L+4)),aB 12 0 [n.a],aB 12 0 [(aI (nE n))],aB 12 0 [(aI (nE n))]];rcases C with⟨g,a,rfl⟩|⟨g,a,b,rfl⟩
     all_goals
      simp only[g,Nat.reduceAdd]at j;simp[c,d,g]at J;exact⟨_,by simp[pt,g,M,E,n3,N,ma,j,c,d,append,t,u,T,y,H,J,pD];rfl,_,_,rfl,k+1,ks.map (iN.c (.int .i64))++[.ai],k,pL fs,[.map (u0 (L+4)),aB 12 0 [n.a],aB 12 0 [(aI (nE n))],aB 12 0 [(aI (nE n))]],rfl⟩
    |true=>
     rw[c2]at H;have q:=Qo true p i true ks true fs k n E d B (by omega);cases c3:(fK n k fs).2 with
     |false=>
      rw[c3]at q;rw[c,c3];have J:=I (k+1) (ks.map (iN.c (.int .i64))++[.ai]) (k+1) (pL fs++[ap (fK n k fs).1]) [.map (u0 (L+4)),aB 12 0 [n.a],aB 12 0 [(aI (nE n))],aB 12 0 [(aI (nE n))]];rcases C with⟨g,a,rfl⟩|⟨g,a,b,rfl⟩
      all_goals
       simp only[g,Nat.reduceAdd]at j;simp[c,d,g]at J;exact⟨_,by simp[pt,g,M,E,n3,N,ma,j,c,d,append,t,u,z,T,y,H,q,J,pD];rfl,_,_,rfl,k+1,ks.map (iN.c (.int .i64))++[.ai],k+1,pL fs++[ap (fK n k fs).1],[.map (u0 (L+4)),aB 12 0 [n.a],aB 12 0 [(aI (nE n))],aB 12 0 [(aI (nE n))]],rfl⟩
     |true=>
      rw[c3]at q;rw[c,c3];obtain⟨U,ae⟩:=Wi d B c3;rw[U]at q;generalize (fK n k fs).1.toNat=f at *;have V:AtL (stL L P p i .nilp (ap 0) (aC false) k (ks.map (iN.c (.int .i64))) (k+1) (pL (fs++[f])) (.pend false none)++[.map (u0 (L+4)),aB 12 0 [n.a],aB 12 0 [aI (nE n)],aB 12 0 [aI (nE n)]]) (L+4) (L+7) (L+8) p i k ks (k+1) (fs++[f]):=by
       rcases C with⟨g,a,rfl⟩|⟨g,a,b,rfl⟩
       all_goals
        subst g;exact⟨by simp only[stL,dg];rfl,rfl,rfl⟩
      obtain⟨S,l,X,D,hr⟩:=VJ V n W O (fs0:=fs) (by rw[c];exact c3) (by rw[c];exact B) (by rw[c];exact d) K (by omega) (by omega);have ad:(cG l).length=l.length:=by simp
      have af:aM (.aa S (cG l))=1∧isAgg (.aa S (cG l))=false:=⟨rfl,rfl⟩;have v:=I (k+1) (ks.map (iN.c (.int .i64))++[.aa S (cG l)]) (k+1) (pL (fs++[f])) (.map (u0 (L+4))::aB 12 0 [n.a]::aB 12 0 [aI (nE n)]::aB 12 0 [aI (nE n)]::X);have w:=Z (k+1) (ks.map (iN.c (.int .i64))++[.aa S (cG l)]) (k+1) (pL (fs++[f])) (.map (u0 (L+4))::aB 12 0 [n.a]::aB 12 0 [aI (nE n)]::aB 12 0 [aI (nE n)]::X);cases hA:kX i.length ks n with
      |none=>
       rw[hA]at D;simp only[jM,Bool.true_eq_false,cI];rcases C with⟨g,a,rfl⟩|⟨g,a,b,rfl⟩
       all_goals
        simp only[g,Nat.reduceAdd]at j;simp[c,d,g]at v D;exact⟨_,by simp[pt,g,M,E,n3,N,ma,j,c,d,append,t,u,z,T,y,H,q,D,v,pD];rfl,_,_,rfl,k+1,ks.map (iN.c (.int .i64))++[.aa S (cG l)],k+1,pL (fs++[f]),.map (u0 (L+4))::aB 12 0 [n.a]::aB 12 0 [aI (nE n)]::aB 12 0 [aI (nE n)]::X,rfl⟩
      |some r=>
       obtain rfl:=hr r hA;rw[hA]at D;simp only;by_cases hw:16<l.length
       ·have G:¬((l.length:Int)≤16):=by omega
        rw[if_pos hw];rcases C with⟨g,a,rfl⟩|⟨g,a,b,rfl⟩
        all_goals
         simp only[g,Nat.reduceAdd]at j;simp[c,d,g]at v D;exact⟨_,by simp[pt,g,M,E,n3,N,ma,j,c,d,append,t,u,z,T,y,H,q,D,G,v,pD];rfl,_,_,rfl,k+1,ks.map (iN.c (.int .i64))++[.aa S (cG l)],k+1,pL (fs++[f]),.map (u0 (L+4))::aB 12 0 [n.a]::aB 12 0 [aI (nE n)]::aB 12 0 [aI (nE n)]::X,rfl⟩
       have G:((l.length:Int)≤16):=by omega
       rw[if_neg hw];refine⟨?_,⟨by simp[c],by simp[d]⟩,?_,?_⟩
       ·have F:=fun base σ h=>acU (L+4) base σ h;rcases C with⟨g,a,rfl⟩|⟨g,a,b,rfl⟩
        ·have R:=Q a (by simp);simp only[g,Nat.reduceAdd]at j F;simp[c,d,g]at w D;simp[K9,pt,g,M,E,n3,N,ma,j,c,d,append,t,u,z,T,y,H,q,D,G,w,pD,bQ,bw,Ry,R,F,cW hk hm]
        have R:=Q a (by simp);have ab:=Q b (by simp);simp only[g,Nat.reduceAdd]at j F;simp[c,d,g]at w D;simp[K9,pt,g,M,E,n3,N,ma,j,c,d,append,t,u,z,T,y,H,q,D,G,w,pD,bQ,bw,Ry,R,ab,F,cW hk hm]
       ·intro x A;rcases ba.1 A with A|A
        ·exact Nat.le_succ_of_le (B x A)
        rw[aP.1 A];omega
       intro x A;rcases ba.1 A with A|A
       ·exact K x A
       rw[aP.1 A];simp;omega
   rw[if_neg O]at j;have e:(decide (1≤n.op)&&decide (n.op≤8)&&iy n&&(fK n ks.length fs).2)=false:=by
    by_cases h:1≤n.op
    ·have:¬n.op≤8:=fun h'=>O ⟨h,h'⟩;simp[this]
    simp[h]
   rw[if_pos e];have J:=I (k+1) (ks.map (iN.c (.int .i64))++[.ai]) k (pL fs) [.map (u0 (L+4)),aB 12 0 [n.a]];rcases C with⟨g,a,rfl⟩|⟨g,a,b,rfl⟩
   all_goals
    simp only[g,Nat.reduceAdd]at j;simp[c,d,g]at J;exact⟨_,by simp[pt,g,M,E,n3,N,ma,j,c,d,append,t,u,J,pD];rfl,_,_,rfl,k+1,ks.map (iN.c (.int .i64))++[.ai],k,pL fs,[.map (u0 (L+4)),aB 12 0 [n.a]],rfl⟩)
  (fun s hs=>by
   rcases C with⟨rfl,a,rfl⟩|⟨rfl,a,b,rfl⟩
   all_goals simp[pt]) ([],[]) ⟨⟨rfl,rfl⟩,by simp,by simp⟩
 simp only[show ((0:Nat):Int)=0 from rfl]at key;cases hf:dp (jK i.length) i 0 ([],[]) with
 |inl s=>
  rw[hf]at key;exact⟨key.1.1,key.2⟩
 |inr k=>
  rw[hf]at key;obtain⟨o,h1,env,τ,rfl,h2⟩:=key;exact⟨env,τ,h1,h2⟩
def lookF(ns:List cJ):Option (List (iN Int)×List Nat):=
 if ns.length<1∨60<ns.length then none else match dp (jK ns.length) ns 0 ([],[]) with
 |.inl s=>if s.2.getD (ns.length-1) 0=0 then some s else none
 |.inr _=>none
abbrev stE(L:Nat)(P:aw)(bn:Bool)(ns:List cJ)(s:List (iN Int)×List Nat)(t:Bool):aw:=
 stL L P bn ns (aH (L+4) 0 0 0) (ap ((ns.length:Int)-1)) (aC t) ns.length (s.1.map (iN.c (.int .i64))) ns.length (pL s.2) .dead++[.map (u0 (L+4))]
theorem Pc(id:Nat)(N:aq)(σ:aw)(h:σ[id]?=some (aB 3 0 [aI [N,.ai,.ai]])) :
  cC code I.qdh [aH id 0 0 0] σ=some (.fn 79 [] [aH σ.length 0 0 0],(σ.set id (aB 3 0 [aI [N,.sl (σ.length+1) 0 0 0,.sl (σ.length+2) 0 0 0]]))++[aB 1 0 [aH id 0 0 0],aB 1 0 [],aB 1 0 []]):=by
 rw[cz amd rfl];have a:=(ak.1 h).1;have c:(σ++[aB 1 0 [aH id 0 0 0]])[id]?=some (aB 3 0 [aI [N,.ai,.ai]]):=by rw[aS a,h]
 have b:∀X t,(σ.set id X++t)[id]?=some X:=fun X t=>by rw[aS (by simpa using a)];simp[a]
 simp[atT,aeU,h,c,b,a]
theorem Ez(L:Nat)(P:aw)(h:(L=1∧∃a,P=[aB 1 0 [a]])∨(L=2∧∃a b,P=[aB 1 0 [a],aB 1 0 [b]]))(g:∀x,aB 1 0 [x]∈P→∀base σ m,fz false true base σ (m+3) x=x)(e:Bool)(c:List cJ)(j:∀n∈c,sZ n)(i:c.length≤60) :
  match dp (jK c.length) c 0 ([],[]) with
  |.inl s=>(s.1.length=c.length∧s.2.length=c.length)∧cC code 79 [.yld (L+9) 35 (ady L e c),.ptr (L+6) 0 0 0] (stL L P e c .nilp (.int .i64 0) (.bool false) 0 [] 0 [] (.pend false none))=some (.tup [],stA L P e c c.length s.1 s.2)
  |.inr k=>∃τ,cC code 79 [.yld (L+9) 35 (ady L e c),.ptr (L+6) 0 0 0] (stL L P e c .nilp (.int .i64 0) (.bool false) 0 [] 0 [] (.pend false none))=some (.tup [],τ)∧Ln L P e c k τ:=by
 have d:=ahp L P h g e c j i;cases hf:dp (jK c.length) c 0 ([],[]) with
 |inl s=>
  rw[hf]at d;obtain⟨o,d⟩:=d;refine⟨o,?_⟩;rw[cz agD rfl];rcases h with⟨f,a,rfl⟩|⟨f,a,b,rfl⟩
  all_goals
   subst f;simp[K9,u0]at d;simp[asq,Z3,ma,mput,qH,u0,d]
 |inr k=>
  rw[hf]at d;obtain⟨env,τ,d,l⟩:=d;refine⟨τ,?_,l⟩;rw[cz agD rfl];rcases h with⟨f,a,rfl⟩|⟨f,a,b,rfl⟩
  all_goals
   subst f;simp[K9,u0]at d;simp[asq,Z3,ma,mput,qH,u0,d]
theorem acz(L:Nat)(P:aw)(o:(L=1∧∃a,P=[aB 1 0 [a]])∨(L=2∧∃a b,P=[aB 1 0 [a],aB 1 0 [b]]))(j:∀x,aB 1 0 [x]∈P→∀base σ m,fz false true base σ (m+3) x=x)(g:Bool)(c:List cJ)(B:∀n∈c,sZ n)
  (G:0<c.length) (A:c.length≤60) (s:List (iN Int)×List Nat) (C:dp (jK c.length) c 0 ([],[])=.inl s) :
  cC code I.qdw [aI [.aa g (c.map cJ.a)]] P=some (fy [aH (L+4) 0 0 0,ap ((c.length:Int)-1),aC (s.2.getD (c.length-1) 0==0)],stE L P g c s (s.2.getD (c.length-1) 0==0)):=by
 rw[cz XQ rfl];have F:¬((c.length:Int)<1):=by omega
 have E:¬(60<(c.length:Int)):=by omega
 have H:c.length≤bC:=by unfold bC;omega
 have d:=Ez L P o j g c B A;rw[C]at d;obtain⟨⟨w,q⟩,d⟩:=d;have v:=rJ (n:=(c.length:Int)-1) (by omega) (by omega);have y:(0:Int)≤(c.length:Int)-1:=by omega
 have z:((c.length:Int)-1).toNat=c.length-1:=by omega
 have u:((c.length:Int)-1<(c.length:Int)):=by omega
 have D:(1:Int)≤(c.length:Int):=by omega
 have p:c.length-1<s.2.length:=by omega
 have r:c.length-1<c.length:=by omega
 obtain⟨ks,fs⟩:=s;simp only at *;have e:fs[c.length-1]?=some (fs.getD (c.length-1) 0):=by simp[aR,p]
 have k:∀h:c.length-1<fs.length,fs[c.length-1]'h=fs.getD (c.length-1) 0:=fun h=>(ak.1 e).2;generalize fs.getD (c.length-1) 0=f at *;have t:=fun id σ h=>Pc id (.aa g (c.map cJ.a)) σ h;have i:((f:Int)==0)=(f==0):=by rw[eM,aX,aX];omega
 rcases o with⟨l,a,rfl⟩|⟨l,a,b,rfl⟩
 all_goals
  subst l;simp at d;simp[ar2,O3,F,E,t,d,sJ,v,y,z,u,D,p,r,e,k,w,q,i]
theorem VL(L:Nat)(P:aw)(i:(L=1∧∃a,P=[aB 1 0 [a]])∨(L=2∧∃a b,P=[aB 1 0 [a],aB 1 0 [b]]))(f:∀x,aB 1 0 [x]∈P→∀base σ m,fz false true base σ (m+3) x=x)(e:Bool)(c:List cJ)(o:∀n∈c,sZ n)
  (v:0<c.length) (l:c.length≤60) (k:Nat) (p:dp (jK c.length) c 0 ([],[])=.inr k) :
  ∃τ,cC code I.qdw [aI [.aa e (c.map cJ.a)]] P=some (fy [aH (L+4) 0 0 0,ap k,aC false],τ):=by
 rw[cz XQ rfl];have r:¬((c.length:Int)<1):=by omega
 have q:¬(60<(c.length:Int)):=by omega
 have d:=Ez L P i f e c o l;rw[p]at d;obtain⟨τ,d,ep,u,s,t,X,rfl⟩:=d;have j:=fun id σ h=>Pc id (.aa e (c.map cJ.a)) σ h;rcases i with⟨g,a,rfl⟩|⟨g,a,b,rfl⟩
 all_goals
  subst g;simp at d;exact⟨_,by simp[ar2,O3,r,q,j,d,sJ];rfl⟩
theorem V7(L:Nat)(P:aw)(h:(L=1∧∃a,P=[aB 1 0 [a]])∨(L=2∧∃a b,P=[aB 1 0 [a],aB 1 0 [b]]))(g:Bool)(d:List cJ)(i:d.length<1∨60<d.length) :
  ∃τ,cC code I.qdw [aI [.aa g (d.map cJ.a)]] P=some (fy [aH (L+4) 0 0 0,ap 0,aC false],τ):=by
 rw[cz XQ rfl];rcases h with⟨f,a,rfl⟩|⟨f,a,b,rfl⟩
 all_goals
  subst f;by_cases j:d.length<1
  ·have c:((d.length:Int)<1):=by omega
   exact⟨_,by simp[ar2,O3,c];rfl⟩
  have c:¬((d.length:Int)<1):=by omega
  have e:(60<(d.length:Int)):=by omega
  exact⟨_,by simp[ar2,O3,c,e];rfl⟩
theorem Nq(L:Nat)(P:aw)(i:(L=1∧∃a,P=[aB 1 0 [a]])∨(L=2∧∃a b,P=[aB 1 0 [a],aB 1 0 [b]]))(f:∀x,aB 1 0 [x]∈P→∀base σ m,fz false true base σ (m+3) x=x)(e:Bool)(d:List cJ)(o:∀n∈d,sZ n) :
  match lookF d with
  |some s=>(0<d.length∧d.length≤60∧s.1.length=d.length∧s.2.length=d.length)∧cC code I.qdw [.agg [.aa e (d.map cJ.a)]] P=some (.tup [.ptr (L+4) 0 0 0,.int .i64 ((d.length:Int)-1),.bool true],stE L P e d s true)
  |none=>∃k τ,cC code I.qdw [.agg [.aa e (d.map cJ.a)]] P=some (.tup [.ptr (L+4) 0 0 0,.int .i64 k,.bool false],τ):=by
 unfold lookF;by_cases h:d.length<1∨60<d.length
 ·rw[if_pos h];obtain⟨τ,h⟩:=V7 L P i e d h;exact⟨_,τ,h⟩
 rw[if_neg h];have l:0<d.length:=by omega
 have g:d.length≤60:=by omega
 cases hf:dp (jK d.length) d 0 ([],[]) with
 |inr k=>
  obtain⟨τ,h⟩:=VL L P i f e d o l g k hf;exact⟨_,τ,h⟩
 |inl s=>
  have j:=acz L P i f e d o l g s hf;have p:=Ez L P i f e d o g;rw[hf]at p;simp only;by_cases c:s.2.getD (d.length-1) 0=0
  ·rw[if_pos c];rw[c]at j;exact⟨⟨l,g,p.1.1,p.1.2⟩,j⟩
  rw[if_neg c];rw[show (s.2.getD (d.length-1) 0==0)=false by simpa using c]at j;exact⟨_,_,j⟩
theorem Aw(b:Bool)(a:List cJ)(d:∀n∈a,sZ n):∃k,bB I.qcx [aI [.aa b (a.map cJ.a)]]=some (fy [ap k,ap (if (lookF a).isSome then 0 else 230)]):=by
 have h:=Nq 1 [aB 1 0 [aI [.aa b (a.map cJ.a)]]] (.inl ⟨rfl,_,rfl⟩) (fun x c base σ m=>by simp at c;rw[c];simp) b a d;cases hl:lookF a with
 |none=>
  rw[hl]at h;obtain⟨k,τ,h⟩:=h;refine⟨k,?_⟩;rw[aT afn rfl];simp[as7,Zl,h]
 |some s=>
  rw[hl]at h;obtain⟨_,h⟩:=h;refine⟨0,?_⟩;rw[aT afn rfl];simp[as7,Zl,h]
theorem Wl(f:Bool)(b:List cJ)(q:∀n∈b,sZ n)(s:List (iN Int)×List Nat)(y:lookF b=some s)(r:∀a∈s.1,a.l.length≤16) :
  bB I.qcy [aI [.aa f (b.map cJ.a)]]=some (fy [.aa false (cG (s.1.getD (b.length-1) Zc).l),ap 0]):=by
 have h:=Nq 1 [aB 1 0 [aI [.aa f (b.map cJ.a)]]] (.inl ⟨rfl,_,rfl⟩) (fun x i base σ m=>by simp at i;rw[i];simp) f b q;rw[y]at h;obtain⟨⟨z,A,w,o⟩,h⟩:=h;rw[aT ahg rfl];obtain⟨ks,fs⟩:=s;simp only at *;have v:=rJ (n:=(b.length:Int)-1) (by omega) (by omega);have k:(0:Int)≤(b.length:Int)-1:=by omega
 have l:((b.length:Int)-1).toNat=b.length-1:=by omega
 have t:((b.length:Int)-1<(b.length:Int)):=by omega
 have u:(1:Int)≤(b.length:Int):=by omega
 have j:b.length-1<ks.length:=by omega
 have p:b.length-1<b.length:=by omega
 have c:ks[b.length-1]?=some (ks.getD (b.length-1) Zc):=by simp[aR,j]
 have d:∀h:b.length-1<ks.length,ks[b.length-1]'h=ks.getD (b.length-1) Zc:=fun h=>(ak.1 c).2;have g:=r _ (aN c);generalize ks.getD (b.length-1) Zc=a at *;have e:=p6 (enc:=.int .i64) a.b a.l (by unfold bC;omega);simp at h;simp[ate,aac,h,v,k,l,t,u,j,p,c,d,w,o,e]
end Go.AM
namespace Go.AM
open P
set_option maxHeartbeats 64000000
set_option maxRecDepth 40000
structure NS (n:cJ):Prop where
 fit:sZ n
 keys:n.keys.length≤8000
 ah:n.ah.length≤8000
 items:n.items.length≤8000
structure NOk (n:cJ):Prop where
 l:n.l<100
 r:n.r<100
 ac:n.ac.length≤8000
 ords:n.ords.length≤8000
theorem RU{N:Nat}{n:cJ}{ks:List (iN Int)}{fs:List Nat}{r:iN Int}{f:Nat}(y:ks.length≤60)(q:∀x∈fs,x≤ks.length)(h:pd N n ks fs=some (r,f)):NOk n∧r.l.length≤16∧f≤ks.length:=by
 unfold pd at h;split at h
 ·cases h
 rename_i e;simp only[kZ,not_or,Bool.not_eq_false]at e;obtain⟨⟨⟨v,p⟩,u⟩,b⟩:=e;split at h
 ·cases h
 rename_i w c;split at h
 ·cases h
 cases h;have g:∀j,fs.getD j 0≤ks.length:=fun j=>by
  rw[aR];cases hj:fs[j]? with
  |none=>simp
  |some x=>exact q x (aN hj)
 have d:=u;unfold iy at d;simp only[ax,dL,aX]at d;have t:n.ac.length≤8000:=by
  by_cases e:n.op=1
  ·unfold kX at c;rw[if_pos e]at c;split at c
   ·rename_i k;unfold Iq at k;simp only[ax,cd]at k;omega
   cases c
  have:=d.1.1.1.1.1;simp at p;rcases this with (h|h)|h
  ·exact absurd h e
  ·omega
  omega
 have s:n.ords.length≤8000:=by
  by_cases o:n.op=8
  ·unfold kX at c;rw[if_neg (by omega)]at c;obtain⟨a,_,c⟩:=aK.1 c;rw[if_neg (by omega),if_neg (by omega),if_neg (by omega),if_neg (by omega),if_neg (by omega),if_neg (by omega),if_pos o]at c;split at c
   ·rename_i k;simp only[ax]at k;have:=k.1;unfold Il at this;simp only[ax,cd]at this;omega
   cases c
  have:=d.2;rcases this with h|h
  ·exact absurd h o
  omega
 have i:n.l<100∧n.r<100∧(fK n ks.length fs).1.toNat≤ks.length:=by
  unfold fK at b ⊢;split at b
  ·rename_i l;rw[if_pos l];simp at b;simp only;omega
  rename_i l;rw[if_neg l];split at b
  ·rename_i e;rw[if_pos e];split at b
   ·cases b
   rename_i m;rw[if_neg m];have:=g (ks.length-1);simp only;omega
  rename_i e;rw[if_neg e];split at b
  ·cases b
  rename_i m;rw[if_neg m];have:=g (ks.length-1);have:=g n.l.toNat;simp only;omega
 exact⟨⟨i.1,i.2.1,t,s⟩,by omega,i.2.2⟩
theorem G4{N:Nat}:∀(u:List cJ) (i:Nat) (s s':List (iN Int)×List Nat),s.1.length+u.length≤60→(∀x∈s.2,x≤s.1.length)→(∀a∈s.1,a.l.length≤16)→dp (jK N) u i s=.inl s'→s'.1.length=s.1.length+u.length∧(∀a∈s'.1,a.l.length≤16)∧∀n∈u,NOk n
 |[],_,s,s',_,_,c,h=>by simp only[dp]at h;cases h;exact⟨rfl,c,fun n f=>(by cases f)⟩
 |n::u,i,s,s',g,e,c,h=>by
  cases hq:pd N n s.1 s.2 with
  |none=>simp only[dp,jK,hq]at h;cases h
  |some q=>
   simp only[dp,jK,hq]at h;rw[bA]at g;obtain⟨k,j,l⟩:=RU (by omega) e hq
   obtain⟨k1,k2,k3⟩:=G4 u _ _ _ (by simp;omega) (fun x b=>by
    simp only[bZ,List.length_singleton];rcases ba.1 b with b|b
    ·have:=e x b;omega
    ·rw[aP.1 b];omega) (fun a b=>by
    rcases ba.1 b with b|b
    ·exact c a b
    rw[aP.1 b];exact j) h
   refine⟨by rw[k1];simp;omega,k2,fun m d=>?_⟩;rcases dY.1 d with rfl|d
   ·exact k
   exact k3 m d
theorem BQ{b:List cJ}{s:List (iN Int)×List Nat}(h:lookF b=some s):s.1.length=b.length∧1≤b.length∧(∀a∈s.1,a.l.length≤16)∧∀n∈b,NOk n:=by
 unfold lookF at h;split at h
 ·cases h
 rename_i e;split at h
 ·rename_i d c;split at h
  ·cases h;obtain⟨k1,k2,k3⟩:=G4 b 0 _ _ (by simp;omega) (by simp) (by simp) c;exact⟨by simpa using k1,by omega,k2,k3⟩
  cases h
 cases h
def ldK(w:List cJ):List Int:=(((lookF w).bind fun s=>s.1[w.length-1]?).map iN.l).getD []
theorem aeg(w:List cJ):(ldK w).length≤16:=by
 unfold ldK;cases h:lookF w with
 |none=>simp
 |some s=>
  obtain⟨_,_,a,_⟩:=BQ h;cases hq:s.1[w.length-1]? with
  |none=>simp[hq]
  |some r=>simpa [hq] using a r (aN hq)
end Go.AM
namespace Go.AM
open P
set_option maxHeartbeats 64000000
set_option maxRecDepth 40000
attribute [local simp] aG bd
theorem yi{h:Type}{enc:h→aq}[Nc enc 2 true][Fx enc](b:Bool)(l:List h)(j:l.length≤bC):bB I.qgc [.aa b (l.map enc)]=some (.frs 2 (l.map enc)):=by
 cases l with
 |nil=>cases b<;>exact kV (n:=20) (σ:=[]) (by kernel_rfl)
 |cons v r=>
  have a:=HY (f:=enc) (v::r);have m:((v::r).map enc).length=r.length+1:=by simp
  have d:kw [] (.aa b ((v::r).map enc))=false:=rfl;unfold bB;rw[kQ good afK,d];simp only[bq,cI];unfold mz;have g:r.length+1≤bC:=by simpa using j
  have c:uN false [] (.aa b ((v::r).map enc))=some (aC false):=rfl;have i:=rz (f:=enc) (v::r) 0 0 [aB 2 0 ((v::r).map enc)] rfl;have e:(v::r).map enc≠[]:=by simp
  have k:∀x,x∈(v::r).map enc→aM x=2:=fun x e=>by simpa using aY.1 a x e
  have o:((v::r).map enc).take (r.length+1)=(v::r).map enc:=ay (by simp);simp only[bA]at i;generalize (v::r).map enc=xs at *;simp[auC,aeM,enter,qY,append,a,m,g,-uN,c,e];rw[if_pos k];simp[qY];exact i
@[simp] theorem xN{a:Type}{enc:a→aq}[Nc enc 2 true][Fx enc](b:Bool)(l:List a)(c:l.length≤bC)(σ:aw):cC code I.qgc [.aa b (l.map enc)] σ=some (.frs 2 (l.map enc),σ):=by
 rw[tZ afK rfl,yi b l c];rfl
theorem uX{h:Type}{enc:h→aq}[Nc enc 8 true][Fx enc](b:Bool)(l:List h)(j:l.length≤bC):bB I.qga [.aa b (l.map enc)]=some (.frs 8 (l.map enc)):=by
 cases l with
 |nil=>cases b<;>exact kV (n:=20) (σ:=[]) (by kernel_rfl)
 |cons v r=>
  have a:=HY (f:=enc) (v::r);have m:((v::r).map enc).length=r.length+1:=by simp
  have d:kw [] (.aa b ((v::r).map enc))=false:=rfl;unfold bB;rw[kQ good aft,d];simp only[bq,cI];unfold mz;have g:r.length+1≤bC:=by simpa using j
  have c:uN false [] (.aa b ((v::r).map enc))=some (aC false):=rfl;have i:=rz (f:=enc) (v::r) 0 0 [aB 8 0 ((v::r).map enc)] rfl;have e:(v::r).map enc≠[]:=by simp
  have k:∀x,x∈(v::r).map enc→aM x=8:=fun x e=>by simpa using aY.1 a x e
  have o:((v::r).map enc).take (r.length+1)=(v::r).map enc:=ay (by simp);simp only[bA]at i;generalize (v::r).map enc=xs at *;simp[atl,ag6,enter,qY,append,a,m,g,-uN,c,e];rw[if_pos k];simp[qY];exact i
@[simp] theorem ku{a:Type}{enc:a→aq}[Nc enc 8 true][Fx enc](b:Bool)(l:List a)(c:l.length≤bC)(σ:aw):cC code I.qga [.aa b (l.map enc)] σ=some (.frs 8 (l.map enc),σ):=by
 rw[tZ aft rfl,uX b l c];rfl
theorem yl{h:Type}{enc:h→aq}[Nc enc 2 true][Fx enc](b:Bool)(l:List h)(j:l.length≤bC):bB I.qfz [.aa b (l.map enc)]=some (.frs 2 (l.map enc)):=by
 cases l with
 |nil=>cases b<;>exact kV (n:=20) (σ:=[]) (by kernel_rfl)
 |cons v r=>
  have a:=HY (f:=enc) (v::r);have m:((v::r).map enc).length=r.length+1:=by simp
  have d:kw [] (.aa b ((v::r).map enc))=false:=rfl;unfold bB;rw[kQ good agA,d];simp only[bq,cI];unfold mz;have g:r.length+1≤bC:=by simpa using j
  have c:uN false [] (.aa b ((v::r).map enc))=some (aC false):=rfl;have i:=rz (f:=enc) (v::r) 0 0 [aB 2 0 ((v::r).map enc)] rfl;have e:(v::r).map enc≠[]:=by simp
  have k:∀x,x∈(v::r).map enc→aM x=2:=fun x e=>by simpa using aY.1 a x e
  have o:((v::r).map enc).take (r.length+1)=(v::r).map enc:=ay (by simp);simp only[bA]at i;generalize (v::r).map enc=xs at *;simp[auj,ag5,enter,qY,append,a,m,g,-uN,c,e];rw[if_pos k];simp[qY];exact i
@[simp] theorem wR{a:Type}{enc:a→aq}[Nc enc 2 true][Fx enc](b:Bool)(l:List a)(c:l.length≤bC)(σ:aw):cC code I.qfz [.aa b (l.map enc)] σ=some (.frs 2 (l.map enc),σ):=by
 rw[tZ agA rfl,yl b l c];rfl
theorem wj{h:Type}{enc:h→aq}[Nc enc 1 true][Fx enc](b:Bool)(l:List h)(j:l.length≤bC):bB I.qgb [.aa b (l.map enc)]=some (.frs 1 (l.map enc)):=by
 cases l with
 |nil=>cases b<;>exact kV (n:=20) (σ:=[]) (by kernel_rfl)
 |cons v r=>
  have a:=HY (f:=enc) (v::r);have m:((v::r).map enc).length=r.length+1:=by simp
  have d:kw [] (.aa b ((v::r).map enc))=false:=rfl;unfold bB;rw[kQ good afF,d];simp only[bq,cI];unfold mz;have g:r.length+1≤bC:=by simpa using j
  have c:uN false [] (.aa b ((v::r).map enc))=some (aC false):=rfl;have i:=rz (f:=enc) (v::r) 0 0 [aB 1 0 ((v::r).map enc)] rfl;have e:(v::r).map enc≠[]:=by simp
  have k:∀x,x∈(v::r).map enc→aM x=1:=fun x e=>by simpa using aY.1 a x e
  have o:((v::r).map enc).take (r.length+1)=(v::r).map enc:=ay (by simp);simp only[bA]at i;generalize (v::r).map enc=xs at *;simp[atX,afG,enter,qY,append,a,m,g,-uN,c,e];rw[if_pos k];simp[qY];exact i
@[simp] theorem v7{a:Type}{enc:a→aq}[Nc enc 1 true][Fx enc](b:Bool)(l:List a)(c:l.length≤bC)(σ:aw):cC code I.qgb [.aa b (l.map enc)] σ=some (.frs 1 (l.map enc),σ):=by
 rw[tZ afF rfl,wj b l c];rfl
def xK(g:ll):aq:=aI [ap g.tag,.aa false (g.arg.map EN.a)]
def yv(e:yK):aq:=aI [.aa false (e.l.map EN.a)]
instance:Nc xK 2 true:=⟨fun _=>rfl,fun _=>rfl⟩
instance:Fx xK:=⟨fun fl top base σ n y=>by simp[xK]⟩
instance:Nc yv 1 true:=⟨fun _=>rfl,fun _=>rfl⟩
instance:Fx yv:=⟨fun fl top base σ n y=>by simp[yv]⟩
structure oU (n:cJ):Prop where
 ag:∀g∈n.ah,g.b=false
 ex:∀e∈n.items,e.b=false
theorem oU.ags{n:cJ}(h:oU n):n.ah.map ll.a=n.ah.map xK:=aW fun g a=>by simp[ll.a,xK,h.ag g a]
theorem oU.exs{n:cJ}(h:oU n):n.items.map yK.a=n.items.map yv:=aW fun e a=>by simp[yK.a,yv,h.ex e a]
def gD(by':Int)(n:cJ):cJ:=⟨n.op,if 0≤n.l then n.l+by' else n.l,if 0≤n.r then n.r+by' else n.r,n.tab,false,n.ac,n.left,false,n.cond,false,n.keys,false,n.ah,false,n.items,false,n.ords,n.limit⟩
abbrev nC(n:cJ)(l r:Int):aq:=aI [ap n.op,ap l,ap r,ap n.tab,.sl 2 0 0 n.ac.length,aC n.left,.sl 5 0 0 n.cond.length,.sl 3 0 0 n.keys.length,.sl 6 0 0 n.ah.length,.sl 7 0 0 n.items.length,.sl 4 0 0 n.ords.length,ap n.limit]
abbrev stC(n:cJ)(l r:Int)(z:aq):aw:=[aB 12 0 [nC n l r],aB 12 0 [z],aB 1 0 (n.ac.map (.int .i64)),aB 1 0 (n.keys.map (.int .i64)),aB 2 0 (n.ords.map iq),aB 8 0 (n.cond.map EN.a),aB 2 0 (n.ah.map xK),aB 1 0 (n.items.map yv)]
abbrev N6:aq:=aI [ap 0,ap 0,ap 0,ap 0,.ai,aC false,.ai,.ai,.ai,.ai,.ai,ap 0]
theorem HD{a:Type}{l:List a}{k:Nat}{x:a}(h:l[k]?=some x):l.set k x=l:=by
 obtain⟨b,rfl⟩:=ak.1 h;exact List.set_getElem_self b
theorem OD(n:cJ)(L:oU n)(o:sZ n)(c:Int)(K:0≤n.l→-9223372036854775808≤n.l+c∧n.l+c < 9223372036854775808)(M:0≤n.r→-9223372036854775808≤n.r+c∧n.r+c < 9223372036854775808) :
  bB I.qdu [n.a,ap c]=some (gD c n).a:=by
 rw[aT anp rfl];have p:uZ≤bC:=by decide
 have k1:=fun b=>p6 (enc:=.int .i64) b n.ac (bR o.ac p);have k2:=fun b=>p6 (enc:=.int .i64) b n.keys (bR o.keys p);have k3:=fun b=>xN (enc:=iq) b n.ords (bR o.ords p);have k4:=fun b=>ku (enc:=EN.a) b n.cond (bR o.cond p);have k5:=fun b=>wR (enc:=xK) b n.ah (bR o.ah p);have k6:=fun b=>v7 (enc:=yv) b n.items (bR o.items p);have J:=L.ags;have H:=L.exs;generalize v:(if 0≤n.l then n.l+c else n.l)=w;generalize i:(if 0≤n.r then n.r+c else n.r)=y;have N:gD c n=⟨n.op,w,y,n.tab,false,n.ac,n.left,false,n.cond,false,n.keys,false,n.ah,false,n.items,false,n.ords,n.limit⟩:=by unfold gD;rw[v,i]
 have d:=fun B z:Bool=>(gL (base:=8) (clr:=[4,10]) (b:=Ge) n.ah
  (fun k (_:Unit)=>⟨[n.a,ap c,aH 0 0 0 0,aH 1 0 0 0,am,am,aC B,aC z,ap n.ah.length,ap k,am,am,am,am],stC n w y N6⟩)
  (fun _ _=>True) (fun _ _=>())
  (fun _=>(.ext 0,⟨[n.a,ap c,aH 0 0 0 0,aH 1 0 0 0,am,am,aC B,aC z,ap n.ah.length,ap n.ah.length,aC false,am,am,am],stC n w y N6⟩))
  (fun k g _ C q _=>by
   have F:((k:Int)<(n.ah.length:Int)):=by omega
   refine⟨?_,trivial⟩;have u:=fun b=>ku (enc:=EN.a) b g.arg (bR (o.args g (aN q)) p);have s:∀h:k<n.ah.length,n.ah[k]'h=g:=fun h=>(ak.1 q).2;have E:∀base σ m,fz false true base σ (m+3) n.a=n.a:=fun base σ m=>Ft.ft false true base σ m n rfl;have l:(n.ah.map xK).set k (aI [ap g.tag,.aa false (g.arg.map EN.a)])=n.ah.map xK:=HD (by rw[eE,q];rfl);simp[Ge,F,q,C,s,xK,u,E,cW C (bR o.ah p),bQ,bw,l])
  (fun _ _=>by simp[Ge]) () trivial).1
 have e:=fun B z:Bool=>(gL (base:=8) (clr:=[5,13]) (b:=Gz) n.items
  (fun k (_:Unit)=>⟨[n.a,ap c,aH 0 0 0 0,aH 1 0 0 0,am,am,aC B,aC z,ap n.ah.length,ap n.ah.length,aC false,ap n.items.length,ap k,am],stC n w y N6⟩)
  (fun _ _=>True) (fun _ _=>())
  (fun _=>(.ext 2,⟨[n.a,ap c,aH 0 0 0 0,aH 1 0 0 0,am,am,aC B,aC z,ap n.ah.length,ap n.ah.length,aC false,ap n.items.length,ap n.items.length,aC false],stC n w y N6⟩))
  (fun k g _ C q _=>by
   have F:((k:Int)<(n.items.length:Int)):=by omega
   refine⟨?_,trivial⟩;have u:=fun b=>ku (enc:=EN.a) b g.l (bR (o.exprs g (aN q)) p);have s:∀h:k<n.items.length,n.items[k]'h=g:=fun h=>(ak.1 q).2;have E:∀base σ m,fz false true base σ (m+3) n.a=n.a:=fun base σ m=>Ft.ft false true base σ m n rfl;have l:(n.items.map yv).set k (aI [.aa false (g.l.map EN.a)])=n.items.map yv:=HD (by rw[eE,q];rfl);simp[Gz,F,q,C,s,yv,u,E,cW C (bR o.items p),bQ,bw,l])
  (fun _ _=>by simp[Gz]) () trivial).1
 have D:n.a=aI [ap n.op,ap n.l,ap n.r,ap n.tab,.aa n.bk (n.ac.map (.int .i64)),aC n.left,.aa n.bc (n.cond.map EN.a),.aa n.by' (n.keys.map (.int .i64)),.aa n.bg (n.ah.map xK),.aa n.bi (n.items.map yv),.aa n.bo (n.ords.map iq),ap n.limit]:=by unfold cJ.a;rw[J,H]
 have G:(gD c n).a=aI [ap n.op,ap w,ap y,ap n.tab,.aa false (n.ac.map (.int .i64)),aC n.left,.aa false (n.cond.map EN.a),.aa false (n.keys.map (.int .i64)),.aa false (n.ah.map xK),.aa false (n.items.map yv),.aa false (n.ords.map iq),ap n.limit]:=by rw[N];unfold cJ.a;simp only;rw[J,H]
 rw[G];simp only[show ((0:Nat):Int)=0 from rfl,stC,N6,nC,D]at d e;rw[D];have A:=fun h=>rJ (K h).1 (K h).2;have r:=fun h=>rJ (M h).1 (M h).2;by_cases t:0≤n.l
 ·rw[if_pos t]at v;rw[v]at A;have A:=A t;by_cases j:0≤n.r
  ·rw[if_pos j]at i;rw[i]at r;have r:=r j;simp[ar3,Pf,t,j,v,i,A,r,k1,k2,k3,k4,k5,k6,d,e];exact⟨fun a _=>by rw[Fx.fx (f:=xK) false false 0 _ 15 a],fun a _=>by rw[Fx.fx (f:=yv) false false 0 _ 15 a],fun a x h=>by rcases h with⟨_,rfl⟩|⟨_,rfl⟩<;>rw[Fx.fx (f:=iq) false false 0 _ 15 _]⟩
  rw[if_neg j]at i;subst i;simp[ar3,Pf,t,j,v,A,k1,k2,k3,k4,k5,k6,d,e];exact⟨fun a _=>by rw[Fx.fx (f:=xK) false false 0 _ 15 a],fun a _=>by rw[Fx.fx (f:=yv) false false 0 _ 15 a],fun a x h=>by rcases h with⟨_,rfl⟩|⟨_,rfl⟩<;>rw[Fx.fx (f:=iq) false false 0 _ 15 _]⟩
 rw[if_neg t]at v;subst v;by_cases j:0≤n.r
 ·rw[if_pos j]at i;rw[i]at r;have r:=r j;simp[ar3,Pf,t,j,i,r,k1,k2,k3,k4,k5,k6,d,e];exact⟨fun a _=>by rw[Fx.fx (f:=xK) false false 0 _ 15 a],fun a _=>by rw[Fx.fx (f:=yv) false false 0 _ 15 a],fun a x h=>by rcases h with⟨_,rfl⟩|⟨_,rfl⟩<;>rw[Fx.fx (f:=iq) false false 0 _ 15 _]⟩
 rw[if_neg j]at i;subst i;simp[ar3,Pf,t,j,k1,k2,k3,k4,k5,k6,d,e];exact⟨fun a _=>by rw[Fx.fx (f:=xK) false false 0 _ 15 a],fun a _=>by rw[Fx.fx (f:=yv) false false 0 _ 15 a],fun a x h=>by rcases h with⟨_,rfl⟩|⟨_,rfl⟩<;>rw[Fx.fx (f:=iq) false false 0 _ 15 _]⟩
def B4(n:cJ):aq:=aI [ap n.op,ap n.l,ap n.r,ap n.tab,.aa false (n.ac.map (.int .i64)),aC n.left,.aa false (n.cond.map EN.a),.aa false (n.keys.map (.int .i64)),.aa false (n.ah.map xK),.aa false (n.items.map yv),.aa false (n.ords.map iq),ap n.limit]
instance:Nc B4 12 true:=⟨fun _=>rfl,fun _=>rfl⟩
instance:Fx B4:=⟨fun fl top base σ n y=>by simp[B4]⟩
def lnC(n:cJ):List aq:=cellsOf (B4 n)
theorem Yk(n:cJ)(fl top:Bool)(base:Nat)(σ:aw)(m:Nat):(lnC n).map (fz fl top base σ (m+2))=lnC n:=by
 have h:fz fl top base σ (m+3) (B4 n)=B4 n:=Fx.fx fl top base σ m n;have e:B4 n=aI (lnC n):=rfl;rw[e]at h;simpa using h
theorem Tf{n:cJ}(h:oU n)(a:Int):(gD a n).a=B4 (gD a n):=by
 have c:(gD a n).ah.map ll.a=(gD a n).ah.map xK:=h.ags;have b:(gD a n).items.map yK.a=(gD a n).items.map yv:=h.exs;unfold cJ.a B4;rw[c,b];rfl
abbrev WR(N L:aq)(e4:aq)(i by' len idx:Int)(b15:Bool)(bp:Bool)(ps:List cJ)(k:Nat):List aq:=
 [N,L,aH 0 0 0 0,aH 1 0 0 0,e4,aH 2 0 0 0,ap i,aH 4 0 0 0,ap 0,ap by',am,am,L,ap len,ap idx,aC b15,aC false,.aa bp (ps.map cJ.a),ap ps.length,ap k,am,am,am]
abbrev stJ(nb res:aq)(ep:Nat)(o:List cJ)(P:aq):aw:=[aB 12 0 [nb],aB 1 0 [res],aB 1 0 [aI [.sl 3 ep 0 o.length]],aB 12 ep (o.map B4),aB 1 0 [P]]
theorem aap(N L q p e:aq)(i len g:Int)(f j:Bool)(a o:List cJ)(ep:Nat)(F:∀n∈a,oU n)(K:∀n∈a,sZ n)(Q:a.length≤60)(R:o.length≤8000)(t:∀n∈a,n.l<100∧n.r<100)
  (C:aM p=12) (y:∀base σ m,fz false true base σ (m+3) p=p) (D:∀base σ m,fz false true base σ (m+3) e=e) (x:∀base σ m,fz false true base σ (m+3) N=N) (w:∀base σ m,fz false true base σ (m+3) L=L) (z:∀base σ m,fz false true base σ (m+3) q=q) :
  bU code 5 [10,20] CF ⟨WR N L q i o.length len g f j a 0,stJ p e ep o (aI [.aa j (a.map cJ.a)])⟩ =
   some (.ext 2,⟨(WR N L q i o.length len g f j a a.length).set 20 (aC false),stJ p e (ep+a.length) (o++a.map (gD o.length)) (aI [.aa j (a.map cJ.a)])⟩):=by
 have loop:=dl (base:=5) (clr:=[10,20]) (b:=CF)
  (fun k=>⟨WR N L q i o.length len g f j a k,stJ p e (ep+k) (o++(a.take k).map (gD o.length)) (aI [.aa j (a.map cJ.a)])⟩) a.length
  (.ext 2,⟨(WR N L q i o.length len g f j a a.length).set 20 (aC false),stJ p e (ep+a.length) (o++a.map (gD o.length)) (aI [.aa j (a.map cJ.a)])⟩)
  (fun k u=>by
   have E:a[k]?=some a[k]:=au u;have A:∀h:k<a.length,a[k]'h=a[k]'u:=fun _=>rfl;have d:=aJ u;have l:=OD a[k] (F _ d) (K _ d) (o.length:Int) (fun h=>by have:=t _ d;omega) (fun h=>by have:=t _ d;omega);rw[Tf (F _ d)]at l;have J:(a.take (k+1)).map (gD (o.length:Int))=(a.take k).map (gD (o.length:Int))++[gD (o.length:Int) a[k]]:=by rw[eH,E,df];rfl
   have s:((a.take k).map (gD (o.length:Int))).length=k:=by simp;omega
   generalize I:(a.take k).map (gD (o.length:Int))=cs at *;generalize a[k]=n at *;rw[J];have n3:aM n.a=12∧isAgg n.a=true:=⟨rfl,rfl⟩;have G:∀base σ m,fz true false base σ (m+3) n.a=n.a:=fun base σ m=>Ft.ft true false base σ m n rfl;have H:∀base σ m,fz false true base σ (m+3) n.a=n.a:=fun base σ m=>Ft.ft false true base σ m n rfl;have v:o.length+(k+1)≤bC:=by unfold bC;omega
   have O:IntKind.i64.wrap ((k:Int)+1)=(k:Int)+1:=rJ (by omega) (by omega);have B:List.take (o.length+k) (o.map B4++cs.map B4)=o.map B4++cs.map B4:=ay (by simp[s]);generalize gD (o.length:Int) n=c at *;have r:B4 c=aI (lnC c):=rfl;have P:(lnC c).length=12:=rfl;have M:=Yk c;rw[r]at l;simp[WR,stJ,CF,u,E,A,G,H,n3,O,l,append,v,B,s,r,P,M,bQ,bw,y,D,x,w,z,C,cn,dE,dA])
  (by
   simp[CF])
 simpa using loop
structure xh where
 b:Bool
 l:List cJ
def xh.a(t:xh):aq:=aI [.aa t.b (t.l.map cJ.a)]
instance:Nc xh.a 1 true:=⟨fun _=>rfl,fun _=>rfl⟩
instance:Ft xh.a:=⟨fun fl top base σ n y h=>by cases fl<;>cases top<;>simp_all[xh.a]⟩
def eU(n:cJ)(l r:Int):cJ:={ n with l:=l,r:=r }
def om(k:Nat)(t:xh)(s:List cJ×Int×Int):(List cJ×Int×Int)⊕Unit:=
 if (lookF t.l).isSome then .inl (s.1++t.l.map (gD s.1.length),if k=0 then (s.1.length:Int)+t.l.length-1 else s.2.1,if k=0 then s.2.2 else (s.1.length:Int)+t.l.length-1) else .inr ()
abbrev nLR(n:cJ)(l r:Int):aq:=aI [ap n.op,ap l,ap r,ap n.tab,.aa n.bk (n.ac.map (.int .i64)),aC n.left,.aa n.bc (n.cond.map EN.a),.aa n.by' (n.keys.map (.int .i64)),.aa n.bg (n.ah.map ll.a),.aa n.bi (n.items.map yK.a),.aa n.bo (n.ords.map iq),ap n.limit]
abbrev AT(n:cJ)(bl:Bool)(ts:List xh)(k:Nat):List aq:=
 [n.a,.aa bl (ts.map xh.a),aH 0 0 0 0,aH 1 0 0 0,aq.any,aH 2 0 0 0,am,am,am,am,am,am,.aa bl (ts.map xh.a),ap ts.length,ap k,am,am,am,am,am,am,am,am]
abbrev JE(n:cJ)(s:List cJ×Int×Int):aw:=[aB 12 0 [nLR n s.2.1 s.2.2],aB 1 0 [aI [.ai]],aB 1 0 [aI [.sl 3 s.1.length 0 s.1.length]],aB 12 s.1.length (s.1.map B4)]
structure TOk (t:xh):Prop where
 fl:∀n∈t.l,oU n
 fit:∀n∈t.l,sZ n
 lr:(lookF t.l).isSome→∀n∈t.l,n.l<100∧n.r<100
theorem IT{a:List cJ}(h:(lookF a).isSome):1≤a.length∧a.length≤60:=by
 unfold lookF at h;split at h
 ·cases h
 omega
theorem Rw(n:cJ)(u:Bool)(a:List xh)(D:a.length≤100)(k:Nat)(t:xh)(s:List cJ×Int×Int)(w:k<a.length)(p:a[k]?=some t)(j:TOk t)(B:s.1.length≤k*60) :
  match om k t s with
  |.inl s'=>dh 4 [4,6,7,8,9,10,15,16,17,18,19,20,21] qF (run code qF ⟨AT n u a k,JE n s⟩)=bU code 4 [4,6,7,8,9,10,15,16,17,18,19,20,21] qF ⟨AT n u a (k+1),JE n s'⟩∧s'.1.length≤(k+1)*60
  |.inr _=>∃o,dh 4 [4,6,7,8,9,10,15,16,17,18,19,20,21] qF (run code qF ⟨AT n u a k,JE n s⟩)=some o∧∃q,o=(.ret,q)∧q.st[1]?=some (.arr 1 0 [.agg [.ai]])∧q.env[3]?=some (.ptr 1 0 0 0)∧q.env[4]?=some (.int .i64 230):=by
 obtain⟨c,d⟩:=Aw t.b t.l j.fit;have b:∀h:k<a.length,a[k]'h=t:=fun h=>(ak.1 p).2;have n3:aM t.a=1∧isAgg t.a=true:=⟨rfl,rfl⟩;obtain⟨o,l,r⟩:=s;simp only at B ⊢;unfold om;cases hl:(lookF t.l).isSome with
 |false=>
  rw[hl]at d;simp only[bq,cI]at d ⊢;exact⟨_,by simp[qF,w,p,b,n3,d,xh.a];rfl,_,rfl,rfl,rfl,rfl⟩
 |true=>
  rw[hl]at d;simp only[cw]at d ⊢;obtain⟨C,z⟩:=IT hl;have g:=aap n.a (.aa u (a.map xh.a)) am (nLR n l r) (aI [.ai]) k a.length k true t.b t.l o o.length j.fl j.fit z (by omega) (j.lr hl) rfl (by simp) (by simp) (fun base σ m=>Ft.ft false true base σ m n rfl) (by simp) (by simp);simp only[WR,stJ,List.set,bj]at g;have f:o.length≤bC:=by unfold bC;omega
  have A:IntKind.i64.wrap ((k:Int)+1)=(k:Int)+1:=rJ (by omega) (by omega);have y:IntKind.i64.wrap ((o.length:Int)+(t.l.length:Int)-1)=(o.length:Int)+(t.l.length:Int)-1:=rJ (by omega) (by omega);have i:∀base σ m,fz false true base σ (m+3) n.a=n.a:=fun base σ m=>Ft.ft false true base σ m n rfl;have e:(t.l.map (gD (o.length:Int))).length=t.l.length:=by simp
  generalize t.l.map (gD (o.length:Int))=cs at *;have x:IntKind.i64.wrap 1=1:=rfl;refine⟨?_,by simp[e];omega⟩;by_cases v:k=0
  ·subst v;simp at g;simp[AT,JE,qF,w,p,b,n3,d,xh.a,g,f,x,y,i,e,bQ,bw]
  have k1:((k:Int)==0)=false:=by simp;omega
  simp[v]at g;simp[AT,JE,qF,w,p,b,n3,d,xh.a,g,f,x,A,y,i,e,v,k1,bQ,bw]
def ij(n:cJ)(ts:List xh):Option (List cJ):=
 match dp om ts 0 ([],-1,-1) with
 |.inl s=>if (lookF (s.1++[gD 0 (eU n s.2.1 s.2.2)])).isSome then some (s.1++[gD 0 (eU n s.2.1 s.2.2)]) else none
 |.inr _=>none
structure nH (n:cJ):Prop where
 fl:oU n
 fit:sZ n
 z:n.a=B4 n
theorem tT{n:cJ}(h:oU n)(a:sZ n)(b:Int):nH (gD b n):=⟨⟨h.ag,h.ex⟩,⟨a.ac,a.cond,a.keys,a.ah,a.args,a.items,a.exprs,a.ords⟩,Tf h b⟩
structure X5 (k:Nat) (s:List cJ×Int×Int):Prop where
 len:s.1.length≤k*60
 own:∀m∈s.1,nH m
 l:-1≤s.2.1∧s.2.1≤k*60
 r:-1≤s.2.2∧s.2.2≤k*60
theorem ON{a:List cJ}(h:∀m∈a,nH m):a.map cJ.a=a.map B4:=aW fun m b=>(h m b).z
theorem JG{k:Nat}{t:xh}{s s':List cJ×Int×Int}(d:TOk t)(b:X5 k s)(h:om k t s=.inl s'):X5 (k+1) s':=by
 unfold om at h;split at h
 ·rename_i e;obtain⟨f,g⟩:=IT e;cases h;have:=b.len;have:=b.l;have:=b.r;refine⟨by simp;omega,fun m a=>?_,?_,?_⟩
  ·rcases ba.1 a with a|a
   ·exact b.own m a
   obtain⟨n,c,rfl⟩:=bK.1 a;exact tT (d.fl n c) (d.fit n c) _
  all_goals
   simp only;split<;>omega
 cases h
theorem Ri(n:cJ)(G:oU n)(d:sZ n)(F:Bool)(g:List xh)(T:g.length≤100)(R:∀t∈g,TOk t) :
  bB I.qdv [n.a,.aa F (g.map xh.a)]=some (fy [aI [.aa false (((ij n g).getD []).map cJ.a)],ap (if (ij n g).isSome then 0 else 230)]) ∧
  ∀w,ij n g=some w→∀m∈w,nH m:=by
 have key:=iQ (base:=4) (clr:=[4,6,7,8,9,10,15,16,17,18,19,20,21]) (b:=qF) g (fun k s=>⟨AT n F g k,JE n s⟩) X5 om
  (fun s=>(.ext 0,⟨(AT n F g g.length).set 15 (aC false),JE n s⟩)) (fun _ o=>∃q,o=(.ret,q)∧q.st[1]?=some (aB 1 0 [aI [.ai]])∧q.env[3]?=some (aH 1 0 0 0)∧q.env[4]?=some (ap 230))
  (fun k t s W N p=>by
   have C:=R t (aN N);have h:=Rw n F g T k t s W N C p.len;have hi:=fun s'=>JG (s':=s') C p;revert h hi;cases om k t s with
   |inl s'=>exact fun h hi=>⟨h.1,hi s' rfl⟩
   |inr r=>exact fun h _=>h)
  (fun s _=>by simp[AT,JE,qF]) ([],-1,-1) ⟨by simp,fun m i=>by simp at i,by simp,by simp⟩
 unfold ij;revert key;cases dp om g 0 ([],-1,-1) with
 |inr u=>
  rintro⟨o,key,q,rfl,Q,S,V⟩;refine⟨?_,fun w h=>by cases h⟩;simp only[AT,JE,bj,bm,bD]at key;rw[aT agq rfl];have v:n.a=nLR n n.l n.r:=rfl;simp only[v,nLR]at key ⊢;simp[ar7,Ty,key,Q,S,V]
 |inl s=>
  rintro⟨p,key⟩;obtain⟨o,l,r⟩:=s;have K:=tT (n:=eU n l r) ⟨G.ag,G.ex⟩ ⟨d.ac,d.cond,d.keys,d.ah,d.args,d.items,d.exprs,d.ords⟩ 0;have f:=OD (eU n l r) ⟨G.ag,G.ex⟩ ⟨d.ac,d.cond,d.keys,d.ah,d.args,d.items,d.exprs,d.ords⟩ 0 (fun h=>by have:=p.l;simp[eU]at *;omega) (fun h=>by have:=p.r;simp[eU]at *;omega);rw[K.z]at f;have L:(eU n l r).a=nLR n l r:=rfl;have M:=p.own;have z:=p.len;simp only at M z ⊢;have E:∀m∈o++[gD 0 (eU n l r)],nH m:=fun m i=>by
   rcases ba.1 i with i|i
   ·exact M m i
   rw[aP.1 i];exact K
  obtain⟨X,e⟩:=Aw true (o++[gD 0 (eU n l r)]) fun m i=>(E m i).fit;rw[ON E]at e;have U:=K.z;generalize gD 0 (eU n l r)=c at *;simp only[AT,JE,bj,bm,bD,List.set]at key;have v:n.a=nLR n n.l n.r:=rfl;rw[L]at f;simp only[v,nLR]at key f ⊢;have y:o.length+1≤bC:=by unfold bC;omega
  have A:List.take o.length (o.map B4)=o.map B4:=ay (by simp);have H:B4 c=aI (lnC c):=rfl;have P:(lnC c).length=12:=rfl;have O:=Yk c;have J:(o++[c]).map cJ.a=(o++[c]).map B4:=ON E;have x:(o++[c]).length=o.length+1:=by simp
  have B:o.map B4++[aq.agg (lnC c)]=(o++[c]).map B4:=by rw[df];rfl
  rw[H]at f;generalize o++[c]=w at *;have D:∀fl top base σ m a,fz fl top base σ (m+3) (B4 a)=B4 a:=fun fl top base σ m a=>Fx.fx fl top base σ m a;have j:List.take (o.length+1) (w.map B4)=w.map B4:=ay (by simp[x]);rw[aT agq rfl];cases hl:(lookF w).isSome with
  |true=>
   rw[hl]at e;refine⟨?_,fun w h=>by cases h;exact E⟩;simp at e;simp[ar7,Ty,key,f,e,append,y,A,j,D,B,x,P,O,J]
  |false=>
   rw[hl]at e;refine⟨?_,fun w h=>by cases h⟩;simp at e;simp[ar7,Ty,key,f,e,append,y,A,j,D,B,x,P,O]
def PQ(c:Int)(o:Option (List cJ)):aq:=fy [aI [.aa false ((o.getD []).map cJ.a)],ap (if o.isSome then 0 else c)]
theorem aii(n:cJ)(d:oU n)(c:sZ n):bB I.qcz [n.a]=some (PQ 230 (ij n [])):=by
 have h:=(Ri n d c false [] (by simp) (fun t h=>by simp at h)).1;have b:∀base σ m,fz true false base σ (m+3) n.a=n.a:=fun base σ m=>Ft.ft true false base σ m n rfl;have n3:aM n.a=12∧isAgg n.a=true:=⟨rfl,rfl⟩;rw[aT amk rfl];simp at h;unfold PQ;generalize ij n []=o at *;have e:∀a∈o.getD [],True:=fun _ _=>trivial;simp[auQ,agu,b,n3,h]
theorem an3(n:cJ)(e:oU n)(c:sZ n)(t:xh)(d:TOk t):bB I.qda [n.a,t.a]=some (PQ 230 (ij n [t])):=by
 have h:=(Ri n e c true [t] (by simp) (fun g h=>by rw[aP.1 h];exact d)).1;have b:∀base σ m,fz true false base σ (m+3) n.a=n.a:=fun base σ m=>Ft.ft true false base σ m n rfl;have n3:aM n.a=12∧isAgg n.a=true:=⟨rfl,rfl⟩;have a:∀base σ m,fz true false base σ (m+3) t.a=t.a:=fun base σ m=>Ft.ft true false base σ m t rfl;have f:aM t.a=1∧isAgg t.a=true:=⟨rfl,rfl⟩;rw[aT akL rfl];simp at h;unfold PQ;generalize ij n [t]=o at *;simp[atW,af0,b,n3,a,f,h]
theorem ano(n:cJ)(f:oU n)(c:sZ n)(t u:xh)(d:TOk t)(e:TOk u):bB I.qde [n.a,t.a,u.a]=some (PQ 230 (ij n [t,u])):=by
 have h:=(Ri n f c true [t,u] (by simp) (fun i h=>by
  rcases dY.1 h with rfl|h
  ·exact d
  rw[aP.1 h];exact e)).1
 have b:∀base σ m,fz true false base σ (m+3) n.a=n.a:=fun base σ m=>Ft.ft true false base σ m n rfl;have n3:aM n.a=12∧isAgg n.a=true:=⟨rfl,rfl⟩;have a:∀(t:xh) base σ m,fz true false base σ (m+3) t.a=t.a:=fun t base σ m=>Ft.ft true false base σ m t rfl;have g:∀t:xh,aM t.a=1∧isAgg t.a=true:=fun t=>⟨rfl,rfl⟩;rw[aT akt rfl];simp at h;unfold PQ;generalize ij n [t,u]=o at *;simp[aux,afJ,b,n3,a,g,h]
end Go.AM
